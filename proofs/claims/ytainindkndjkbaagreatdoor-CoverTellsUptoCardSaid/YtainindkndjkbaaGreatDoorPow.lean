/- What the listed variable internal/strconv.uint64pow10 gives a walk: its numbers. -/
import Derived.Test.YtainindkndjkbaaGreatDoorRows
import Derived.Test.YtainindkndjkbaaGreatDoorItoa
import Derived.LaidSub
import Derived.MakeChecks
namespace Go.Proofs.YtainindkndjkbaaGreatDoor
open Go.RowKit

theorem gPowT : (Tryz.prog.globals[7]?).map (·.type) = some 237 := by kernel_rfl
theorem cellsPow : Tryz.prog.cellsOf 237 = 20 := by kernel_rfl
theorem cellsU64 : Tryz.prog.cellsOf 218 = 1 := by kernel_rfl
theorem powW_of {L : List (String × DataW Unit)} {W : World} (h : laidMetH Tryz.prog L W) (hf : L.filter (fun x => x.1 == "internal/strconv.uint64pow10") = [("internal/strconv.uint64pow10", Rows.laid_internal_strconv_uint64pow10)]) : PowW W := by
  have g := laidMetH.filter (fun x => x.1 == "internal/strconv.uint64pow10") h
  rw [hf, MakeChecks.laidMetH_plain _ _ _ (by kernel_rfl)] at g
  exact Lib.tabIs_of_head gPow gPowT Tryz.underlying237 Tryz.underlying218 cellsU64 cellsPow g
end Go.Proofs.YtainindkndjkbaaGreatDoor
