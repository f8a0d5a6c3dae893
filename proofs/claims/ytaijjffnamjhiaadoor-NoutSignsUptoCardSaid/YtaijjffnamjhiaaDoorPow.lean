/- What the listed variable internal/strconv.uint64pow10 gives a walk: its numbers. -/
import Derived.Test.YtaijjffnamjhiaaDoorRows
import Derived.Test.YtaijjffnamjhiaaDoorItoa
import Derived.LaidSub
import Derived.MakeChecks
namespace Go.Proofs.YtaijjffnamjhiaaDoor
open Go.RowKit

theorem gPowT : (Tryd.prog.globals[1]?).map (·.type) = some 103 := by kernel_rfl
theorem cellsPow : Tryd.prog.cellsOf 103 = 20 := by kernel_rfl
theorem cellsU64 : Tryd.prog.cellsOf 50 = 1 := by kernel_rfl
theorem powW_of {L : List (String × DataW Unit)} {W : World} (h : laidMetH Tryd.prog L W) (hf : L.filter (fun x => x.1 == "internal/strconv.uint64pow10") = [("internal/strconv.uint64pow10", Rows.laid_internal_strconv_uint64pow10)]) : PowW W := by
  have g := laidMetH.filter (fun x => x.1 == "internal/strconv.uint64pow10") h
  rw [hf, MakeChecks.laidMetH_plain _ _ _ (by kernel_rfl)] at g
  exact Lib.tabIs_of_head gPow gPowT Tryd.underlying103 Tryd.underlying50 cellsU64 cellsPow g
end Go.Proofs.YtaijjffnamjhiaaDoor
