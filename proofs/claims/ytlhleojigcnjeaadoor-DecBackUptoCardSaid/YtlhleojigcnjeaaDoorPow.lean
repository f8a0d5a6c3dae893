/- What the listed variable internal/strconv.uint64pow10 gives a walk: its numbers. -/
import Derived.Test.YtlhleojigcnjeaaDoorRows
import Derived.Test.YtlhleojigcnjeaaDoorItoa
import Derived.LaidSub
import Derived.MakeChecks
namespace Go.Proofs.YtlhleojigcnjeaaDoor
open Go.RowKit

theorem gPowT : (Tryd.prog.globals[4]?).map (·.type) = some 177 := by kernel_rfl
theorem cellsPow : Tryd.prog.cellsOf 177 = 20 := by kernel_rfl
theorem cellsU64 : Tryd.prog.cellsOf 104 = 1 := by kernel_rfl
theorem powW_of {L : List (String × DataW Unit)} {W : World} (h : laidMetH Tryd.prog L W) (hf : L.filter (fun x => x.1 == "internal/strconv.uint64pow10") = [("internal/strconv.uint64pow10", Rows.laid_internal_strconv_uint64pow10)]) : PowW W := by
  have g := laidMetH.filter (fun x => x.1 == "internal/strconv.uint64pow10") h
  rw [hf, MakeChecks.laidMetH_plain _ _ _ (by kernel_rfl)] at g
  exact Lib.tabIs_of_head gPow gPowT Tryd.underlying177 Tryd.underlying104 cellsU64 cellsPow g
end Go.Proofs.YtlhleojigcnjeaaDoor
