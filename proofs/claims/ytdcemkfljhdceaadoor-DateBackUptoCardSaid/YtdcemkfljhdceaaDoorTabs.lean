/- What the listed variable 'ahead' gives a walk: the table's cells. -/
import Derived.Test.YtdcemkfljhdceaaDoorRows
import Derived.Test.YtdcemkfljhdceaaDoorFrame
import Derived.Test.YtdcemkfljhdceaaDoorDay
namespace Go.Proofs.YtdcemkfljhdceaaDoor
open Go.RowKit

theorem gAhead : Tryd.prog.globalNamed "linguister/date.ahead" = some 0 := by kernel_rfl
theorem gAheadT : (Tryd.prog.globals[0]?).map (·.type) = some 68 := by kernel_rfl
theorem cellsAhead : Tryd.prog.cellsOf 68 = 13 := by kernel_rfl
theorem cellsInt : Tryd.prog.cellsOf 3 = 1 := by kernel_rfl
theorem tabW_of {W : World} {rest : List (String × DataW Unit)} (h : laidMet Tryd.prog (("linguister/date.ahead", Rows.laid_linguister_date_ahead) :: rest) W) : TabW W := by
  have t : Lib.TabIs Tryd.prog W "linguister/date.ahead" .i64 [0, 31, 59, 90, 120, 151, 181, 212, 243, 273, 304, 334, 365] :=
    Lib.tabIs_of_head gAhead gAheadT Tryd.underlying68 Tryd.underlying3 cellsInt cellsAhead h
  refine ⟨World.block_lt_of_cell? W _ (t.cell gAhead 0 (by decide)), fun m h1 h2 => ?_⟩
  have h13 : m = 13 ∨ m = 1 ∨ m = 2 ∨ m = 3 ∨ m = 4 ∨ m = 5 ∨ m = 6 ∨ m = 7 ∨ m = 8 ∨ m = 9 ∨ m = 10 ∨ m = 11 ∨ m = 12 := by omega
  rcases h13 with rfl | rfl | rfl | rfl | rfl | rfl | rfl | rfl | rfl | rfl | rfl | rfl | rfl
  · exact t.cell gAhead 12 (by decide)
  · exact t.cell gAhead 0 (by decide)
  · exact t.cell gAhead 1 (by decide)
  · exact t.cell gAhead 2 (by decide)
  · exact t.cell gAhead 3 (by decide)
  · exact t.cell gAhead 4 (by decide)
  · exact t.cell gAhead 5 (by decide)
  · exact t.cell gAhead 6 (by decide)
  · exact t.cell gAhead 7 (by decide)
  · exact t.cell gAhead 8 (by decide)
  · exact t.cell gAhead 9 (by decide)
  · exact t.cell gAhead 10 (by decide)
  · exact t.cell gAhead 11 (by decide)
theorem tabW_of_list {W : World} (h : laidMetH Tryd.prog [("linguister/date.ahead", Rows.laid_linguister_date_ahead)] W) : TabW W :=
  tabW_of (by rw [MakeChecks.laidMetH_plain _ _ _ (by kernel_rfl)] at h; exact h)
end Go.Proofs.YtdcemkfljhdceaaDoor
