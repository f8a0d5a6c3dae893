/- What the listed variable 'ahead' gives a walk: the table's cells. -/
import Derived.Test.YtdcemkfljhdceaaGreatDoorRows
import Derived.Test.YtdcemkfljhdceaaGreatDoorFrame
import Derived.Test.YtdcemkfljhdceaaGreatDoorDay
namespace Go.Proofs.YtdcemkfljhdceaaGreatDoor
open Go.RowKit

theorem gAhead : Tryz.prog.globalNamed "linguister/date.ahead" = some 0 := by kernel_rfl
theorem gAheadT : (Tryz.prog.globals[0]?).map (·.type) = some 58 := by kernel_rfl
theorem cellsAhead : Tryz.prog.cellsOf 58 = 13 := by kernel_rfl
theorem cellsInt : Tryz.prog.cellsOf 3 = 1 := by kernel_rfl
theorem tabW_of {W : World} {rest : List (String × DataW Unit)} (h : laidMet Tryz.prog (("linguister/date.ahead", Rows.laid_linguister_date_ahead) :: rest) W) : TabW W := by
  have t : Lib.TabIs Tryz.prog W "linguister/date.ahead" .i64 [0, 31, 59, 90, 120, 151, 181, 212, 243, 273, 304, 334, 365] :=
    Lib.tabIs_of_head gAhead gAheadT Tryz.underlying58 Tryz.underlying3 cellsInt cellsAhead h
  refine ⟨World.block_lt_of_cell? W _ (t.cell gAhead 0 (by decide)), fun m h1 h2 => ?_⟩
  have h13 : m = 13 ∨ m = 1 ∨ m = 2 ∨ m = 3 ∨ m = 4 ∨ m = 5 ∨ m = 6 ∨ m = 7 ∨ m = 8 ∨ m = 9 ∨ m = 10 ∨ m = 11 ∨ m = 12 := by omega
  rcases h13 with rfl | rfl | rfl | rfl | rfl | rfl | rfl | rfl | rfl | rfl | rfl | rfl | rfl
  · exact t.cell gAhead 12 (by decide)
  · exact t.cell gAhead 0 (by decide)
  · exact t.cell gAhead 1 (by decide)
  · exact t.cell gAhead 2 (by decide)
  · exact t.cell gAhead 3 (by decide)
  · exact t.cell gAhead 4 (by decide)
  · exact t.cell gAhead 5 (by decide)
  · exact t.cell gAhead 6 (by decide)
  · exact t.cell gAhead 7 (by decide)
  · exact t.cell gAhead 8 (by decide)
  · exact t.cell gAhead 9 (by decide)
  · exact t.cell gAhead 10 (by decide)
  · exact t.cell gAhead 11 (by decide)
theorem tabW_of_list {W : World} (h : laidMetH Tryz.prog [("linguister/date.ahead", Rows.laid_linguister_date_ahead)] W) : TabW W :=
  tabW_of (by rw [MakeChecks.laidMetH_plain _ _ _ (by kernel_rfl)] at h; exact h)
end Go.Proofs.YtdcemkfljhdceaaGreatDoor
