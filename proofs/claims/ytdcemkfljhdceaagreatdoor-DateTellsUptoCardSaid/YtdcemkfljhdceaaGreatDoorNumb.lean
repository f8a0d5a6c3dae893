/- The walks of date.Number and date.Of: the number of a right day, the right day of a number. Conditions: the table 'ahead' holds its numbers. -/
import Derived.Test.YtdcemkfljhdceaaGreatDoorCheck
namespace Go.Proofs.YtdcemkfljhdceaaGreatDoor
open Go.RowKit

set_option maxRecDepth 100000 in
set_option maxHeartbeats 1000000 in
theorem number_no (y m d : Int) (w : World) (h : ¬ Cal.vld y m d) (hT : TabW w) :
    Calls Tryz.prog 10 #[.agg #[.int .i64 y, .int .i64 m, .int .i64 d]] w fun e w' => e = .returned (.tuple #[.int .i64 0, errV 1]) ∧ Below w.heap.size w w' := by
  go_enter Tryz.func10, Tryz.ntmps10
  go_wp2_with (go_at_call 9; refine (check_no _ _ _ _ h (hT.alloc _)).mono ?_; rintro e w' ⟨rfl, hb⟩)
  go_ret2
  exact ⟨rfl, ((Below.refl _ _).alloc (Nat.le_refl _) _).trans (hb.mono (by simp))⟩

set_option maxRecDepth 100000 in
set_option maxHeartbeats 1000000 in
theorem number_yes (y m d : Int) (w : World) (h : Cal.vld y m d) (hT : TabW w) :
    Calls Tryz.prog 10 #[.agg #[.int .i64 y, .int .i64 m, .int .i64 d]] w fun e w' => e = .returned (.tuple #[.int .i64 (Cal.num y m d), .nilIface]) ∧ Below w.heap.size w w' := by
  have HV := Lib.hid h
  have b1 := Cal.bef_bd y m
  obtain ⟨h1, h2, h3, h4, h5, h6⟩ := h
  have b2 := Cal.yr_bd y (by omega) (by omega)
  have b3 := Cal.bef_bd y (m + 1)
  have hn : Cal.num y m d = Cal.yr y + Cal.bef y m + d - 1 := rfl
  have HN := Lib.hid hn
  clear hn
  go_enter Tryz.func10, Tryz.ntmps10
  go_wp2_with (go_at_call 9; refine (check_yes _ _ _ _ HV.out (hT.alloc _)).mono ?_; rintro e w' ⟨rfl, hb⟩)
  have c0 := hb.cell (p := ⟨w.heap.size, 0, none⟩) (by simp)
  have c1 := hb.cell (p := ⟨w.heap.size, 1, none⟩) (by simp)
  have c2 := hb.cell (p := ⟨w.heap.size, 2, none⟩) (by simp)
  simp at c0 c1 c2
  have HB := Lib.hid hb
  clear hb
  go_big_quiet (first | (go_at_call 22; exact quiet_left (year_any _ _ (by omega) (by omega))) | (go_at_call 21; exact quiet_left (before_any _ _ _ (by omega) (by omega) (by omega) (by omega) (((hT.alloc _).below HB.out).drewN _))))
  go_wp2
  go_ret2
  exact ⟨by rw [HN.out]; rfl, blw_drewN (((Below.refl _ _).alloc (Nat.le_refl _) _).trans (HB.out.mono (by simp))) _⟩
end Go.Proofs.YtdcemkfljhdceaaGreatDoor
