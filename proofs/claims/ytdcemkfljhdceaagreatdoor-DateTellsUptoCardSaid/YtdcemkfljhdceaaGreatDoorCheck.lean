/- The walk of date.Check: nil just of a right day. Conditions: the table 'ahead' holds its numbers. -/
import Derived.Test.YtdcemkfljhdceaaGreatDoorErrs
import Derived.Test.YtdcemkfljhdceaaGreatDoorDay
namespace Go.Proofs.YtdcemkfljhdceaaGreatDoor
open Go.RowKit


set_option maxRecDepth 100000 in
set_option maxHeartbeats 1000000 in
theorem check_no1 (y m d : Int) (w : World) (h1 : y < 1) :
    Calls Tryz.prog 9 #[.agg #[.int .i64 y, .int .i64 m, .int .i64 d]] w fun e w' => e = .returned (errV 1) ∧ Below w.heap.size w w' := by
  have d1 : decide (y < 1) = true := dec_yes (by omega)
  go_enter Tryz.func9, Tryz.ntmps9
  go_wp2
  go_big_quiet (fail)
  go_wp2
  go_ret
  exact ⟨rfl, blw_drewN ((Below.refl _ _).alloc (Nat.le_refl _) _) _⟩

set_option maxRecDepth 100000 in
set_option maxHeartbeats 1000000 in
theorem check_no2 (y m d : Int) (w : World) (h1 : ¬ y < 1) (h2 : 9999 < y) :
    Calls Tryz.prog 9 #[.agg #[.int .i64 y, .int .i64 m, .int .i64 d]] w fun e w' => e = .returned (errV 1) ∧ Below w.heap.size w w' := by
  have d1 : decide (y < 1) = false := dec_no (by omega)
  have d2 : decide (9999 < y) = true := dec_yes (by omega)
  go_enter Tryz.func9, Tryz.ntmps9
  go_wp2
  go_big_quiet (fail)
  go_wp2
  go_ret
  exact ⟨rfl, blw_drewN ((Below.refl _ _).alloc (Nat.le_refl _) _) _⟩

set_option maxRecDepth 100000 in
set_option maxHeartbeats 1000000 in
theorem check_no3 (y m d : Int) (w : World) (h1 : ¬ y < 1) (h2 : ¬ 9999 < y) (h3 : m < 1) :
    Calls Tryz.prog 9 #[.agg #[.int .i64 y, .int .i64 m, .int .i64 d]] w fun e w' => e = .returned (errV 1) ∧ Below w.heap.size w w' := by
  have d1 : decide (y < 1) = false := dec_no (by omega)
  have d2 : decide (9999 < y) = false := dec_no (by omega)
  have d3 : decide (m < 1) = true := dec_yes (by omega)
  go_enter Tryz.func9, Tryz.ntmps9
  go_wp2
  go_big_quiet (fail)
  go_wp2
  go_ret
  exact ⟨rfl, blw_drewN ((Below.refl _ _).alloc (Nat.le_refl _) _) _⟩

set_option maxRecDepth 100000 in
set_option maxHeartbeats 1000000 in
theorem check_no4 (y m d : Int) (w : World) (h1 : ¬ y < 1) (h2 : ¬ 9999 < y) (h3 : ¬ m < 1) (h4 : 12 < m) :
    Calls Tryz.prog 9 #[.agg #[.int .i64 y, .int .i64 m, .int .i64 d]] w fun e w' => e = .returned (errV 1) ∧ Below w.heap.size w w' := by
  have d1 : decide (y < 1) = false := dec_no (by omega)
  have d2 : decide (9999 < y) = false := dec_no (by omega)
  have d3 : decide (m < 1) = false := dec_no (by omega)
  have d4 : decide (12 < m) = true := dec_yes (by omega)
  go_enter Tryz.func9, Tryz.ntmps9
  go_wp2
  go_big_quiet (fail)
  go_wp2
  go_ret
  exact ⟨rfl, blw_drewN ((Below.refl _ _).alloc (Nat.le_refl _) _) _⟩

set_option maxRecDepth 100000 in
set_option maxHeartbeats 1000000 in
theorem check_no5 (y m d : Int) (w : World) (h1 : ¬ y < 1) (h2 : ¬ 9999 < y) (h3 : ¬ m < 1) (h4 : ¬ 12 < m) (h5 : d < 1) :
    Calls Tryz.prog 9 #[.agg #[.int .i64 y, .int .i64 m, .int .i64 d]] w fun e w' => e = .returned (errV 1) ∧ Below w.heap.size w w' := by
  have d1 : decide (y < 1) = false := dec_no (by omega)
  have d2 : decide (9999 < y) = false := dec_no (by omega)
  have d3 : decide (m < 1) = false := dec_no (by omega)
  have d4 : decide (12 < m) = false := dec_no (by omega)
  have d5 : decide (d < 1) = true := dec_yes (by omega)
  go_enter Tryz.func9, Tryz.ntmps9
  go_wp2
  go_big_quiet (fail)
  go_wp2
  go_ret
  exact ⟨rfl, blw_drewN ((Below.refl _ _).alloc (Nat.le_refl _) _) _⟩

set_option maxRecDepth 100000 in
set_option maxHeartbeats 1000000 in
theorem check_no6 (y m d : Int) (w : World) (h1 : ¬ y < 1) (h2 : ¬ 9999 < y) (h3 : ¬ m < 1) (h4 : ¬ 12 < m) (h5 : ¬ d < 1) (h6 : Cal.bef y (m + 1) - Cal.bef y m < d) (hT : TabW w) :
    Calls Tryz.prog 9 #[.agg #[.int .i64 y, .int .i64 m, .int .i64 d]] w fun e w' => e = .returned (errV 1) ∧ Below w.heap.size w w' := by
  have b1 := Cal.bef_bd y m
  have b2 := Cal.bef_bd y (m + 1)
  have d1 : decide (y < 1) = false := dec_no (by omega)
  have d2 : decide (9999 < y) = false := dec_no (by omega)
  have d3 : decide (m < 1) = false := dec_no (by omega)
  have d4 : decide (12 < m) = false := dec_no (by omega)
  have d5 : decide (d < 1) = false := dec_no (by omega)
  have d6 : decide (Cal.bef y (m + 1) - Cal.bef y m < d) = true := dec_yes (by omega)
  go_enter Tryz.func9, Tryz.ntmps9
  go_wp2
  go_big_quiet ((go_at_call 21; exact quiet_left (before_any _ _ _ (by omega) (by omega) (by omega) (by omega) ((hT.alloc _).drewN _))))
  go_wp2
  go_ret
  exact ⟨rfl, blw_drewN ((Below.refl _ _).alloc (Nat.le_refl _) _) _⟩

set_option maxRecDepth 100000 in
set_option maxHeartbeats 1000000 in
theorem check_ok (y m d : Int) (w : World) (h1 : ¬ y < 1) (h2 : ¬ 9999 < y) (h3 : ¬ m < 1) (h4 : ¬ 12 < m) (h5 : ¬ d < 1) (h6 : ¬ Cal.bef y (m + 1) - Cal.bef y m < d) (hT : TabW w) :
    Calls Tryz.prog 9 #[.agg #[.int .i64 y, .int .i64 m, .int .i64 d]] w fun e w' => e = .returned (.nilIface) ∧ Below w.heap.size w w' := by
  have b1 := Cal.bef_bd y m
  have b2 := Cal.bef_bd y (m + 1)
  have d1 : decide (y < 1) = false := dec_no (by omega)
  have d2 : decide (9999 < y) = false := dec_no (by omega)
  have d3 : decide (m < 1) = false := dec_no (by omega)
  have d4 : decide (12 < m) = false := dec_no (by omega)
  have d5 : decide (d < 1) = false := dec_no (by omega)
  have d6 : decide (Cal.bef y (m + 1) - Cal.bef y m < d) = false := dec_no (by omega)
  go_enter Tryz.func9, Tryz.ntmps9
  go_wp2
  go_big_quiet ((go_at_call 21; exact quiet_left (before_any _ _ _ (by omega) (by omega) (by omega) (by omega) ((hT.alloc _).drewN _))))
  go_wp2
  go_ret
  exact ⟨rfl, blw_drewN ((Below.refl _ _).alloc (Nat.le_refl _) _) _⟩

theorem check_yes (y m d : Int) (w : World) (h : Cal.vld y m d) (hT : TabW w) :
    Calls Tryz.prog 9 #[.agg #[.int .i64 y, .int .i64 m, .int .i64 d]] w fun e w' => e = .returned .nilIface ∧ Below w.heap.size w w' := by
  obtain ⟨h1, h2, h3, h4, h5, h6⟩ := h
  exact check_ok y m d w (by omega) (by omega) (by omega) (by omega) (by omega) (by omega) hT
theorem check_no (y m d : Int) (w : World) (h : ¬ Cal.vld y m d) (hT : TabW w) :
    Calls Tryz.prog 9 #[.agg #[.int .i64 y, .int .i64 m, .int .i64 d]] w fun e w' => e = .returned (errV 1) ∧ Below w.heap.size w w' := by
  by_cases h1 : y < 1
  · exact check_no1 y m d w h1
  by_cases h2 : 9999 < y
  · exact check_no2 y m d w h1 h2
  by_cases h3 : m < 1
  · exact check_no3 y m d w h1 h2 h3
  by_cases h4 : 12 < m
  · exact check_no4 y m d w h1 h2 h3 h4
  by_cases h5 : d < 1
  · exact check_no5 y m d w h1 h2 h3 h4 h5
  by_cases h6 : Cal.bef y (m + 1) - Cal.bef y m < d
  · exact check_no6 y m d w h1 h2 h3 h4 h5 h6 hT
  exact absurd ⟨by omega, by omega, by omega, by omega, by omega, by omega⟩ h
end Go.Proofs.YtdcemkfljhdceaaGreatDoor
