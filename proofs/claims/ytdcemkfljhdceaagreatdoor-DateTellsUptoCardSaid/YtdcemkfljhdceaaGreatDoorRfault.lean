/- The walks of linguisterref1's DateFault. -/
import Derived.Test.YtdcemkfljhdceaaGreatDoorRdays
import Derived.Test.YtdcemkfljhdceaaGreatDoorWkCal
import Derived.Test.YtdcemkfljhdceaaGreatDoorBoxS
namespace Go.Proofs.YtdcemkfljhdceaaGreatDoor
open Go.RowKit

set_option maxRecDepth 100000 in
set_option maxHeartbeats 1000000 in
theorem rfault_0 (y m d : Int) (w : World) (h : y < 1) :
    Calls Tryz.prog 5 #[.agg #[.int .i64 y, .int .i64 m, .int .i64 d]] w fun e w' => e = .returned (.bool true) ∧ Below w.heap.size w w' := by
  have d1 : decide (y < 1) = true := dec_yes h
  go_enter Tryz.func5, Tryz.ntmps5
  go_wp2
  go_big_quiet (fail)
  go_wp2
  go_ret
  exact ⟨rfl, blw_drewN (blw_alloc _ _) _⟩

set_option maxRecDepth 100000 in
set_option maxHeartbeats 1000000 in
theorem rfault_1 (y m d : Int) (w : World) (h1 : ¬ y < 1) (h : 9999 < y) :
    Calls Tryz.prog 5 #[.agg #[.int .i64 y, .int .i64 m, .int .i64 d]] w fun e w' => e = .returned (.bool true) ∧ Below w.heap.size w w' := by
  have d1 : decide (y < 1) = false := dec_no h1
  have d2 : decide (9999 < y) = true := dec_yes h
  go_enter Tryz.func5, Tryz.ntmps5
  go_wp2
  go_big_quiet (fail)
  go_wp2
  go_ret
  exact ⟨rfl, blw_drewN (blw_alloc _ _) _⟩

set_option maxRecDepth 100000 in
set_option maxHeartbeats 1000000 in
theorem rfault_2 (y m d : Int) (w : World) (h1 : ¬ y < 1) (h2 : ¬ 9999 < y) (h : m < 1) :
    Calls Tryz.prog 5 #[.agg #[.int .i64 y, .int .i64 m, .int .i64 d]] w fun e w' => e = .returned (.bool true) ∧ Below w.heap.size w w' := by
  have d1 : decide (y < 1) = false := dec_no h1
  have d2 : decide (9999 < y) = false := dec_no h2
  have d3 : decide (m < 1) = true := dec_yes h
  go_enter Tryz.func5, Tryz.ntmps5
  go_wp2
  go_big_quiet (fail)
  go_wp2
  go_ret
  exact ⟨rfl, blw_drewN (blw_alloc _ _) _⟩

set_option maxRecDepth 100000 in
set_option maxHeartbeats 1000000 in
theorem rfault_3 (y m d : Int) (w : World) (h1 : ¬ y < 1) (h2 : ¬ 9999 < y) (h3 : ¬ m < 1) (h : 12 < m) :
    Calls Tryz.prog 5 #[.agg #[.int .i64 y, .int .i64 m, .int .i64 d]] w fun e w' => e = .returned (.bool true) ∧ Below w.heap.size w w' := by
  have d1 : decide (y < 1) = false := dec_no h1
  have d2 : decide (9999 < y) = false := dec_no h2
  have d3 : decide (m < 1) = false := dec_no h3
  have d4 : decide (12 < m) = true := dec_yes h
  go_enter Tryz.func5, Tryz.ntmps5
  go_wp2
  go_big_quiet (fail)
  go_wp2
  go_ret
  exact ⟨rfl, blw_drewN (blw_alloc _ _) _⟩

set_option maxRecDepth 100000 in
set_option maxHeartbeats 1000000 in
theorem rfault_4 (y m d : Int) (w : World) (h1 : ¬ y < 1) (h2 : ¬ 9999 < y) (h3 : ¬ m < 1) (h4 : ¬ 12 < m) (h : d < 1) :
    Calls Tryz.prog 5 #[.agg #[.int .i64 y, .int .i64 m, .int .i64 d]] w fun e w' => e = .returned (.bool true) ∧ Below w.heap.size w w' := by
  have d1 : decide (y < 1) = false := dec_no h1
  have d2 : decide (9999 < y) = false := dec_no h2
  have d3 : decide (m < 1) = false := dec_no h3
  have d4 : decide (12 < m) = false := dec_no h4
  have d5 : decide (d < 1) = true := dec_yes h
  go_enter Tryz.func5, Tryz.ntmps5
  go_wp2
  go_big_quiet (fail)
  go_wp2
  go_ret
  exact ⟨rfl, blw_drewN (blw_alloc _ _) _⟩

set_option maxRecDepth 100000 in
set_option maxHeartbeats 1000000 in
theorem rfault_5 (y m d : Int) (w : World) (h1 : ¬ y < 1) (h2 : ¬ 9999 < y) (h3 : ¬ m < 1) (h4 : ¬ 12 < m) (h5 : ¬ d < 1) (h : mlen y m < d) :
    Calls Tryz.prog 5 #[.agg #[.int .i64 y, .int .i64 m, .int .i64 d]] w fun e w' => e = .returned (.bool true) ∧ Below w.heap.size w w' := by
  have d1 : decide (y < 1) = false := dec_no h1
  have d2 : decide (9999 < y) = false := dec_no h2
  have d3 : decide (m < 1) = false := dec_no h3
  have d4 : decide (12 < m) = false := dec_no h4
  have d5 : decide (d < 1) = false := dec_no h5
  have d6 : decide (mlen y m < d) = true := dec_yes h
  have CM := Lib.hid fun w => rmonth_any y m w (by omega) (by omega) (by omega) (by omega)
  generalize mlen y m = M at *
  go_enter Tryz.func5, Tryz.ntmps5
  go_wp2
  go_big_quiet ((go_at_call 16; exact quiet_left (CM.out _)))
  go_wp2
  go_ret
  exact ⟨rfl, blw_drewN (blw_alloc _ _) _⟩

set_option maxRecDepth 100000 in
set_option maxHeartbeats 1000000 in
theorem rfault_6 (y m d : Int) (w : World) (h1 : ¬ y < 1) (h2 : ¬ 9999 < y) (h3 : ¬ m < 1) (h4 : ¬ 12 < m) (h5 : ¬ d < 1) (h6 : ¬ mlen y m < d) :
    Calls Tryz.prog 5 #[.agg #[.int .i64 y, .int .i64 m, .int .i64 d]] w fun e w' => e = .returned (.bool false) ∧ Below w.heap.size w w' := by
  have d1 : decide (y < 1) = false := dec_no h1
  have d2 : decide (9999 < y) = false := dec_no h2
  have d3 : decide (m < 1) = false := dec_no h3
  have d4 : decide (12 < m) = false := dec_no h4
  have d5 : decide (d < 1) = false := dec_no h5
  have d6 : decide (mlen y m < d) = false := dec_no h6
  have CM := Lib.hid fun w => rmonth_any y m w (by omega) (by omega) (by omega) (by omega)
  generalize mlen y m = M at *
  go_enter Tryz.func5, Tryz.ntmps5
  go_wp2
  go_big_quiet ((go_at_call 16; exact quiet_left (CM.out _)))
  go_wp2
  go_ret
  exact ⟨rfl, blw_drewN (blw_alloc _ _) _⟩

theorem rfault_yes (y m d : Int) (w : World) (h : Cal.vld y m d) :
    Calls Tryz.prog 5 #[.agg #[.int .i64 y, .int .i64 m, .int .i64 d]] w fun e w' => e = .returned (.bool false) ∧ Below w.heap.size w w' := by
  obtain ⟨h1, h2, h3, h4, h5, h6⟩ := h
  exact rfault_6 y m d w (by omega) (by omega) (by omega) (by omega) (by omega) (by unfold mlen; omega)
theorem rfault_no (y m d : Int) (w : World) (h : ¬ Cal.vld y m d) :
    Calls Tryz.prog 5 #[.agg #[.int .i64 y, .int .i64 m, .int .i64 d]] w fun e w' => e = .returned (.bool true) ∧ Below w.heap.size w w' := by
  by_cases h1 : y < 1
  · exact rfault_0 y m d w h1
  by_cases h2 : 9999 < y
  · exact rfault_1 y m d w h1 h2
  by_cases h3 : m < 1
  · exact rfault_2 y m d w h1 h2 h3
  by_cases h4 : 12 < m
  · exact rfault_3 y m d w h1 h2 h3 h4
  by_cases h5 : d < 1
  · exact rfault_4 y m d w h1 h2 h3 h4 h5
  by_cases h6 : mlen y m < d
  · exact rfault_5 y m d w h1 h2 h3 h4 h5 h6
  exact absurd ⟨by omega, by omega, by omega, by omega, by omega, by unfold mlen at h6; omega⟩ h
end Go.Proofs.YtdcemkfljhdceaaGreatDoor
