/- The walk of linguisterref1.WeekDate: the day of a week. -/
import Derived.Test.YtdcemkfljhdceaaDoorRdof
import Derived.Test.YtdcemkfljhdceaaDoorRweeks
import Derived.Test.YtdcemkfljhdceaaDoorWDate
namespace Go.Proofs.YtdcemkfljhdceaaDoor
open Go.RowKit

set_option maxRecDepth 100000 in
set_option maxHeartbeats 1000000 in
theorem rwd_0 (y k d : Int) (w : World) (h : y < 1) :
    Calls Tryd.prog 10 #[.agg #[.int .i64 y, .int .i64 k, .int .i64 d]] w fun e w' => e = .returned (.tuple #[.agg #[.int .i64 0, .int .i64 0, .int .i64 0], .bool false]) ∧ Below w.heap.size w w' := by
  have d1 : decide (y < 1) = true := dec_yes h
  go_enter Tryd.func10, Tryd.ntmps10
  go_wp2
  go_big_quiet (fail)
  go_wp2
  refine bodyPost_ret (v := .tuple #[.agg #[.int .i64 0, .int .i64 0, .int .i64 0], .bool false]) (by simp [results, Tryd.results10, go_sem]) rfl ⟨rfl, ?_⟩
  repeat (first | exact Below.refl _ _ | refine blw_drewN ?_ _ | refine Below.setCell ?_ (by simp) _ | refine Below.alloc ?_ (by first | (simp; done) | (simp; omega)) _)

set_option maxRecDepth 100000 in
set_option maxHeartbeats 1000000 in
theorem rwd_1 (y k d : Int) (w : World) (h1 : ¬ y < 1) (h : 9999 < y) :
    Calls Tryd.prog 10 #[.agg #[.int .i64 y, .int .i64 k, .int .i64 d]] w fun e w' => e = .returned (.tuple #[.agg #[.int .i64 0, .int .i64 0, .int .i64 0], .bool false]) ∧ Below w.heap.size w w' := by
  have d1 : decide (y < 1) = false := dec_no h1
  have d2 : decide (9999 < y) = true := dec_yes h
  go_enter Tryd.func10, Tryd.ntmps10
  go_wp2
  go_big_quiet (fail)
  go_wp2
  refine bodyPost_ret (v := .tuple #[.agg #[.int .i64 0, .int .i64 0, .int .i64 0], .bool false]) (by simp [results, Tryd.results10, go_sem]) rfl ⟨rfl, ?_⟩
  repeat (first | exact Below.refl _ _ | refine blw_drewN ?_ _ | refine Below.setCell ?_ (by simp) _ | refine Below.alloc ?_ (by first | (simp; done) | (simp; omega)) _)

set_option maxRecDepth 100000 in
set_option maxHeartbeats 1000000 in
theorem rwd_2 (y k d : Int) (w : World) (h1 : ¬ y < 1) (h2 : ¬ 9999 < y) (h : k < 1) :
    Calls Tryd.prog 10 #[.agg #[.int .i64 y, .int .i64 k, .int .i64 d]] w fun e w' => e = .returned (.tuple #[.agg #[.int .i64 0, .int .i64 0, .int .i64 0], .bool false]) ∧ Below w.heap.size w w' := by
  have d1 : decide (y < 1) = false := dec_no h1
  have d2 : decide (9999 < y) = false := dec_no h2
  have d3 : decide (k < 1) = true := dec_yes h
  go_enter Tryd.func10, Tryd.ntmps10
  go_wp2
  go_big_quiet (fail)
  go_wp2
  refine bodyPost_ret (v := .tuple #[.agg #[.int .i64 0, .int .i64 0, .int .i64 0], .bool false]) (by simp [results, Tryd.results10, go_sem]) rfl ⟨rfl, ?_⟩
  repeat (first | exact Below.refl _ _ | refine blw_drewN ?_ _ | refine Below.setCell ?_ (by simp) _ | refine Below.alloc ?_ (by first | (simp; done) | (simp; omega)) _)

set_option maxRecDepth 100000 in
set_option maxHeartbeats 1000000 in
theorem rwd_3 (y k d : Int) (w : World) (h1 : ¬ y < 1) (h2 : ¬ 9999 < y) (h3 : ¬ k < 1) (h : 53 < k) :
    Calls Tryd.prog 10 #[.agg #[.int .i64 y, .int .i64 k, .int .i64 d]] w fun e w' => e = .returned (.tuple #[.agg #[.int .i64 0, .int .i64 0, .int .i64 0], .bool false]) ∧ Below w.heap.size w w' := by
  have d1 : decide (y < 1) = false := dec_no h1
  have d2 : decide (9999 < y) = false := dec_no h2
  have d3 : decide (k < 1) = false := dec_no h3
  have d4 : decide (53 < k) = true := dec_yes h
  go_enter Tryd.func10, Tryd.ntmps10
  go_wp2
  go_big_quiet (fail)
  go_wp2
  refine bodyPost_ret (v := .tuple #[.agg #[.int .i64 0, .int .i64 0, .int .i64 0], .bool false]) (by simp [results, Tryd.results10, go_sem]) rfl ⟨rfl, ?_⟩
  repeat (first | exact Below.refl _ _ | refine blw_drewN ?_ _ | refine Below.setCell ?_ (by simp) _ | refine Below.alloc ?_ (by first | (simp; done) | (simp; omega)) _)

set_option maxRecDepth 100000 in
set_option maxHeartbeats 1000000 in
theorem rwd_4 (y k d : Int) (w : World) (h1 : ¬ y < 1) (h2 : ¬ 9999 < y) (h3 : ¬ k < 1) (h4 : ¬ 53 < k) (h : d < 1) :
    Calls Tryd.prog 10 #[.agg #[.int .i64 y, .int .i64 k, .int .i64 d]] w fun e w' => e = .returned (.tuple #[.agg #[.int .i64 0, .int .i64 0, .int .i64 0], .bool false]) ∧ Below w.heap.size w w' := by
  have d1 : decide (y < 1) = false := dec_no h1
  have d2 : decide (9999 < y) = false := dec_no h2
  have d3 : decide (k < 1) = false := dec_no h3
  have d4 : decide (53 < k) = false := dec_no h4
  have d5 : decide (d < 1) = true := dec_yes h
  go_enter Tryd.func10, Tryd.ntmps10
  go_wp2
  go_big_quiet (fail)
  go_wp2
  refine bodyPost_ret (v := .tuple #[.agg #[.int .i64 0, .int .i64 0, .int .i64 0], .bool false]) (by simp [results, Tryd.results10, go_sem]) rfl ⟨rfl, ?_⟩
  repeat (first | exact Below.refl _ _ | refine blw_drewN ?_ _ | refine Below.setCell ?_ (by simp) _ | refine Below.alloc ?_ (by first | (simp; done) | (simp; omega)) _)

set_option maxRecDepth 100000 in
set_option maxHeartbeats 1000000 in
theorem rwd_5 (y k d : Int) (w : World) (h1 : ¬ y < 1) (h2 : ¬ 9999 < y) (h3 : ¬ k < 1) (h4 : ¬ 53 < k) (h5 : ¬ d < 1) (h : 7 < d) :
    Calls Tryd.prog 10 #[.agg #[.int .i64 y, .int .i64 k, .int .i64 d]] w fun e w' => e = .returned (.tuple #[.agg #[.int .i64 0, .int .i64 0, .int .i64 0], .bool false]) ∧ Below w.heap.size w w' := by
  have d1 : decide (y < 1) = false := dec_no h1
  have d2 : decide (9999 < y) = false := dec_no h2
  have d3 : decide (k < 1) = false := dec_no h3
  have d4 : decide (53 < k) = false := dec_no h4
  have d5 : decide (d < 1) = false := dec_no h5
  have d6 : decide (7 < d) = true := dec_yes h
  go_enter Tryd.func10, Tryd.ntmps10
  go_wp2
  go_big_quiet (fail)
  go_wp2
  refine bodyPost_ret (v := .tuple #[.agg #[.int .i64 0, .int .i64 0, .int .i64 0], .bool false]) (by simp [results, Tryd.results10, go_sem]) rfl ⟨rfl, ?_⟩
  repeat (first | exact Below.refl _ _ | refine blw_drewN ?_ _ | refine Below.setCell ?_ (by simp) _ | refine Below.alloc ?_ (by first | (simp; done) | (simp; omega)) _)

set_option maxRecDepth 100000 in
set_option maxHeartbeats 1000000 in
theorem rwd_6 (y k d : Int) (w : World) (h1 : ¬ y < 1) (h2 : ¬ 9999 < y) (h3 : ¬ k < 1) (h4 : ¬ 53 < k) (h5 : ¬ d < 1) (h6 : ¬ 7 < d) (h : Cal.wks y < k) :
    Calls Tryd.prog 10 #[.agg #[.int .i64 y, .int .i64 k, .int .i64 d]] w fun e w' => e = .returned (.tuple #[.agg #[.int .i64 0, .int .i64 0, .int .i64 0], .bool false]) ∧ Below w.heap.size w w' := by
  have d1 : decide (y < 1) = false := dec_no h1
  have d2 : decide (9999 < y) = false := dec_no h2
  have d3 : decide (k < 1) = false := dec_no h3
  have d4 : decide (53 < k) = false := dec_no h4
  have d5 : decide (d < 1) = false := dec_no h5
  have d6 : decide (7 < d) = false := dec_no h6
  have d7 : decide (Cal.wks y < k) = true := dec_yes h
  have CW := Lib.hid fun w => rweeks_any y w (by omega) (by omega)
  generalize Cal.wks y = K at *
  go_enter Tryd.func10, Tryd.ntmps10
  go_wp2
  go_big_quiet ((go_at_call 14; exact quiet_left (CW.out _)))
  go_wp2
  refine bodyPost_ret (v := .tuple #[.agg #[.int .i64 0, .int .i64 0, .int .i64 0], .bool false]) (by simp [results, Tryd.results10, go_sem]) rfl ⟨rfl, ?_⟩
  repeat (first | exact Below.refl _ _ | refine blw_drewN ?_ _ | refine Below.setCell ?_ (by simp) _ | refine Below.alloc ?_ (by first | (simp; done) | (simp; omega)) _)

set_option maxRecDepth 100000 in
set_option maxHeartbeats 1000000 in
theorem rwd_yes (y k d n : Int) (a b c : Int) (w : World) (h : rightWk y k d) (hn : Cal.fst y + 7 * (k - 1) + d - 1 = n) (C : Hid (∀ w : World, Calls Tryd.prog 28 #[.int .i64 n] w fun e w' => e = .returned (.tuple #[.agg #[.int .i64 a, .int .i64 b, .int .i64 c], .bool true]) ∧ Below w.heap.size w w')) :
    Calls Tryd.prog 10 #[.agg #[.int .i64 y, .int .i64 k, .int .i64 d]] w fun e w' => e = .returned (.tuple #[.agg #[.int .i64 a, .int .i64 b, .int .i64 c], .bool true]) ∧ Below w.heap.size w w' := by
  obtain ⟨y1, y2, k1, k2, d1', d2'⟩ := h
  have kb := Cal.wks_52 y
  have fb := Cal.fst_bd y
  have yb := Cal.yr_bd y y1 (by omega)
  have CW := Lib.hid fun w => rweeks_any y w y1 y2
  have CY := Lib.hid fun w => ryears_any y w y1 (by omega)
  have FE := Lib.hid (show ∀ f : Int, Cal.yr y ≤ f → f ≤ Cal.fst y + 3 → (f % 7 = 3 ↔ f = Cal.fst y + 3) from fun f g1 g2 => by unfold Cal.fst at *; generalize Cal.yr y = a at *; omega)
  have d1 : decide (y < 1) = false := dec_no (by omega)
  have d2 : decide (9999 < y) = false := dec_no (by omega)
  have d3 : decide (k < 1) = false := dec_no (by omega)
  have d4 : decide (53 < k) = false := dec_no (by omega)
  have d5 : decide (d < 1) = false := dec_no (by omega)
  have d6 : decide (7 < d) = false := dec_no (by omega)
  have d7 : decide (Cal.wks y < k) = false := dec_no (by omega)
  have HN := Lib.hid hn
  clear hn
  have k53 : k ≤ 53 := by omega
  generalize Cal.wks y = K at *
  generalize Cal.fst y = F at *
  generalize Cal.yr y = Y at *
  clear kb k2
  go_enter Tryd.func10, Tryd.ntmps10
  go_wp2
  go_big_quiet ((go_at_call 14; exact quiet_left (CW.out _)))
  clear d1 d2 d3 d4 d5 d6 d7
  go_wp2_with fail
  refine (CY.out _).mono ?_
  rintro e w' ⟨rfl, rfl⟩
  go_wp2_with fail
  go_loop [4] (fun i => ∃ f : Int, Y ≤ f ∧ f ≤ F + 3 ∧ i = .int .i64 f) (fun i => 4000000 - (RowKit.intOf i).toNat)
  case atStart => exact ⟨Y, by omega, by omega, rfl⟩
  case round =>
    obtain ⟨f, f0, f1, rfl⟩ := hrel
    have fe := FE.out f f0 f1
    by_cases h3 : f % 7 = 3
    · have ef := fe.1 h3
      have e3 : (f % 7 == 3) = true := beq_yes h3
      have EN := Lib.hid (show f - 3 + 7 * (k - 1) + d - 1 = n by rw [← HN.out]; omega)
      have en := EN.out
      have ef' := Lib.hid ef
      clear fe h3 ef
      go_wp2_with fail
      refine (C.out _).mono ?_
      rintro e w2 ⟨rfl, hb⟩
      have B1 := Boxed.at (q := w.heap.size + 1) (Boxed.below (Boxed.drewN (Boxed.made (w.alloc (.cells #[.int .i64 y, .int .i64 k, .int .i64 d] 25)) #[.int .i64 0, .int .i64 0, .int .i64 0] 23) _) hb) (by simp)
      have W1 := Lib.hid (blw_trans (blw_drewN (blw_trans (blw_alloc w (.cells #[.int .i64 y, .int .i64 k, .int .i64 d] 25)) (blw_alloc _ (.cells #[.int .i64 0, .int .i64 0, .int .i64 0] 23))) _) hb)
      have z0 := B1.cell 0 _ rfl
      have z1 := B1.cell 1 _ rfl
      have z2 := B1.cell 2 _ rfl
      have g0 := B1.free 0 (by simp)
      have g1 := B1.free 1 (by simp)
      have g2 := B1.free 2 (by simp)
      clear hb B1 en
      go_wp2_with fail
      refine bodyPost_ret (v := .tuple #[.agg #[.int .i64 a, .int .i64 b, .int .i64 c], .bool true]) (by simp [results, Tryd.results10, go_sem, z0, z1, z2]) rfl ⟨rfl, ?_⟩
      repeat (first | exact W1.out | refine Below.setCell ?_ (by simp) _)
    · have lt : f < F + 3 := by
        have : f ≠ F + 3 := fun g => h3 (fe.2 g)
        omega
      have e3 : (f % 7 == 3) = false := beq_no h3
      clear fe h3
      go_wp2_with fail
      go_round
      case rel => exact ⟨f + 1, by omega, by omega, rfl⟩
      case measure => simp [RowKit.intOf]; omega

set_option maxRecDepth 100000 in
set_option maxHeartbeats 1000000 in
theorem rwd_late (y k d n : Int) (w : World) (h : rightWk y k d) (hn : Cal.fst y + 7 * (k - 1) + d - 1 = n) (C : Hid (∀ w : World, Calls Tryd.prog 28 #[.int .i64 n] w fun e w' => e = .returned (.tuple #[.agg #[.int .i64 0, .int .i64 0, .int .i64 0], .bool false]) ∧ Below w.heap.size w w')) :
    Calls Tryd.prog 10 #[.agg #[.int .i64 y, .int .i64 k, .int .i64 d]] w fun e w' => e = .returned (.tuple #[.agg #[.int .i64 0, .int .i64 0, .int .i64 0], .bool false]) ∧ Below w.heap.size w w' := by
  obtain ⟨y1, y2, k1, k2, d1', d2'⟩ := h
  have kb := Cal.wks_52 y
  have fb := Cal.fst_bd y
  have yb := Cal.yr_bd y y1 (by omega)
  have CW := Lib.hid fun w => rweeks_any y w y1 y2
  have CY := Lib.hid fun w => ryears_any y w y1 (by omega)
  have FE := Lib.hid (show ∀ f : Int, Cal.yr y ≤ f → f ≤ Cal.fst y + 3 → (f % 7 = 3 ↔ f = Cal.fst y + 3) from fun f g1 g2 => by unfold Cal.fst at *; generalize Cal.yr y = a at *; omega)
  have d1 : decide (y < 1) = false := dec_no (by omega)
  have d2 : decide (9999 < y) = false := dec_no (by omega)
  have d3 : decide (k < 1) = false := dec_no (by omega)
  have d4 : decide (53 < k) = false := dec_no (by omega)
  have d5 : decide (d < 1) = false := dec_no (by omega)
  have d6 : decide (7 < d) = false := dec_no (by omega)
  have d7 : decide (Cal.wks y < k) = false := dec_no (by omega)
  have HN := Lib.hid hn
  clear hn
  have k53 : k ≤ 53 := by omega
  generalize Cal.wks y = K at *
  generalize Cal.fst y = F at *
  generalize Cal.yr y = Y at *
  clear kb k2
  go_enter Tryd.func10, Tryd.ntmps10
  go_wp2
  go_big_quiet ((go_at_call 14; exact quiet_left (CW.out _)))
  clear d1 d2 d3 d4 d5 d6 d7
  go_wp2_with fail
  refine (CY.out _).mono ?_
  rintro e w' ⟨rfl, rfl⟩
  go_wp2_with fail
  go_loop [4] (fun i => ∃ f : Int, Y ≤ f ∧ f ≤ F + 3 ∧ i = .int .i64 f) (fun i => 4000000 - (RowKit.intOf i).toNat)
  case atStart => exact ⟨Y, by omega, by omega, rfl⟩
  case round =>
    obtain ⟨f, f0, f1, rfl⟩ := hrel
    have fe := FE.out f f0 f1
    by_cases h3 : f % 7 = 3
    · have ef := fe.1 h3
      have e3 : (f % 7 == 3) = true := beq_yes h3
      have EN := Lib.hid (show f - 3 + 7 * (k - 1) + d - 1 = n by rw [← HN.out]; omega)
      have en := EN.out
      have ef' := Lib.hid ef
      clear fe h3 ef
      go_wp2_with fail
      refine (C.out _).mono ?_
      rintro e w2 ⟨rfl, hb⟩
      have B1 := Boxed.at (q := w.heap.size + 1) (Boxed.below (Boxed.drewN (Boxed.made (w.alloc (.cells #[.int .i64 y, .int .i64 k, .int .i64 d] 25)) #[.int .i64 0, .int .i64 0, .int .i64 0] 23) _) hb) (by simp)
      have W1 := Lib.hid (blw_trans (blw_drewN (blw_trans (blw_alloc w (.cells #[.int .i64 y, .int .i64 k, .int .i64 d] 25)) (blw_alloc _ (.cells #[.int .i64 0, .int .i64 0, .int .i64 0] 23))) _) hb)
      have z0 := B1.cell 0 _ rfl
      have z1 := B1.cell 1 _ rfl
      have z2 := B1.cell 2 _ rfl
      have g0 := B1.free 0 (by simp)
      have g1 := B1.free 1 (by simp)
      have g2 := B1.free 2 (by simp)
      clear hb B1 en
      go_wp2_with fail
      refine bodyPost_ret (v := .tuple #[.agg #[.int .i64 0, .int .i64 0, .int .i64 0], .bool false]) (by simp [results, Tryd.results10, go_sem, z0, z1, z2]) rfl ⟨rfl, ?_⟩
      repeat (first | exact W1.out | refine Below.setCell ?_ (by simp) _)
    · have lt : f < F + 3 := by
        have : f ≠ F + 3 := fun g => h3 (fe.2 g)
        omega
      have e3 : (f % 7 == 3) = false := beq_no h3
      clear fe h3
      go_wp2_with fail
      go_round
      case rel => exact ⟨f + 1, by omega, by omega, rfl⟩
      case measure => simp [RowKit.intOf]; omega
end Go.Proofs.YtdcemkfljhdceaaDoor
