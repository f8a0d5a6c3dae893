/- The walks of linguisterref1's DateFault, ThursdayYear, WeekOf, WeeksOf. -/
import Derived.Test.YtdcemkfljhdceaaDoorRdays
import Derived.Test.YtdcemkfljhdceaaDoorWkCal
import Derived.Test.YtdcemkfljhdceaaDoorBoxS
namespace Go.Proofs.YtdcemkfljhdceaaDoor
open Go.RowKit

set_option maxRecDepth 100000 in
set_option maxHeartbeats 1000000 in
theorem rfault_0 (y m d : Int) (w : World) (h : y < 1) :
    Calls Tryd.prog 6 #[.agg #[.int .i64 y, .int .i64 m, .int .i64 d]] w fun e w' => e = .returned (.bool true) ∧ Below w.heap.size w w' := by
  have d1 : decide (y < 1) = true := dec_yes h
  go_enter Tryd.func6, Tryd.ntmps6
  go_wp2
  go_big_quiet (fail)
  go_wp2
  go_ret
  exact ⟨rfl, blw_drewN (blw_alloc _ _) _⟩

set_option maxRecDepth 100000 in
set_option maxHeartbeats 1000000 in
theorem rfault_1 (y m d : Int) (w : World) (h1 : ¬ y < 1) (h : 9999 < y) :
    Calls Tryd.prog 6 #[.agg #[.int .i64 y, .int .i64 m, .int .i64 d]] w fun e w' => e = .returned (.bool true) ∧ Below w.heap.size w w' := by
  have d1 : decide (y < 1) = false := dec_no h1
  have d2 : decide (9999 < y) = true := dec_yes h
  go_enter Tryd.func6, Tryd.ntmps6
  go_wp2
  go_big_quiet (fail)
  go_wp2
  go_ret
  exact ⟨rfl, blw_drewN (blw_alloc _ _) _⟩

set_option maxRecDepth 100000 in
set_option maxHeartbeats 1000000 in
theorem rfault_2 (y m d : Int) (w : World) (h1 : ¬ y < 1) (h2 : ¬ 9999 < y) (h : m < 1) :
    Calls Tryd.prog 6 #[.agg #[.int .i64 y, .int .i64 m, .int .i64 d]] w fun e w' => e = .returned (.bool true) ∧ Below w.heap.size w w' := by
  have d1 : decide (y < 1) = false := dec_no h1
  have d2 : decide (9999 < y) = false := dec_no h2
  have d3 : decide (m < 1) = true := dec_yes h
  go_enter Tryd.func6, Tryd.ntmps6
  go_wp2
  go_big_quiet (fail)
  go_wp2
  go_ret
  exact ⟨rfl, blw_drewN (blw_alloc _ _) _⟩

set_option maxRecDepth 100000 in
set_option maxHeartbeats 1000000 in
theorem rfault_3 (y m d : Int) (w : World) (h1 : ¬ y < 1) (h2 : ¬ 9999 < y) (h3 : ¬ m < 1) (h : 12 < m) :
    Calls Tryd.prog 6 #[.agg #[.int .i64 y, .int .i64 m, .int .i64 d]] w fun e w' => e = .returned (.bool true) ∧ Below w.heap.size w w' := by
  have d1 : decide (y < 1) = false := dec_no h1
  have d2 : decide (9999 < y) = false := dec_no h2
  have d3 : decide (m < 1) = false := dec_no h3
  have d4 : decide (12 < m) = true := dec_yes h
  go_enter Tryd.func6, Tryd.ntmps6
  go_wp2
  go_big_quiet (fail)
  go_wp2
  go_ret
  exact ⟨rfl, blw_drewN (blw_alloc _ _) _⟩

set_option maxRecDepth 100000 in
set_option maxHeartbeats 1000000 in
theorem rfault_4 (y m d : Int) (w : World) (h1 : ¬ y < 1) (h2 : ¬ 9999 < y) (h3 : ¬ m < 1) (h4 : ¬ 12 < m) (h : d < 1) :
    Calls Tryd.prog 6 #[.agg #[.int .i64 y, .int .i64 m, .int .i64 d]] w fun e w' => e = .returned (.bool true) ∧ Below w.heap.size w w' := by
  have d1 : decide (y < 1) = false := dec_no h1
  have d2 : decide (9999 < y) = false := dec_no h2
  have d3 : decide (m < 1) = false := dec_no h3
  have d4 : decide (12 < m) = false := dec_no h4
  have d5 : decide (d < 1) = true := dec_yes h
  go_enter Tryd.func6, Tryd.ntmps6
  go_wp2
  go_big_quiet (fail)
  go_wp2
  go_ret
  exact ⟨rfl, blw_drewN (blw_alloc _ _) _⟩

set_option maxRecDepth 100000 in
set_option maxHeartbeats 1000000 in
theorem rfault_5 (y m d : Int) (w : World) (h1 : ¬ y < 1) (h2 : ¬ 9999 < y) (h3 : ¬ m < 1) (h4 : ¬ 12 < m) (h5 : ¬ d < 1) (h : mlen y m < d) :
    Calls Tryd.prog 6 #[.agg #[.int .i64 y, .int .i64 m, .int .i64 d]] w fun e w' => e = .returned (.bool true) ∧ Below w.heap.size w w' := by
  have d1 : decide (y < 1) = false := dec_no h1
  have d2 : decide (9999 < y) = false := dec_no h2
  have d3 : decide (m < 1) = false := dec_no h3
  have d4 : decide (12 < m) = false := dec_no h4
  have d5 : decide (d < 1) = false := dec_no h5
  have d6 : decide (mlen y m < d) = true := dec_yes h
  have CM := Lib.hid fun w => rmonth_any y m w (by omega) (by omega) (by omega) (by omega)
  generalize mlen y m = M at *
  go_enter Tryd.func6, Tryd.ntmps6
  go_wp2
  go_big_quiet ((go_at_call 22; exact quiet_left (CM.out _)))
  go_wp2
  go_ret
  exact ⟨rfl, blw_drewN (blw_alloc _ _) _⟩

set_option maxRecDepth 100000 in
set_option maxHeartbeats 1000000 in
theorem rfault_6 (y m d : Int) (w : World) (h1 : ¬ y < 1) (h2 : ¬ 9999 < y) (h3 : ¬ m < 1) (h4 : ¬ 12 < m) (h5 : ¬ d < 1) (h6 : ¬ mlen y m < d) :
    Calls Tryd.prog 6 #[.agg #[.int .i64 y, .int .i64 m, .int .i64 d]] w fun e w' => e = .returned (.bool false) ∧ Below w.heap.size w w' := by
  have d1 : decide (y < 1) = false := dec_no h1
  have d2 : decide (9999 < y) = false := dec_no h2
  have d3 : decide (m < 1) = false := dec_no h3
  have d4 : decide (12 < m) = false := dec_no h4
  have d5 : decide (d < 1) = false := dec_no h5
  have d6 : decide (mlen y m < d) = false := dec_no h6
  have CM := Lib.hid fun w => rmonth_any y m w (by omega) (by omega) (by omega) (by omega)
  generalize mlen y m = M at *
  go_enter Tryd.func6, Tryd.ntmps6
  go_wp2
  go_big_quiet ((go_at_call 22; exact quiet_left (CM.out _)))
  go_wp2
  go_ret
  exact ⟨rfl, blw_drewN (blw_alloc _ _) _⟩

theorem rfault_yes (y m d : Int) (w : World) (h : Cal.vld y m d) :
    Calls Tryd.prog 6 #[.agg #[.int .i64 y, .int .i64 m, .int .i64 d]] w fun e w' => e = .returned (.bool false) ∧ Below w.heap.size w w' := by
  obtain ⟨h1, h2, h3, h4, h5, h6⟩ := h
  exact rfault_6 y m d w (by omega) (by omega) (by omega) (by omega) (by omega) (by unfold mlen; omega)
theorem rfault_no (y m d : Int) (w : World) (h : ¬ Cal.vld y m d) :
    Calls Tryd.prog 6 #[.agg #[.int .i64 y, .int .i64 m, .int .i64 d]] w fun e w' => e = .returned (.bool true) ∧ Below w.heap.size w w' := by
  by_cases h1 : y < 1
  · exact rfault_0 y m d w h1
  by_cases h2 : 9999 < y
  · exact rfault_1 y m d w h1 h2
  by_cases h3 : m < 1
  · exact rfault_2 y m d w h1 h2 h3
  by_cases h4 : 12 < m
  · exact rfault_3 y m d w h1 h2 h3 h4
  by_cases h5 : d < 1
  · exact rfault_4 y m d w h1 h2 h3 h4 h5
  by_cases h6 : mlen y m < d
  · exact rfault_5 y m d w h1 h2 h3 h4 h5 h6
  exact absurd ⟨by omega, by omega, by omega, by omega, by omega, by unfold mlen at h6; omega⟩ h

/-- the Thursday of a day's week -/
def thu (n : Int) : Int := n - n % 7 + 3
theorem thu_year (n y : Int) : (Cal.fst y ≤ n ∧ n < Cal.fst (y + 1)) ↔ (Cal.yr y ≤ thu n ∧ thu n < Cal.yr (y + 1)) := by
  unfold Cal.fst thu
  generalize Cal.yr y = a
  generalize Cal.yr (y + 1) = b
  omega
theorem thu_week (n y : Int) (h : Cal.fst y ≤ n) : (thu n - Cal.yr y) / 7 = (n - Cal.fst y) / 7 := by
  revert h
  unfold Cal.fst thu
  generalize Cal.yr y = a
  omega
theorem thu_lo (t y : Int) (h : t < Cal.yr (y + 1)) (y1 : 1 ≤ y) : t / 366 + 1 ≤ y := by
  unfold Cal.yr at h
  omega
set_option maxRecDepth 100000 in
set_option maxHeartbeats 1000000 in
theorem rthursday_any (n y : Int) (w : World) (n0 : 0 ≤ n) (n1 : n < 3652059) (y1 : 1 ≤ y) (y2 : y ≤ 9999) (h1 : Cal.yr y ≤ thu n) (h2 : thu n < Cal.yr (y + 1)) :
    Calls Tryd.prog 24 #[.int .i64 n] w fun e w' => e = .returned (.tuple #[.int .i64 y, .int .i64 (thu n - Cal.yr y)]) ∧ w = w' := by
  have t0 : 0 ≤ thu n := by unfold thu; omega
  have t1 : thu n ≤ 3652062 := by unfold thu; omega
  have lo := thu_lo (thu n) y h2 y1
  have CY := Lib.hid fun k w (k0 : 1 ≤ k) (k1 : k ≤ 20000) => ryears_any k w k0 k1
  have MO := Lib.hid Cal.yr_mono
  have YB := Lib.hid Cal.yr_bd
  have et : thu n = n - n % 7 + 3 := rfl
  generalize hg : thu n = t at *
  clear hg
  have w1 : IntKind.i64.wrap (n - n % 7) = n - n % 7 := IntWalk.i64_in _ (by omega)
  have w2 : n - n % 7 + 3 = t := et.symm
  clear et
  go_enter Tryd.func24, Tryd.ntmps24
  go_wp2_with fail
  go_loop [5] (fun i => ∃ k : Int, 1 ≤ k ∧ k ≤ y ∧ i = .int .i64 k) (fun i => 20000 - (RowKit.intOf i).toNat)
  case atStart => exact ⟨t / 366 + 1, by omega, lo, rfl⟩
  case round =>
    obtain ⟨k, k0, k1, rfl⟩ := hrel
    have C := Lib.hid fun w => CY.out (k + 1) w (by omega) (by omega)
    have yb := YB.out (k + 1) (by omega) (by omega)
    by_cases hlt : k < y
    · have le : Cal.yr (k + 1) ≤ t := Int.le_trans (MO.out (k + 1) y (by omega)) h1
      generalize Cal.yr (k + 1) = a at *
      go_wp2_with fail
      refine (C.out _).mono ?_
      rintro e w' ⟨rfl, rfl⟩
      go_wp2_with fail
      go_round
      case rel => exact ⟨k + 1, by omega, by omega, rfl⟩
      case measure => simp [RowKit.intOf]; omega
    · have e : k = y := by omega
      subst e
      have C2 := Lib.hid fun w => CY.out k w (by omega) (by omega)
      have yb2 := YB.out k (by omega) (by omega)
      generalize Cal.yr (k + 1) = a at *
      generalize hk : Cal.yr k = b at *
      have HK := Lib.hid hk
      clear hk
      go_wp2_with fail
      refine (C.out _).mono ?_
      rintro e w' ⟨rfl, rfl⟩
      go_wp2_with fail
      refine (C2.out _).mono ?_
      rintro e w' ⟨rfl, rfl⟩
      go_wp2_with fail
      go_ret2
      exact ⟨by rw [HK.out]; rfl, rfl⟩

theorem cnt_weeks (y : Int) : Cal.wks y = (Cal.yr (y + 1) + 3) / 7 - (Cal.yr y + 3) / 7 := by
  unfold Cal.wks Cal.fst
  generalize Cal.yr y = a
  generalize Cal.yr (y + 1) = b
  omega
set_option maxRecDepth 100000 in
set_option maxHeartbeats 1000000 in
theorem rweeks_any (y : Int) (w : World) (y1 : 1 ≤ y) (y2 : y ≤ 9999) :
    Calls Tryd.prog 14 #[.int .i64 y] w fun e w' => e = .returned (.int .i64 (Cal.wks y)) ∧ w = w' := by
  have C := Lib.hid fun w => ryears_any y w y1 (by omega)
  have C2 := Lib.hid fun w => ryears_any (y + 1) w (by omega) (by omega)
  have E := Lib.hid (cnt_weeks y)
  have b1 := Cal.yr_bd y y1 (by omega)
  have b2 := Cal.yr_bd (y + 1) (by omega) (by omega)
  have le := Cal.yr_mono y (y + 1) (by omega)
  generalize Cal.yr y = a at *
  generalize Cal.yr (y + 1) = b at *
  go_enter Tryd.func14, Tryd.ntmps14
  go_wp2_with fail
  refine (C.out _).mono ?_
  rintro e w' ⟨rfl, rfl⟩
  go_wp2_with fail
  go_loop [3, 4] (fun n i => ∃ k c : Int, a ≤ k ∧ k ≤ b ∧ 0 ≤ c ∧ c ≤ 4000000 ∧ Hid (c = (k + 3) / 7 - (a + 3) / 7) ∧ i = .int .i64 k ∧ n = .int .i64 c) (fun _ i => 4000000 - (RowKit.intOf i).toNat)
  case atStart => exact ⟨a, 0, by omega, by omega, by omega, by omega, Lib.hid (by omega), rfl, rfl⟩
  case round =>
    obtain ⟨k, c, k0, k1, c0, c1, HC, rfl, rfl⟩ := hrel
    by_cases hlt : k < b
    · by_cases h3 : k % 7 = 3
      · have HN : Hid (c + 1 = (k + 1 + 3) / 7 - (a + 3) / 7) := Lib.hid (by have := HC.out; omega)
        have cb : c + 1 ≤ 4000000 := by have := HC.out; omega
        have e3 : (k % 7 == 3) = true := beq_yes h3
        clear h3
        go_wp2_with fail
        refine (C2.out _).mono ?_
        rintro e w' ⟨rfl, rfl⟩
        go_wp2_with fail
        go_round
        case rel => exact ⟨k + 1, c + 1, by omega, by omega, by omega, cb, HN, rfl, rfl⟩
        case measure => simp [RowKit.intOf]; omega
      · have HN : Hid (c = (k + 1 + 3) / 7 - (a + 3) / 7) := Lib.hid (by have := HC.out; omega)
        have e3 : (k % 7 == 3) = false := beq_no h3
        clear h3
        go_wp2_with fail
        refine (C2.out _).mono ?_
        rintro e w' ⟨rfl, rfl⟩
        go_wp2_with fail
        go_round
        case rel => exact ⟨k + 1, c, by omega, by omega, by omega, by omega, HN, rfl, rfl⟩
        case measure => simp [RowKit.intOf]; omega
    · have e : k = b := by omega
      subst e
      go_wp2_with fail
      refine (C2.out _).mono ?_
      rintro e w' ⟨rfl, rfl⟩
      go_wp2_with fail
      go_ret
      exact ⟨ret_int (by rw [E.out, HC.out]), rfl⟩

set_option maxRecDepth 100000 in
set_option maxHeartbeats 1000000 in
theorem rweekOf_any (y m d Y : Int) (w : World) (h : Cal.vld y m d) (Y1 : 1 ≤ Y) (Y2 : Y ≤ 9999) (h1 : Cal.fst Y ≤ Cal.num y m d) (h2 : Cal.num y m d < Cal.fst (Y + 1)) :
    Calls Tryd.prog 7 #[.agg #[.int .i64 y, .int .i64 m, .int .i64 d]] w fun e w' => e = .returned (.agg #[.int .i64 Y, .int .i64 ((Cal.num y m d - Cal.fst Y) / 7 + 1), .int .i64 (Cal.num y m d % 7 + 1)]) ∧ Below w.heap.size w w' := by
  have hr := Cal.num_rng y m d h
  have CN := Lib.hid fun w => rnumber_any y m d w h
  have ty := (thu_year (Cal.num y m d) Y).1 ⟨h1, h2⟩
  have tw := thu_week (Cal.num y m d) Y h1
  have CT := Lib.hid fun w => rthursday_any (Cal.num y m d) Y w hr.1 hr.2 Y1 Y2 ty.1 ty.2
  have q0 : 0 ≤ thu (Cal.num y m d) - Cal.yr Y := by omega
  have q1 : thu (Cal.num y m d) - Cal.yr Y ≤ 4000000 := by
    have := Cal.yr_bd Y Y1 (by omega)
    unfold thu; omega
  have TW := Lib.hid tw
  clear ty tw h1 h2 h
  generalize thu (Cal.num y m d) - Cal.yr Y = q at *
  generalize Cal.num y m d = n at *
  obtain ⟨r0, r1⟩ := hr
  go_enter Tryd.func7, Tryd.ntmps7
  go_wp2_with fail
  refine (CN.out _).mono ?_
  rintro e w1 ⟨rfl, hb⟩
  have B1 := Boxed.at (q := w.heap.size + 1) ((Boxed.made (w.alloc (.cells #[.int .i64 y, .int .i64 m, .int .i64 d] 23)) #[.int .i64 0, .int .i64 0, .int .i64 0] 25).below hb) (by simp)
  have W1 := Lib.hid (blw_trans (blw_trans (blw_alloc w (.cells #[.int .i64 y, .int .i64 m, .int .i64 d] 23)) (blw_alloc _ (.cells #[.int .i64 0, .int .i64 0, .int .i64 0] 25))) hb)
  have z0 := B1.cell 0 _ rfl
  have z1 := B1.cell 1 _ rfl
  have z2 := B1.cell 2 _ rfl
  have f0 := B1.free 0 (by simp)
  have f1 := B1.free 1 (by simp)
  have f2 := B1.free 2 (by simp)
  clear hb B1
  go_wp2_with fail
  refine (CT.out _).mono ?_
  rintro e w' ⟨rfl, rfl⟩
  go_wp2_with fail
  refine bodyPost_ret (v := .agg #[.int .i64 Y, .int .i64 (q / 7 + 1), .int .i64 (n % 7 + 1)]) (by simp [results, Tryd.results7, go_sem, z0, z1, z2]) rfl ⟨by rw [TW.out], ?_⟩
  repeat (first | exact W1.out | refine Below.setCell ?_ (by simp) _)
end Go.Proofs.YtdcemkfljhdceaaDoor
