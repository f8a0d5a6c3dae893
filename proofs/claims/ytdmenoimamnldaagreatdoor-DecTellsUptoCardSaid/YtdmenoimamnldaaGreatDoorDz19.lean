/- The walk of linguisterref1.AddOf: the sum of two numbers. No conditions but the arguments' own. -/
import Derived.Test.YtdmenoimamnldaaGreatDoorDz7
namespace Go.Proofs.YtdmenoimamnldaaGreatDoor
open Go.RowKit
open Dcm (P10 okD nrm mag flo lef)

set_option maxRecDepth 100000 in
set_option maxHeartbeats 1000000 in
theorem rof_up_yes (c s t way : Int) (w : World) (ha : okD c s) (t9 : t ≤ 9) (hst : s ≤ t) (hr : mag c * P10 (t - s) ≤ 1000000000000000) :
    Calls Tryz.prog 15 #[.agg #[.int .i64 c, .int .i64 s], .int .i64 t, .int .i64 way] w fun e w' => e = .returned (.tuple #[.agg #[.int .i64 (c * P10 (t - s)), .int .i64 t], .bool true]) ∧ Below w.heap.size w w' := by
  obtain ⟨s0, s9, c0, c1⟩ := ha
  have hU := Dcm.P10_bd (t - s)
  have hq : mag c ≤ 1000000000000000 / P10 (t - s) := (Int.le_ediv_iff_mul_le (by omega)).2 hr
  have hm : -1000000000000000 ≤ c ∧ c ≤ 1000000000000000 := ⟨c0, c1⟩
  have d1 : decide (1000000000000000 / P10 (t - s) < mag c) = false := dec_no (by omega)
  have hcu : -1000000000000000 ≤ c * P10 (t - s) ∧ c * P10 (t - s) ≤ 1000000000000000 := by
    unfold mag at hr
    split at hr
    · rw [Int.neg_mul] at hr; have := Int.mul_nonneg (show 0 ≤ -c by omega) (show 0 ≤ P10 (t - s) by omega); rw [Int.neg_mul] at this; omega
    · have := Int.mul_nonneg (show 0 ≤ c by omega) (show 0 ≤ P10 (t - s) by omega); omega
  obtain ⟨u0, u1⟩ := hcu
  clear hq hr
  go_enter Tryz.func15, Tryz.ntmps15
  go_wp2_with (go_at_call 24; refine (ten_any _ _ (by omega) (by omega)).mono ?_; rintro e w' ⟨rfl, rfl⟩)
  go_big_quiet ((first | (go_at_call 24; exact quiet_left (ten_any _ _ (by omega) (by omega))) | (go_at_call 33; exact quiet_left (size_any _ _ (by omega) (by omega)))))
  go_wp2_with fail
  refine bodyPost_ret (v := .tuple #[.agg #[.int .i64 (c * P10 (t - s)), .int .i64 t], .bool true]) (by simp [results, Tryz.results15, go_sem]) rfl ⟨rfl, ?_⟩
  repeat (first | exact Below.refl _ _ | refine blw_drewN ?_ _ | refine Below.setCell ?_ (by simp) _ | refine Below.alloc ?_ (by first | (simp; done) | (simp; omega)) _)

set_option maxRecDepth 100000 in
set_option maxHeartbeats 1000000 in
theorem rof_up_no (c s t way : Int) (w : World) (ha : okD c s) (t9 : t ≤ 9) (hst : s ≤ t) (hr : ¬ mag c * P10 (t - s) ≤ 1000000000000000) :
    Calls Tryz.prog 15 #[.agg #[.int .i64 c, .int .i64 s], .int .i64 t, .int .i64 way] w fun e w' => e = .returned (.tuple #[.agg #[.int .i64 0, .int .i64 0], .bool false]) ∧ Below w.heap.size w w' := by
  obtain ⟨s0, s9, c0, c1⟩ := ha
  have hU := Dcm.P10_bd (t - s)
  have hq : ¬ mag c ≤ 1000000000000000 / P10 (t - s) := fun g => hr ((Int.le_ediv_iff_mul_le (by omega)).1 g)
  have hm : -1000000000000000 ≤ c ∧ c ≤ 1000000000000000 := ⟨c0, c1⟩
  have d1 : decide (1000000000000000 / P10 (t - s) < mag c) = true := dec_yes (by omega)
  clear hq hr
  go_enter Tryz.func15, Tryz.ntmps15
  go_wp2_with (go_at_call 24; refine (ten_any _ _ (by omega) (by omega)).mono ?_; rintro e w' ⟨rfl, rfl⟩)
  go_big_quiet ((first | (go_at_call 24; exact quiet_left (ten_any _ _ (by omega) (by omega))) | (go_at_call 33; exact quiet_left (size_any _ _ (by omega) (by omega)))))
  go_wp2_with fail
  refine bodyPost_ret (v := .tuple #[.agg #[.int .i64 0, .int .i64 0], .bool false]) (by simp [results, Tryz.results15, go_sem]) rfl ⟨rfl, ?_⟩
  repeat (first | exact Below.refl _ _ | refine blw_drewN ?_ _ | refine Below.setCell ?_ (by simp) _ | refine Below.alloc ?_ (by first | (simp; done) | (simp; omega)) _)

inductive RofC (c L r U : Int) : Int → Int → Prop
  | a1 : decide (0 < r) = false → RofC c L r U 1 L
  | b1 : decide (0 < r) = true → decide (c < 0) = true → RofC c L r U 1 (L + 1)
  | c1 : decide (0 < r) = true → decide (c < 0) = false → RofC c L r U 1 L
  | a2 : decide (0 < r) = false → RofC c L r U 2 L
  | b2 : decide (0 < r) = true → RofC c L r U 2 L
  | a3 : decide (0 < r) = false → RofC c L r U 3 L
  | b3 : decide (0 < r) = true → RofC c L r U 3 (L + 1)
  | a4 : decide (0 < r) = false → decide (U < 2 * r) = false → (2 * r == U) = false → RofC c L r U 4 L
  | a5 : decide (0 < r) = false → decide (U < 2 * r) = false → (2 * r == U) = false → RofC c L r U 5 L
  | b4 : decide (0 < r) = true → decide (U < 2 * r) = true → RofC c L r U 4 (L + 1)
  | c4 : decide (0 < r) = true → decide (U < 2 * r) = false → (2 * r == U) = false → RofC c L r U 4 L
  | d4 : decide (0 < r) = true → decide (U < 2 * r) = false → (2 * r == U) = true → decide (0 < c) = true → RofC c L r U 4 (L + 1)
  | e4 : decide (0 < r) = true → decide (U < 2 * r) = false → (2 * r == U) = true → decide (0 < c) = false → RofC c L r U 4 L
  | b5 : decide (0 < r) = true → decide (U < 2 * r) = true → RofC c L r U 5 (L + 1)
  | c5 : decide (0 < r) = true → decide (U < 2 * r) = false → (2 * r == U) = false → RofC c L r U 5 L
  | d5 : decide (0 < r) = true → decide (U < 2 * r) = false → (2 * r == U) = true → (mag L % 2 == 1) = true → RofC c L r U 5 (L + 1)
  | e5 : decide (0 < r) = true → decide (U < 2 * r) = false → (2 * r == U) = true → (mag L % 2 == 1) = false → RofC c L r U 5 L

set_option maxRecDepth 100000 in
set_option maxHeartbeats 20000000 in
theorem rof_dn (c s t L r U way R : Int) (w : World) (ha : okD c s) (t0 : 0 ≤ t) (hst : t < s) (hU : P10 (s - t) = U) (hL : flo c (s - t) = L) (hr : lef c (s - t) = r) (h : RofC c L r U way R) :
    Calls Tryz.prog 15 #[.agg #[.int .i64 c, .int .i64 s], .int .i64 t, .int .i64 way] w fun e w' => e = .returned (.tuple #[.agg #[.int .i64 R, .int .i64 t], .bool true]) ∧ Below w.heap.size w w' := by
  have C1 := Lib.hid fun w => floor_any c (s - t) w ⟨by omega, by have := ha.2.1; omega, ha.2.2.1, ha.2.2.2⟩
  have C2 := Lib.hid fun w => ten_any (s - t) w (by omega) (by have := ha.2.1; omega)
  have fb := Dcm.flo_bd c (s - t) ⟨ha.2.2.1, ha.2.2.2⟩
  have fl := Dcm.flo_lef c (s - t)
  have lb := Dcm.lef_bd c (s - t)
  have hU1 := Dcm.P10_bd (s - t)
  rw [hL] at C1 fb fl
  rw [hU] at C2 fl lb hU1
  rw [hr] at fl lb
  clear hL hU hr
  obtain ⟨s0, s9, c0, c1⟩ := ha
  have mb := Dcm.mag_bd L
  have em : c - L * U = r := by omega
  have hl1 : -1000002000000000 ≤ L * U := by omega
  have hl2 : L * U ≤ 1000002000000000 := by omega
  have hem := Lib.hid em
  clear em fl
  rcases h with ⟨d0⟩ | ⟨d0, d1⟩ | ⟨d0, d1⟩ | ⟨d0⟩ | ⟨d0⟩ | ⟨d0⟩ | ⟨d0⟩ | ⟨d0, d1, d2⟩ | ⟨d0, d1, d2⟩ | ⟨d0, d1⟩ | ⟨d0, d1, d2⟩ | ⟨d0, d1, d2, d3⟩ | ⟨d0, d1, d2, d3⟩ | ⟨d0, d1⟩ | ⟨d0, d1, d2⟩ | ⟨d0, d1, d2, d3⟩ | ⟨d0, d1, d2, d3⟩
  all_goals
    go_enter Tryz.func15, Tryz.ntmps15
    go_wp2_with fail
    refine (C1.out _).mono ?_
    rintro e w1 ⟨rfl, hb⟩
    have B1_a := Boxed.below (Boxed.alloc (Boxed.made _ #[.int .i64 c, .int .i64 s] 23) _) hb
    have B1_z := Boxed.below (Boxed.made _ #[.int .i64 0, .int .i64 0] 23) hb
    have W1 := Lib.hid (blw_trans (blw_trans (blw_trans (Below.refl w.heap.size w) (blw_alloc _ _)) (blw_alloc _ _)) hb)
    clear hb 
    have ka0 := B1_a.cell 0 _ rfl
    have ka1 := B1_a.cell 1 _ rfl
    have kal := B1_a.lt
    try simp at ka0 ka1 kal
    have kz0 := B1_z.cell 0 _ rfl
    have kz1 := B1_z.cell 1 _ rfl
    have kzl := B1_z.lt
    try simp at kz0 kz1 kzl
    have zf0 := B1_z.free 0 (by simp)
    have zf1 := B1_z.free 1 (by simp)
    try simp at zf0 zf1
    go_wp2_with fail
    refine (C2.out _).mono ?_
    rintro e w2 ⟨rfl, rfl⟩
    have hem' := hem.out
    go_wp2_with (go_at_call 33; refine (size_any _ _ (by omega) (by omega)).mono ?_; rintro e w' ⟨rfl, rfl⟩)
    refine bodyPost_ret (by simp [results, Tryz.results15, go_sem, kz0, kz1]) rfl ⟨rfl, ?_⟩
    repeat (first | exact W1.out | refine blw_drewN ?_ _ | refine Below.setCell ?_ (by simp) _ | refine Below.alloc ?_ (by first | (simp; done) | (simp; omega)) _)

theorem rof_yes (c s t way : Int) (w : World) (h : rndE c s t way = 0) :
    Calls Tryz.prog 15 #[.agg #[.int .i64 c, .int .i64 s], .int .i64 t, .int .i64 way] w fun e w' => e = .returned (.tuple #[.agg #[.int .i64 (Dcm.rndC c s t way), .int .i64 t], .bool true]) ∧ Below w.heap.size w w' := by
  obtain ⟨ha, t0, t9, w0, w1, hr⟩ := rndE_zero.1 h
  by_cases hst : s ≤ t
  · have e : Dcm.rndC c s t way = c * P10 (t - s) := by unfold Dcm.rndC; rw [if_pos hst]
    rw [e]
    exact rof_up_yes c s t way w ha t9 hst (hr hst)
  · have e := Dcm.rndC_F c s t way (by omega) w0 w1
    unfold Dcm.rndF at e
    rw [show c / P10 (s - t) = flo c (s - t) from rfl, show c % P10 (s - t) = lef c (s - t) from rfl] at e
    obtain ⟨U, hU⟩ : ∃ U, P10 (s - t) = U := ⟨_, rfl⟩
    obtain ⟨L, hL⟩ : ∃ L, flo c (s - t) = L := ⟨_, rfl⟩
    obtain ⟨r, hr⟩ : ∃ r, lef c (s - t) = r := ⟨_, rfl⟩
    have lb := Dcm.lef_bd c (s - t)
    rw [hU, hL, hr] at e
    rw [hU, hr] at lb
    rw [e]
    rcases Dcm.ways way w0 w1 with rfl | rfl | rfl | rfl | rfl
    · by_cases h0 : 0 < r
      · by_cases h1 : c < 0
        · have u : Dcm.upB 1 L r U c = true := by rw [Dcm.upB1, dec_yes h0, dec_yes h1]; rfl
          rw [u]
          have g := rof_dn c s t L r U 1 _ w ha t0 (by omega) hU hL hr (.b1 (dec_yes h0) (dec_yes h1))
          simpa using g
        · have u : Dcm.upB 1 L r U c = false := by rw [Dcm.upB1, dec_yes h0, dec_no h1]; rfl
          rw [u]
          have g := rof_dn c s t L r U 1 _ w ha t0 (by omega) hU hL hr (.c1 (dec_yes h0) (dec_no h1))
          simpa using g
      · have u : Dcm.upB 1 L r U c = false := by rw [Dcm.upB1, dec_no h0]; rfl
        rw [u]
        have g := rof_dn c s t L r U 1 _ w ha t0 (by omega) hU hL hr (.a1 (dec_no h0))
        simpa using g
    · by_cases h0 : 0 < r
      · have u : Dcm.upB 2 L r U c = false := by rw [Dcm.upB2]
        rw [u]
        have g := rof_dn c s t L r U 2 _ w ha t0 (by omega) hU hL hr (.b2 (dec_yes h0))
        simpa using g
      · have u : Dcm.upB 2 L r U c = false := by rw [Dcm.upB2]
        rw [u]
        have g := rof_dn c s t L r U 2 _ w ha t0 (by omega) hU hL hr (.a2 (dec_no h0))
        simpa using g
    · by_cases h0 : 0 < r
      · have u : Dcm.upB 3 L r U c = true := by rw [Dcm.upB3, dec_yes h0]
        rw [u]
        have g := rof_dn c s t L r U 3 _ w ha t0 (by omega) hU hL hr (.b3 (dec_yes h0))
        simpa using g
      · have u : Dcm.upB 3 L r U c = false := by rw [Dcm.upB3, dec_no h0]
        rw [u]
        have g := rof_dn c s t L r U 3 _ w ha t0 (by omega) hU hL hr (.a3 (dec_no h0))
        simpa using g
    · by_cases h0 : 0 < r
      · by_cases h1 : U < 2 * r
        · have u : Dcm.upB 4 L r U c = true := by rw [Dcm.upB4, dec_yes h1]; rfl
          rw [u]
          have g := rof_dn c s t L r U 4 _ w ha t0 (by omega) hU hL hr (.b4 (dec_yes h0) (dec_yes h1))
          simpa using g
        · by_cases h2 : 2 * r = U
          · by_cases h3 : 0 < c
            · have u : Dcm.upB 4 L r U c = true := by rw [Dcm.upB4, dec_no h1, dec_yes h2, dec_yes h3]; rfl
              rw [u]
              have g := rof_dn c s t L r U 4 _ w ha t0 (by omega) hU hL hr (.d4 (dec_yes h0) (dec_no h1) (beq_yes h2) (dec_yes h3))
              simpa using g
            · have u : Dcm.upB 4 L r U c = false := by rw [Dcm.upB4, dec_no h1, dec_yes h2, dec_no h3]; rfl
              rw [u]
              have g := rof_dn c s t L r U 4 _ w ha t0 (by omega) hU hL hr (.e4 (dec_yes h0) (dec_no h1) (beq_yes h2) (dec_no h3))
              simpa using g
          · have u : Dcm.upB 4 L r U c = false := by rw [Dcm.upB4, dec_no h1, dec_no h2]; rfl
            rw [u]
            have g := rof_dn c s t L r U 4 _ w ha t0 (by omega) hU hL hr (.c4 (dec_yes h0) (dec_no h1) (beq_no h2))
            simpa using g
      · have h1 : ¬ U < 2 * r := by omega
        have h2 : ¬ 2 * r = U := by omega
        have u : Dcm.upB 4 L r U c = false := by rw [Dcm.upB4, dec_no h1, dec_no h2]; rfl
        rw [u]
        have g := rof_dn c s t L r U 4 _ w ha t0 (by omega) hU hL hr (.a4 (dec_no h0) (dec_no h1) (beq_no h2))
        simpa using g
    · by_cases h0 : 0 < r
      · by_cases h1 : U < 2 * r
        · have u : Dcm.upB 5 L r U c = true := by rw [Dcm.upB5, dec_yes h1]; rfl
          rw [u]
          have g := rof_dn c s t L r U 5 _ w ha t0 (by omega) hU hL hr (.b5 (dec_yes h0) (dec_yes h1))
          simpa using g
        · by_cases h2 : 2 * r = U
          · by_cases h3 : mag L % 2 = 1
            · have u : Dcm.upB 5 L r U c = true := by rw [Dcm.upB5, dec_no h1, dec_yes h2, dec_yes h3]; rfl
              rw [u]
              have g := rof_dn c s t L r U 5 _ w ha t0 (by omega) hU hL hr (.d5 (dec_yes h0) (dec_no h1) (beq_yes h2) (beq_yes h3))
              simpa using g
            · have u : Dcm.upB 5 L r U c = false := by rw [Dcm.upB5, dec_no h1, dec_yes h2, dec_no h3]; rfl
              rw [u]
              have g := rof_dn c s t L r U 5 _ w ha t0 (by omega) hU hL hr (.e5 (dec_yes h0) (dec_no h1) (beq_yes h2) (beq_no h3))
              simpa using g
          · have u : Dcm.upB 5 L r U c = false := by rw [Dcm.upB5, dec_no h1, dec_no h2]; rfl
            rw [u]
            have g := rof_dn c s t L r U 5 _ w ha t0 (by omega) hU hL hr (.c5 (dec_yes h0) (dec_no h1) (beq_no h2))
            simpa using g
      · have h1 : ¬ U < 2 * r := by omega
        have h2 : ¬ 2 * r = U := by omega
        have u : Dcm.upB 5 L r U c = false := by rw [Dcm.upB5, dec_no h1, dec_no h2]; rfl
        rw [u]
        have g := rof_dn c s t L r U 5 _ w ha t0 (by omega) hU hL hr (.a5 (dec_no h0) (dec_no h1) (beq_no h2))
        simpa using g
end Go.Proofs.YtdmenoimamnldaaGreatDoor
namespace Go.Proofs.YtdmenoimamnldaaGreatDoor
open Go.RowKit
open Dcm (P10 okD nrm mag flo lef)

set_option maxRecDepth 100000 in
set_option maxHeartbeats 2000000 in
theorem aof_far (a s b t : Int) (w : World) (ha : okD a s) (hb' : okD b t) (hf : 1000000000000000 / P10 (Dcm.addS s t) + 2 < mag (flo a s + flo b t)) :
    Calls Tryz.prog 17 #[.agg #[.int .i64 a, .int .i64 s], .agg #[.int .i64 b, .int .i64 t]] w fun e w' => e = .returned (.tuple #[.agg #[.int .i64 0, .int .i64 0], .bool false]) ∧ Below w.heap.size w w' := by
  have CA := Lib.hid fun w => floor_any a s w ha
  have CB := Lib.hid fun w => floor_any b t w hb'
  have fa := Dcm.flo_bd a s ⟨ha.2.2.1, ha.2.2.2⟩
  have fb := Dcm.flo_bd b t ⟨hb'.2.2.1, hb'.2.2.2⟩
  have ea := Dcm.flo_lef a s
  have eb := Dcm.flo_lef b t
  have aF := Dcm.addC_F a s b t ha hb'
  have xa := Dcm.lef_bd a s
  have xb := Dcm.lef_bd b t
  have ua := Dcm.P10_bd s
  have ub := Dcm.P10_bd t
  have uS := Dcm.P10_bd (Dcm.addS s t)
  have mb := Dcm.mag_bd (flo a s + flo b t)
  have hS : s ≤ Dcm.addS s t ∧ t ≤ Dcm.addS s t ∧ Dcm.addS s t ≤ 9 := by have := ha.2.1; have := hb'.2.1; unfold Dcm.addS; split <;> omega
  have hmx : max s t = Dcm.addS s t := by unfold Dcm.addS; split <;> omega
  have qb : 0 ≤ 1000000000000000 / P10 (Dcm.addS s t) := Int.ediv_nonneg (by omega) (by omega)
  have qb1 : 1000000000000000 / P10 (Dcm.addS s t) ≤ 1000000000000000 := Int.ediv_le_self _ (by omega)
  obtain ⟨s0, s9, a0, a1⟩ := ha
  obtain ⟨t0, t9, b0, b1⟩ := hb'
  obtain ⟨aF1, aF2, aF3, aF4, aF5⟩ := aF
  generalize Dcm.addC a s b t = V at *
  generalize Dcm.addS s t = S at *
  generalize flo a s = X at *
  generalize flo b t = Y at *
  generalize lef a s = p at *
  generalize lef b t = q at *
  have ha1 : a - X * P10 s = p := by omega
  have hb1 : b - Y * P10 t = q := by omega
  have w1 : IntKind.i64.wrap (X * P10 s) = X * P10 s := IntWalk.i64_in _ (by omega)
  have w2 : IntKind.i64.wrap (a - X * P10 s) = p := by rw [IntWalk.i64_in _ (by omega)]; exact ha1
  have w3 : IntKind.i64.wrap (p * P10 (S - s)) = p * P10 (S - s) := IntWalk.i64_in _ (by omega)
  have w4 : IntKind.i64.wrap (Y * P10 t) = Y * P10 t := IntWalk.i64_in _ (by omega)
  have w5 : IntKind.i64.wrap (b - Y * P10 t) = q := by rw [IntWalk.i64_in _ (by omega)]; exact hb1
  have w6 : IntKind.i64.wrap (q * P10 (S - t)) = q * P10 (S - t) := IntWalk.i64_in _ (by omega)
  have w7 : IntKind.i64.wrap (S - s) = S - s := IntWalk.i64_in _ (by omega)
  have w8 : IntKind.i64.wrap (S - t) = S - t := IntWalk.i64_in _ (by omega)
  have w9 : IntKind.i64.wrap (X + Y) = X + Y := IntWalk.i64_in _ (by omega)
  have wa : IntKind.i64.wrap (1000000000000000 / P10 S + 2) = 1000000000000000 / P10 S + 2 := IntWalk.i64_in _ (by omega)
  have HA := Lib.hid (And.intro w1 (And.intro w2 (And.intro w3 w7)))
  have HB := Lib.hid (And.intro w4 (And.intro w5 (And.intro w6 w8)))
  have HC := Lib.hid (And.intro w9 wa)
  have d1 : decide (1000000000000000 / P10 S + 2 < mag (X + Y)) = true := dec_yes hf
  have HM := Lib.hid hmx
  clear w1 w2 w3 w4 w5 w6 w7 w8 w9 wa ha1 hb1 ea eb aF1 hf hmx
  go_enter Tryz.func17, Tryz.ntmps17
  have hmx := HM.out
  go_wp2_with fail
  clear hmx
  refine (ten_any _ _ (by omega) (by omega)).mono ?_
  rintro e w' ⟨rfl, rfl⟩
  go_wp2_with fail
  refine (CA.out _).mono ?_
  rintro e w1 ⟨rfl, hb⟩
  have B1_a := Boxed.below (Boxed.alloc (Boxed.alloc (Boxed.made _ #[.int .i64 a, .int .i64 s] 23) _) _) hb
  have B1_b := Boxed.below (Boxed.alloc (Boxed.made _ #[.int .i64 b, .int .i64 t] 23) _) hb
  have B1_z := Boxed.below (Boxed.made _ #[.int .i64 0, .int .i64 0] 23) hb
  have W1 := Lib.hid (blw_trans (blw_trans (blw_trans (blw_trans (Below.refl w.heap.size w) (blw_alloc _ _)) (blw_alloc _ _)) (blw_alloc _ _)) hb)
  clear hb 
  have ka0 := B1_a.cell 0 _ rfl
  have ka1 := B1_a.cell 1 _ rfl
  have kal := B1_a.lt
  try simp at ka0 ka1 kal
  have kb0 := B1_b.cell 0 _ rfl
  have kb1 := B1_b.cell 1 _ rfl
  have kbl := B1_b.lt
  try simp at kb0 kb1 kbl
  have kz0 := B1_z.cell 0 _ rfl
  have kz1 := B1_z.cell 1 _ rfl
  have kzl := B1_z.lt
  try simp at kz0 kz1 kzl
  go_wp2_with fail
  refine (CB.out _).mono ?_
  rintro e w2 ⟨rfl, hb⟩
  clear ka0 ka1 kal kb0 kb1 kbl kz0 kz1 kzl
  have B2_a := B1_a.below hb
  have B2_b := B1_b.below hb
  have B2_z := B1_z.below hb
  have W2 := Lib.hid (blw_trans W1.out hb)
  clear hb B1_a B1_b B1_z W1
  have ka0 := B2_a.cell 0 _ rfl
  have ka1 := B2_a.cell 1 _ rfl
  have kal := B2_a.lt
  try simp at ka0 ka1 kal
  have kb0 := B2_b.cell 0 _ rfl
  have kb1 := B2_b.cell 1 _ rfl
  have kbl := B2_b.lt
  try simp at kb0 kb1 kbl
  have kz0 := B2_z.cell 0 _ rfl
  have kz1 := B2_z.cell 1 _ rfl
  have kzl := B2_z.lt
  try simp at kz0 kz1 kzl
  have zf0 := B2_z.free 0 (by simp)
  have zf1 := B2_z.free 1 (by simp)
  try simp at zf0 zf1
  go_wp2_with fail
  obtain ⟨w1', w2', w3', w4'⟩ := HA.out
  go_big_quiet ((go_at_call 24; exact quiet_left (ten_any _ _ (by omega) (by omega))))
  rename Nat => nq1
  clear w1' w2' w3' w4'
  have WD1 := Lib.hid (blw_drewN W2.out nq1)
  have yb0 : (w2.drewN nq1).cell? ⟨w.heap.size + 1, 0, none⟩ = some (.int .i64 b) := by first | (simpa using kb0) | (simpa using yb0)
  have yb1 : (w2.drewN nq1).cell? ⟨w.heap.size + 1, 1, none⟩ = some (.int .i64 t) := by first | (simpa using kb1) | (simpa using yb1)
  have yz0 : (w2.drewN nq1).cell? ⟨w.heap.size + 2, 0, none⟩ = some (.int .i64 0) := by first | (simpa using kz0) | (simpa using yz0)
  have yz1 : (w2.drewN nq1).cell? ⟨w.heap.size + 2, 1, none⟩ = some (.int .i64 0) := by first | (simpa using kz1) | (simpa using yz1)
  have zg0 : (w2.drewN nq1).frozen? ⟨w.heap.size + 2, 0, none⟩ = false := by first | (simpa using zf0) | (simpa using zg0)
  have zg1 : (w2.drewN nq1).frozen? ⟨w.heap.size + 2, 1, none⟩ = false := by first | (simpa using zf1) | (simpa using zg1)
  have ylz : w.heap.size + 2 < (w2.drewN nq1).heap.size := by simpa using kzl
  clear ka0 ka1 kal kb0 kb1 kbl kz0 kz1 kzl W2 zf0 zf1 B2_a B2_b B2_z
  generalize w2.drewN nq1 = w3 at *
  go_wp2_with fail
  obtain ⟨w1', w2', w3', w4'⟩ := HB.out
  go_big_quiet ((go_at_call 24; exact quiet_left (ten_any _ _ (by omega) (by omega))))
  rename Nat => nq2
  clear w1' w2' w3' w4'
  have WD2 := Lib.hid (blw_drewN WD1.out nq2)
  have qyz0 : (w3.drewN nq2).cell? ⟨w.heap.size + 2, 0, none⟩ = some (.int .i64 0) := by simpa using yz0
  have qyz1 : (w3.drewN nq2).cell? ⟨w.heap.size + 2, 1, none⟩ = some (.int .i64 0) := by simpa using yz1
  have qzg0 : (w3.drewN nq2).frozen? ⟨w.heap.size + 2, 0, none⟩ = false := by simpa using zg0
  have qzg1 : (w3.drewN nq2).frozen? ⟨w.heap.size + 2, 1, none⟩ = false := by simpa using zg1
  have qlz : w.heap.size + 2 < (w3.drewN nq2).heap.size := by simpa using ylz
  clear WD1 yb0 yb1 yz0 yz1 zg0 zg1 ylz
  generalize w3.drewN nq2 = w4 at *
  go_wp2_with fail
  obtain ⟨w1', w2'⟩ := HC.out
  go_big_quiet ((go_at_call 33; exact quiet_left (size_any _ _ (by omega) (by omega))))
  clear w1' w2'
  go_wp2_with fail
  refine bodyPost_ret (v := .tuple #[.agg #[.int .i64 0, .int .i64 0], .bool false]) (by simp [results, Tryz.results17, go_sem, qyz0, qyz1]) rfl ⟨rfl, ?_⟩
  repeat (first | exact WD2.out | refine blw_drewN ?_ _ | refine Below.setCell ?_ (by simp; omega) _)

set_option maxRecDepth 100000 in
set_option maxHeartbeats 2000000 in
theorem aof_no (a s b t : Int) (w : World) (ha : okD a s) (hb' : okD b t) (hf : ¬ 1000000000000000 / P10 (Dcm.addS s t) + 2 < mag (flo a s + flo b t)) (hn : 1000000000000000 < mag (Dcm.addC a s b t)) :
    Calls Tryz.prog 17 #[.agg #[.int .i64 a, .int .i64 s], .agg #[.int .i64 b, .int .i64 t]] w fun e w' => e = .returned (.tuple #[.agg #[.int .i64 0, .int .i64 0], .bool false]) ∧ Below w.heap.size w w' := by
  have CA := Lib.hid fun w => floor_any a s w ha
  have CB := Lib.hid fun w => floor_any b t w hb'
  have fa := Dcm.flo_bd a s ⟨ha.2.2.1, ha.2.2.2⟩
  have fb := Dcm.flo_bd b t ⟨hb'.2.2.1, hb'.2.2.2⟩
  have ea := Dcm.flo_lef a s
  have eb := Dcm.flo_lef b t
  have aF := Dcm.addC_F a s b t ha hb'
  have xa := Dcm.lef_bd a s
  have xb := Dcm.lef_bd b t
  have ua := Dcm.P10_bd s
  have ub := Dcm.P10_bd t
  have uS := Dcm.P10_bd (Dcm.addS s t)
  have mb := Dcm.mag_bd (flo a s + flo b t)
  have hS : s ≤ Dcm.addS s t ∧ t ≤ Dcm.addS s t ∧ Dcm.addS s t ≤ 9 := by have := ha.2.1; have := hb'.2.1; unfold Dcm.addS; split <;> omega
  have hmx : max s t = Dcm.addS s t := by unfold Dcm.addS; split <;> omega
  have qb : 0 ≤ 1000000000000000 / P10 (Dcm.addS s t) := Int.ediv_nonneg (by omega) (by omega)
  have qb1 : 1000000000000000 / P10 (Dcm.addS s t) ≤ 1000000000000000 := Int.ediv_le_self _ (by omega)
  have nr := Dcm.add_near (flo a s) (flo b t) (P10 (Dcm.addS s t)) uS.1 uS.2 hf
  obtain ⟨s0, s9, a0, a1⟩ := ha
  obtain ⟨t0, t9, b0, b1⟩ := hb'
  obtain ⟨aF1, aF2, aF3, aF4, aF5⟩ := aF
  generalize Dcm.addC a s b t = V at *
  generalize Dcm.addS s t = S at *
  generalize flo a s = X at *
  generalize flo b t = Y at *
  generalize lef a s = p at *
  generalize lef b t = q at *
  have ha1 : a - X * P10 s = p := by omega
  have hb1 : b - Y * P10 t = q := by omega
  have w1 : IntKind.i64.wrap (X * P10 s) = X * P10 s := IntWalk.i64_in _ (by omega)
  have w2 : IntKind.i64.wrap (a - X * P10 s) = p := by rw [IntWalk.i64_in _ (by omega)]; exact ha1
  have w3 : IntKind.i64.wrap (p * P10 (S - s)) = p * P10 (S - s) := IntWalk.i64_in _ (by omega)
  have w4 : IntKind.i64.wrap (Y * P10 t) = Y * P10 t := IntWalk.i64_in _ (by omega)
  have w5 : IntKind.i64.wrap (b - Y * P10 t) = q := by rw [IntWalk.i64_in _ (by omega)]; exact hb1
  have w6 : IntKind.i64.wrap (q * P10 (S - t)) = q * P10 (S - t) := IntWalk.i64_in _ (by omega)
  have w7 : IntKind.i64.wrap (S - s) = S - s := IntWalk.i64_in _ (by omega)
  have w8 : IntKind.i64.wrap (S - t) = S - t := IntWalk.i64_in _ (by omega)
  have w9 : IntKind.i64.wrap (X + Y) = X + Y := IntWalk.i64_in _ (by omega)
  have wa : IntKind.i64.wrap (1000000000000000 / P10 S + 2) = 1000000000000000 / P10 S + 2 := IntWalk.i64_in _ (by omega)
  have HA := Lib.hid (And.intro w1 (And.intro w2 (And.intro w3 w7)))
  have HB := Lib.hid (And.intro w4 (And.intro w5 (And.intro w6 w8)))
  have HC := Lib.hid (And.intro w9 wa)
  have d1 : decide (1000000000000000 / P10 S + 2 < mag (X + Y)) = false := dec_no hf
  obtain ⟨n0, n1, n2, n3⟩ := nr
  have HV := Lib.hid aF1
  have d2 : decide (1000000000000000 < mag V) = true := dec_yes hn
  have vb : -1000006000000000 ≤ V ∧ V ≤ 1000006000000000 := by omega
  obtain ⟨v0, v1⟩ := vb
  have HM := Lib.hid hmx
  clear w1 w2 w3 w4 w5 w6 w7 w8 w9 wa ha1 hb1 ea eb aF1 hf hmx hn
  go_enter Tryz.func17, Tryz.ntmps17
  have hmx := HM.out
  go_wp2_with fail
  clear hmx
  refine (ten_any _ _ (by omega) (by omega)).mono ?_
  rintro e w' ⟨rfl, rfl⟩
  go_wp2_with fail
  refine (CA.out _).mono ?_
  rintro e w1 ⟨rfl, hb⟩
  have B1_a := Boxed.below (Boxed.alloc (Boxed.alloc (Boxed.made _ #[.int .i64 a, .int .i64 s] 23) _) _) hb
  have B1_b := Boxed.below (Boxed.alloc (Boxed.made _ #[.int .i64 b, .int .i64 t] 23) _) hb
  have B1_z := Boxed.below (Boxed.made _ #[.int .i64 0, .int .i64 0] 23) hb
  have W1 := Lib.hid (blw_trans (blw_trans (blw_trans (blw_trans (Below.refl w.heap.size w) (blw_alloc _ _)) (blw_alloc _ _)) (blw_alloc _ _)) hb)
  clear hb 
  have ka0 := B1_a.cell 0 _ rfl
  have ka1 := B1_a.cell 1 _ rfl
  have kal := B1_a.lt
  try simp at ka0 ka1 kal
  have kb0 := B1_b.cell 0 _ rfl
  have kb1 := B1_b.cell 1 _ rfl
  have kbl := B1_b.lt
  try simp at kb0 kb1 kbl
  have kz0 := B1_z.cell 0 _ rfl
  have kz1 := B1_z.cell 1 _ rfl
  have kzl := B1_z.lt
  try simp at kz0 kz1 kzl
  go_wp2_with fail
  refine (CB.out _).mono ?_
  rintro e w2 ⟨rfl, hb⟩
  clear ka0 ka1 kal kb0 kb1 kbl kz0 kz1 kzl
  have B2_a := B1_a.below hb
  have B2_b := B1_b.below hb
  have B2_z := B1_z.below hb
  have W2 := Lib.hid (blw_trans W1.out hb)
  clear hb B1_a B1_b B1_z W1
  have ka0 := B2_a.cell 0 _ rfl
  have ka1 := B2_a.cell 1 _ rfl
  have kal := B2_a.lt
  try simp at ka0 ka1 kal
  have kb0 := B2_b.cell 0 _ rfl
  have kb1 := B2_b.cell 1 _ rfl
  have kbl := B2_b.lt
  try simp at kb0 kb1 kbl
  have kz0 := B2_z.cell 0 _ rfl
  have kz1 := B2_z.cell 1 _ rfl
  have kzl := B2_z.lt
  try simp at kz0 kz1 kzl
  have zf0 := B2_z.free 0 (by simp)
  have zf1 := B2_z.free 1 (by simp)
  try simp at zf0 zf1
  go_wp2_with fail
  obtain ⟨w1', w2', w3', w4'⟩ := HA.out
  go_big_quiet ((go_at_call 24; exact quiet_left (ten_any _ _ (by omega) (by omega))))
  rename Nat => nq1
  clear w1' w2' w3' w4'
  have WD1 := Lib.hid (blw_drewN W2.out nq1)
  have yb0 : (w2.drewN nq1).cell? ⟨w.heap.size + 1, 0, none⟩ = some (.int .i64 b) := by first | (simpa using kb0) | (simpa using yb0)
  have yb1 : (w2.drewN nq1).cell? ⟨w.heap.size + 1, 1, none⟩ = some (.int .i64 t) := by first | (simpa using kb1) | (simpa using yb1)
  have yz0 : (w2.drewN nq1).cell? ⟨w.heap.size + 2, 0, none⟩ = some (.int .i64 0) := by first | (simpa using kz0) | (simpa using yz0)
  have yz1 : (w2.drewN nq1).cell? ⟨w.heap.size + 2, 1, none⟩ = some (.int .i64 0) := by first | (simpa using kz1) | (simpa using yz1)
  have zg0 : (w2.drewN nq1).frozen? ⟨w.heap.size + 2, 0, none⟩ = false := by first | (simpa using zf0) | (simpa using zg0)
  have zg1 : (w2.drewN nq1).frozen? ⟨w.heap.size + 2, 1, none⟩ = false := by first | (simpa using zf1) | (simpa using zg1)
  have ylz : w.heap.size + 2 < (w2.drewN nq1).heap.size := by simpa using kzl
  clear ka0 ka1 kal kb0 kb1 kbl kz0 kz1 kzl W2 zf0 zf1 B2_a B2_b B2_z
  generalize w2.drewN nq1 = w3 at *
  go_wp2_with fail
  obtain ⟨w1', w2', w3', w4'⟩ := HB.out
  go_big_quiet ((go_at_call 24; exact quiet_left (ten_any _ _ (by omega) (by omega))))
  rename Nat => nq2
  clear w1' w2' w3' w4'
  have WD2 := Lib.hid (blw_drewN WD1.out nq2)
  have qyz0 : (w3.drewN nq2).cell? ⟨w.heap.size + 2, 0, none⟩ = some (.int .i64 0) := by simpa using yz0
  have qyz1 : (w3.drewN nq2).cell? ⟨w.heap.size + 2, 1, none⟩ = some (.int .i64 0) := by simpa using yz1
  have qzg0 : (w3.drewN nq2).frozen? ⟨w.heap.size + 2, 0, none⟩ = false := by simpa using zg0
  have qzg1 : (w3.drewN nq2).frozen? ⟨w.heap.size + 2, 1, none⟩ = false := by simpa using zg1
  have qlz : w.heap.size + 2 < (w3.drewN nq2).heap.size := by simpa using ylz
  clear WD1 yb0 yb1 yz0 yz1 zg0 zg1 ylz
  generalize w3.drewN nq2 = w4 at *
  go_wp2_with fail
  obtain ⟨w1', w2'⟩ := HC.out
  go_big_quiet ((go_at_call 33; exact quiet_left (size_any _ _ (by omega) (by omega))))
  clear w1' w2'
  have hv' := HV.out
  go_wp2_with (go_at_call 33; refine (size_any _ _ (by omega) (by omega)).mono ?_; rintro e w' ⟨rfl, rfl⟩)
  refine bodyPost_ret (v := .tuple #[.agg #[.int .i64 0, .int .i64 0], .bool false]) (by simp [results, Tryz.results17, go_sem, qyz0, qyz1]) rfl ⟨rfl, ?_⟩
  repeat (first | exact WD2.out | refine blw_drewN ?_ _ | refine Below.setCell ?_ (by simp; omega) _)

set_option maxRecDepth 100000 in
set_option maxHeartbeats 2000000 in
theorem aof_ok (a s b t : Int) (w : World) (ha : okD a s) (hb' : okD b t) (hf : ¬ 1000000000000000 / P10 (Dcm.addS s t) + 2 < mag (flo a s + flo b t)) (hn : ¬ 1000000000000000 < mag (Dcm.addC a s b t)) :
    Calls Tryz.prog 17 #[.agg #[.int .i64 a, .int .i64 s], .agg #[.int .i64 b, .int .i64 t]] w fun e w' => e = .returned (.tuple #[.agg #[.int .i64 (Dcm.addC a s b t), .int .i64 (Dcm.addS s t)], .bool true]) ∧ Below w.heap.size w w' := by
  have CA := Lib.hid fun w => floor_any a s w ha
  have CB := Lib.hid fun w => floor_any b t w hb'
  have fa := Dcm.flo_bd a s ⟨ha.2.2.1, ha.2.2.2⟩
  have fb := Dcm.flo_bd b t ⟨hb'.2.2.1, hb'.2.2.2⟩
  have ea := Dcm.flo_lef a s
  have eb := Dcm.flo_lef b t
  have aF := Dcm.addC_F a s b t ha hb'
  have xa := Dcm.lef_bd a s
  have xb := Dcm.lef_bd b t
  have ua := Dcm.P10_bd s
  have ub := Dcm.P10_bd t
  have uS := Dcm.P10_bd (Dcm.addS s t)
  have mb := Dcm.mag_bd (flo a s + flo b t)
  have hS : s ≤ Dcm.addS s t ∧ t ≤ Dcm.addS s t ∧ Dcm.addS s t ≤ 9 := by have := ha.2.1; have := hb'.2.1; unfold Dcm.addS; split <;> omega
  have hmx : max s t = Dcm.addS s t := by unfold Dcm.addS; split <;> omega
  have qb : 0 ≤ 1000000000000000 / P10 (Dcm.addS s t) := Int.ediv_nonneg (by omega) (by omega)
  have qb1 : 1000000000000000 / P10 (Dcm.addS s t) ≤ 1000000000000000 := Int.ediv_le_self _ (by omega)
  have nr := Dcm.add_near (flo a s) (flo b t) (P10 (Dcm.addS s t)) uS.1 uS.2 hf
  obtain ⟨s0, s9, a0, a1⟩ := ha
  obtain ⟨t0, t9, b0, b1⟩ := hb'
  obtain ⟨aF1, aF2, aF3, aF4, aF5⟩ := aF
  generalize Dcm.addC a s b t = V at *
  generalize Dcm.addS s t = S at *
  generalize flo a s = X at *
  generalize flo b t = Y at *
  generalize lef a s = p at *
  generalize lef b t = q at *
  have ha1 : a - X * P10 s = p := by omega
  have hb1 : b - Y * P10 t = q := by omega
  have w1 : IntKind.i64.wrap (X * P10 s) = X * P10 s := IntWalk.i64_in _ (by omega)
  have w2 : IntKind.i64.wrap (a - X * P10 s) = p := by rw [IntWalk.i64_in _ (by omega)]; exact ha1
  have w3 : IntKind.i64.wrap (p * P10 (S - s)) = p * P10 (S - s) := IntWalk.i64_in _ (by omega)
  have w4 : IntKind.i64.wrap (Y * P10 t) = Y * P10 t := IntWalk.i64_in _ (by omega)
  have w5 : IntKind.i64.wrap (b - Y * P10 t) = q := by rw [IntWalk.i64_in _ (by omega)]; exact hb1
  have w6 : IntKind.i64.wrap (q * P10 (S - t)) = q * P10 (S - t) := IntWalk.i64_in _ (by omega)
  have w7 : IntKind.i64.wrap (S - s) = S - s := IntWalk.i64_in _ (by omega)
  have w8 : IntKind.i64.wrap (S - t) = S - t := IntWalk.i64_in _ (by omega)
  have w9 : IntKind.i64.wrap (X + Y) = X + Y := IntWalk.i64_in _ (by omega)
  have wa : IntKind.i64.wrap (1000000000000000 / P10 S + 2) = 1000000000000000 / P10 S + 2 := IntWalk.i64_in _ (by omega)
  have HA := Lib.hid (And.intro w1 (And.intro w2 (And.intro w3 w7)))
  have HB := Lib.hid (And.intro w4 (And.intro w5 (And.intro w6 w8)))
  have HC := Lib.hid (And.intro w9 wa)
  have d1 : decide (1000000000000000 / P10 S + 2 < mag (X + Y)) = false := dec_no hf
  obtain ⟨n0, n1, n2, n3⟩ := nr
  have HV := Lib.hid aF1
  have d2 : decide (1000000000000000 < mag V) = false := dec_no hn
  have vb : -1000006000000000 ≤ V ∧ V ≤ 1000006000000000 := by omega
  obtain ⟨v0, v1⟩ := vb
  have HM := Lib.hid hmx
  clear w1 w2 w3 w4 w5 w6 w7 w8 w9 wa ha1 hb1 ea eb aF1 hf hmx hn
  go_enter Tryz.func17, Tryz.ntmps17
  have hmx := HM.out
  go_wp2_with fail
  clear hmx
  refine (ten_any _ _ (by omega) (by omega)).mono ?_
  rintro e w' ⟨rfl, rfl⟩
  go_wp2_with fail
  refine (CA.out _).mono ?_
  rintro e w1 ⟨rfl, hb⟩
  have B1_a := Boxed.below (Boxed.alloc (Boxed.alloc (Boxed.made _ #[.int .i64 a, .int .i64 s] 23) _) _) hb
  have B1_b := Boxed.below (Boxed.alloc (Boxed.made _ #[.int .i64 b, .int .i64 t] 23) _) hb
  have B1_z := Boxed.below (Boxed.made _ #[.int .i64 0, .int .i64 0] 23) hb
  have W1 := Lib.hid (blw_trans (blw_trans (blw_trans (blw_trans (Below.refl w.heap.size w) (blw_alloc _ _)) (blw_alloc _ _)) (blw_alloc _ _)) hb)
  clear hb 
  have ka0 := B1_a.cell 0 _ rfl
  have ka1 := B1_a.cell 1 _ rfl
  have kal := B1_a.lt
  try simp at ka0 ka1 kal
  have kb0 := B1_b.cell 0 _ rfl
  have kb1 := B1_b.cell 1 _ rfl
  have kbl := B1_b.lt
  try simp at kb0 kb1 kbl
  have kz0 := B1_z.cell 0 _ rfl
  have kz1 := B1_z.cell 1 _ rfl
  have kzl := B1_z.lt
  try simp at kz0 kz1 kzl
  go_wp2_with fail
  refine (CB.out _).mono ?_
  rintro e w2 ⟨rfl, hb⟩
  clear ka0 ka1 kal kb0 kb1 kbl kz0 kz1 kzl
  have B2_a := B1_a.below hb
  have B2_b := B1_b.below hb
  have B2_z := B1_z.below hb
  have W2 := Lib.hid (blw_trans W1.out hb)
  clear hb B1_a B1_b B1_z W1
  have ka0 := B2_a.cell 0 _ rfl
  have ka1 := B2_a.cell 1 _ rfl
  have kal := B2_a.lt
  try simp at ka0 ka1 kal
  have kb0 := B2_b.cell 0 _ rfl
  have kb1 := B2_b.cell 1 _ rfl
  have kbl := B2_b.lt
  try simp at kb0 kb1 kbl
  have kz0 := B2_z.cell 0 _ rfl
  have kz1 := B2_z.cell 1 _ rfl
  have kzl := B2_z.lt
  try simp at kz0 kz1 kzl
  have zf0 := B2_z.free 0 (by simp)
  have zf1 := B2_z.free 1 (by simp)
  try simp at zf0 zf1
  go_wp2_with fail
  obtain ⟨w1', w2', w3', w4'⟩ := HA.out
  go_big_quiet ((go_at_call 24; exact quiet_left (ten_any _ _ (by omega) (by omega))))
  rename Nat => nq1
  clear w1' w2' w3' w4'
  have WD1 := Lib.hid (blw_drewN W2.out nq1)
  have yb0 : (w2.drewN nq1).cell? ⟨w.heap.size + 1, 0, none⟩ = some (.int .i64 b) := by first | (simpa using kb0) | (simpa using yb0)
  have yb1 : (w2.drewN nq1).cell? ⟨w.heap.size + 1, 1, none⟩ = some (.int .i64 t) := by first | (simpa using kb1) | (simpa using yb1)
  have yz0 : (w2.drewN nq1).cell? ⟨w.heap.size + 2, 0, none⟩ = some (.int .i64 0) := by first | (simpa using kz0) | (simpa using yz0)
  have yz1 : (w2.drewN nq1).cell? ⟨w.heap.size + 2, 1, none⟩ = some (.int .i64 0) := by first | (simpa using kz1) | (simpa using yz1)
  have zg0 : (w2.drewN nq1).frozen? ⟨w.heap.size + 2, 0, none⟩ = false := by first | (simpa using zf0) | (simpa using zg0)
  have zg1 : (w2.drewN nq1).frozen? ⟨w.heap.size + 2, 1, none⟩ = false := by first | (simpa using zf1) | (simpa using zg1)
  have ylz : w.heap.size + 2 < (w2.drewN nq1).heap.size := by simpa using kzl
  clear ka0 ka1 kal kb0 kb1 kbl kz0 kz1 kzl W2 zf0 zf1 B2_a B2_b B2_z
  generalize w2.drewN nq1 = w3 at *
  go_wp2_with fail
  obtain ⟨w1', w2', w3', w4'⟩ := HB.out
  go_big_quiet ((go_at_call 24; exact quiet_left (ten_any _ _ (by omega) (by omega))))
  rename Nat => nq2
  clear w1' w2' w3' w4'
  have WD2 := Lib.hid (blw_drewN WD1.out nq2)
  have qyz0 : (w3.drewN nq2).cell? ⟨w.heap.size + 2, 0, none⟩ = some (.int .i64 0) := by simpa using yz0
  have qyz1 : (w3.drewN nq2).cell? ⟨w.heap.size + 2, 1, none⟩ = some (.int .i64 0) := by simpa using yz1
  have qzg0 : (w3.drewN nq2).frozen? ⟨w.heap.size + 2, 0, none⟩ = false := by simpa using zg0
  have qzg1 : (w3.drewN nq2).frozen? ⟨w.heap.size + 2, 1, none⟩ = false := by simpa using zg1
  have qlz : w.heap.size + 2 < (w3.drewN nq2).heap.size := by simpa using ylz
  clear WD1 yb0 yb1 yz0 yz1 zg0 zg1 ylz
  generalize w3.drewN nq2 = w4 at *
  go_wp2_with fail
  obtain ⟨w1', w2'⟩ := HC.out
  go_big_quiet ((go_at_call 33; exact quiet_left (size_any _ _ (by omega) (by omega))))
  clear w1' w2'
  have hv' := HV.out
  go_wp2_with (go_at_call 33; refine (size_any _ _ (by omega) (by omega)).mono ?_; rintro e w' ⟨rfl, rfl⟩)
  refine bodyPost_ret (v := .tuple #[.agg #[.int .i64 V, .int .i64 S], .bool true]) (by simp [results, Tryz.results17, go_sem, qyz0, qyz1]) rfl ⟨rfl, ?_⟩
  repeat (first | exact WD2.out | refine blw_drewN ?_ _ | refine Below.setCell ?_ (by simp; omega) _)

theorem aof_yes (a s b t : Int) (w : World) (h : addOk a s b t) :
    Calls Tryz.prog 17 #[.agg #[.int .i64 a, .int .i64 s], .agg #[.int .i64 b, .int .i64 t]] w fun e w' => e = .returned (.tuple #[.agg #[.int .i64 (Dcm.addC a s b t), .int .i64 (Dcm.addS s t)], .bool true]) ∧ Below w.heap.size w w' := by
  obtain ⟨ha, hb, h1, h2⟩ := h
  have hn : ¬ 1000000000000000 < mag (Dcm.addC a s b t) := by unfold mag; split <;> omega
  refine aof_ok a s b t w ha hb (fun hf => hn ?_) hn
  have F := Dcm.addC_F a s b t ha hb
  have := Dcm.add_far (flo a s) (flo b t) _ _ (P10 (Dcm.addS s t)) (Dcm.P10_bd _).1 ⟨F.2.1, F.2.2.1⟩ ⟨F.2.2.2.1, F.2.2.2.2⟩ hf
  rwa [F.1] at this
theorem aof_bad (a s b t : Int) (w : World) (ha : okD a s) (hb : okD b t) (h : ¬ addOk a s b t) :
    Calls Tryz.prog 17 #[.agg #[.int .i64 a, .int .i64 s], .agg #[.int .i64 b, .int .i64 t]] w fun e w' => e = .returned (.tuple #[.agg #[.int .i64 0, .int .i64 0], .bool false]) ∧ Below w.heap.size w w' := by
  by_cases hf : 1000000000000000 / P10 (Dcm.addS s t) + 2 < mag (flo a s + flo b t)
  · exact aof_far a s b t w ha hb hf
  · exact aof_no a s b t w ha hb hf (by
      rcases Int.lt_or_le 1000000000000000 (mag (Dcm.addC a s b t)) with g | g
      · exact g
      · exact absurd ⟨ha, hb, by unfold mag at g; split at g <;> omega, by unfold mag at g; split at g <;> omega⟩ h)
end Go.Proofs.YtdmenoimamnldaaGreatDoor
