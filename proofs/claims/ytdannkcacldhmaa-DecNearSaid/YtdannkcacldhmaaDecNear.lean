/- The walk of the law DecNear: it returns true of whatever number, scale and way. -/
import Derived.Test.YtdannkcacldhmaaDecMore
namespace Go.Proofs.Ytdannkcacldhmaa
open Go.RowKit
open Dcm (P10 okD nrm)

set_option maxRecDepth 100000 in
set_option maxHeartbeats 4000000 in
theorem near_err (c s t way : Int) (w : World) (h : rndE c s t way ≠ 0) :
    Calls Try.prog 7 #[.agg #[.int .i64 c, .int .i64 s], .int .i64 t, .int .i64 way] w fun e w' => e = .returned (.bool true) ∧ Below w.heap.size w w' := by
  have C1 := Lib.hid fun w => round_no c s t way w h
  clear h
  generalize rndE c s t way = en at *
  go_enter Try.func7, Try.ntmps7
  go_wp2_with fail
  refine (half_any _).mono ?_
  rintro e w1 ⟨rfl, hb⟩
  have B1_d := Boxed.below (Boxed.made _ #[.int .i64 c, .int .i64 s] 30) hb
  have W1 := Lib.hid (blw_trans (blw_trans (Below.refl w.heap.size w) (blw_alloc _ _)) hb)
  clear hb 
  have kd0 := B1_d.cell 0 _ rfl
  have kd1 := B1_d.cell 1 _ rfl
  have kdl := B1_d.lt
  try simp at kd0 kd1 kdl
  go_wp2_with fail
  refine (C1.out _).mono ?_
  rintro e w2 ⟨rfl, hb⟩
  clear kd0 kd1 kdl
  have B2_d := B1_d.below hb
  have W2 := Lib.hid (blw_trans W1.out hb)
  clear hb B1_d W1
  clear B2_d
  go_wp2
  go_ret
  exact ⟨ret_bool (by simp), (blw_trans W2.out (blw_alloc _ _))⟩

set_option maxRecDepth 100000 in
set_option maxHeartbeats 4000000 in
theorem near_up (c s t way : Int) (w : World) (h : rndE c s t way = 0) (hst : s ≤ t) :
    Calls Try.prog 7 #[.agg #[.int .i64 c, .int .i64 s], .int .i64 t, .int .i64 way] w fun e w' => e = .returned (.bool true) ∧ Below w.heap.size w w' := by
  obtain ⟨oa, t0, t1, w0, w1, _⟩ := rndE_zero.1 h
  have ok := rndC_ok h
  have C1 := Lib.hid fun w => round_yes c s t way w h
  have ag := rnd_again (way := way) ok w0 w1
  have c2 := fun w => round_yes (Dcm.rndC c s t way) t t way w ag.1
  rw [ag.2] at c2
  have C2 := Lib.hid c2
  have e1 : nrm (Dcm.rndC c s t way) t = nrm c s := by
    have e : Dcm.rndC c s t way = c * P10 (t - s) := by unfold Dcm.rndC; rw [if_pos hst]
    rw [e]; exact Dcm.nrm_up c s t oa.1 hst t1
  have C3 := Lib.hid fun w => same_yes _ t c s w ok oa e1
  generalize Dcm.rndC c s t way = r at *
  clear c2 ag ok oa e1 h
  go_enter Try.func7, Try.ntmps7
  go_wp2_with fail
  refine (half_any _).mono ?_
  rintro e w1 ⟨rfl, hb⟩
  have B1_d := Boxed.below (Boxed.made _ #[.int .i64 c, .int .i64 s] 30) hb
  have W1 := Lib.hid (blw_trans (blw_trans (Below.refl w.heap.size w) (blw_alloc _ _)) hb)
  clear hb 
  have kd0 := B1_d.cell 0 _ rfl
  have kd1 := B1_d.cell 1 _ rfl
  have kdl := B1_d.lt
  try simp at kd0 kd1 kdl
  go_wp2_with fail
  refine (C1.out _).mono ?_
  rintro e w2 ⟨rfl, hb⟩
  clear kd0 kd1 kdl
  have B2_d := B1_d.below hb
  have W2 := Lib.hid (blw_trans W1.out hb)
  clear hb B1_d W1
  have kd0 := B2_d.cell 0 _ rfl
  have kd1 := B2_d.cell 1 _ rfl
  have kdl := B2_d.lt
  try simp at kd0 kd1 kdl
  go_wp2_with fail
  refine (C2.out _).mono ?_
  rintro e w3 ⟨rfl, hb⟩
  clear kd0 kd1 kdl
  have B3_d := (B2_d.alloc _).below hb
  have B3_r := Boxed.below (Boxed.made _ #[.int .i64 r, .int .i64 t] 30) hb
  have W3 := Lib.hid (blw_trans (blw_trans W2.out (blw_alloc _ _)) hb)
  clear hb B2_d W2
  have kd0 := B3_d.cell 0 _ rfl
  have kd1 := B3_d.cell 1 _ rfl
  have kdl := B3_d.lt
  try simp at kd0 kd1 kdl
  have kr0 := B3_r.cell 0 _ rfl
  have kr1 := B3_r.cell 1 _ rfl
  have krl := B3_r.lt
  try simp at kr0 kr1 krl
  go_wp2_with fail
  refine (C3.out _).mono ?_
  rintro e w4 ⟨rfl, hb⟩
  clear kd0 kd1 kdl kr0 kr1 krl
  have B4_d := (B3_d.alloc _).below hb
  have B4_r := (B3_r.alloc _).below hb
  have B4_g := Boxed.below (Boxed.made _ #[.int .i64 r, .int .i64 t] 30) hb
  have W4 := Lib.hid (blw_trans (blw_trans W3.out (blw_alloc _ _)) hb)
  clear hb B3_d B3_r W3
  clear B4_d B4_r B4_g
  go_wp2
  go_ret
  exact ⟨ret_bool (by simp), W4.out⟩

set_option maxRecDepth 100000 in
set_option maxHeartbeats 4000000 in
theorem near_dn1p (c s t way : Int) (w : World) (hw : way = 1) (h : rndE c s t 1 = 0) (hst : t < s) (h1 : 0 ≤ c) (h2 : 0 ≤ c - Dcm.rndC c s t 1 * P10 (s - t)) :
    Calls Try.prog 7 #[.agg #[.int .i64 c, .int .i64 s], .int .i64 t, .int .i64 way] w fun e w' => e = .returned (.bool true) ∧ Below w.heap.size w w' := by
  subst hw
  obtain ⟨oa, t0, t1, w0, w1, _⟩ := rndE_zero.1 h
  have nf := Dcm.near_facts c s t 1 oa.2.2 oa.2.1 t0 hst w0 w1
  have ok := rndC_ok h
  have C1 := Lib.hid fun w => round_yes c s t 1 w h
  have ag := rnd_again (way := 1) ok w0 w1
  have c2 := fun w => round_yes (Dcm.rndC c s t 1) t t 1 w ag.1
  rw [ag.2] at c2
  have C2 := Lib.hid c2
  have u0 := Dcm.P10_bd (s - t)
  have ea : Dcm.addC c s (-Dcm.rndC c s t 1) t = c - Dcm.rndC c s t 1 * P10 (s - t) := by
    unfold Dcm.addC; rw [if_neg (by omega), Int.neg_mul]; omega
  have es : Dcm.addS s t = s := by unfold Dcm.addS; rw [if_neg (by omega)]
  have hm : -1000000000 ≤ c - Dcm.rndC c s t 1 * P10 (s - t) ∧ c - Dcm.rndC c s t 1 * P10 (s - t) ≤ 1000000000 := by
    have := nf.2.2.1; unfold Dcm.mag at this; split at this <;> omega
  have c3 := fun w => add_yes c s (-Dcm.rndC c s t 1) t w ⟨oa, ⟨t0, t1, by have := ok.2.2; omega, by have := ok.2.2; omega⟩, by rw [ea]; omega, by rw [ea]; omega⟩
  rw [ea, es] at c3
  have C3 := Lib.hid c3
  have C4 := Lib.hid fun w => ten_any (s - t) w (by omega) (by have := oa.2.1; omega)
  have C5 := Lib.hid fun w => size_any (c - Dcm.rndC c s t 1 * P10 (s - t)) w (by omega) (by omega)
  generalize c - Dcm.rndC c s t 1 * P10 (s - t) = O at *
  generalize Dcm.rndC c s t 1 = r at *
  generalize P10 (s - t) = U at *
  obtain ⟨n0, n1, n2, n3, n4, n5, n6, n7⟩ := nf
  have mb := Dcm.mag_bd O
  generalize Dcm.mag O = M at *
  obtain ⟨s0, s1, c0, c1⟩ := oa
  clear n3 n4 n5 n6 n7 ok ag c2 ea es c3 h
  go_enter Try.func7, Try.ntmps7
  go_wp2_with fail
  refine (half_any _).mono ?_
  rintro e w1 ⟨rfl, hb⟩
  have B1_d := Boxed.below (Boxed.made _ #[.int .i64 c, .int .i64 s] 30) hb
  have W1 := Lib.hid (blw_trans (blw_trans (Below.refl w.heap.size w) (blw_alloc _ _)) hb)
  clear hb 
  have kd0 := B1_d.cell 0 _ rfl
  have kd1 := B1_d.cell 1 _ rfl
  have kdl := B1_d.lt
  try simp at kd0 kd1 kdl
  go_wp2_with fail
  refine (C1.out _).mono ?_
  rintro e w2 ⟨rfl, hb⟩
  clear kd0 kd1 kdl
  have B2_d := B1_d.below hb
  have W2 := Lib.hid (blw_trans W1.out hb)
  clear hb B1_d W1
  have kd0 := B2_d.cell 0 _ rfl
  have kd1 := B2_d.cell 1 _ rfl
  have kdl := B2_d.lt
  try simp at kd0 kd1 kdl
  go_wp2_with fail
  refine (C2.out _).mono ?_
  rintro e w3 ⟨rfl, hb⟩
  clear kd0 kd1 kdl
  have B3_d := (B2_d.alloc _).below hb
  have B3_r := Boxed.below (Boxed.made _ #[.int .i64 r, .int .i64 t] 30) hb
  have W3 := Lib.hid (blw_trans (blw_trans W2.out (blw_alloc _ _)) hb)
  clear hb B2_d W2
  have kd0 := B3_d.cell 0 _ rfl
  have kd1 := B3_d.cell 1 _ rfl
  have kdl := B3_d.lt
  try simp at kd0 kd1 kdl
  have kr0 := B3_r.cell 0 _ rfl
  have kr1 := B3_r.cell 1 _ rfl
  have krl := B3_r.lt
  try simp at kr0 kr1 krl
  go_wp2_with fail
  refine (C3.out _).mono ?_
  rintro e w4 ⟨rfl, hb⟩
  clear kd0 kd1 kdl kr0 kr1 krl
  have B4_d := (B3_d.alloc _).below hb
  have B4_r := (B3_r.alloc _).below hb
  have B4_g := Boxed.below (Boxed.made _ #[.int .i64 r, .int .i64 t] 30) hb
  have W4 := Lib.hid (blw_trans (blw_trans W3.out (blw_alloc _ _)) hb)
  clear hb B3_d B3_r W3
  have kd0 := B4_d.cell 0 _ rfl
  have kd1 := B4_d.cell 1 _ rfl
  have kdl := B4_d.lt
  try simp at kd0 kd1 kdl
  have kr0 := B4_r.cell 0 _ rfl
  have kr1 := B4_r.cell 1 _ rfl
  have krl := B4_r.lt
  try simp at kr0 kr1 krl
  go_wp2_with (first | (go_at_call 14; refine (C4.out _).mono ?_; rintro e w' ⟨rfl, rfl⟩) | (go_at_call 15; refine (C5.out _).mono ?_; rintro e w' ⟨rfl, rfl⟩))
  all_goals
    go_ret
    exact ⟨ret_bool (by simp), (blw_trans W4.out (blw_alloc _ _))⟩

set_option maxRecDepth 100000 in
set_option maxHeartbeats 4000000 in
theorem near_dn1n (c s t way : Int) (w : World) (hw : way = 1) (h : rndE c s t 1 = 0) (hst : t < s) (h1 : c ≤ 0) (h2 : c - Dcm.rndC c s t 1 * P10 (s - t) ≤ 0) :
    Calls Try.prog 7 #[.agg #[.int .i64 c, .int .i64 s], .int .i64 t, .int .i64 way] w fun e w' => e = .returned (.bool true) ∧ Below w.heap.size w w' := by
  subst hw
  obtain ⟨oa, t0, t1, w0, w1, _⟩ := rndE_zero.1 h
  have nf := Dcm.near_facts c s t 1 oa.2.2 oa.2.1 t0 hst w0 w1
  have ok := rndC_ok h
  have C1 := Lib.hid fun w => round_yes c s t 1 w h
  have ag := rnd_again (way := 1) ok w0 w1
  have c2 := fun w => round_yes (Dcm.rndC c s t 1) t t 1 w ag.1
  rw [ag.2] at c2
  have C2 := Lib.hid c2
  have u0 := Dcm.P10_bd (s - t)
  have ea : Dcm.addC c s (-Dcm.rndC c s t 1) t = c - Dcm.rndC c s t 1 * P10 (s - t) := by
    unfold Dcm.addC; rw [if_neg (by omega), Int.neg_mul]; omega
  have es : Dcm.addS s t = s := by unfold Dcm.addS; rw [if_neg (by omega)]
  have hm : -1000000000 ≤ c - Dcm.rndC c s t 1 * P10 (s - t) ∧ c - Dcm.rndC c s t 1 * P10 (s - t) ≤ 1000000000 := by
    have := nf.2.2.1; unfold Dcm.mag at this; split at this <;> omega
  have c3 := fun w => add_yes c s (-Dcm.rndC c s t 1) t w ⟨oa, ⟨t0, t1, by have := ok.2.2; omega, by have := ok.2.2; omega⟩, by rw [ea]; omega, by rw [ea]; omega⟩
  rw [ea, es] at c3
  have C3 := Lib.hid c3
  have C4 := Lib.hid fun w => ten_any (s - t) w (by omega) (by have := oa.2.1; omega)
  have C5 := Lib.hid fun w => size_any (c - Dcm.rndC c s t 1 * P10 (s - t)) w (by omega) (by omega)
  generalize c - Dcm.rndC c s t 1 * P10 (s - t) = O at *
  generalize Dcm.rndC c s t 1 = r at *
  generalize P10 (s - t) = U at *
  obtain ⟨n0, n1, n2, n3, n4, n5, n6, n7⟩ := nf
  have mb := Dcm.mag_bd O
  generalize Dcm.mag O = M at *
  obtain ⟨s0, s1, c0, c1⟩ := oa
  clear n3 n4 n5 n6 n7 ok ag c2 ea es c3 h
  go_enter Try.func7, Try.ntmps7
  go_wp2_with fail
  refine (half_any _).mono ?_
  rintro e w1 ⟨rfl, hb⟩
  have B1_d := Boxed.below (Boxed.made _ #[.int .i64 c, .int .i64 s] 30) hb
  have W1 := Lib.hid (blw_trans (blw_trans (Below.refl w.heap.size w) (blw_alloc _ _)) hb)
  clear hb 
  have kd0 := B1_d.cell 0 _ rfl
  have kd1 := B1_d.cell 1 _ rfl
  have kdl := B1_d.lt
  try simp at kd0 kd1 kdl
  go_wp2_with fail
  refine (C1.out _).mono ?_
  rintro e w2 ⟨rfl, hb⟩
  clear kd0 kd1 kdl
  have B2_d := B1_d.below hb
  have W2 := Lib.hid (blw_trans W1.out hb)
  clear hb B1_d W1
  have kd0 := B2_d.cell 0 _ rfl
  have kd1 := B2_d.cell 1 _ rfl
  have kdl := B2_d.lt
  try simp at kd0 kd1 kdl
  go_wp2_with fail
  refine (C2.out _).mono ?_
  rintro e w3 ⟨rfl, hb⟩
  clear kd0 kd1 kdl
  have B3_d := (B2_d.alloc _).below hb
  have B3_r := Boxed.below (Boxed.made _ #[.int .i64 r, .int .i64 t] 30) hb
  have W3 := Lib.hid (blw_trans (blw_trans W2.out (blw_alloc _ _)) hb)
  clear hb B2_d W2
  have kd0 := B3_d.cell 0 _ rfl
  have kd1 := B3_d.cell 1 _ rfl
  have kdl := B3_d.lt
  try simp at kd0 kd1 kdl
  have kr0 := B3_r.cell 0 _ rfl
  have kr1 := B3_r.cell 1 _ rfl
  have krl := B3_r.lt
  try simp at kr0 kr1 krl
  go_wp2_with fail
  refine (C3.out _).mono ?_
  rintro e w4 ⟨rfl, hb⟩
  clear kd0 kd1 kdl kr0 kr1 krl
  have B4_d := (B3_d.alloc _).below hb
  have B4_r := (B3_r.alloc _).below hb
  have B4_g := Boxed.below (Boxed.made _ #[.int .i64 r, .int .i64 t] 30) hb
  have W4 := Lib.hid (blw_trans (blw_trans W3.out (blw_alloc _ _)) hb)
  clear hb B3_d B3_r W3
  have kd0 := B4_d.cell 0 _ rfl
  have kd1 := B4_d.cell 1 _ rfl
  have kdl := B4_d.lt
  try simp at kd0 kd1 kdl
  have kr0 := B4_r.cell 0 _ rfl
  have kr1 := B4_r.cell 1 _ rfl
  have krl := B4_r.lt
  try simp at kr0 kr1 krl
  go_wp2_with (first | (go_at_call 14; refine (C4.out _).mono ?_; rintro e w' ⟨rfl, rfl⟩) | (go_at_call 15; refine (C5.out _).mono ?_; rintro e w' ⟨rfl, rfl⟩))
  all_goals
    go_ret
    exact ⟨ret_bool (by simp), (blw_trans W4.out (blw_alloc _ _))⟩

set_option maxRecDepth 100000 in
set_option maxHeartbeats 4000000 in
theorem near_dn2 (c s t way : Int) (w : World) (hw : way = 2) (h : rndE c s t 2 = 0) (hst : t < s)  :
    Calls Try.prog 7 #[.agg #[.int .i64 c, .int .i64 s], .int .i64 t, .int .i64 way] w fun e w' => e = .returned (.bool true) ∧ Below w.heap.size w w' := by
  subst hw
  obtain ⟨oa, t0, t1, w0, w1, _⟩ := rndE_zero.1 h
  have nf := Dcm.near_facts c s t 2 oa.2.2 oa.2.1 t0 hst w0 w1
  have ok := rndC_ok h
  have C1 := Lib.hid fun w => round_yes c s t 2 w h
  have ag := rnd_again (way := 2) ok w0 w1
  have c2 := fun w => round_yes (Dcm.rndC c s t 2) t t 2 w ag.1
  rw [ag.2] at c2
  have C2 := Lib.hid c2
  have u0 := Dcm.P10_bd (s - t)
  have ea : Dcm.addC c s (-Dcm.rndC c s t 2) t = c - Dcm.rndC c s t 2 * P10 (s - t) := by
    unfold Dcm.addC; rw [if_neg (by omega), Int.neg_mul]; omega
  have es : Dcm.addS s t = s := by unfold Dcm.addS; rw [if_neg (by omega)]
  have hm : -1000000000 ≤ c - Dcm.rndC c s t 2 * P10 (s - t) ∧ c - Dcm.rndC c s t 2 * P10 (s - t) ≤ 1000000000 := by
    have := nf.2.2.1; unfold Dcm.mag at this; split at this <;> omega
  have c3 := fun w => add_yes c s (-Dcm.rndC c s t 2) t w ⟨oa, ⟨t0, t1, by have := ok.2.2; omega, by have := ok.2.2; omega⟩, by rw [ea]; omega, by rw [ea]; omega⟩
  rw [ea, es] at c3
  have C3 := Lib.hid c3
  have C4 := Lib.hid fun w => ten_any (s - t) w (by omega) (by have := oa.2.1; omega)
  have C5 := Lib.hid fun w => size_any (c - Dcm.rndC c s t 2 * P10 (s - t)) w (by omega) (by omega)
  generalize c - Dcm.rndC c s t 2 * P10 (s - t) = O at *
  generalize Dcm.rndC c s t 2 = r at *
  generalize P10 (s - t) = U at *
  obtain ⟨n0, n1, n2, n3, n4, n5, n6, n7⟩ := nf
  have n8 := n5 rfl
  have mb := Dcm.mag_bd O
  generalize Dcm.mag O = M at *
  obtain ⟨s0, s1, c0, c1⟩ := oa
  clear n3 n4 n5 n6 n7 ok ag c2 ea es c3 h
  go_enter Try.func7, Try.ntmps7
  go_wp2_with fail
  refine (half_any _).mono ?_
  rintro e w1 ⟨rfl, hb⟩
  have B1_d := Boxed.below (Boxed.made _ #[.int .i64 c, .int .i64 s] 30) hb
  have W1 := Lib.hid (blw_trans (blw_trans (Below.refl w.heap.size w) (blw_alloc _ _)) hb)
  clear hb 
  have kd0 := B1_d.cell 0 _ rfl
  have kd1 := B1_d.cell 1 _ rfl
  have kdl := B1_d.lt
  try simp at kd0 kd1 kdl
  go_wp2_with fail
  refine (C1.out _).mono ?_
  rintro e w2 ⟨rfl, hb⟩
  clear kd0 kd1 kdl
  have B2_d := B1_d.below hb
  have W2 := Lib.hid (blw_trans W1.out hb)
  clear hb B1_d W1
  have kd0 := B2_d.cell 0 _ rfl
  have kd1 := B2_d.cell 1 _ rfl
  have kdl := B2_d.lt
  try simp at kd0 kd1 kdl
  go_wp2_with fail
  refine (C2.out _).mono ?_
  rintro e w3 ⟨rfl, hb⟩
  clear kd0 kd1 kdl
  have B3_d := (B2_d.alloc _).below hb
  have B3_r := Boxed.below (Boxed.made _ #[.int .i64 r, .int .i64 t] 30) hb
  have W3 := Lib.hid (blw_trans (blw_trans W2.out (blw_alloc _ _)) hb)
  clear hb B2_d W2
  have kd0 := B3_d.cell 0 _ rfl
  have kd1 := B3_d.cell 1 _ rfl
  have kdl := B3_d.lt
  try simp at kd0 kd1 kdl
  have kr0 := B3_r.cell 0 _ rfl
  have kr1 := B3_r.cell 1 _ rfl
  have krl := B3_r.lt
  try simp at kr0 kr1 krl
  go_wp2_with fail
  refine (C3.out _).mono ?_
  rintro e w4 ⟨rfl, hb⟩
  clear kd0 kd1 kdl kr0 kr1 krl
  have B4_d := (B3_d.alloc _).below hb
  have B4_r := (B3_r.alloc _).below hb
  have B4_g := Boxed.below (Boxed.made _ #[.int .i64 r, .int .i64 t] 30) hb
  have W4 := Lib.hid (blw_trans (blw_trans W3.out (blw_alloc _ _)) hb)
  clear hb B3_d B3_r W3
  have kd0 := B4_d.cell 0 _ rfl
  have kd1 := B4_d.cell 1 _ rfl
  have kdl := B4_d.lt
  try simp at kd0 kd1 kdl
  have kr0 := B4_r.cell 0 _ rfl
  have kr1 := B4_r.cell 1 _ rfl
  have krl := B4_r.lt
  try simp at kr0 kr1 krl
  go_wp2_with (first | (go_at_call 14; refine (C4.out _).mono ?_; rintro e w' ⟨rfl, rfl⟩) | (go_at_call 15; refine (C5.out _).mono ?_; rintro e w' ⟨rfl, rfl⟩))
  all_goals
    go_ret
    exact ⟨ret_bool (by simp), (blw_trans W4.out (blw_alloc _ _))⟩

set_option maxRecDepth 100000 in
set_option maxHeartbeats 4000000 in
theorem near_dn3 (c s t way : Int) (w : World) (hw : way = 3) (h : rndE c s t 3 = 0) (hst : t < s)  :
    Calls Try.prog 7 #[.agg #[.int .i64 c, .int .i64 s], .int .i64 t, .int .i64 way] w fun e w' => e = .returned (.bool true) ∧ Below w.heap.size w w' := by
  subst hw
  obtain ⟨oa, t0, t1, w0, w1, _⟩ := rndE_zero.1 h
  have nf := Dcm.near_facts c s t 3 oa.2.2 oa.2.1 t0 hst w0 w1
  have ok := rndC_ok h
  have C1 := Lib.hid fun w => round_yes c s t 3 w h
  have ag := rnd_again (way := 3) ok w0 w1
  have c2 := fun w => round_yes (Dcm.rndC c s t 3) t t 3 w ag.1
  rw [ag.2] at c2
  have C2 := Lib.hid c2
  have u0 := Dcm.P10_bd (s - t)
  have ea : Dcm.addC c s (-Dcm.rndC c s t 3) t = c - Dcm.rndC c s t 3 * P10 (s - t) := by
    unfold Dcm.addC; rw [if_neg (by omega), Int.neg_mul]; omega
  have es : Dcm.addS s t = s := by unfold Dcm.addS; rw [if_neg (by omega)]
  have hm : -1000000000 ≤ c - Dcm.rndC c s t 3 * P10 (s - t) ∧ c - Dcm.rndC c s t 3 * P10 (s - t) ≤ 1000000000 := by
    have := nf.2.2.1; unfold Dcm.mag at this; split at this <;> omega
  have c3 := fun w => add_yes c s (-Dcm.rndC c s t 3) t w ⟨oa, ⟨t0, t1, by have := ok.2.2; omega, by have := ok.2.2; omega⟩, by rw [ea]; omega, by rw [ea]; omega⟩
  rw [ea, es] at c3
  have C3 := Lib.hid c3
  have C4 := Lib.hid fun w => ten_any (s - t) w (by omega) (by have := oa.2.1; omega)
  have C5 := Lib.hid fun w => size_any (c - Dcm.rndC c s t 3 * P10 (s - t)) w (by omega) (by omega)
  generalize c - Dcm.rndC c s t 3 * P10 (s - t) = O at *
  generalize Dcm.rndC c s t 3 = r at *
  generalize P10 (s - t) = U at *
  obtain ⟨n0, n1, n2, n3, n4, n5, n6, n7⟩ := nf
  have n8 := n6 rfl
  have mb := Dcm.mag_bd O
  generalize Dcm.mag O = M at *
  obtain ⟨s0, s1, c0, c1⟩ := oa
  clear n3 n4 n5 n6 n7 ok ag c2 ea es c3 h
  go_enter Try.func7, Try.ntmps7
  go_wp2_with fail
  refine (half_any _).mono ?_
  rintro e w1 ⟨rfl, hb⟩
  have B1_d := Boxed.below (Boxed.made _ #[.int .i64 c, .int .i64 s] 30) hb
  have W1 := Lib.hid (blw_trans (blw_trans (Below.refl w.heap.size w) (blw_alloc _ _)) hb)
  clear hb 
  have kd0 := B1_d.cell 0 _ rfl
  have kd1 := B1_d.cell 1 _ rfl
  have kdl := B1_d.lt
  try simp at kd0 kd1 kdl
  go_wp2_with fail
  refine (C1.out _).mono ?_
  rintro e w2 ⟨rfl, hb⟩
  clear kd0 kd1 kdl
  have B2_d := B1_d.below hb
  have W2 := Lib.hid (blw_trans W1.out hb)
  clear hb B1_d W1
  have kd0 := B2_d.cell 0 _ rfl
  have kd1 := B2_d.cell 1 _ rfl
  have kdl := B2_d.lt
  try simp at kd0 kd1 kdl
  go_wp2_with fail
  refine (C2.out _).mono ?_
  rintro e w3 ⟨rfl, hb⟩
  clear kd0 kd1 kdl
  have B3_d := (B2_d.alloc _).below hb
  have B3_r := Boxed.below (Boxed.made _ #[.int .i64 r, .int .i64 t] 30) hb
  have W3 := Lib.hid (blw_trans (blw_trans W2.out (blw_alloc _ _)) hb)
  clear hb B2_d W2
  have kd0 := B3_d.cell 0 _ rfl
  have kd1 := B3_d.cell 1 _ rfl
  have kdl := B3_d.lt
  try simp at kd0 kd1 kdl
  have kr0 := B3_r.cell 0 _ rfl
  have kr1 := B3_r.cell 1 _ rfl
  have krl := B3_r.lt
  try simp at kr0 kr1 krl
  go_wp2_with fail
  refine (C3.out _).mono ?_
  rintro e w4 ⟨rfl, hb⟩
  clear kd0 kd1 kdl kr0 kr1 krl
  have B4_d := (B3_d.alloc _).below hb
  have B4_r := (B3_r.alloc _).below hb
  have B4_g := Boxed.below (Boxed.made _ #[.int .i64 r, .int .i64 t] 30) hb
  have W4 := Lib.hid (blw_trans (blw_trans W3.out (blw_alloc _ _)) hb)
  clear hb B3_d B3_r W3
  have kd0 := B4_d.cell 0 _ rfl
  have kd1 := B4_d.cell 1 _ rfl
  have kdl := B4_d.lt
  try simp at kd0 kd1 kdl
  have kr0 := B4_r.cell 0 _ rfl
  have kr1 := B4_r.cell 1 _ rfl
  have krl := B4_r.lt
  try simp at kr0 kr1 krl
  go_wp2_with (first | (go_at_call 14; refine (C4.out _).mono ?_; rintro e w' ⟨rfl, rfl⟩) | (go_at_call 15; refine (C5.out _).mono ?_; rintro e w' ⟨rfl, rfl⟩))
  all_goals
    go_ret
    exact ⟨ret_bool (by simp), (blw_trans W4.out (blw_alloc _ _))⟩

set_option maxRecDepth 100000 in
set_option maxHeartbeats 4000000 in
theorem near_dn4 (c s t way : Int) (w : World) (hw : way = 4) (h : rndE c s t 4 = 0) (hst : t < s)  :
    Calls Try.prog 7 #[.agg #[.int .i64 c, .int .i64 s], .int .i64 t, .int .i64 way] w fun e w' => e = .returned (.bool true) ∧ Below w.heap.size w w' := by
  subst hw
  obtain ⟨oa, t0, t1, w0, w1, _⟩ := rndE_zero.1 h
  have nf := Dcm.near_facts c s t 4 oa.2.2 oa.2.1 t0 hst w0 w1
  have ok := rndC_ok h
  have C1 := Lib.hid fun w => round_yes c s t 4 w h
  have ag := rnd_again (way := 4) ok w0 w1
  have c2 := fun w => round_yes (Dcm.rndC c s t 4) t t 4 w ag.1
  rw [ag.2] at c2
  have C2 := Lib.hid c2
  have u0 := Dcm.P10_bd (s - t)
  have ea : Dcm.addC c s (-Dcm.rndC c s t 4) t = c - Dcm.rndC c s t 4 * P10 (s - t) := by
    unfold Dcm.addC; rw [if_neg (by omega), Int.neg_mul]; omega
  have es : Dcm.addS s t = s := by unfold Dcm.addS; rw [if_neg (by omega)]
  have hm : -1000000000 ≤ c - Dcm.rndC c s t 4 * P10 (s - t) ∧ c - Dcm.rndC c s t 4 * P10 (s - t) ≤ 1000000000 := by
    have := nf.2.2.1; unfold Dcm.mag at this; split at this <;> omega
  have c3 := fun w => add_yes c s (-Dcm.rndC c s t 4) t w ⟨oa, ⟨t0, t1, by have := ok.2.2; omega, by have := ok.2.2; omega⟩, by rw [ea]; omega, by rw [ea]; omega⟩
  rw [ea, es] at c3
  have C3 := Lib.hid c3
  have C4 := Lib.hid fun w => ten_any (s - t) w (by omega) (by have := oa.2.1; omega)
  have C5 := Lib.hid fun w => size_any (c - Dcm.rndC c s t 4 * P10 (s - t)) w (by omega) (by omega)
  generalize c - Dcm.rndC c s t 4 * P10 (s - t) = O at *
  generalize Dcm.rndC c s t 4 = r at *
  generalize P10 (s - t) = U at *
  obtain ⟨n0, n1, n2, n3, n4, n5, n6, n7⟩ := nf
  have n8 := n3 (by omega)
  have mb := Dcm.mag_bd O
  generalize Dcm.mag O = M at *
  obtain ⟨s0, s1, c0, c1⟩ := oa
  clear n3 n4 n5 n6 n7 ok ag c2 ea es c3 h
  go_enter Try.func7, Try.ntmps7
  go_wp2_with fail
  refine (half_any _).mono ?_
  rintro e w1 ⟨rfl, hb⟩
  have B1_d := Boxed.below (Boxed.made _ #[.int .i64 c, .int .i64 s] 30) hb
  have W1 := Lib.hid (blw_trans (blw_trans (Below.refl w.heap.size w) (blw_alloc _ _)) hb)
  clear hb 
  have kd0 := B1_d.cell 0 _ rfl
  have kd1 := B1_d.cell 1 _ rfl
  have kdl := B1_d.lt
  try simp at kd0 kd1 kdl
  go_wp2_with fail
  refine (C1.out _).mono ?_
  rintro e w2 ⟨rfl, hb⟩
  clear kd0 kd1 kdl
  have B2_d := B1_d.below hb
  have W2 := Lib.hid (blw_trans W1.out hb)
  clear hb B1_d W1
  have kd0 := B2_d.cell 0 _ rfl
  have kd1 := B2_d.cell 1 _ rfl
  have kdl := B2_d.lt
  try simp at kd0 kd1 kdl
  go_wp2_with fail
  refine (C2.out _).mono ?_
  rintro e w3 ⟨rfl, hb⟩
  clear kd0 kd1 kdl
  have B3_d := (B2_d.alloc _).below hb
  have B3_r := Boxed.below (Boxed.made _ #[.int .i64 r, .int .i64 t] 30) hb
  have W3 := Lib.hid (blw_trans (blw_trans W2.out (blw_alloc _ _)) hb)
  clear hb B2_d W2
  have kd0 := B3_d.cell 0 _ rfl
  have kd1 := B3_d.cell 1 _ rfl
  have kdl := B3_d.lt
  try simp at kd0 kd1 kdl
  have kr0 := B3_r.cell 0 _ rfl
  have kr1 := B3_r.cell 1 _ rfl
  have krl := B3_r.lt
  try simp at kr0 kr1 krl
  go_wp2_with fail
  refine (C3.out _).mono ?_
  rintro e w4 ⟨rfl, hb⟩
  clear kd0 kd1 kdl kr0 kr1 krl
  have B4_d := (B3_d.alloc _).below hb
  have B4_r := (B3_r.alloc _).below hb
  have B4_g := Boxed.below (Boxed.made _ #[.int .i64 r, .int .i64 t] 30) hb
  have W4 := Lib.hid (blw_trans (blw_trans W3.out (blw_alloc _ _)) hb)
  clear hb B3_d B3_r W3
  have kd0 := B4_d.cell 0 _ rfl
  have kd1 := B4_d.cell 1 _ rfl
  have kdl := B4_d.lt
  try simp at kd0 kd1 kdl
  have kr0 := B4_r.cell 0 _ rfl
  have kr1 := B4_r.cell 1 _ rfl
  have krl := B4_r.lt
  try simp at kr0 kr1 krl
  go_wp2_with (first | (go_at_call 14; refine (C4.out _).mono ?_; rintro e w' ⟨rfl, rfl⟩) | (go_at_call 15; refine (C5.out _).mono ?_; rintro e w' ⟨rfl, rfl⟩))
  all_goals
    go_ret
    exact ⟨ret_bool (by simp), (blw_trans W4.out (blw_alloc _ _))⟩

set_option maxRecDepth 100000 in
set_option maxHeartbeats 4000000 in
theorem near_dn5e (c s t way : Int) (w : World) (hw : way = 5) (h : rndE c s t 5 = 0) (hst : t < s) (he : 2 * Dcm.mag (c - Dcm.rndC c s t 5 * P10 (s - t)) = P10 (s - t)) :
    Calls Try.prog 7 #[.agg #[.int .i64 c, .int .i64 s], .int .i64 t, .int .i64 way] w fun e w' => e = .returned (.bool true) ∧ Below w.heap.size w w' := by
  subst hw
  obtain ⟨oa, t0, t1, w0, w1, _⟩ := rndE_zero.1 h
  have nf := Dcm.near_facts c s t 5 oa.2.2 oa.2.1 t0 hst w0 w1
  have ok := rndC_ok h
  have C1 := Lib.hid fun w => round_yes c s t 5 w h
  have ag := rnd_again (way := 5) ok w0 w1
  have c2 := fun w => round_yes (Dcm.rndC c s t 5) t t 5 w ag.1
  rw [ag.2] at c2
  have C2 := Lib.hid c2
  have u0 := Dcm.P10_bd (s - t)
  have ea : Dcm.addC c s (-Dcm.rndC c s t 5) t = c - Dcm.rndC c s t 5 * P10 (s - t) := by
    unfold Dcm.addC; rw [if_neg (by omega), Int.neg_mul]; omega
  have es : Dcm.addS s t = s := by unfold Dcm.addS; rw [if_neg (by omega)]
  have hm : -1000000000 ≤ c - Dcm.rndC c s t 5 * P10 (s - t) ∧ c - Dcm.rndC c s t 5 * P10 (s - t) ≤ 1000000000 := by
    have := nf.2.2.1; unfold Dcm.mag at this; split at this <;> omega
  have c3 := fun w => add_yes c s (-Dcm.rndC c s t 5) t w ⟨oa, ⟨t0, t1, by have := ok.2.2; omega, by have := ok.2.2; omega⟩, by rw [ea]; omega, by rw [ea]; omega⟩
  rw [ea, es] at c3
  have C3 := Lib.hid c3
  have C4 := Lib.hid fun w => ten_any (s - t) w (by omega) (by have := oa.2.1; omega)
  have C5 := Lib.hid fun w => size_any (c - Dcm.rndC c s t 5 * P10 (s - t)) w (by omega) (by omega)
  have rt : (Dcm.rndC c s t 5).tmod 2 = 0 := Int.tmod_eq_zero_of_dvd (Int.dvd_of_emod_eq_zero (nf.2.2.2.2.1 rfl he))
  generalize c - Dcm.rndC c s t 5 * P10 (s - t) = O at *
  generalize Dcm.rndC c s t 5 = r at *
  generalize P10 (s - t) = U at *
  obtain ⟨n0, n1, n2, n3, n4, n5, n6, n7⟩ := nf
  have n8 := n3 (by omega)
  have mb := Dcm.mag_bd O
  generalize Dcm.mag O = M at *
  have he' : (2 * M == U) = true := beq_yes he
  clear he
  obtain ⟨s0, s1, c0, c1⟩ := oa
  clear n3 n4 n5 n6 n7 ok ag c2 ea es c3 h
  go_enter Try.func7, Try.ntmps7
  go_wp2_with fail
  refine (half_any _).mono ?_
  rintro e w1 ⟨rfl, hb⟩
  have B1_d := Boxed.below (Boxed.made _ #[.int .i64 c, .int .i64 s] 30) hb
  have W1 := Lib.hid (blw_trans (blw_trans (Below.refl w.heap.size w) (blw_alloc _ _)) hb)
  clear hb 
  have kd0 := B1_d.cell 0 _ rfl
  have kd1 := B1_d.cell 1 _ rfl
  have kdl := B1_d.lt
  try simp at kd0 kd1 kdl
  go_wp2_with fail
  refine (C1.out _).mono ?_
  rintro e w2 ⟨rfl, hb⟩
  clear kd0 kd1 kdl
  have B2_d := B1_d.below hb
  have W2 := Lib.hid (blw_trans W1.out hb)
  clear hb B1_d W1
  have kd0 := B2_d.cell 0 _ rfl
  have kd1 := B2_d.cell 1 _ rfl
  have kdl := B2_d.lt
  try simp at kd0 kd1 kdl
  go_wp2_with fail
  refine (C2.out _).mono ?_
  rintro e w3 ⟨rfl, hb⟩
  clear kd0 kd1 kdl
  have B3_d := (B2_d.alloc _).below hb
  have B3_r := Boxed.below (Boxed.made _ #[.int .i64 r, .int .i64 t] 30) hb
  have W3 := Lib.hid (blw_trans (blw_trans W2.out (blw_alloc _ _)) hb)
  clear hb B2_d W2
  have kd0 := B3_d.cell 0 _ rfl
  have kd1 := B3_d.cell 1 _ rfl
  have kdl := B3_d.lt
  try simp at kd0 kd1 kdl
  have kr0 := B3_r.cell 0 _ rfl
  have kr1 := B3_r.cell 1 _ rfl
  have krl := B3_r.lt
  try simp at kr0 kr1 krl
  go_wp2_with fail
  refine (C3.out _).mono ?_
  rintro e w4 ⟨rfl, hb⟩
  clear kd0 kd1 kdl kr0 kr1 krl
  have B4_d := (B3_d.alloc _).below hb
  have B4_r := (B3_r.alloc _).below hb
  have B4_g := Boxed.below (Boxed.made _ #[.int .i64 r, .int .i64 t] 30) hb
  have W4 := Lib.hid (blw_trans (blw_trans W3.out (blw_alloc _ _)) hb)
  clear hb B3_d B3_r W3
  have kd0 := B4_d.cell 0 _ rfl
  have kd1 := B4_d.cell 1 _ rfl
  have kdl := B4_d.lt
  try simp at kd0 kd1 kdl
  have kr0 := B4_r.cell 0 _ rfl
  have kr1 := B4_r.cell 1 _ rfl
  have krl := B4_r.lt
  try simp at kr0 kr1 krl
  go_wp2_with (first | (go_at_call 14; refine (C4.out _).mono ?_; rintro e w' ⟨rfl, rfl⟩) | (go_at_call 15; refine (C5.out _).mono ?_; rintro e w' ⟨rfl, rfl⟩))
  all_goals
    go_ret
    exact ⟨ret_bool (by simp), (blw_trans W4.out (blw_alloc _ _))⟩

set_option maxRecDepth 100000 in
set_option maxHeartbeats 4000000 in
theorem near_dn5n (c s t way : Int) (w : World) (hw : way = 5) (h : rndE c s t 5 = 0) (hst : t < s) (he : 2 * Dcm.mag (c - Dcm.rndC c s t 5 * P10 (s - t)) ≠ P10 (s - t)) :
    Calls Try.prog 7 #[.agg #[.int .i64 c, .int .i64 s], .int .i64 t, .int .i64 way] w fun e w' => e = .returned (.bool true) ∧ Below w.heap.size w w' := by
  subst hw
  obtain ⟨oa, t0, t1, w0, w1, _⟩ := rndE_zero.1 h
  have nf := Dcm.near_facts c s t 5 oa.2.2 oa.2.1 t0 hst w0 w1
  have ok := rndC_ok h
  have C1 := Lib.hid fun w => round_yes c s t 5 w h
  have ag := rnd_again (way := 5) ok w0 w1
  have c2 := fun w => round_yes (Dcm.rndC c s t 5) t t 5 w ag.1
  rw [ag.2] at c2
  have C2 := Lib.hid c2
  have u0 := Dcm.P10_bd (s - t)
  have ea : Dcm.addC c s (-Dcm.rndC c s t 5) t = c - Dcm.rndC c s t 5 * P10 (s - t) := by
    unfold Dcm.addC; rw [if_neg (by omega), Int.neg_mul]; omega
  have es : Dcm.addS s t = s := by unfold Dcm.addS; rw [if_neg (by omega)]
  have hm : -1000000000 ≤ c - Dcm.rndC c s t 5 * P10 (s - t) ∧ c - Dcm.rndC c s t 5 * P10 (s - t) ≤ 1000000000 := by
    have := nf.2.2.1; unfold Dcm.mag at this; split at this <;> omega
  have c3 := fun w => add_yes c s (-Dcm.rndC c s t 5) t w ⟨oa, ⟨t0, t1, by have := ok.2.2; omega, by have := ok.2.2; omega⟩, by rw [ea]; omega, by rw [ea]; omega⟩
  rw [ea, es] at c3
  have C3 := Lib.hid c3
  have C4 := Lib.hid fun w => ten_any (s - t) w (by omega) (by have := oa.2.1; omega)
  have C5 := Lib.hid fun w => size_any (c - Dcm.rndC c s t 5 * P10 (s - t)) w (by omega) (by omega)
  generalize c - Dcm.rndC c s t 5 * P10 (s - t) = O at *
  generalize Dcm.rndC c s t 5 = r at *
  generalize P10 (s - t) = U at *
  obtain ⟨n0, n1, n2, n3, n4, n5, n6, n7⟩ := nf
  have n8 := n3 (by omega)
  have mb := Dcm.mag_bd O
  generalize Dcm.mag O = M at *
  have he' : (2 * M == U) = false := beq_no he
  obtain ⟨s0, s1, c0, c1⟩ := oa
  clear n3 n4 n5 n6 n7 ok ag c2 ea es c3 h
  go_enter Try.func7, Try.ntmps7
  go_wp2_with fail
  refine (half_any _).mono ?_
  rintro e w1 ⟨rfl, hb⟩
  have B1_d := Boxed.below (Boxed.made _ #[.int .i64 c, .int .i64 s] 30) hb
  have W1 := Lib.hid (blw_trans (blw_trans (Below.refl w.heap.size w) (blw_alloc _ _)) hb)
  clear hb 
  have kd0 := B1_d.cell 0 _ rfl
  have kd1 := B1_d.cell 1 _ rfl
  have kdl := B1_d.lt
  try simp at kd0 kd1 kdl
  go_wp2_with fail
  refine (C1.out _).mono ?_
  rintro e w2 ⟨rfl, hb⟩
  clear kd0 kd1 kdl
  have B2_d := B1_d.below hb
  have W2 := Lib.hid (blw_trans W1.out hb)
  clear hb B1_d W1
  have kd0 := B2_d.cell 0 _ rfl
  have kd1 := B2_d.cell 1 _ rfl
  have kdl := B2_d.lt
  try simp at kd0 kd1 kdl
  go_wp2_with fail
  refine (C2.out _).mono ?_
  rintro e w3 ⟨rfl, hb⟩
  clear kd0 kd1 kdl
  have B3_d := (B2_d.alloc _).below hb
  have B3_r := Boxed.below (Boxed.made _ #[.int .i64 r, .int .i64 t] 30) hb
  have W3 := Lib.hid (blw_trans (blw_trans W2.out (blw_alloc _ _)) hb)
  clear hb B2_d W2
  have kd0 := B3_d.cell 0 _ rfl
  have kd1 := B3_d.cell 1 _ rfl
  have kdl := B3_d.lt
  try simp at kd0 kd1 kdl
  have kr0 := B3_r.cell 0 _ rfl
  have kr1 := B3_r.cell 1 _ rfl
  have krl := B3_r.lt
  try simp at kr0 kr1 krl
  go_wp2_with fail
  refine (C3.out _).mono ?_
  rintro e w4 ⟨rfl, hb⟩
  clear kd0 kd1 kdl kr0 kr1 krl
  have B4_d := (B3_d.alloc _).below hb
  have B4_r := (B3_r.alloc _).below hb
  have B4_g := Boxed.below (Boxed.made _ #[.int .i64 r, .int .i64 t] 30) hb
  have W4 := Lib.hid (blw_trans (blw_trans W3.out (blw_alloc _ _)) hb)
  clear hb B3_d B3_r W3
  have kd0 := B4_d.cell 0 _ rfl
  have kd1 := B4_d.cell 1 _ rfl
  have kdl := B4_d.lt
  try simp at kd0 kd1 kdl
  have kr0 := B4_r.cell 0 _ rfl
  have kr1 := B4_r.cell 1 _ rfl
  have krl := B4_r.lt
  try simp at kr0 kr1 krl
  go_wp2_with (first | (go_at_call 14; refine (C4.out _).mono ?_; rintro e w' ⟨rfl, rfl⟩) | (go_at_call 15; refine (C5.out _).mono ?_; rintro e w' ⟨rfl, rfl⟩))
  all_goals
    go_ret
    exact ⟨ret_bool (by simp), (blw_trans W4.out (blw_alloc _ _))⟩

theorem decNear_any (c s t way : Int) (w : World) :
    Calls Try.prog 7 #[.agg #[.int .i64 c, .int .i64 s], .int .i64 t, .int .i64 way] w fun e w' => e = .returned (.bool true) ∧ Below w.heap.size w w' := by
  by_cases h : rndE c s t way = 0
  · by_cases hst : s ≤ t
    · exact near_up c s t way w h hst
    · obtain ⟨oa, t0, t1, w0, w1, _⟩ := rndE_zero.1 h
      have nf := Dcm.near_facts c s t way oa.2.2 oa.2.1 t0 (by omega) w0 w1
      rcases Dcm.ways way w0 w1 with rfl | rfl | rfl | rfl | rfl
      · rcases nf.2.2.2.2.2.2.2 rfl with ⟨g1, g2⟩ | ⟨g1, g2⟩
        · exact near_dn1p c s t 1 w rfl h (by omega) g1 g2
        · exact near_dn1n c s t 1 w rfl h (by omega) g1 g2
      · exact near_dn2 c s t 2 w rfl h (by omega)
      · exact near_dn3 c s t 3 w rfl h (by omega)
      · exact near_dn4 c s t 4 w rfl h (by omega)
      · by_cases he : 2 * Dcm.mag (c - Dcm.rndC c s t 5 * P10 (s - t)) = P10 (s - t)
        · exact near_dn5e c s t 5 w rfl h (by omega) he
        · exact near_dn5n c s t 5 w rfl h (by omega) he
  · exact near_err c s t way w h
end Go.Proofs.Ytdannkcacldhmaa
