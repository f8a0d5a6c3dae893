/- The walk of the law OpsSame: it returns true of whatever number and scale. -/
import Derived.Test.YtdannkcacldhmaaOps
namespace Go.Proofs.Ytdannkcacldhmaa
open Go.RowKit
open Dcm (P10 okD nrm)

theorem ops_half (w : World) : Calls Try.prog 13 #[.agg #[.int .i64 150, .int .i64 2]] w fun e w' => e = .returned (.tuple #[.agg #[.int .i64 1, .int .i64 2, .int .i64 1, .int .i64 50, .int .i64 5], .nilIface]) ∧ Below w.heap.size w w' := by
  have c := ops_yes 150 2 w (by decide)
  have e1 : Dcm.mag 150 / P10 2 = 1 := by decide
  have e2 : Dcm.mag 150 % P10 2 = 50 := by decide
  have e3 : Dcm.strip (2 : Int).toNat 50 = (1, 5) := by decide
  rw [e2, e1, e3] at c
  exact c

/-- what ops.Of answers of a right number, by facts -/
theorem ops_facts (c s : Int) (h : okD c s) : ∃ I N F T : Int, (∀ w, Calls Try.prog 13 #[.agg #[.int .i64 c, .int .i64 s]] w fun e w' => e = .returned (.tuple #[.agg #[.int .i64 I, .int .i64 s, .int .i64 N, .int .i64 F, .int .i64 T], .nilIface]) ∧ Below w.heap.size w w')
    ∧ (∀ w, Calls Try.prog 13 #[.agg #[.int .i64 (-c), .int .i64 s]] w fun e w' => e = .returned (.tuple #[.agg #[.int .i64 I, .int .i64 s, .int .i64 N, .int .i64 F, .int .i64 T], .nilIface]) ∧ Below w.heap.size w w')
    ∧ (∀ t, s ≤ t → okD (c * P10 (t - s)) t → ∃ F' : Int, ∀ w, Calls Try.prog 13 #[.agg #[.int .i64 (c * P10 (t - s)), .int .i64 t]] w fun e w' => e = .returned (.tuple #[.agg #[.int .i64 I, .int .i64 t, .int .i64 N, .int .i64 F', .int .i64 T], .nilIface]) ∧ Below w.heap.size w w')
    ∧ 0 ≤ I ∧ I ≤ 1000000000000000 ∧ 0 ≤ F ∧ F ≤ 1000000000 ∧ I * P10 s + F = Dcm.mag c ∧ 0 ≤ N ∧ N ≤ s ∧ 0 ≤ T ∧ T ≤ 1000000000 ∧ T * P10 (s - N) = F ∧ (N = 0 ∨ T % 10 ≠ 0) := by
  have C1 := fun w => ops_yes c s w h
  have em : Dcm.mag (-c) = Dcm.mag c := by unfold Dcm.mag; (repeat' split) <;> omega
  have C2 := fun w => ops_yes (-c) s w ⟨h.1, h.2.1, by have := h.2.2; omega, by have := h.2.2; omega⟩
  rw [em] at C2
  obtain ⟨s0, s1, c0, c1⟩ := h
  have U := Dcm.P10_bd s
  have m0 := Dcm.mag_bd c
  have m1 : Dcm.mag c ≤ 1000000000000000 := by unfold Dcm.mag; split <;> omega
  have d0 := Int.ediv_nonneg m0 (by omega : (0 : Int) ≤ P10 s)
  have d1 : Dcm.mag c / P10 s ≤ Dcm.mag c := Int.ediv_le_self _ m0
  have r0 := Int.emod_nonneg (Dcm.mag c) (by omega : P10 s ≠ 0)
  have r1 := Int.emod_lt_of_pos (Dcm.mag c) (by omega : 0 < P10 s)
  have q := Int.mul_ediv_add_emod (Dcm.mag c) (P10 s)
  have hn : s.toNat ≤ 9 := by omega
  have l1 := Dcm.strip_le s.toNat (Dcm.mag c % P10 s)
  have l2 := Dcm.strip_end s.toNat (Dcm.mag c % P10 s)
  have l3 := Dcm.strip_mul s.toNat (Dcm.mag c % P10 s) hn
  have l4 := Dcm.strip_nonneg s.toNat (Dcm.mag c % P10 s) r0
  have es : ((s.toNat : Nat) : Int) = s := by omega
  rw [es] at l3
  refine ⟨Dcm.mag c / P10 s, ((Dcm.strip s.toNat (Dcm.mag c % P10 s)).1 : Int), Dcm.mag c % P10 s, (Dcm.strip s.toNat (Dcm.mag c % P10 s)).2, C1, C2, ?_, d0, by omega, r0, by omega, by rw [Int.mul_comm]; exact q, by omega, by omega, l4.1, by omega, l3, ?_⟩
  · intro t hst ok
    refine ⟨Dcm.mag (c * P10 (t - s)) % P10 t, fun w => ?_⟩
    have C3 := ops_yes (c * P10 (t - s)) t w ok
    have K := Dcm.P10_bd (t - s)
    have t1 := ok.2.1
    have eU : P10 t = P10 s * P10 (t - s) := by rw [Dcm.P10_mul s (t - s) s0 (by omega) (by omega)]; congr 1; omega
    have eI : Dcm.mag (c * P10 (t - s)) / P10 t = Dcm.mag c / P10 s := by
      rw [Dcm.mag_mul c _ (by omega), eU]; exact Int.mul_ediv_mul_of_pos_left _ _ (by omega)
    have eF : Dcm.mag (c * P10 (t - s)) % P10 t = Dcm.mag c % P10 s * P10 (t - s) := by
      rw [Dcm.mag_mul c _ (by omega), eU, Int.mul_comm (Dcm.mag c), Int.mul_comm (P10 s), Int.mul_emod_mul_of_pos _ _ (by omega), Int.mul_comm]
    have e1 : t.toNat = s.toNat + (t - s).toNat := by omega
    have e2 : (((t - s).toNat : Nat) : Int) = t - s := by omega
    have eS : Dcm.strip t.toNat (Dcm.mag (c * P10 (t - s)) % P10 t) = Dcm.strip s.toNat (Dcm.mag c % P10 s) := by
      have h := Dcm.strip_tens (t - s).toNat s.toNat (Dcm.mag c % P10 s) (by omega)
      rw [e2] at h
      rw [eF, e1]; exact h
    rw [eS, eI] at C3
    exact C3
  · rcases l2 with h | h
    · exact .inl (by omega)
    · exact .inr h

set_option maxRecDepth 100000 in
set_option maxHeartbeats 4000000 in
theorem same_err (c s t : Int) (w : World) (h : ¬ okD c s) :
    Calls Try.prog 4 #[.agg #[.int .i64 c, .int .i64 s], .int .i64 t] w fun e w' => e = .returned (.bool true) ∧ Below w.heap.size w w' := by
  have C1 := Lib.hid fun w => ops_no c s w h
  clear h
  go_enter Try.func4, Try.ntmps4
  go_wp2_with fail
  refine (ops_half _).mono ?_
  rintro e w1 ⟨rfl, hb⟩
  have B1_d := Boxed.below (Boxed.made _ #[.int .i64 c, .int .i64 s] 30) hb
  have W1 := Lib.hid (blw_trans (blw_trans (Below.refl w.heap.size w) (blw_alloc _ _)) hb)
  clear hb 
  have kd0 := B1_d.cell 0 _ rfl
  have kd1 := B1_d.cell 1 _ rfl
  have kdl := B1_d.lt
  try simp at kd0 kd1 kdl
  go_wp2_with fail
  refine (C1.out _).mono ?_
  rintro e w2 ⟨rfl, hb⟩
  clear kd0 kd1 kdl
  have B2_d := (B1_d.alloc _).below hb
  have B2_x := Boxed.below (Boxed.made _ #[.int .i64 1, .int .i64 2, .int .i64 1, .int .i64 50, .int .i64 5] 32) hb
  have W2 := Lib.hid (blw_trans (blw_trans W1.out (blw_alloc _ _)) hb)
  clear hb B1_d W1
  have kx0 := B2_x.cell 0 _ rfl
  have kx1 := B2_x.cell 1 _ rfl
  have kx2 := B2_x.cell 2 _ rfl
  have kx3 := B2_x.cell 3 _ rfl
  have kx4 := B2_x.cell 4 _ rfl
  have kxl := B2_x.lt
  try simp at kx0 kx1 kx2 kx3 kx4 kxl
  clear B2_d B2_x
  go_wp2
  go_ret
  exact ⟨ret_bool (by simp), (blw_trans W2.out (blw_alloc _ _))⟩

set_option maxRecDepth 100000 in
set_option maxHeartbeats 4000000 in
theorem same_ze (c s t : Int) (w : World) (I N F T : Int) (h : okD c s) (C2 : Hid (∀ w, Calls Try.prog 13 #[.agg #[.int .i64 c, .int .i64 s]] w fun e w' => e = .returned (.tuple #[.agg #[.int .i64 I, .int .i64 s, .int .i64 N, .int .i64 F, .int .i64 T], .nilIface]) ∧ Below w.heap.size w w')) (C3 : Hid (∀ w, Calls Try.prog 13 #[.agg #[.int .i64 (-c), .int .i64 s]] w fun e w' => e = .returned (.tuple #[.agg #[.int .i64 I, .int .i64 s, .int .i64 N, .int .i64 F, .int .i64 T], .nilIface]) ∧ Below w.heap.size w w')) (i0 : 0 ≤ I) (_i1 : I ≤ 1000000000000000) (f0 : 0 ≤ F) (f1 : F ≤ 1000000000) (ei : I * P10 s + F = Dcm.mag c) (_n0 : 0 ≤ N) (n1 : N ≤ s) (_t0 : 0 ≤ T) (_t1 : T ≤ 1000000000) (ef : T * P10 (s - N) = F) (hz : N = 0) (hr : rndE c s t 1 ≠ 0) :
    Calls Try.prog 4 #[.agg #[.int .i64 c, .int .i64 s], .int .i64 t] w fun e w' => e = .returned (.bool true) ∧ Below w.heap.size w w' := by
  have C4 := Lib.hid fun w => round_no c s t 1 w hr
  subst hz
  rw [Int.sub_zero] at ef
  have d2 : decide ((0 : Int) < 0) = false := rfl
  obtain ⟨s0, s1, c0, c1⟩ := h
  have u0 := Dcm.P10_bd s
  have m0 := Dcm.mag_bd c
  have m1 : Dcm.mag c ≤ 1000000000000000 := by unfold Dcm.mag; split <;> omega
  have CT := Lib.hid fun w => ten_any s w (by omega) (by omega)
  have CS := Lib.hid fun w => size_any c w (by omega) (by omega)
  have p0 : 0 ≤ I * P10 s := Int.mul_nonneg i0 (by omega)
  have w1 : IntKind.i64.wrap (I * P10 s) = I * P10 s := IntWalk.i64_in _ (by omega)
  have w2 : IntKind.i64.wrap (I * P10 s + F) = Dcm.mag c := by rw [ei]; exact IntWalk.i64_in _ (by omega)
  have w3 : IntKind.i64.wrap (T * P10 s) = F := by rw [ef]; exact IntWalk.i64_in _ (by omega)
  have w4 : IntKind.i64.wrap s = s := IntWalk.i64_in _ (by omega)
  have d1 : decide (s < 0) = false := dec_no (by omega)
  go_enter Try.func4, Try.ntmps4
  go_wp2_with fail
  refine (ops_half _).mono ?_
  rintro e w1 ⟨rfl, hb⟩
  have B1_d := Boxed.below (Boxed.made _ #[.int .i64 c, .int .i64 s] 30) hb
  have W1 := Lib.hid (blw_trans (blw_trans (Below.refl w.heap.size w) (blw_alloc _ _)) hb)
  clear hb 
  have kd0 := B1_d.cell 0 _ rfl
  have kd1 := B1_d.cell 1 _ rfl
  have kdl := B1_d.lt
  try simp at kd0 kd1 kdl
  go_wp2_with fail
  refine (C2.out _).mono ?_
  rintro e w2 ⟨rfl, hb⟩
  clear kd0 kd1 kdl
  have B2_d := (B1_d.alloc _).below hb
  have B2_x := Boxed.below (Boxed.made _ #[.int .i64 1, .int .i64 2, .int .i64 1, .int .i64 50, .int .i64 5] 32) hb
  have W2 := Lib.hid (blw_trans (blw_trans W1.out (blw_alloc _ _)) hb)
  clear hb B1_d W1
  have kd0 := B2_d.cell 0 _ rfl
  have kd1 := B2_d.cell 1 _ rfl
  have kdl := B2_d.lt
  try simp at kd0 kd1 kdl
  have kx0 := B2_x.cell 0 _ rfl
  have kx1 := B2_x.cell 1 _ rfl
  have kx2 := B2_x.cell 2 _ rfl
  have kx3 := B2_x.cell 3 _ rfl
  have kx4 := B2_x.cell 4 _ rfl
  have kxl := B2_x.lt
  try simp at kx0 kx1 kx2 kx3 kx4 kxl
  go_wp2_with fail
  go_big_quiet (first | (go_at_call 15; exact quiet_left (CS.out _)) | (go_at_call 14; exact quiet_left (CT.out _)))
  go_wp2_with fail
  refine (C3.out _).mono ?_
  rintro e w3 ⟨rfl, hb⟩
  clear kd0 kd1 kdl kx0 kx1 kx2 kx3 kx4 kxl
  have B3_d := (Boxed.drewN (B2_d.alloc _) _).below hb
  have B3_x := (Boxed.drewN (B2_x.alloc _) _).below hb
  have B3_o := Boxed.below (Boxed.drewN (Boxed.made _ #[.int .i64 I, .int .i64 s, .int .i64 0, .int .i64 F, .int .i64 T] 32) _) hb
  have W3 := Lib.hid (blw_trans (blw_drewN (blw_trans W2.out (blw_alloc _ _)) _) hb)
  clear hb B2_d B2_x W2
  have kd0 := B3_d.cell 0 _ rfl
  have kd1 := B3_d.cell 1 _ rfl
  have kdl := B3_d.lt
  try simp at kd0 kd1 kdl
  have ko0 := B3_o.cell 0 _ rfl
  have ko1 := B3_o.cell 1 _ rfl
  have ko2 := B3_o.cell 2 _ rfl
  have ko3 := B3_o.cell 3 _ rfl
  have ko4 := B3_o.cell 4 _ rfl
  have kol := B3_o.lt
  try simp at ko0 ko1 ko2 ko3 ko4 kol
  go_wp2_with fail
  refine (C4.out _).mono ?_
  rintro e w4 ⟨rfl, hb⟩
  clear kd0 kd1 kdl ko0 ko1 ko2 ko3 ko4 kol
  have B4_d := (B3_d.alloc _).below hb
  have B4_x := (B3_x.alloc _).below hb
  have B4_o := (B3_o.alloc _).below hb
  have B4_p := Boxed.below (Boxed.made _ #[.int .i64 I, .int .i64 s, .int .i64 0, .int .i64 F, .int .i64 T] 32) hb
  have W4 := Lib.hid (blw_trans (blw_trans W3.out (blw_alloc _ _)) hb)
  clear hb B3_d B3_x B3_o W3
  have kd0 := B4_d.cell 0 _ rfl
  have kd1 := B4_d.cell 1 _ rfl
  have kdl := B4_d.lt
  try simp at kd0 kd1 kdl
  have ko0 := B4_o.cell 0 _ rfl
  have ko1 := B4_o.cell 1 _ rfl
  have ko2 := B4_o.cell 2 _ rfl
  have ko3 := B4_o.cell 3 _ rfl
  have ko4 := B4_o.cell 4 _ rfl
  have kol := B4_o.lt
  try simp at ko0 ko1 ko2 ko3 ko4 kol
  have kp0 := B4_p.cell 0 _ rfl
  have kp1 := B4_p.cell 1 _ rfl
  have kp2 := B4_p.cell 2 _ rfl
  have kp3 := B4_p.cell 3 _ rfl
  have kp4 := B4_p.cell 4 _ rfl
  have kpl := B4_p.lt
  try simp at kp0 kp1 kp2 kp3 kp4 kpl
  clear B4_d B4_x B4_o B4_p
  go_wp2
  go_ret
  exact ⟨ret_bool (by simp), (blw_trans W4.out (blw_alloc _ _))⟩

set_option maxRecDepth 100000 in
set_option maxHeartbeats 4000000 in
theorem same_zl (c s t : Int) (w : World) (I N F T : Int) (h : okD c s) (C2 : Hid (∀ w, Calls Try.prog 13 #[.agg #[.int .i64 c, .int .i64 s]] w fun e w' => e = .returned (.tuple #[.agg #[.int .i64 I, .int .i64 s, .int .i64 N, .int .i64 F, .int .i64 T], .nilIface]) ∧ Below w.heap.size w w')) (C3 : Hid (∀ w, Calls Try.prog 13 #[.agg #[.int .i64 (-c), .int .i64 s]] w fun e w' => e = .returned (.tuple #[.agg #[.int .i64 I, .int .i64 s, .int .i64 N, .int .i64 F, .int .i64 T], .nilIface]) ∧ Below w.heap.size w w')) (i0 : 0 ≤ I) (_i1 : I ≤ 1000000000000000) (f0 : 0 ≤ F) (f1 : F ≤ 1000000000) (ei : I * P10 s + F = Dcm.mag c) (_n0 : 0 ≤ N) (n1 : N ≤ s) (_t0 : 0 ≤ T) (_t1 : T ≤ 1000000000) (ef : T * P10 (s - N) = F) (hz : N = 0) (hr : rndE c s t 1 = 0) (hl : t < s) :
    Calls Try.prog 4 #[.agg #[.int .i64 c, .int .i64 s], .int .i64 t] w fun e w' => e = .returned (.bool true) ∧ Below w.heap.size w w' := by
  have C4 := Lib.hid fun w => round_yes c s t 1 w hr
  generalize Dcm.rndC c s t 1 = R at *
  subst hz
  rw [Int.sub_zero] at ef
  have d2 : decide ((0 : Int) < 0) = false := rfl
  obtain ⟨s0, s1, c0, c1⟩ := h
  have u0 := Dcm.P10_bd s
  have m0 := Dcm.mag_bd c
  have m1 : Dcm.mag c ≤ 1000000000000000 := by unfold Dcm.mag; split <;> omega
  have CT := Lib.hid fun w => ten_any s w (by omega) (by omega)
  have CS := Lib.hid fun w => size_any c w (by omega) (by omega)
  have p0 : 0 ≤ I * P10 s := Int.mul_nonneg i0 (by omega)
  have w1 : IntKind.i64.wrap (I * P10 s) = I * P10 s := IntWalk.i64_in _ (by omega)
  have w2 : IntKind.i64.wrap (I * P10 s + F) = Dcm.mag c := by rw [ei]; exact IntWalk.i64_in _ (by omega)
  have w3 : IntKind.i64.wrap (T * P10 s) = F := by rw [ef]; exact IntWalk.i64_in _ (by omega)
  have w4 : IntKind.i64.wrap s = s := IntWalk.i64_in _ (by omega)
  have d1 : decide (s < 0) = false := dec_no (by omega)
  go_enter Try.func4, Try.ntmps4
  go_wp2_with fail
  refine (ops_half _).mono ?_
  rintro e w1 ⟨rfl, hb⟩
  have B1_d := Boxed.below (Boxed.made _ #[.int .i64 c, .int .i64 s] 30) hb
  have W1 := Lib.hid (blw_trans (blw_trans (Below.refl w.heap.size w) (blw_alloc _ _)) hb)
  clear hb 
  have kd0 := B1_d.cell 0 _ rfl
  have kd1 := B1_d.cell 1 _ rfl
  have kdl := B1_d.lt
  try simp at kd0 kd1 kdl
  go_wp2_with fail
  refine (C2.out _).mono ?_
  rintro e w2 ⟨rfl, hb⟩
  clear kd0 kd1 kdl
  have B2_d := (B1_d.alloc _).below hb
  have B2_x := Boxed.below (Boxed.made _ #[.int .i64 1, .int .i64 2, .int .i64 1, .int .i64 50, .int .i64 5] 32) hb
  have W2 := Lib.hid (blw_trans (blw_trans W1.out (blw_alloc _ _)) hb)
  clear hb B1_d W1
  have kd0 := B2_d.cell 0 _ rfl
  have kd1 := B2_d.cell 1 _ rfl
  have kdl := B2_d.lt
  try simp at kd0 kd1 kdl
  have kx0 := B2_x.cell 0 _ rfl
  have kx1 := B2_x.cell 1 _ rfl
  have kx2 := B2_x.cell 2 _ rfl
  have kx3 := B2_x.cell 3 _ rfl
  have kx4 := B2_x.cell 4 _ rfl
  have kxl := B2_x.lt
  try simp at kx0 kx1 kx2 kx3 kx4 kxl
  go_wp2_with fail
  go_big_quiet (first | (go_at_call 15; exact quiet_left (CS.out _)) | (go_at_call 14; exact quiet_left (CT.out _)))
  go_wp2_with fail
  refine (C3.out _).mono ?_
  rintro e w3 ⟨rfl, hb⟩
  clear kd0 kd1 kdl kx0 kx1 kx2 kx3 kx4 kxl
  have B3_d := (Boxed.drewN (B2_d.alloc _) _).below hb
  have B3_x := (Boxed.drewN (B2_x.alloc _) _).below hb
  have B3_o := Boxed.below (Boxed.drewN (Boxed.made _ #[.int .i64 I, .int .i64 s, .int .i64 0, .int .i64 F, .int .i64 T] 32) _) hb
  have W3 := Lib.hid (blw_trans (blw_drewN (blw_trans W2.out (blw_alloc _ _)) _) hb)
  clear hb B2_d B2_x W2
  have kd0 := B3_d.cell 0 _ rfl
  have kd1 := B3_d.cell 1 _ rfl
  have kdl := B3_d.lt
  try simp at kd0 kd1 kdl
  have ko0 := B3_o.cell 0 _ rfl
  have ko1 := B3_o.cell 1 _ rfl
  have ko2 := B3_o.cell 2 _ rfl
  have ko3 := B3_o.cell 3 _ rfl
  have ko4 := B3_o.cell 4 _ rfl
  have kol := B3_o.lt
  try simp at ko0 ko1 ko2 ko3 ko4 kol
  go_wp2_with fail
  refine (C4.out _).mono ?_
  rintro e w4 ⟨rfl, hb⟩
  clear kd0 kd1 kdl ko0 ko1 ko2 ko3 ko4 kol
  have B4_d := (B3_d.alloc _).below hb
  have B4_x := (B3_x.alloc _).below hb
  have B4_o := (B3_o.alloc _).below hb
  have B4_p := Boxed.below (Boxed.made _ #[.int .i64 I, .int .i64 s, .int .i64 0, .int .i64 F, .int .i64 T] 32) hb
  have W4 := Lib.hid (blw_trans (blw_trans W3.out (blw_alloc _ _)) hb)
  clear hb B3_d B3_x B3_o W3
  have kd0 := B4_d.cell 0 _ rfl
  have kd1 := B4_d.cell 1 _ rfl
  have kdl := B4_d.lt
  try simp at kd0 kd1 kdl
  have ko0 := B4_o.cell 0 _ rfl
  have ko1 := B4_o.cell 1 _ rfl
  have ko2 := B4_o.cell 2 _ rfl
  have ko3 := B4_o.cell 3 _ rfl
  have ko4 := B4_o.cell 4 _ rfl
  have kol := B4_o.lt
  try simp at ko0 ko1 ko2 ko3 ko4 kol
  have kp0 := B4_p.cell 0 _ rfl
  have kp1 := B4_p.cell 1 _ rfl
  have kp2 := B4_p.cell 2 _ rfl
  have kp3 := B4_p.cell 3 _ rfl
  have kp4 := B4_p.cell 4 _ rfl
  have kpl := B4_p.lt
  try simp at kp0 kp1 kp2 kp3 kp4 kpl
  clear B4_d B4_x B4_o B4_p
  go_wp2
  go_ret
  exact ⟨ret_bool (by simp), (blw_trans W4.out (blw_alloc _ _))⟩

set_option maxRecDepth 100000 in
set_option maxHeartbeats 4000000 in
theorem same_zg (c s t : Int) (w : World) (I N F T : Int) (h : okD c s) (C2 : Hid (∀ w, Calls Try.prog 13 #[.agg #[.int .i64 c, .int .i64 s]] w fun e w' => e = .returned (.tuple #[.agg #[.int .i64 I, .int .i64 s, .int .i64 N, .int .i64 F, .int .i64 T], .nilIface]) ∧ Below w.heap.size w w')) (C3 : Hid (∀ w, Calls Try.prog 13 #[.agg #[.int .i64 (-c), .int .i64 s]] w fun e w' => e = .returned (.tuple #[.agg #[.int .i64 I, .int .i64 s, .int .i64 N, .int .i64 F, .int .i64 T], .nilIface]) ∧ Below w.heap.size w w')) (i0 : 0 ≤ I) (_i1 : I ≤ 1000000000000000) (f0 : 0 ≤ F) (f1 : F ≤ 1000000000) (ei : I * P10 s + F = Dcm.mag c) (_n0 : 0 ≤ N) (n1 : N ≤ s) (_t0 : 0 ≤ T) (_t1 : T ≤ 1000000000) (ef : T * P10 (s - N) = F) (hz : N = 0) (hr : rndE c s t 1 = 0) (hl : s ≤ t) (F' R : Int) (eR : c * P10 (t - s) = R) (C5 : Hid (∀ w, Calls Try.prog 13 #[.agg #[.int .i64 R, .int .i64 t]] w fun e w' => e = .returned (.tuple #[.agg #[.int .i64 I, .int .i64 t, .int .i64 N, .int .i64 F', .int .i64 T], .nilIface]) ∧ Below w.heap.size w w')) :
    Calls Try.prog 4 #[.agg #[.int .i64 c, .int .i64 s], .int .i64 t] w fun e w' => e = .returned (.bool true) ∧ Below w.heap.size w w' := by
  have C4 := Lib.hid fun w => round_yes c s t 1 w hr
  have e4 : Dcm.rndC c s t 1 = R := by unfold Dcm.rndC; rw [if_pos hl]; exact eR
  rw [e4] at C4
  clear eR e4
  subst hz
  rw [Int.sub_zero] at ef
  have d2 : decide ((0 : Int) < 0) = false := rfl
  obtain ⟨s0, s1, c0, c1⟩ := h
  have u0 := Dcm.P10_bd s
  have m0 := Dcm.mag_bd c
  have m1 : Dcm.mag c ≤ 1000000000000000 := by unfold Dcm.mag; split <;> omega
  have CT := Lib.hid fun w => ten_any s w (by omega) (by omega)
  have CS := Lib.hid fun w => size_any c w (by omega) (by omega)
  have p0 : 0 ≤ I * P10 s := Int.mul_nonneg i0 (by omega)
  have w1 : IntKind.i64.wrap (I * P10 s) = I * P10 s := IntWalk.i64_in _ (by omega)
  have w2 : IntKind.i64.wrap (I * P10 s + F) = Dcm.mag c := by rw [ei]; exact IntWalk.i64_in _ (by omega)
  have w3 : IntKind.i64.wrap (T * P10 s) = F := by rw [ef]; exact IntWalk.i64_in _ (by omega)
  have w4 : IntKind.i64.wrap s = s := IntWalk.i64_in _ (by omega)
  have d1 : decide (s < 0) = false := dec_no (by omega)
  go_enter Try.func4, Try.ntmps4
  go_wp2_with fail
  refine (ops_half _).mono ?_
  rintro e w1 ⟨rfl, hb⟩
  have B1_d := Boxed.below (Boxed.made _ #[.int .i64 c, .int .i64 s] 30) hb
  have W1 := Lib.hid (blw_trans (blw_trans (Below.refl w.heap.size w) (blw_alloc _ _)) hb)
  clear hb 
  have kd0 := B1_d.cell 0 _ rfl
  have kd1 := B1_d.cell 1 _ rfl
  have kdl := B1_d.lt
  try simp at kd0 kd1 kdl
  go_wp2_with fail
  refine (C2.out _).mono ?_
  rintro e w2 ⟨rfl, hb⟩
  clear kd0 kd1 kdl
  have B2_d := (B1_d.alloc _).below hb
  have B2_x := Boxed.below (Boxed.made _ #[.int .i64 1, .int .i64 2, .int .i64 1, .int .i64 50, .int .i64 5] 32) hb
  have W2 := Lib.hid (blw_trans (blw_trans W1.out (blw_alloc _ _)) hb)
  clear hb B1_d W1
  have kd0 := B2_d.cell 0 _ rfl
  have kd1 := B2_d.cell 1 _ rfl
  have kdl := B2_d.lt
  try simp at kd0 kd1 kdl
  have kx0 := B2_x.cell 0 _ rfl
  have kx1 := B2_x.cell 1 _ rfl
  have kx2 := B2_x.cell 2 _ rfl
  have kx3 := B2_x.cell 3 _ rfl
  have kx4 := B2_x.cell 4 _ rfl
  have kxl := B2_x.lt
  try simp at kx0 kx1 kx2 kx3 kx4 kxl
  go_wp2_with fail
  go_big_quiet (first | (go_at_call 15; exact quiet_left (CS.out _)) | (go_at_call 14; exact quiet_left (CT.out _)))
  go_wp2_with fail
  refine (C3.out _).mono ?_
  rintro e w3 ⟨rfl, hb⟩
  clear kd0 kd1 kdl kx0 kx1 kx2 kx3 kx4 kxl
  have B3_d := (Boxed.drewN (B2_d.alloc _) _).below hb
  have B3_x := (Boxed.drewN (B2_x.alloc _) _).below hb
  have B3_o := Boxed.below (Boxed.drewN (Boxed.made _ #[.int .i64 I, .int .i64 s, .int .i64 0, .int .i64 F, .int .i64 T] 32) _) hb
  have W3 := Lib.hid (blw_trans (blw_drewN (blw_trans W2.out (blw_alloc _ _)) _) hb)
  clear hb B2_d B2_x W2
  have kd0 := B3_d.cell 0 _ rfl
  have kd1 := B3_d.cell 1 _ rfl
  have kdl := B3_d.lt
  try simp at kd0 kd1 kdl
  have ko0 := B3_o.cell 0 _ rfl
  have ko1 := B3_o.cell 1 _ rfl
  have ko2 := B3_o.cell 2 _ rfl
  have ko3 := B3_o.cell 3 _ rfl
  have ko4 := B3_o.cell 4 _ rfl
  have kol := B3_o.lt
  try simp at ko0 ko1 ko2 ko3 ko4 kol
  go_wp2_with fail
  refine (C4.out _).mono ?_
  rintro e w4 ⟨rfl, hb⟩
  clear kd0 kd1 kdl ko0 ko1 ko2 ko3 ko4 kol
  have B4_d := (B3_d.alloc _).below hb
  have B4_x := (B3_x.alloc _).below hb
  have B4_o := (B3_o.alloc _).below hb
  have B4_p := Boxed.below (Boxed.made _ #[.int .i64 I, .int .i64 s, .int .i64 0, .int .i64 F, .int .i64 T] 32) hb
  have W4 := Lib.hid (blw_trans (blw_trans W3.out (blw_alloc _ _)) hb)
  clear hb B3_d B3_x B3_o W3
  have kd0 := B4_d.cell 0 _ rfl
  have kd1 := B4_d.cell 1 _ rfl
  have kdl := B4_d.lt
  try simp at kd0 kd1 kdl
  have ko0 := B4_o.cell 0 _ rfl
  have ko1 := B4_o.cell 1 _ rfl
  have ko2 := B4_o.cell 2 _ rfl
  have ko3 := B4_o.cell 3 _ rfl
  have ko4 := B4_o.cell 4 _ rfl
  have kol := B4_o.lt
  try simp at ko0 ko1 ko2 ko3 ko4 kol
  have kp0 := B4_p.cell 0 _ rfl
  have kp1 := B4_p.cell 1 _ rfl
  have kp2 := B4_p.cell 2 _ rfl
  have kp3 := B4_p.cell 3 _ rfl
  have kp4 := B4_p.cell 4 _ rfl
  have kpl := B4_p.lt
  try simp at kp0 kp1 kp2 kp3 kp4 kpl
  go_wp2_with fail
  refine (C5.out _).mono ?_
  rintro e w5 ⟨rfl, hb⟩
  clear kd0 kd1 kdl ko0 ko1 ko2 ko3 ko4 kol kp0 kp1 kp2 kp3 kp4 kpl
  have B5_d := (B4_d.alloc _).below hb
  have B5_x := (B4_x.alloc _).below hb
  have B5_o := (B4_o.alloc _).below hb
  have B5_p := (B4_p.alloc _).below hb
  have B5_r := Boxed.below (Boxed.made _ #[.int .i64 R, .int .i64 t] 30) hb
  have W5 := Lib.hid (blw_trans (blw_trans W4.out (blw_alloc _ _)) hb)
  clear hb B4_d B4_x B4_o B4_p W4
  have ko0 := B5_o.cell 0 _ rfl
  have ko1 := B5_o.cell 1 _ rfl
  have ko2 := B5_o.cell 2 _ rfl
  have ko3 := B5_o.cell 3 _ rfl
  have ko4 := B5_o.cell 4 _ rfl
  have kol := B5_o.lt
  try simp at ko0 ko1 ko2 ko3 ko4 kol
  clear B5_d B5_x B5_o B5_p B5_r
  go_wp2
  go_ret
  exact ⟨ret_bool (by simp), (blw_trans W5.out (blw_alloc _ _))⟩

set_option maxRecDepth 100000 in
set_option maxHeartbeats 4000000 in
theorem same_ne (c s t : Int) (w : World) (I N F T : Int) (h : okD c s) (C2 : Hid (∀ w, Calls Try.prog 13 #[.agg #[.int .i64 c, .int .i64 s]] w fun e w' => e = .returned (.tuple #[.agg #[.int .i64 I, .int .i64 s, .int .i64 N, .int .i64 F, .int .i64 T], .nilIface]) ∧ Below w.heap.size w w')) (C3 : Hid (∀ w, Calls Try.prog 13 #[.agg #[.int .i64 (-c), .int .i64 s]] w fun e w' => e = .returned (.tuple #[.agg #[.int .i64 I, .int .i64 s, .int .i64 N, .int .i64 F, .int .i64 T], .nilIface]) ∧ Below w.heap.size w w')) (i0 : 0 ≤ I) (_i1 : I ≤ 1000000000000000) (f0 : 0 ≤ F) (f1 : F ≤ 1000000000) (ei : I * P10 s + F = Dcm.mag c) (_n0 : 0 ≤ N) (n1 : N ≤ s) (t0 : 0 ≤ T) (_t1 : T ≤ 1000000000) (ef : T * P10 (s - N) = F) (hz : 0 < N) (ht : T % 10 ≠ 0) (hr : rndE c s t 1 ≠ 0) :
    Calls Try.prog 4 #[.agg #[.int .i64 c, .int .i64 s], .int .i64 t] w fun e w' => e = .returned (.bool true) ∧ Below w.heap.size w w' := by
  have C4 := Lib.hid fun w => round_no c s t 1 w hr
  obtain ⟨s0, s1, c0, c1⟩ := h
  have u0 := Dcm.P10_bd s
  have u1 := Dcm.P10_bd (s - N)
  have m0 := Dcm.mag_bd c
  have m1 : Dcm.mag c ≤ 1000000000000000 := by unfold Dcm.mag; split <;> omega
  have CT := Lib.hid fun w => ten_any s w (by omega) (by omega)
  have CU := Lib.hid fun w => ten_any (s - N) w (by omega) (by omega)
  have CS := Lib.hid fun w => size_any c w (by omega) (by omega)
  have p0 : 0 ≤ I * P10 s := Int.mul_nonneg i0 (by omega)
  have w1 : IntKind.i64.wrap (I * P10 s) = I * P10 s := IntWalk.i64_in _ (by omega)
  have w2 : IntKind.i64.wrap (I * P10 s + F) = Dcm.mag c := by rw [ei]; exact IntWalk.i64_in _ (by omega)
  have w3 : IntKind.i64.wrap (T * P10 (s - N)) = F := by rw [ef]; exact IntWalk.i64_in _ (by omega)
  have w4 : IntKind.i64.wrap (s - N) = s - N := IntWalk.i64_in _ (by omega)
  have d1 : decide (s < N) = false := dec_no (by omega)
  have d2 : decide (0 < N) = true := dec_yes hz
  have em : T.tmod 10 = T % 10 := Int.tmod_eq_emod_of_nonneg t0
  have d3 : (T % 10 == 0) = false := beq_no ht
  clear ht
  go_enter Try.func4, Try.ntmps4
  go_wp2_with fail
  refine (ops_half _).mono ?_
  rintro e w1 ⟨rfl, hb⟩
  have B1_d := Boxed.below (Boxed.made _ #[.int .i64 c, .int .i64 s] 30) hb
  have W1 := Lib.hid (blw_trans (blw_trans (Below.refl w.heap.size w) (blw_alloc _ _)) hb)
  clear hb 
  have kd0 := B1_d.cell 0 _ rfl
  have kd1 := B1_d.cell 1 _ rfl
  have kdl := B1_d.lt
  try simp at kd0 kd1 kdl
  go_wp2_with fail
  refine (C2.out _).mono ?_
  rintro e w2 ⟨rfl, hb⟩
  clear kd0 kd1 kdl
  have B2_d := (B1_d.alloc _).below hb
  have B2_x := Boxed.below (Boxed.made _ #[.int .i64 1, .int .i64 2, .int .i64 1, .int .i64 50, .int .i64 5] 32) hb
  have W2 := Lib.hid (blw_trans (blw_trans W1.out (blw_alloc _ _)) hb)
  clear hb B1_d W1
  have kd0 := B2_d.cell 0 _ rfl
  have kd1 := B2_d.cell 1 _ rfl
  have kdl := B2_d.lt
  try simp at kd0 kd1 kdl
  have kx0 := B2_x.cell 0 _ rfl
  have kx1 := B2_x.cell 1 _ rfl
  have kx2 := B2_x.cell 2 _ rfl
  have kx3 := B2_x.cell 3 _ rfl
  have kx4 := B2_x.cell 4 _ rfl
  have kxl := B2_x.lt
  try simp at kx0 kx1 kx2 kx3 kx4 kxl
  go_wp2_with fail
  go_big_quiet (first | (go_at_call 15; exact quiet_left (CS.out _)) | (go_at_call 14; first | (with_reducible exact quiet_left (CT.out _)) | (with_reducible exact quiet_left (CU.out _))))
  go_wp2_with fail
  refine (C3.out _).mono ?_
  rintro e w3 ⟨rfl, hb⟩
  clear kd0 kd1 kdl kx0 kx1 kx2 kx3 kx4 kxl
  have B3_d := (Boxed.drewN (B2_d.alloc _) _).below hb
  have B3_x := (Boxed.drewN (B2_x.alloc _) _).below hb
  have B3_o := Boxed.below (Boxed.drewN (Boxed.made _ #[.int .i64 I, .int .i64 s, .int .i64 N, .int .i64 F, .int .i64 T] 32) _) hb
  have W3 := Lib.hid (blw_trans (blw_drewN (blw_trans W2.out (blw_alloc _ _)) _) hb)
  clear hb B2_d B2_x W2
  have kd0 := B3_d.cell 0 _ rfl
  have kd1 := B3_d.cell 1 _ rfl
  have kdl := B3_d.lt
  try simp at kd0 kd1 kdl
  have ko0 := B3_o.cell 0 _ rfl
  have ko1 := B3_o.cell 1 _ rfl
  have ko2 := B3_o.cell 2 _ rfl
  have ko3 := B3_o.cell 3 _ rfl
  have ko4 := B3_o.cell 4 _ rfl
  have kol := B3_o.lt
  try simp at ko0 ko1 ko2 ko3 ko4 kol
  go_wp2_with fail
  refine (C4.out _).mono ?_
  rintro e w4 ⟨rfl, hb⟩
  clear kd0 kd1 kdl ko0 ko1 ko2 ko3 ko4 kol
  have B4_d := (B3_d.alloc _).below hb
  have B4_x := (B3_x.alloc _).below hb
  have B4_o := (B3_o.alloc _).below hb
  have B4_p := Boxed.below (Boxed.made _ #[.int .i64 I, .int .i64 s, .int .i64 N, .int .i64 F, .int .i64 T] 32) hb
  have W4 := Lib.hid (blw_trans (blw_trans W3.out (blw_alloc _ _)) hb)
  clear hb B3_d B3_x B3_o W3
  have kd0 := B4_d.cell 0 _ rfl
  have kd1 := B4_d.cell 1 _ rfl
  have kdl := B4_d.lt
  try simp at kd0 kd1 kdl
  have ko0 := B4_o.cell 0 _ rfl
  have ko1 := B4_o.cell 1 _ rfl
  have ko2 := B4_o.cell 2 _ rfl
  have ko3 := B4_o.cell 3 _ rfl
  have ko4 := B4_o.cell 4 _ rfl
  have kol := B4_o.lt
  try simp at ko0 ko1 ko2 ko3 ko4 kol
  have kp0 := B4_p.cell 0 _ rfl
  have kp1 := B4_p.cell 1 _ rfl
  have kp2 := B4_p.cell 2 _ rfl
  have kp3 := B4_p.cell 3 _ rfl
  have kp4 := B4_p.cell 4 _ rfl
  have kpl := B4_p.lt
  try simp at kp0 kp1 kp2 kp3 kp4 kpl
  clear B4_d B4_x B4_o B4_p
  go_wp2
  go_ret
  exact ⟨ret_bool (by simp), (blw_trans W4.out (blw_alloc _ _))⟩

set_option maxRecDepth 100000 in
set_option maxHeartbeats 4000000 in
theorem same_nl (c s t : Int) (w : World) (I N F T : Int) (h : okD c s) (C2 : Hid (∀ w, Calls Try.prog 13 #[.agg #[.int .i64 c, .int .i64 s]] w fun e w' => e = .returned (.tuple #[.agg #[.int .i64 I, .int .i64 s, .int .i64 N, .int .i64 F, .int .i64 T], .nilIface]) ∧ Below w.heap.size w w')) (C3 : Hid (∀ w, Calls Try.prog 13 #[.agg #[.int .i64 (-c), .int .i64 s]] w fun e w' => e = .returned (.tuple #[.agg #[.int .i64 I, .int .i64 s, .int .i64 N, .int .i64 F, .int .i64 T], .nilIface]) ∧ Below w.heap.size w w')) (i0 : 0 ≤ I) (_i1 : I ≤ 1000000000000000) (f0 : 0 ≤ F) (f1 : F ≤ 1000000000) (ei : I * P10 s + F = Dcm.mag c) (_n0 : 0 ≤ N) (n1 : N ≤ s) (t0 : 0 ≤ T) (_t1 : T ≤ 1000000000) (ef : T * P10 (s - N) = F) (hz : 0 < N) (ht : T % 10 ≠ 0) (hr : rndE c s t 1 = 0) (hl : t < s) :
    Calls Try.prog 4 #[.agg #[.int .i64 c, .int .i64 s], .int .i64 t] w fun e w' => e = .returned (.bool true) ∧ Below w.heap.size w w' := by
  have C4 := Lib.hid fun w => round_yes c s t 1 w hr
  generalize Dcm.rndC c s t 1 = R at *
  obtain ⟨s0, s1, c0, c1⟩ := h
  have u0 := Dcm.P10_bd s
  have u1 := Dcm.P10_bd (s - N)
  have m0 := Dcm.mag_bd c
  have m1 : Dcm.mag c ≤ 1000000000000000 := by unfold Dcm.mag; split <;> omega
  have CT := Lib.hid fun w => ten_any s w (by omega) (by omega)
  have CU := Lib.hid fun w => ten_any (s - N) w (by omega) (by omega)
  have CS := Lib.hid fun w => size_any c w (by omega) (by omega)
  have p0 : 0 ≤ I * P10 s := Int.mul_nonneg i0 (by omega)
  have w1 : IntKind.i64.wrap (I * P10 s) = I * P10 s := IntWalk.i64_in _ (by omega)
  have w2 : IntKind.i64.wrap (I * P10 s + F) = Dcm.mag c := by rw [ei]; exact IntWalk.i64_in _ (by omega)
  have w3 : IntKind.i64.wrap (T * P10 (s - N)) = F := by rw [ef]; exact IntWalk.i64_in _ (by omega)
  have w4 : IntKind.i64.wrap (s - N) = s - N := IntWalk.i64_in _ (by omega)
  have d1 : decide (s < N) = false := dec_no (by omega)
  have d2 : decide (0 < N) = true := dec_yes hz
  have em : T.tmod 10 = T % 10 := Int.tmod_eq_emod_of_nonneg t0
  have d3 : (T % 10 == 0) = false := beq_no ht
  clear ht
  go_enter Try.func4, Try.ntmps4
  go_wp2_with fail
  refine (ops_half _).mono ?_
  rintro e w1 ⟨rfl, hb⟩
  have B1_d := Boxed.below (Boxed.made _ #[.int .i64 c, .int .i64 s] 30) hb
  have W1 := Lib.hid (blw_trans (blw_trans (Below.refl w.heap.size w) (blw_alloc _ _)) hb)
  clear hb 
  have kd0 := B1_d.cell 0 _ rfl
  have kd1 := B1_d.cell 1 _ rfl
  have kdl := B1_d.lt
  try simp at kd0 kd1 kdl
  go_wp2_with fail
  refine (C2.out _).mono ?_
  rintro e w2 ⟨rfl, hb⟩
  clear kd0 kd1 kdl
  have B2_d := (B1_d.alloc _).below hb
  have B2_x := Boxed.below (Boxed.made _ #[.int .i64 1, .int .i64 2, .int .i64 1, .int .i64 50, .int .i64 5] 32) hb
  have W2 := Lib.hid (blw_trans (blw_trans W1.out (blw_alloc _ _)) hb)
  clear hb B1_d W1
  have kd0 := B2_d.cell 0 _ rfl
  have kd1 := B2_d.cell 1 _ rfl
  have kdl := B2_d.lt
  try simp at kd0 kd1 kdl
  have kx0 := B2_x.cell 0 _ rfl
  have kx1 := B2_x.cell 1 _ rfl
  have kx2 := B2_x.cell 2 _ rfl
  have kx3 := B2_x.cell 3 _ rfl
  have kx4 := B2_x.cell 4 _ rfl
  have kxl := B2_x.lt
  try simp at kx0 kx1 kx2 kx3 kx4 kxl
  go_wp2_with fail
  go_big_quiet (first | (go_at_call 15; exact quiet_left (CS.out _)) | (go_at_call 14; first | (with_reducible exact quiet_left (CT.out _)) | (with_reducible exact quiet_left (CU.out _))))
  go_wp2_with fail
  refine (C3.out _).mono ?_
  rintro e w3 ⟨rfl, hb⟩
  clear kd0 kd1 kdl kx0 kx1 kx2 kx3 kx4 kxl
  have B3_d := (Boxed.drewN (B2_d.alloc _) _).below hb
  have B3_x := (Boxed.drewN (B2_x.alloc _) _).below hb
  have B3_o := Boxed.below (Boxed.drewN (Boxed.made _ #[.int .i64 I, .int .i64 s, .int .i64 N, .int .i64 F, .int .i64 T] 32) _) hb
  have W3 := Lib.hid (blw_trans (blw_drewN (blw_trans W2.out (blw_alloc _ _)) _) hb)
  clear hb B2_d B2_x W2
  have kd0 := B3_d.cell 0 _ rfl
  have kd1 := B3_d.cell 1 _ rfl
  have kdl := B3_d.lt
  try simp at kd0 kd1 kdl
  have ko0 := B3_o.cell 0 _ rfl
  have ko1 := B3_o.cell 1 _ rfl
  have ko2 := B3_o.cell 2 _ rfl
  have ko3 := B3_o.cell 3 _ rfl
  have ko4 := B3_o.cell 4 _ rfl
  have kol := B3_o.lt
  try simp at ko0 ko1 ko2 ko3 ko4 kol
  go_wp2_with fail
  refine (C4.out _).mono ?_
  rintro e w4 ⟨rfl, hb⟩
  clear kd0 kd1 kdl ko0 ko1 ko2 ko3 ko4 kol
  have B4_d := (B3_d.alloc _).below hb
  have B4_x := (B3_x.alloc _).below hb
  have B4_o := (B3_o.alloc _).below hb
  have B4_p := Boxed.below (Boxed.made _ #[.int .i64 I, .int .i64 s, .int .i64 N, .int .i64 F, .int .i64 T] 32) hb
  have W4 := Lib.hid (blw_trans (blw_trans W3.out (blw_alloc _ _)) hb)
  clear hb B3_d B3_x B3_o W3
  have kd0 := B4_d.cell 0 _ rfl
  have kd1 := B4_d.cell 1 _ rfl
  have kdl := B4_d.lt
  try simp at kd0 kd1 kdl
  have ko0 := B4_o.cell 0 _ rfl
  have ko1 := B4_o.cell 1 _ rfl
  have ko2 := B4_o.cell 2 _ rfl
  have ko3 := B4_o.cell 3 _ rfl
  have ko4 := B4_o.cell 4 _ rfl
  have kol := B4_o.lt
  try simp at ko0 ko1 ko2 ko3 ko4 kol
  have kp0 := B4_p.cell 0 _ rfl
  have kp1 := B4_p.cell 1 _ rfl
  have kp2 := B4_p.cell 2 _ rfl
  have kp3 := B4_p.cell 3 _ rfl
  have kp4 := B4_p.cell 4 _ rfl
  have kpl := B4_p.lt
  try simp at kp0 kp1 kp2 kp3 kp4 kpl
  clear B4_d B4_x B4_o B4_p
  go_wp2
  go_ret
  exact ⟨ret_bool (by simp), (blw_trans W4.out (blw_alloc _ _))⟩

set_option maxRecDepth 100000 in
set_option maxHeartbeats 4000000 in
theorem same_ng (c s t : Int) (w : World) (I N F T : Int) (h : okD c s) (C2 : Hid (∀ w, Calls Try.prog 13 #[.agg #[.int .i64 c, .int .i64 s]] w fun e w' => e = .returned (.tuple #[.agg #[.int .i64 I, .int .i64 s, .int .i64 N, .int .i64 F, .int .i64 T], .nilIface]) ∧ Below w.heap.size w w')) (C3 : Hid (∀ w, Calls Try.prog 13 #[.agg #[.int .i64 (-c), .int .i64 s]] w fun e w' => e = .returned (.tuple #[.agg #[.int .i64 I, .int .i64 s, .int .i64 N, .int .i64 F, .int .i64 T], .nilIface]) ∧ Below w.heap.size w w')) (i0 : 0 ≤ I) (_i1 : I ≤ 1000000000000000) (f0 : 0 ≤ F) (f1 : F ≤ 1000000000) (ei : I * P10 s + F = Dcm.mag c) (_n0 : 0 ≤ N) (n1 : N ≤ s) (t0 : 0 ≤ T) (_t1 : T ≤ 1000000000) (ef : T * P10 (s - N) = F) (hz : 0 < N) (ht : T % 10 ≠ 0) (hr : rndE c s t 1 = 0) (hl : s ≤ t) (F' R : Int) (eR : c * P10 (t - s) = R) (C5 : Hid (∀ w, Calls Try.prog 13 #[.agg #[.int .i64 R, .int .i64 t]] w fun e w' => e = .returned (.tuple #[.agg #[.int .i64 I, .int .i64 t, .int .i64 N, .int .i64 F', .int .i64 T], .nilIface]) ∧ Below w.heap.size w w')) :
    Calls Try.prog 4 #[.agg #[.int .i64 c, .int .i64 s], .int .i64 t] w fun e w' => e = .returned (.bool true) ∧ Below w.heap.size w w' := by
  have C4 := Lib.hid fun w => round_yes c s t 1 w hr
  have e4 : Dcm.rndC c s t 1 = R := by unfold Dcm.rndC; rw [if_pos hl]; exact eR
  rw [e4] at C4
  clear eR e4
  obtain ⟨s0, s1, c0, c1⟩ := h
  have u0 := Dcm.P10_bd s
  have u1 := Dcm.P10_bd (s - N)
  have m0 := Dcm.mag_bd c
  have m1 : Dcm.mag c ≤ 1000000000000000 := by unfold Dcm.mag; split <;> omega
  have CT := Lib.hid fun w => ten_any s w (by omega) (by omega)
  have CU := Lib.hid fun w => ten_any (s - N) w (by omega) (by omega)
  have CS := Lib.hid fun w => size_any c w (by omega) (by omega)
  have p0 : 0 ≤ I * P10 s := Int.mul_nonneg i0 (by omega)
  have w1 : IntKind.i64.wrap (I * P10 s) = I * P10 s := IntWalk.i64_in _ (by omega)
  have w2 : IntKind.i64.wrap (I * P10 s + F) = Dcm.mag c := by rw [ei]; exact IntWalk.i64_in _ (by omega)
  have w3 : IntKind.i64.wrap (T * P10 (s - N)) = F := by rw [ef]; exact IntWalk.i64_in _ (by omega)
  have w4 : IntKind.i64.wrap (s - N) = s - N := IntWalk.i64_in _ (by omega)
  have d1 : decide (s < N) = false := dec_no (by omega)
  have d2 : decide (0 < N) = true := dec_yes hz
  have em : T.tmod 10 = T % 10 := Int.tmod_eq_emod_of_nonneg t0
  have d3 : (T % 10 == 0) = false := beq_no ht
  clear ht
  go_enter Try.func4, Try.ntmps4
  go_wp2_with fail
  refine (ops_half _).mono ?_
  rintro e w1 ⟨rfl, hb⟩
  have B1_d := Boxed.below (Boxed.made _ #[.int .i64 c, .int .i64 s] 30) hb
  have W1 := Lib.hid (blw_trans (blw_trans (Below.refl w.heap.size w) (blw_alloc _ _)) hb)
  clear hb 
  have kd0 := B1_d.cell 0 _ rfl
  have kd1 := B1_d.cell 1 _ rfl
  have kdl := B1_d.lt
  try simp at kd0 kd1 kdl
  go_wp2_with fail
  refine (C2.out _).mono ?_
  rintro e w2 ⟨rfl, hb⟩
  clear kd0 kd1 kdl
  have B2_d := (B1_d.alloc _).below hb
  have B2_x := Boxed.below (Boxed.made _ #[.int .i64 1, .int .i64 2, .int .i64 1, .int .i64 50, .int .i64 5] 32) hb
  have W2 := Lib.hid (blw_trans (blw_trans W1.out (blw_alloc _ _)) hb)
  clear hb B1_d W1
  have kd0 := B2_d.cell 0 _ rfl
  have kd1 := B2_d.cell 1 _ rfl
  have kdl := B2_d.lt
  try simp at kd0 kd1 kdl
  have kx0 := B2_x.cell 0 _ rfl
  have kx1 := B2_x.cell 1 _ rfl
  have kx2 := B2_x.cell 2 _ rfl
  have kx3 := B2_x.cell 3 _ rfl
  have kx4 := B2_x.cell 4 _ rfl
  have kxl := B2_x.lt
  try simp at kx0 kx1 kx2 kx3 kx4 kxl
  go_wp2_with fail
  go_big_quiet (first | (go_at_call 15; exact quiet_left (CS.out _)) | (go_at_call 14; first | (with_reducible exact quiet_left (CT.out _)) | (with_reducible exact quiet_left (CU.out _))))
  go_wp2_with fail
  refine (C3.out _).mono ?_
  rintro e w3 ⟨rfl, hb⟩
  clear kd0 kd1 kdl kx0 kx1 kx2 kx3 kx4 kxl
  have B3_d := (Boxed.drewN (B2_d.alloc _) _).below hb
  have B3_x := (Boxed.drewN (B2_x.alloc _) _).below hb
  have B3_o := Boxed.below (Boxed.drewN (Boxed.made _ #[.int .i64 I, .int .i64 s, .int .i64 N, .int .i64 F, .int .i64 T] 32) _) hb
  have W3 := Lib.hid (blw_trans (blw_drewN (blw_trans W2.out (blw_alloc _ _)) _) hb)
  clear hb B2_d B2_x W2
  have kd0 := B3_d.cell 0 _ rfl
  have kd1 := B3_d.cell 1 _ rfl
  have kdl := B3_d.lt
  try simp at kd0 kd1 kdl
  have ko0 := B3_o.cell 0 _ rfl
  have ko1 := B3_o.cell 1 _ rfl
  have ko2 := B3_o.cell 2 _ rfl
  have ko3 := B3_o.cell 3 _ rfl
  have ko4 := B3_o.cell 4 _ rfl
  have kol := B3_o.lt
  try simp at ko0 ko1 ko2 ko3 ko4 kol
  go_wp2_with fail
  refine (C4.out _).mono ?_
  rintro e w4 ⟨rfl, hb⟩
  clear kd0 kd1 kdl ko0 ko1 ko2 ko3 ko4 kol
  have B4_d := (B3_d.alloc _).below hb
  have B4_x := (B3_x.alloc _).below hb
  have B4_o := (B3_o.alloc _).below hb
  have B4_p := Boxed.below (Boxed.made _ #[.int .i64 I, .int .i64 s, .int .i64 N, .int .i64 F, .int .i64 T] 32) hb
  have W4 := Lib.hid (blw_trans (blw_trans W3.out (blw_alloc _ _)) hb)
  clear hb B3_d B3_x B3_o W3
  have kd0 := B4_d.cell 0 _ rfl
  have kd1 := B4_d.cell 1 _ rfl
  have kdl := B4_d.lt
  try simp at kd0 kd1 kdl
  have ko0 := B4_o.cell 0 _ rfl
  have ko1 := B4_o.cell 1 _ rfl
  have ko2 := B4_o.cell 2 _ rfl
  have ko3 := B4_o.cell 3 _ rfl
  have ko4 := B4_o.cell 4 _ rfl
  have kol := B4_o.lt
  try simp at ko0 ko1 ko2 ko3 ko4 kol
  have kp0 := B4_p.cell 0 _ rfl
  have kp1 := B4_p.cell 1 _ rfl
  have kp2 := B4_p.cell 2 _ rfl
  have kp3 := B4_p.cell 3 _ rfl
  have kp4 := B4_p.cell 4 _ rfl
  have kpl := B4_p.lt
  try simp at kp0 kp1 kp2 kp3 kp4 kpl
  go_wp2_with fail
  refine (C5.out _).mono ?_
  rintro e w5 ⟨rfl, hb⟩
  clear kd0 kd1 kdl ko0 ko1 ko2 ko3 ko4 kol kp0 kp1 kp2 kp3 kp4 kpl
  have B5_d := (B4_d.alloc _).below hb
  have B5_x := (B4_x.alloc _).below hb
  have B5_o := (B4_o.alloc _).below hb
  have B5_p := (B4_p.alloc _).below hb
  have B5_r := Boxed.below (Boxed.made _ #[.int .i64 R, .int .i64 t] 30) hb
  have W5 := Lib.hid (blw_trans (blw_trans W4.out (blw_alloc _ _)) hb)
  clear hb B4_d B4_x B4_o B4_p W4
  have ko0 := B5_o.cell 0 _ rfl
  have ko1 := B5_o.cell 1 _ rfl
  have ko2 := B5_o.cell 2 _ rfl
  have ko3 := B5_o.cell 3 _ rfl
  have ko4 := B5_o.cell 4 _ rfl
  have kol := B5_o.lt
  try simp at ko0 ko1 ko2 ko3 ko4 kol
  clear B5_d B5_x B5_o B5_p B5_r
  go_wp2
  go_ret
  exact ⟨ret_bool (by simp), (blw_trans W5.out (blw_alloc _ _))⟩

theorem opsSame_any (c s t : Int) (w : World) :
    Calls Try.prog 4 #[.agg #[.int .i64 c, .int .i64 s], .int .i64 t] w fun e w' => e = .returned (.bool true) ∧ Below w.heap.size w w' := by
  by_cases h : okD c s
  · obtain ⟨I, N, F, T, C2, C3, C5, i0, i1, f0, f1, ei, n0, n1, t0, t1, ef, hz⟩ := ops_facts c s h
    by_cases hr : rndE c s t 1 = 0
    · by_cases hl : s ≤ t
      · have ok := rndC_ok hr
        have e : Dcm.rndC c s t 1 = c * P10 (t - s) := by unfold Dcm.rndC; rw [if_pos hl]
        rw [e] at ok
        obtain ⟨F', C6⟩ := C5 t hl ok
        by_cases hn : N = 0
        · exact same_zg c s t w I N F T h (Lib.hid C2) (Lib.hid C3) i0 i1 f0 f1 ei n0 n1 t0 t1 ef hn hr hl F' _ rfl (Lib.hid C6)
        · exact same_ng c s t w I N F T h (Lib.hid C2) (Lib.hid C3) i0 i1 f0 f1 ei n0 n1 t0 t1 ef (by omega) (hz.resolve_left hn) hr hl F' _ rfl (Lib.hid C6)
      · by_cases hn : N = 0
        · exact same_zl c s t w I N F T h (Lib.hid C2) (Lib.hid C3) i0 i1 f0 f1 ei n0 n1 t0 t1 ef hn hr (by omega)
        · exact same_nl c s t w I N F T h (Lib.hid C2) (Lib.hid C3) i0 i1 f0 f1 ei n0 n1 t0 t1 ef (by omega) (hz.resolve_left hn) hr (by omega)
    · by_cases hn : N = 0
      · exact same_ze c s t w I N F T h (Lib.hid C2) (Lib.hid C3) i0 i1 f0 f1 ei n0 n1 t0 t1 ef hn hr
      · exact same_ne c s t w I N F T h (Lib.hid C2) (Lib.hid C3) i0 i1 f0 f1 ei n0 n1 t0 t1 ef (by omega) (hz.resolve_left hn) hr
  · exact same_err c s t w h
end Go.Proofs.Ytdannkcacldhmaa
