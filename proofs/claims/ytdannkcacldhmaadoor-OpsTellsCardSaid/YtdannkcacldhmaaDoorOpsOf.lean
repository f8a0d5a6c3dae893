/- The walks of linguisterref1.DecFault and linguisterref1.OpsOf. -/
import Derived.Test.YtdannkcacldhmaaDoorOpsD
import Derived.StillTailTactics
namespace Go.Proofs.YtdannkcacldhmaaDoor
open Go.RowKit
open Dcm (P10 okD)

set_option maxRecDepth 100000 in
set_option maxHeartbeats 1000000 in
theorem dflt_no (c s : Int) (w : World) (h : okD c s) :
    Calls Tryd.prog 9 #[.agg #[.int .i64 c, .int .i64 s]] w fun e w' => e = .returned (.bool false) ∧ Below w.heap.size w w' := by
  obtain ⟨h1, h2, h3, h4⟩ := h
  have d1 : decide (s < 0) = false := dec_no (by omega)
  have d2 : decide (9 < s) = false := dec_no (by omega)
  have d3 : decide (c < -1000000000000000) = false := dec_no (by omega)
  have d4 : decide (1000000000000000 < c) = false := dec_no (by omega)
  go_enter Tryd.func9, Tryd.ntmps9
  go_wp2
  go_ret
  exact ⟨rfl, blw_alloc _ _⟩
set_option maxRecDepth 100000 in
set_option maxHeartbeats 1000000 in
theorem dflt_yes (c s : Int) (w : World) (h : ¬ okD c s) :
    Calls Tryd.prog 9 #[.agg #[.int .i64 c, .int .i64 s]] w fun e w' => e = .returned (.bool true) ∧ Below w.heap.size w w' := by
  by_cases h1 : s < 0
  · go_enter Tryd.func9, Tryd.ntmps9
    go_wp2
    go_ret
    exact ⟨rfl, blw_alloc _ _⟩
  by_cases h2 : 9 < s
  · go_enter Tryd.func9, Tryd.ntmps9
    go_wp2
    go_ret
    exact ⟨rfl, blw_alloc _ _⟩
  by_cases h3 : c < -1000000000000000
  · go_enter Tryd.func9, Tryd.ntmps9
    go_wp2
    go_ret
    exact ⟨rfl, blw_alloc _ _⟩
  by_cases h4 : 1000000000000000 < c
  · go_enter Tryd.func9, Tryd.ntmps9
    go_wp2
    go_ret
    exact ⟨rfl, blw_alloc _ _⟩
  exact absurd ⟨by omega, by omega, by omega, by omega⟩ h

/-- one digit more: what is left over by the next power of ten -/
theorem ten_more (F k : Int) (k0 : 0 ≤ k) (k1 : k ≤ 8) (h : F % P10 k = 0) : (F % P10 (k + 1) = 0 ↔ F / P10 k % 10 = 0) ∧ F / P10 (k + 1) = F / P10 k / 10 := by
  have hb := Dcm.P10_bd k
  have e := Dcm.P10_succ k k0 k1
  obtain ⟨q, rfl⟩ := Int.dvd_of_emod_eq_zero h
  rw [e, Int.mul_emod_mul_of_pos _ _ (by omega), Int.mul_ediv_cancel_left _ (by omega), Int.mul_ediv_mul_of_pos _ _ (by omega)]
  refine ⟨⟨fun g => ?_, fun g => by rw [g, Int.mul_zero]⟩, rfl⟩
  rcases Int.mul_eq_zero.1 g with g | g
  · omega
  · exact g

set_option maxRecDepth 100000 in
set_option maxHeartbeats 1000000 in
theorem opsOf_any (c s : Int) (w : World) (h : okD c s) :
    Calls Tryd.prog 10 #[.agg #[.int .i64 c, .int .i64 s]] w fun e w' => e = .returned (.agg #[.int .i64 (Dcm.mag c / P10 s), .int .i64 s, .int .i64 ((Dcm.strip s.toNat (Dcm.mag c % P10 s)).1 : Int), .int .i64 (Dcm.mag c % P10 s), .int .i64 (Dcm.strip s.toNat (Dcm.mag c % P10 s)).2]) ∧ Below w.heap.size w w' := by
  obtain ⟨s0, s1, c0, c1⟩ := h
  have CS := Lib.hid fun w => size_any c w (by omega) (by omega)
  have CT := Lib.hid fun w => ten_any s w s0 s1
  have U0 := Dcm.P10_bd s
  have m0 := Dcm.mag_bd c
  have m1 : Dcm.mag c ≤ 1000000000000000 := by unfold Dcm.mag; split <;> omega
  have r0 := Int.emod_nonneg (Dcm.mag c) (by omega : P10 s ≠ 0)
  have r1 := Int.emod_lt_of_pos (Dcm.mag c) (by omega : 0 < P10 s)
  have e0 : (P10 s == 0) = false := beq_no (by omega)
  have e1 : ¬ P10 s = 0 := by omega
  have e2 : IntKind.i64.wrap ((Dcm.mag c).tdiv (P10 s)) = Dcm.mag c / P10 s := IntWalk.i64_quo _ _ ⟨m0, by omega, U0.1⟩
  have e3 : (Dcm.mag c).tmod (P10 s) = Dcm.mag c % P10 s := IntWalk.rem_in _ _ m0
  generalize gm : Dcm.mag c = m at *
  generalize gU : P10 s = U at *
  generalize gF : m % U = F at *
  generalize gI : m / U = I at *
  clear gm gF gI c0 c1
  have GU := Lib.hid gU
  clear gU
  generalize hR : Dcm.strip s.toNat F = R at *
  have HR := Lib.hid hR
  clear hR
  go_enter Tryd.func10, Tryd.ntmps10
  go_wp2_with fail
  refine (CS.out _).mono ?_
  rintro e w' ⟨rfl, rfl⟩
  go_wp2_with fail
  refine (CT.out _).mono ?_
  rintro e w' ⟨rfl, rfl⟩
  go_wp2_with fail
  have A1 := Boxed.alloc (Boxed.made w #[.int .i64 c, .int .i64 s] 23) (.cells #[.int .i64 0, .int .i64 0, .int .i64 0, .int .i64 0, .int .i64 0] 25)
  have Z1 := Boxed.at (q := w.heap.size + 1) (Boxed.made (w.alloc (.cells #[.int .i64 c, .int .i64 s] 23)) #[.int .i64 0, .int .i64 0, .int .i64 0, .int .i64 0, .int .i64 0] 25) (by simp)
  have W1 := Lib.hid (blw_trans (blw_alloc w (.cells #[.int .i64 c, .int .i64 s] 23)) (blw_alloc _ (.cells #[.int .i64 0, .int .i64 0, .int .i64 0, .int .i64 0, .int .i64 0] 25)))
  generalize (w.alloc (.cells #[.int .i64 c, .int .i64 s] 23)).alloc (.cells #[.int .i64 0, .int .i64 0, .int .i64 0, .int .i64 0, .int .i64 0] 25) = w1 at *
  have k0 := A1.cell 0 _ rfl
  have k1 := A1.cell 1 _ rfl
  have z0 := Z1.cell 0 _ rfl
  have z1 := Z1.cell 1 _ rfl
  have z2 := Z1.cell 2 _ rfl
  have z3 := Z1.cell 3 _ rfl
  have z4 := Z1.cell 4 _ rfl
  have f0 := Z1.free 0 (by simp)
  have f1 := Z1.free 1 (by simp)
  have f2 := Z1.free 2 (by simp)
  have f3 := Z1.free 3 (by simp)
  have f4 := Z1.free 4 (by simp)
  clear A1 Z1
  have B := Lib.hid (show F % P10 (s - s) = 0 ∧ Dcm.strip s.toNat (F / P10 (s - s)) = R by rw [Int.sub_self]; exact ⟨Int.emod_one _, by rw [show P10 0 = 1 from rfl, Int.ediv_one]; exact HR.out⟩)
  go_loop [5] (fun i => ∃ k : Int, 0 ≤ k ∧ k ≤ s ∧ i = .int .i64 k ∧ Hid (F % P10 (s - k) = 0 ∧ Dcm.strip k.toNat (F / P10 (s - k)) = R)) (fun i => (intOf i).toNat)
  case atStart => exact ⟨s, s0, by omega, rfl, B⟩
  case round =>
    obtain ⟨k, q0, q1, rfl, HK⟩ := hrel
    clear B
    by_cases hw : 0 < k
    · have d1 : decide (0 < k) = true := dec_yes hw
      have CW := Lib.hid fun w => ten_any (s - k + 1) w (by omega) (by omega)
      have V := Dcm.P10_bd (s - k + 1)
      have a1 : IntKind.i64.wrap (s - k) = s - k := IntWalk.i64_in _ (by omega)
      have a2 : IntKind.i64.wrap (s - k + 1) = s - k + 1 := IntWalk.i64_in _ (by omega)
      have a3 : (P10 (s - k + 1) == 0) = false := beq_no (by omega)
      have a4 : ¬ P10 (s - k + 1) = 0 := by omega
      have a5 : F.tmod (P10 (s - k + 1)) = F % P10 (s - k + 1) := IntWalk.rem_in _ _ r0
      have TM := Lib.hid (ten_more F (s - k) (by omega) (by omega) HK.out.1)
      go_wp2_with fail
      refine (CW.out _).mono ?_
      rintro e w' ⟨rfl, rfl⟩
      by_cases ht : F % P10 (s - k + 1) = 0
      · have d2 : (F % P10 (s - k + 1) == 0) = true := beq_yes ht
        have HN : Hid (F % P10 (s - (k - 1)) = 0 ∧ Dcm.strip (k - 1).toNat (F / P10 (s - (k - 1))) = R) := by
          have e : s - (k - 1) = s - k + 1 := by omega
          have h := HK.out.2
          have e' : k.toNat = (k - 1).toNat + 1 := by omega
          rw [e'] at h
          unfold Dcm.strip at h
          rw [if_pos (TM.out.1.1 ht)] at h
          rw [e]
          exact ⟨ht, by rw [TM.out.2]; exact h⟩
        go_wp2
        go_round
        case rel => exact ⟨k - 1, by omega, by omega, by go_num, HN⟩
        case measure => simp [intOf]; omega
      · have d2 : (F % P10 (s - k + 1) == 0) = false := beq_no ht
        have HE : R = (k.toNat, F / P10 (s - k)) := by
          have h := HK.out.2
          have e' : k.toNat = (k - 1).toNat + 1 := by omega
          rw [e'] at h
          unfold Dcm.strip at h
          rw [if_neg (fun g => ht (TM.out.1.2 g))] at h
          rw [← h, ← e']
        have EK := Lib.hid (show max k 0 = k by omega)
        subst HE
        have CU := Lib.hid fun w => ten_any (s - k) w (by omega) (by omega)
        have V2 := Dcm.P10_bd (s - k)
        have b3 : (P10 (s - k) == 0) = false := beq_no (by omega)
        have b4 : ¬ P10 (s - k) = 0 := by omega
        have b5 : IntKind.i64.wrap (F.tdiv (P10 (s - k))) = F / P10 (s - k) := IntWalk.i64_quo _ _ ⟨r0, by omega, V2.1⟩
        go_wp2_with fail
        go_still_tail 17, (by kernel_rfl)
        still_call ((CT.out _).mono fun e w' h => ⟨h.1, h.2.symm⟩)
        repeat still_step
        still_call ((CU.out _).mono fun e w' h => ⟨h.1, h.2.symm⟩)
        repeat still_step
        refine wpStill_nil ?_
        go_wp2
        refine bodyPost_ret (v := .agg #[.int .i64 I, .int .i64 s, .int .i64 k, .int .i64 F, .int .i64 (F / P10 (s - k))]) (by simp [results, Tryd.results10, go_sem, z0, z1, z2, z3, z4]) rfl ⟨by simp [EK.out], ?_⟩
        refine Below.drew ?_
        repeat (first | exact W1.out | refine Below.setCell ?_ (by simp) _)
    · have d1 : decide (0 < k) = false := dec_no hw
      have a1 : IntKind.i64.wrap (s - k) = s - k := IntWalk.i64_in _ (by omega)
      have HE : R = (k.toNat, F / P10 (s - k)) := by
        have h := HK.out.2
        have e' : k.toNat = 0 := by omega
        rw [e'] at h ⊢
        exact h.symm
      have EK := Lib.hid (show max k 0 = k by omega)
      subst HE
      have CU := Lib.hid fun w => ten_any (s - k) w (by omega) (by omega)
      have V2 := Dcm.P10_bd (s - k)
      have b3 : (P10 (s - k) == 0) = false := beq_no (by omega)
      have b4 : ¬ P10 (s - k) = 0 := by omega
      have b5 : IntKind.i64.wrap (F.tdiv (P10 (s - k))) = F / P10 (s - k) := IntWalk.i64_quo _ _ ⟨r0, by omega, V2.1⟩
      go_wp2_with fail
      go_still_tail 17, (by kernel_rfl)
      still_call ((CT.out _).mono fun e w' h => ⟨h.1, h.2.symm⟩)
      repeat still_step
      still_call ((CU.out _).mono fun e w' h => ⟨h.1, h.2.symm⟩)
      repeat still_step
      refine wpStill_nil ?_
      go_wp2
      refine bodyPost_ret (v := .agg #[.int .i64 I, .int .i64 s, .int .i64 k, .int .i64 F, .int .i64 (F / P10 (s - k))]) (by simp [results, Tryd.results10, go_sem, z0, z1, z2, z3, z4]) rfl ⟨by simp [EK.out], ?_⟩
      refine Below.drew ?_
      repeat (first | exact W1.out | refine Below.setCell ?_ (by simp) _)
end Go.Proofs.YtdannkcacldhmaaDoor
