/- The walks of linguisterref1.Floor, Order, RoundOf, AddOf, DecFault: what they reckon. No conditions but the arguments' own. -/
import Derived.Test.YtmmjbjoefogmoaaGreatDoorDecRefP
import Derived.Test.YtmmjbjoefogmoaaGreatDoorDecMore
namespace Go.Proofs.YtmmjbjoefogmoaaGreatDoor
open Go.RowKit
open Dcm (P10 okD nrm mag flo lef)

theorem tdiv_flo (c U : Int) (hU : 1 ≤ U) (hc : c < 0) : (c < c.tdiv U * U ∧ c / U = c.tdiv U - 1) ∨ (c.tdiv U * U = c ∧ c / U = c.tdiv U) := by
  obtain ⟨n, rfl⟩ : ∃ n, c = -n := ⟨-c, by omega⟩
  have h1 := Int.emod_add_mul_ediv n U
  rw [Int.neg_tdiv, Int.tdiv_eq_ediv_of_nonneg (by omega), Int.neg_mul, Int.mul_comm]
  rcases Dcm.neg_parts n U (by omega) with ⟨a, _, b⟩ | ⟨a, _, b⟩
  · right; omega
  · left; omega

set_option maxRecDepth 100000 in
set_option maxHeartbeats 400000 in
theorem floor_any (c s : Int) (w : World) (h : okD c s) :
    Calls Tryz.prog 56 #[.agg #[.int .i64 c, .int .i64 s]] w fun e w' => e = .returned (.int .i64 (flo c s)) ∧ Below w.heap.size w w' := by
  obtain ⟨s0, s9, c0, c1⟩ := h
  have CT := Lib.hid fun w => ten_any s w s0 s9
  have hU := Dcm.P10_bd s
  have hF : flo c s = c / P10 s := rfl
  generalize P10 s = U at *
  by_cases hc : 0 ≤ c
  · have h1 := Int.emod_add_mul_ediv c U
    have h2 := Int.emod_nonneg c (show U ≠ 0 by omega)
    have h3 : 0 ≤ c / U := Int.ediv_nonneg hc (by omega)
    have h4 : c / U ≤ c := Int.ediv_le_self _ hc
    rw [Int.mul_comm] at h1
    have h5 : c / U * U ≤ c := by omega
    have h6 : 0 ≤ c / U * U := Int.mul_nonneg h3 (by omega)
    have d1 : decide (c < c / U * U) = false := dec_no (by omega)
    have HF := Lib.hid hF
    clear hF h1 h2
    obtain ⟨T, hT⟩ : ∃ T, c / U = T := ⟨_, rfl⟩
    have HT := Lib.hid hT
    rw [hT] at h3 h4 h5 h6 d1
    go_enter Tryz.func56, Tryz.ntmps56
    go_wp2_with (go_at_call 51; refine (CT.out _).mono ?_; rintro e w' ⟨rfl, rfl⟩)
    go_ret
    exact ⟨ret_int (by rw [HF.out, HT.out]), blw_alloc _ _⟩
  · have tb := Dcm.tdiv_bd c U hU.1 ⟨c0, c1⟩
    have hT0 := tdiv_flo c U hU.1 (by omega)
    have HF := Lib.hid hF
    clear hF
    obtain ⟨T, hT⟩ : ∃ T, c.tdiv U = T := ⟨_, rfl⟩
    rw [hT] at hT0 tb
    have hm : -1000000000000000 ≤ T * U ∧ T * U ≤ 0 := by
      have e := Dcm.sum_quo 0 c U hU.1
      have m := Dcm.tmod_bd c U hU.1
      rcases hT0 with h | h
      · refine ⟨by omega, ?_⟩
        have : T ≤ 0 := by
          rw [← hT]
          obtain ⟨n, rfl⟩ : ∃ n, c = -n := ⟨-c, by omega⟩
          rw [Int.neg_tdiv, Int.tdiv_eq_ediv_of_nonneg (by omega)]
          have := Int.ediv_nonneg (show 0 ≤ n by omega) (show 0 ≤ U by omega)
          omega
        have h2 : (-T) * U ≥ 0 := Int.mul_nonneg (by omega) (by omega)
        rw [Int.neg_mul] at h2; omega
      · omega
    obtain ⟨m0, m1⟩ := hm
    rcases hT0 with ⟨h1, h2⟩ | ⟨h1, h2⟩
    · have d1 : decide (c < T * U) = true := dec_yes h1
      have HE := Lib.hid h2
      clear h2
      go_enter Tryz.func56, Tryz.ntmps56
      go_wp2_with (go_at_call 51; refine (CT.out _).mono ?_; rintro e w' ⟨rfl, rfl⟩)
      go_ret
      exact ⟨ret_int (by rw [HF.out, HE.out]), blw_alloc _ _⟩
    · have d1 : decide (c < T * U) = false := dec_no (by omega)
      have HE := Lib.hid h2
      clear h1 h2
      go_enter Tryz.func56, Tryz.ntmps56
      go_wp2_with (go_at_call 51; refine (CT.out _).mono ?_; rintro e w' ⟨rfl, rfl⟩)
      go_ret
      exact ⟨ret_int (by rw [HF.out, HE.out]), blw_alloc _ _⟩
end Go.Proofs.YtmmjbjoefogmoaaGreatDoor
