/- Small contracts beside package dec: Ten, Size; a rounding whatever its end; what is rounded is a number. -/
import Derived.Test.YtmmjbjoefogmoaaGreatDoorDecAdd
import Derived.Test.YtmmjbjoefogmoaaGreatDoorDecRndE
namespace Go.Proofs.YtmmjbjoefogmoaaGreatDoor
open Go.RowKit
open Dcm (P10 okD nrm)

set_option maxHeartbeats 400000 in
theorem ten_any (n : Int) (w : World) (h0 : 0 ≤ n) (h1 : n ≤ 9) :
    Calls Tryz.prog 51 #[.int .i64 n] w fun e w' => e = .returned (.int .i64 (P10 n)) ∧ w = w' := by
  go_enter Tryz.func51, Tryz.ntmps51
  go_wp2
  go_loop [3, 4] (fun t i => ∃ k : Int, 0 ≤ k ∧ k ≤ n ∧ i = .int .i64 k ∧ t = .int .i64 (P10 k)) (fun _ i => (n - intOf i).toNat)
  case atStart => exact ⟨0, by omega, by omega, rfl, rfl⟩
  case round =>
    obtain ⟨k, k0, k1, rfl, rfl⟩ := hrel
    have hb := Dcm.P10_bd k
    by_cases hlt : k < n
    · have hs := Lib.hid (Dcm.P10_succ k k0 (by omega))
      go_wp2
      go_round
      case rel => exact ⟨k + 1, by omega, by omega, by go_num, by rw [hs.out]⟩
      case measure => simp [intOf]; omega
    · obtain rfl : k = n := by omega
      go_wp2
      go_ret
      exact ⟨rfl, rfl⟩
set_option maxHeartbeats 400000 in
theorem size_any (n : Int) (w : World) (h0 : -9223372036854775807 ≤ n) (h1 : n ≤ 9223372036854775807) :
    Calls Tryz.prog 60 #[.int .i64 n] w fun e w' => e = .returned (.int .i64 (Dcm.mag n)) ∧ w = w' := by
  by_cases h : n < 0
  · have e : Dcm.mag n = -n := by unfold Dcm.mag; rw [if_pos h]
    have E := Lib.hid e
    clear e
    go_enter Tryz.func60, Tryz.ntmps60
    go_wp2
    go_ret
    exact ⟨ret_int (by rw [E.out]), rfl⟩
  · have e : Dcm.mag n = n := by unfold Dcm.mag; rw [if_neg h]
    have E := Lib.hid e
    clear e
    go_enter Tryz.func60, Tryz.ntmps60
    go_wp2
    go_ret
    exact ⟨ret_int (by rw [E.out]), rfl⟩

/-- a rounding, whatever its end -/
def AnyDec (w : World) (e : Ending) (w' : World) : Prop := ∃ (p q : Int) (v : Value), e = .returned (.tuple #[.agg #[.int .i64 p, .int .i64 q], v]) ∧ Below w.heap.size w w'
theorem round_tot (c s t way : Int) (w : World) : Calls Tryz.prog 21 #[.agg #[.int .i64 c, .int .i64 s], .int .i64 t, .int .i64 way] w (AnyDec w) := by
  by_cases h : rndE c s t way = 0
  · exact (round_yes c s t way w h).mono fun e w' g => ⟨_, _, _, g.1, g.2⟩
  · exact (round_no c s t way w h).mono fun e w' g => ⟨_, _, _, g.1, g.2⟩
theorem rndC_ok {c s t way : Int} (h : rndE c s t way = 0) : okD (Dcm.rndC c s t way) t := by
  obtain ⟨ha, t0, t1, w0, w1, hr⟩ := rndE_zero.1 h
  obtain ⟨s0, s1, a0, a1⟩ := ha
  by_cases hst : s ≤ t
  · have hr := hr hst
    have e : Dcm.rndC c s t way = c * P10 (t - s) := by unfold Dcm.rndC; rw [if_pos hst]
    rw [e]
    refine ⟨t0, t1, ?_, ?_⟩
    · unfold Dcm.mag at hr; split at hr
      · rw [Int.neg_mul] at hr; omega
      · have := Int.mul_nonneg (by omega : 0 ≤ c) (by have := Dcm.P10_pos (t - s); omega : 0 ≤ P10 (t - s)); omega
    · unfold Dcm.mag at hr; split at hr
      · have := Int.mul_neg_of_neg_of_pos (by omega : c < 0) (Dcm.P10_pos (t - s)); omega
      · omega
  · obtain ⟨b0, b1, _⟩ := Dcm.near_facts c s t way ⟨a0, a1⟩ s1 t0 (by omega) w0 w1
    exact ⟨t0, t1, by omega, by omega⟩
theorem rndE_neg {c s t way : Int} (h : rndE c s t way = 0) : rndE (-c) s t way = 0 := by
  obtain ⟨ha, t0, t1, w0, w1, hr⟩ := rndE_zero.1 h
  refine rndE_zero.2 ⟨⟨ha.1, ha.2.1, by have := ha.2.2; omega, by have := ha.2.2; omega⟩, t0, t1, w0, w1, fun g => ?_⟩
  have := hr g
  have e : Dcm.mag (-c) = Dcm.mag c := by unfold Dcm.mag; (repeat' split) <;> omega
  rw [e]; exact this
theorem rnd_again {c t way : Int} (hc : okD c t) (w0 : 1 ≤ way) (w1 : way ≤ 5) : rndE c t t way = 0 ∧ Dcm.rndC c t t way = c := by
  obtain ⟨t0, t1, a0, a1⟩ := hc
  have e : P10 (t - t) = 1 := by rw [Int.sub_self]; rfl
  refine ⟨rndE_zero.2 ⟨⟨t0, t1, a0, a1⟩, t0, t1, w0, w1, fun _ => ?_⟩, ?_⟩
  · rw [e]; unfold Dcm.mag; split <;> omega
  · unfold Dcm.rndC; rw [if_pos (Int.le_refl _), e]; omega
theorem add_zero_ok {a s : Int} (h : okD a s) : addOk a s 0 0 ∧ Dcm.addC a s 0 0 = a ∧ Dcm.addS s 0 = s := by
  obtain ⟨s0, s1, a0, a1⟩ := h
  have e : Dcm.addC a s 0 0 = a := by
    unfold Dcm.addC
    by_cases g : s ≤ 0
    · obtain rfl : s = 0 := by omega
      simp [P10]
    · rw [if_neg g]; simp
  refine ⟨⟨⟨s0, s1, a0, a1⟩, ⟨by omega, by omega, by omega, by omega⟩, by rw [e]; exact a0, by rw [e]; exact a1⟩, e, ?_⟩
  unfold Dcm.addS; split <;> omega
theorem addOk_comm {a s b t : Int} (h : addOk a s b t) : addOk b t a s := by
  obtain ⟨ha, hb, h1, h2⟩ := h
  rw [Dcm.addC_comm] at h1 h2
  exact ⟨hb, ha, h1, h2⟩
theorem addOk_okD {a s b t : Int} (h : addOk a s b t) : okD (Dcm.addC a s b t) (Dcm.addS s t) := by
  obtain ⟨ha, hb, h1, h2⟩ := h
  have := Dcm.addS_bd ha.1 ha.2.1 hb.1 hb.2.1
  exact ⟨this.1, this.2, h1, h2⟩
theorem addOk_nrm {a s b t : Int} (h : addOk a s b t) : nrm (Dcm.addC a s b t) (Dcm.addS s t) = nrm a s + nrm b t :=
  Dcm.nrm_add a s b t h.1.1 h.1.2.1 h.2.1.1 h.2.1.2.1
end Go.Proofs.YtmmjbjoefogmoaaGreatDoor
