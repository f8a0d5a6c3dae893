/- A rounding whatever its end; what is rounded is a number. -/
import Derived.Test.YtaijjffnamjhiaaGreatDoorDecRndE
namespace Go.Proofs.YtaijjffnamjhiaaGreatDoor
open Go.RowKit
open Dcm (P10 okD nrm)

/-- a rounding, whatever its end -/
def AnyDec (w : World) (e : Ending) (w' : World) : Prop := ∃ (p q : Int) (v : Value), e = .returned (.tuple #[.agg #[.int .i64 p, .int .i64 q], v]) ∧ Below w.heap.size w w'
theorem round_tot (c s t way : Int) (w : World) : Calls Tryz.prog 35 #[.agg #[.int .i64 c, .int .i64 s], .int .i64 t, .int .i64 way] w (AnyDec w) := by
  by_cases h : rndE c s t way = 0
  · exact (round_yes c s t way w h).mono fun e w' g => ⟨_, _, _, g.1, g.2⟩
  · exact (round_no c s t way w h).mono fun e w' g => ⟨_, _, _, g.1, g.2⟩
theorem rndC_ok {c s t way : Int} (h : rndE c s t way = 0) : okD (Dcm.rndC c s t way) t := by
  obtain ⟨ha, t0, t1, w0, w1, hr⟩ := rndE_zero.1 h
  obtain ⟨s0, s1, a0, a1⟩ := ha
  by_cases hst : s ≤ t
  · have hr := hr hst
    have e : Dcm.rndC c s t way = c * P10 (t - s) := by unfold Dcm.rndC; rw [if_pos hst]
    rw [e]
    refine ⟨t0, t1, ?_, ?_⟩
    · unfold Dcm.mag at hr; split at hr
      · rw [Int.neg_mul] at hr; omega
      · have := Int.mul_nonneg (by omega : 0 ≤ c) (by have := Dcm.P10_pos (t - s); omega : 0 ≤ P10 (t - s)); omega
    · unfold Dcm.mag at hr; split at hr
      · have := Int.mul_neg_of_neg_of_pos (by omega : c < 0) (Dcm.P10_pos (t - s)); omega
      · omega
  · obtain ⟨b0, b1, _⟩ := Dcm.near_facts c s t way ⟨a0, a1⟩ s1 t0 (by omega) w0 w1
    exact ⟨t0, t1, by omega, by omega⟩
theorem rndE_neg {c s t way : Int} (h : rndE c s t way = 0) : rndE (-c) s t way = 0 := by
  obtain ⟨ha, t0, t1, w0, w1, hr⟩ := rndE_zero.1 h
  refine rndE_zero.2 ⟨⟨ha.1, ha.2.1, by have := ha.2.2; omega, by have := ha.2.2; omega⟩, t0, t1, w0, w1, fun g => ?_⟩
  have := hr g
  have e : Dcm.mag (-c) = Dcm.mag c := by unfold Dcm.mag; (repeat' split) <;> omega
  rw [e]; exact this
theorem rnd_again {c t way : Int} (hc : okD c t) (w0 : 1 ≤ way) (w1 : way ≤ 5) : rndE c t t way = 0 ∧ Dcm.rndC c t t way = c := by
  obtain ⟨t0, t1, a0, a1⟩ := hc
  have e : P10 (t - t) = 1 := by rw [Int.sub_self]; rfl
  refine ⟨rndE_zero.2 ⟨⟨t0, t1, a0, a1⟩, t0, t1, w0, w1, fun _ => ?_⟩, ?_⟩
  · rw [e]; unfold Dcm.mag; split <;> omega
  · unfold Dcm.rndC; rw [if_pos (Int.le_refl _), e]; omega
end Go.Proofs.YtaijjffnamjhiaaGreatDoor
