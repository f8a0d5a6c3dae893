/- A rounding whatever its end; what is rounded is a number. -/
import Derived.Test.YtdmenoimamnldaaGreatDoorDz4
namespace Go.Proofs.YtdmenoimamnldaaGreatDoor
open Go.RowKit
open Dcm (P10 okD nrm)

/-- what is wrong with a rounding: 0: nothing -/
def rndE (c s t way : Int) : Int :=
  if ¬ okD c s then 1 else if t < 0 ∨ 9 < t then 1 else if way < 1 ∨ 5 < way then 3 else if Dcm.rndOk c s t then 0 else 1
theorem rndE_zero {c s t way : Int} : rndE c s t way = 0 ↔ okD c s ∧ 0 ≤ t ∧ t ≤ 9 ∧ 1 ≤ way ∧ way ≤ 5 ∧ Dcm.rndOk c s t := by
  unfold rndE
  by_cases h1 : okD c s
  · by_cases h2 : t < 0 ∨ 9 < t
    · simp [h1, h2]; omega
    · by_cases h3 : way < 1 ∨ 5 < way
      · simp [h1, h2, h3]; omega
      · by_cases h4 : Dcm.rndOk c s t
        · simp [h1, h2, h3, h4]; omega
        · simp [h1, h2, h3, h4]
  · simp [h1]
theorem round_yes (c s t way : Int) (w : World) (h : rndE c s t way = 0) :
    Calls Tryz.prog 16 #[.agg #[.int .i64 c, .int .i64 s], .int .i64 t, .int .i64 way] w fun e w' => e = .returned (.tuple #[.agg #[.int .i64 (Dcm.rndC c s t way), .int .i64 t], .nilIface]) ∧ Below w.heap.size w w' := by
  obtain ⟨ha, t0, t1, w0, w5, hr⟩ := rndE_zero.1 h
  by_cases hst : s ≤ t
  · have hr := hr hst
    unfold Dcm.mag at hr
    by_cases hc : c < 0
    · rw [if_pos hc] at hr
      exact round_up_neg c s t way w ha t1 w0 w5 hst hc hr
    · rw [if_neg hc] at hr
      exact round_up_pos c s t way w ha t1 w0 w5 hst (by omega) hr
  · by_cases hc : c < 0
    · cases hn : Dcm.near way (-c / P10 (s - t)) (-c % P10 (s - t)) (P10 (s - t)) (-1)
      · have g := round_down_neg_no (-c) s t way _ w (by rwa [Int.neg_neg]) t0 w0 w5 (by omega) (by omega) rfl hn
        rwa [Int.neg_neg] at g
      · have g := round_down_neg_yes (-c) s t way _ w (by rwa [Int.neg_neg]) t0 w0 w5 (by omega) (by omega) rfl hn
        rwa [Int.neg_neg] at g
    · cases hn : Dcm.near way (c / P10 (s - t)) (c % P10 (s - t)) (P10 (s - t)) 1
      · exact round_down_pos_no c s t way _ w ha t0 w0 w5 (by omega) (by omega) rfl hn
      · exact round_down_pos_yes c s t way _ w ha t0 w0 w5 (by omega) (by omega) rfl hn
theorem round_no (c s t way : Int) (w : World) (h : rndE c s t way ≠ 0) :
    Calls Tryz.prog 16 #[.agg #[.int .i64 c, .int .i64 s], .int .i64 t, .int .i64 way] w fun e w' => e = .returned (.tuple #[.agg #[.int .i64 0, .int .i64 0], errV (rndE c s t way)]) ∧ Below w.heap.size w w' := by
  unfold rndE at h ⊢
  by_cases ha : okD c s
  · rw [if_neg (by simpa using ha)] at h ⊢
    by_cases ht : t < 0 ∨ 9 < t
    · rw [if_pos ht]
      by_cases h0 : t < 0
      · exact round_lo c s t way w ha h0
      · exact round_hi c s t way w ha (by omega) (by omega)
    · rw [if_neg ht] at h ⊢
      by_cases hw : way < 1 ∨ 5 < way
      · rw [if_pos hw]
        by_cases h0 : way < 1
        · exact round_wlo c s t way w ha (by omega) (by omega) h0
        · exact round_whi c s t way w ha (by omega) (by omega) (by omega) (by omega)
      · rw [if_neg hw] at h ⊢
        by_cases hr : Dcm.rndOk c s t
        · rw [if_pos hr] at h; exact absurd rfl h
        · rw [if_neg hr]
          unfold Dcm.rndOk at hr
          have hst : s ≤ t := by
            rcases Int.lt_or_le t s with g | g
            · exact absurd (fun g' => by omega) hr
            · exact g
          have hm : 1000000000000000 < Dcm.mag c * P10 (t - s) := by
            rcases Int.lt_or_le 1000000000000000 (Dcm.mag c * P10 (t - s)) with g | g
            · exact g
            · exact absurd (fun _ => g) hr
          unfold Dcm.mag at hm
          by_cases hc : c < 0
          · rw [if_pos hc] at hm
            have hw := fun w => wide_any (-c) (t - s) w (by omega) (by have := ha.2.2; omega) (by omega) (by have := ha.1; omega)
            by_cases g : 0 < hiW (-c * P10 (t - s))
            · exact round_far_neg_hi c s t way _ _ w ha (by omega) (by omega) (by omega) hst hc g hw
            · exact round_far_neg_lo c s t way _ _ w ha (by omega) (by omega) (by omega) hst hc (by unfold hiW at *; omega) (by unfold hiW at *; unfold loW; omega) hw
          · rw [if_neg hc] at hm
            have hw := fun w => wide_any c (t - s) w (by omega) (by have := ha.2.2; omega) (by omega) (by have := ha.1; omega)
            by_cases g : 0 < hiW (c * P10 (t - s))
            · exact round_far_pos_hi c s t way _ _ w ha (by omega) (by omega) (by omega) hst (by omega) g hw
            · exact round_far_pos_lo c s t way _ _ w ha (by omega) (by omega) (by omega) hst (by omega) (by unfold hiW at *; omega) (by unfold hiW at *; unfold loW; omega) hw
  · rw [if_pos ha]; exact round_bad c s t way w ha
end Go.Proofs.YtdmenoimamnldaaGreatDoor
namespace Go.Proofs.YtdmenoimamnldaaGreatDoor
open Go.RowKit
open Dcm (P10 okD nrm)

/-- a rounding, whatever its end -/
def AnyDec (w : World) (e : Ending) (w' : World) : Prop := ∃ (p q : Int) (v : Value), e = .returned (.tuple #[.agg #[.int .i64 p, .int .i64 q], v]) ∧ Below w.heap.size w w'
theorem round_tot (c s t way : Int) (w : World) : Calls Tryz.prog 16 #[.agg #[.int .i64 c, .int .i64 s], .int .i64 t, .int .i64 way] w (AnyDec w) := by
  by_cases h : rndE c s t way = 0
  · exact (round_yes c s t way w h).mono fun e w' g => ⟨_, _, _, g.1, g.2⟩
  · exact (round_no c s t way w h).mono fun e w' g => ⟨_, _, _, g.1, g.2⟩
theorem rndC_ok {c s t way : Int} (h : rndE c s t way = 0) : okD (Dcm.rndC c s t way) t := by
  obtain ⟨ha, t0, t1, w0, w1, hr⟩ := rndE_zero.1 h
  obtain ⟨s0, s1, a0, a1⟩ := ha
  by_cases hst : s ≤ t
  · have hr := hr hst
    have e : Dcm.rndC c s t way = c * P10 (t - s) := by unfold Dcm.rndC; rw [if_pos hst]
    rw [e]
    refine ⟨t0, t1, ?_, ?_⟩
    · unfold Dcm.mag at hr; split at hr
      · rw [Int.neg_mul] at hr; omega
      · have := Int.mul_nonneg (by omega : 0 ≤ c) (by have := Dcm.P10_pos (t - s); omega : 0 ≤ P10 (t - s)); omega
    · unfold Dcm.mag at hr; split at hr
      · have := Int.mul_neg_of_neg_of_pos (by omega : c < 0) (Dcm.P10_pos (t - s)); omega
      · omega
  · obtain ⟨b0, b1, _⟩ := Dcm.near_facts c s t way ⟨a0, a1⟩ s1 t0 (by omega) w0 w1
    exact ⟨t0, t1, by omega, by omega⟩
theorem rndE_neg {c s t way : Int} (h : rndE c s t way = 0) : rndE (-c) s t way = 0 := by
  obtain ⟨ha, t0, t1, w0, w1, hr⟩ := rndE_zero.1 h
  refine rndE_zero.2 ⟨⟨ha.1, ha.2.1, by have := ha.2.2; omega, by have := ha.2.2; omega⟩, t0, t1, w0, w1, fun g => ?_⟩
  have := hr g
  have e : Dcm.mag (-c) = Dcm.mag c := by unfold Dcm.mag; (repeat' split) <;> omega
  rw [e]; exact this
theorem rnd_again {c t way : Int} (hc : okD c t) (w0 : 1 ≤ way) (w1 : way ≤ 5) : rndE c t t way = 0 ∧ Dcm.rndC c t t way = c := by
  obtain ⟨t0, t1, a0, a1⟩ := hc
  have e : P10 (t - t) = 1 := by rw [Int.sub_self]; rfl
  refine ⟨rndE_zero.2 ⟨⟨t0, t1, a0, a1⟩, t0, t1, w0, w1, fun _ => ?_⟩, ?_⟩
  · rw [e]; unfold Dcm.mag; split <;> omega
  · unfold Dcm.rndC; rw [if_pos (Int.le_refl _), e]; omega
end Go.Proofs.YtdmenoimamnldaaGreatDoor
