/- Plain law: the order, the rounding and the sum of numbers as linguisterref1 reckons them, by the greatest whole number that is no greater. No program. -/
import Derived.Test.YtdmenoimamnldaaGreatDoorDz3
import Derived.Test.YtdmenoimamnldaaGreatDoorDz5
import Derived.Test.YtdmenoimamnldaaGreatDoorDz1
namespace Go.Proofs.YtdmenoimamnldaaGreatDoor
open Go.RowKit
open Dcm (P10 okD nrm)

theorem add_zero_ok {a s : Int} (h : okD a s) : addOk a s 0 0 ∧ Dcm.addC a s 0 0 = a ∧ Dcm.addS s 0 = s := by
  obtain ⟨s0, s1, a0, a1⟩ := h
  have e : Dcm.addC a s 0 0 = a := by
    unfold Dcm.addC
    by_cases g : s ≤ 0
    · obtain rfl : s = 0 := by omega
      simp [P10]
    · rw [if_neg g]; simp
  refine ⟨⟨⟨s0, s1, a0, a1⟩, ⟨by omega, by omega, by omega, by omega⟩, by rw [e]; exact a0, by rw [e]; exact a1⟩, e, ?_⟩
  unfold Dcm.addS; split <;> omega
theorem addOk_comm {a s b t : Int} (h : addOk a s b t) : addOk b t a s := by
  obtain ⟨ha, hb, h1, h2⟩ := h
  rw [Dcm.addC_comm] at h1 h2
  exact ⟨hb, ha, h1, h2⟩
theorem addOk_okD {a s b t : Int} (h : addOk a s b t) : okD (Dcm.addC a s b t) (Dcm.addS s t) := by
  obtain ⟨ha, hb, h1, h2⟩ := h
  have := Dcm.addS_bd ha.1 ha.2.1 hb.1 hb.2.1
  exact ⟨this.1, this.2, h1, h2⟩
theorem addOk_nrm {a s b t : Int} (h : addOk a s b t) : nrm (Dcm.addC a s b t) (Dcm.addS s t) = nrm a s + nrm b t :=
  Dcm.nrm_add a s b t h.1.1 h.1.2.1 h.2.1.1 h.2.1.2.1
end Go.Proofs.YtdmenoimamnldaaGreatDoor
namespace Go.Proofs.YtdmenoimamnldaaGreatDoor.Dcm

/-- the greatest whole number that is no greater -/
def flo (c s : Int) : Int := c / P10 s
/-- what is left of a number behind that -/
def lef (c s : Int) : Int := c % P10 s
theorem flo_lef (c s : Int) : c = flo c s * P10 s + lef c s := by
  have := Int.emod_add_mul_ediv c (P10 s)
  unfold flo lef
  rw [Int.mul_comm]; omega
theorem lef_bd (c s : Int) : 0 ≤ lef c s ∧ lef c s < P10 s :=
  ⟨Int.emod_nonneg _ (by have := P10_pos s; omega), Int.emod_lt_of_pos _ (P10_pos s)⟩
theorem flo_bd (c s : Int) (h : -1000000000000000 ≤ c ∧ c ≤ 1000000000000000) : -1000000000000000 ≤ flo c s ∧ flo c s ≤ 1000000000000000 := by
  have h1 := flo_lef c s
  have h2 := lef_bd c s
  have h3 := P10_pos s
  generalize flo c s = x at *
  generalize lef c s = r at *
  generalize P10 s = U at *
  constructor
  · rcases Int.lt_or_le x (-1000000000000000) with g | g
    · have : (x + 1) * U ≤ (-1000000000000000) * 1 := by
        have : (-(x + 1)) * U ≥ 1000000000000000 * 1 := Int.mul_le_mul (by omega) (by omega) (by omega) (by omega)
        rw [Int.neg_mul] at this; omega
      rw [Int.add_mul] at this; omega
    · exact g
  · rcases Int.lt_or_le 1000000000000000 x with g | g
    · have : x * U ≥ 1000000000000001 * 1 := Int.mul_le_mul (by omega) (by omega) (by omega) (by omega)
      omega
    · exact g
/-- so far in a greater unit -/
theorem lef_scale (c s S : Int) (s0 : 0 ≤ s) (h : s ≤ S) (S9 : S ≤ 9) : c * P10 (S - s) = flo c s * P10 S + lef c s * P10 (S - s) ∧ 0 ≤ lef c s * P10 (S - s) ∧ lef c s * P10 (S - s) < P10 S := by
  have h1 := flo_lef c s
  have h2 := lef_bd c s
  have e : P10 s * P10 (S - s) = P10 S := by rw [P10_mul s (S - s) s0 (by omega) (by omega)]; congr 1; omega
  have h3 := P10_pos (S - s)
  generalize flo c s = x at *
  generalize lef c s = r at *
  generalize P10 (S - s) = V at *
  refine ⟨?_, Int.mul_nonneg h2.1 (by omega), ?_⟩
  · rw [h1, Int.add_mul, Int.mul_assoc, e]
  · rw [← e]; exact Int.mul_lt_mul_of_pos_right h2.2 h3
def ordV (a s b t : Int) : Int := if flo a s = flo b t then lef a s * P10 (9 - s) - lef b t * P10 (9 - t) else flo a s - flo b t
theorem ordV_nrm {a s b t : Int} (ha : okD a s) (hb : okD b t) : (ordV a s b t < 0 ↔ nrm a s < nrm b t) ∧ (ordV a s b t = 0 ↔ nrm a s = nrm b t) := by
  have e1 := lef_scale a s 9 ha.1 ha.2.1 (by omega)
  have e2 := lef_scale b t 9 hb.1 hb.2.1 (by omega)
  have e9 : P10 9 = 1000000000 := rfl
  rw [e9] at e1 e2
  unfold ordV nrm
  generalize a * P10 (9 - s) = A at *
  generalize b * P10 (9 - t) = B at *
  generalize lef a s * P10 (9 - s) = p at *
  generalize lef b t * P10 (9 - t) = q at *
  generalize flo a s = x at *
  generalize flo b t = y at *
  split <;> constructor <;> constructor <;> omega

/-- is it rounded up from the lesser one? -/
def upB (way low rest U c : Int) : Bool :=
  if way = 1 then decide (0 < rest) && decide (c < 0)
  else if way = 3 then decide (0 < rest)
  else if way = 4 then decide (U < 2 * rest) || decide (2 * rest = U) && decide (0 < c)
  else if way = 5 then decide (U < 2 * rest) || decide (2 * rest = U) && decide (mag low % 2 = 1)
  else false
theorem upB1 (low rest U c : Int) : upB 1 low rest U c = (decide (0 < rest) && decide (c < 0)) := rfl
theorem upB2 (low rest U c : Int) : upB 2 low rest U c = false := rfl
theorem upB3 (low rest U c : Int) : upB 3 low rest U c = decide (0 < rest) := rfl
theorem upB4 (low rest U c : Int) : upB 4 low rest U c = (decide (U < 2 * rest) || decide (2 * rest = U) && decide (0 < c)) := rfl
theorem upB5 (low rest U c : Int) : upB 5 low rest U c = (decide (U < 2 * rest) || decide (2 * rest = U) && decide (mag low % 2 = 1)) := rfl
def rndF (c U way : Int) : Int := c / U + if upB way (c / U) (c % U) U c then 1 else 0
theorem neg_parts (n U : Int) (hU : 0 < U) : ((-n) / U = -(n / U) ∧ (-n) % U = 0 ∧ n % U = 0) ∨ ((-n) / U = -(n / U) - 1 ∧ (-n) % U = U - n % U ∧ 0 < n % U) := by
  have h1 := Int.emod_add_mul_ediv n U
  have h2 := Int.emod_nonneg n (show U ≠ 0 by omega)
  have h3 := Int.emod_lt_of_pos n hU
  by_cases h : n % U = 0
  · left
    have := (Int.ediv_emod_unique (a := -n) (b := U) (r := 0) (q := -(n / U)) hU).2 ⟨by rw [Int.mul_neg]; omega, by omega, hU⟩
    exact ⟨this.1, this.2, h⟩
  · right
    have := (Int.ediv_emod_unique (a := -n) (b := U) (r := U - n % U) (q := -(n / U) - 1) hU).2 ⟨by rw [Int.mul_sub, Int.mul_neg]; omega, by omega, by omega⟩
    exact ⟨this.1, this.2, by omega⟩
theorem rndC_F (c s t way : Int) (h : t < s) (h0 : 1 ≤ way) (h1 : way ≤ 5) : rndC c s t way = rndF c (P10 (s - t)) way := by
  have hU := P10_pos (s - t)
  unfold rndC rndF
  rw [if_neg (by omega)]
  generalize P10 (s - t) = U at *
  unfold rdU
  by_cases hc : c < 0
  · have e1 : mag c = -c := by unfold mag; rw [if_pos hc]
    have e2 : sgn c = -1 := by unfold sgn; rw [if_pos hc]
    obtain ⟨n, rfl⟩ : ∃ n, c = -n := ⟨-c, by omega⟩
    rw [e1, e2, Int.neg_neg]
    have hn : 0 < n := by omega
    have g1 := Int.emod_add_mul_ediv n U
    have g2 := Int.emod_nonneg n (show U ≠ 0 by omega)
    have g3 := Int.emod_lt_of_pos n hU
    have g4 : 0 ≤ n / U := Int.ediv_nonneg (by omega) (by omega)
    have np := neg_parts n U hU
    clear g1 e1 e2
    generalize n / U = q at *
    generalize n % U = r at *
    have m1 : mag (-q) = q := by unfold mag; split <;> omega
    have m2 : mag (-q - 1) = q + 1 := by unfold mag; split <;> omega
    rcases np with ⟨a, b, d⟩ | ⟨a, b, d⟩
    · rw [a, b, d]
      rcases ways way h0 h1 with rfl | rfl | rfl | rfl | rfl
      all_goals
        simp only [near, upB]
        simp
        try omega
    · rw [a, b]
      rcases ways way h0 h1 with rfl | rfl | rfl | rfl | rfl
      · simp [near, upB]; omega
      · simp [near, upB]; omega
      · simp [near, upB]; omega
      · simp only [near, upB]
        by_cases k : U ≤ 2 * r
        · simp [show ¬ U < 2 * (U - r) by omega, k]; omega
        · simp [show U < 2 * (U - r) by omega, k]
      · simp only [near, upB, m2]
        by_cases k : U < 2 * r
        · simp [show ¬ U < 2 * (U - r) by omega, k, show ¬ 2 * (U - r) = U by omega]; omega
        · by_cases k2 : 2 * r = U
          · have e : 2 * (U - r) = U := by omega
            by_cases k3 : q % 2 = 1
            · simp [k2, e, k3, show ¬ (q + 1) % 2 = 1 by omega]; omega
            · simp [k2, e, k3, show (q + 1) % 2 = 1 by omega]
          · simp [show U < 2 * (U - r) by omega, k, k2]
  · have e1 : mag c = c := by unfold mag; rw [if_neg hc]
    have e2 : sgn c = 1 ∨ c = 0 := by unfold sgn; rw [if_neg hc]; first | (left; rfl) | (split <;> omega)
    rw [e1]
    have g2 := Int.emod_nonneg c (show U ≠ 0 by omega)
    have g3 := Int.emod_lt_of_pos c hU
    have g4 : 0 ≤ c / U := Int.ediv_nonneg (by omega) (by omega)
    have m : mag (c / U) = c / U := by unfold mag; split <;> omega
    rcases e2 with e2 | rfl
    · rw [e2]
      rcases ways way h0 h1 with rfl | rfl | rfl | rfl | rfl
      · simp [near, upB, hc]
      · simp [near, upB]
      · simp [near, upB]
      · simp only [near, upB]
        generalize hr : c % U = r at *
        by_cases k : U < 2 * r
        · simp [k, show U ≤ 2 * r by omega]
        · by_cases k2 : 2 * r = U
          · have cp : 0 < c := by
              rcases Int.lt_or_le 0 c with g | g
              · exact g
              · exfalso
                have h0 : c = 0 := by omega
                have h1 : r = 0 := by rw [← hr, h0, Int.zero_emod]
                omega
            simp [k2, cp]
          · simp [k, k2, show ¬ U ≤ 2 * r by omega]
      · simp [near, upB, m]
    · simp [near, upB]
      first | done | (repeat' split) <;> omega
/-- the sum, and if there is room -/
theorem addC_F (a s b t : Int) (ha : okD a s) (hb : okD b t) :
    (flo a s + flo b t) * P10 (addS s t) + lef a s * P10 (addS s t - s) + lef b t * P10 (addS s t - t) = addC a s b t ∧
    0 ≤ lef a s * P10 (addS s t - s) ∧ lef a s * P10 (addS s t - s) < P10 (addS s t) ∧ 0 ≤ lef b t * P10 (addS s t - t) ∧ lef b t * P10 (addS s t - t) < P10 (addS s t) := by
  obtain ⟨s0, s9, _, _⟩ := ha
  obtain ⟨t0, t9, _, _⟩ := hb
  have hS : s ≤ addS s t ∧ t ≤ addS s t ∧ addS s t ≤ 9 := by unfold addS; split <;> omega
  have e1 := lef_scale a s (addS s t) s0 hS.1 hS.2.2
  have e2 := lef_scale b t (addS s t) t0 hS.2.1 hS.2.2
  refine ⟨?_, e1.2.1, e1.2.2, e2.2.1, e2.2.2⟩
  have e3 : addC a s b t = a * P10 (addS s t - s) + b * P10 (addS s t - t) := by
    unfold addC addS
    by_cases h : s ≤ t
    · rw [if_pos h, if_pos h, Int.sub_self, P10_0]; omega
    · rw [if_neg h, if_neg h, Int.sub_self, P10_0]; omega
  rw [e3, e1.1, e2.1, Int.add_mul]; omega
theorem add_far (x y p q u : Int) (hu : 1 ≤ u) (hp : 0 ≤ p ∧ p < u) (hq : 0 ≤ q ∧ q < u) (h : 1000000000000000 / u + 2 < mag (x + y)) : 1000000000000000 < mag ((x + y) * u + p + q) := by
  have h1 : (1000000000000000 / u) * u + 1000000000000000 % u = 1000000000000000 := by rw [Int.mul_comm]; exact Int.mul_ediv_add_emod _ _
  have h2 := Int.emod_lt_of_pos 1000000000000000 (show 0 < u by omega)
  generalize 1000000000000000 / u = M at *
  generalize x + y = z at *
  unfold mag at h
  split at h
  · have : (M + 3) * u ≤ (-z) * u := Int.mul_le_mul_of_nonneg_right (by omega) (by omega)
    rw [Int.add_mul, Int.neg_mul] at this
    unfold mag; split <;> omega
  · have : (M + 3) * u ≤ z * u := Int.mul_le_mul_of_nonneg_right (by omega) (by omega)
    rw [Int.add_mul] at this
    unfold mag; split <;> omega
theorem add_near (x y u : Int) (hu : 1 ≤ u) (hu1 : u ≤ 1000000000) (h : ¬ 1000000000000000 / u + 2 < mag (x + y)) : -1000002000000000 ≤ (x + y) * u ∧ (x + y) * u ≤ 1000002000000000 ∧ -1000000000000002 ≤ x + y ∧ x + y ≤ 1000000000000002 := by
  have h1 : (1000000000000000 / u) * u + 1000000000000000 % u = 1000000000000000 := by rw [Int.mul_comm]; exact Int.mul_ediv_add_emod _ _
  have h2 := Int.emod_nonneg 1000000000000000 (show u ≠ 0 by omega)
  have h3 : 1000000000000000 / u ≤ 1000000000000000 := Int.ediv_le_self _ (by omega)
  generalize 1000000000000000 / u = M at *
  generalize x + y = z at *
  have b : -(M + 2) ≤ z ∧ z ≤ M + 2 := by unfold mag at h; split at h <;> omega
  have g1 : z * u ≤ (M + 2) * u := Int.mul_le_mul_of_nonneg_right b.2 (by omega)
  have g2 : (-(M + 2)) * u ≤ z * u := Int.mul_le_mul_of_nonneg_right b.1 (by omega)
  rw [Int.neg_mul] at g2
  rw [Int.add_mul] at g1 g2
  omega
end Go.Proofs.YtdmenoimamnldaaGreatDoor.Dcm
