/- The plain law of days: days by numbers, counted; weeks; no program in sight. -/
import Derived.Below
namespace Go.Proofs.YtdcemkfljhdceaaGreatDoor.Cal
/-- one in a leap year, else nought -/
def lp (y : Int) : Int := if y % 4 = 0 ∧ y % 100 ≠ 0 ∨ y % 400 = 0 then 1 else 0
def yr (y : Int) : Int := 365 * (y - 1) + (y - 1) / 4 - (y - 1) / 100 + (y - 1) / 400
def ahd (m : Int) : Int := if m ≤ 1 then 0 else if m = 2 then 31 else if m = 3 then 59 else if m = 4 then 90 else if m = 5 then 120 else if m = 6 then 151 else if m = 7 then 181 else if m = 8 then 212 else if m = 9 then 243 else if m = 10 then 273 else if m = 11 then 304 else if m = 12 then 334 else 365
def bef (y m : Int) : Int := ahd m + if 2 < m then lp y else 0
def num (y m d : Int) : Int := yr y + bef y m + d - 1
def vld (y m d : Int) : Prop := 1 ≤ y ∧ y ≤ 9999 ∧ 1 ≤ m ∧ m ≤ 12 ∧ 1 ≤ d ∧ d ≤ bef y (m + 1) - bef y m
instance (y m d : Int) : Decidable (vld y m d) := by unfold vld; infer_instance
theorem lp_01 (y : Int) : 0 ≤ lp y ∧ lp y ≤ 1 := by unfold lp; split <;> omega
theorem yr_succ (y : Int) : yr (y + 1) = yr y + 365 + lp y := by unfold yr lp; split <;> omega
theorem yr_mono (a b : Int) (h : a ≤ b) : yr a ≤ yr b := by unfold yr; omega
theorem yr_bd (y : Int) (h0 : 1 ≤ y) (h1 : y ≤ 10001) : 0 ≤ yr y ∧ yr y ≤ 3652425 := by unfold yr; omega
theorem yr_max : yr 10000 = 3652059 := by decide
theorem ahd_bd (m : Int) : 0 ≤ ahd m ∧ ahd m ≤ 365 := by
  unfold ahd
  repeat' split
  all_goals omega
theorem bef_bd (y m : Int) : 0 ≤ bef y m ∧ bef y m ≤ 366 := by
  have := lp_01 y; have := ahd_bd m; unfold bef; split <;> omega
theorem twelve (m : Int) (h1 : 1 ≤ m) (h2 : m ≤ 12) : m = 1 ∨ m = 2 ∨ m = 3 ∨ m = 4 ∨ m = 5 ∨ m = 6 ∨ m = 7 ∨ m = 8 ∨ m = 9 ∨ m = 10 ∨ m = 11 ∨ m = 12 := by omega
theorem bef_one (y : Int) : bef y 1 = 0 := by simp [bef, ahd]
theorem bef_thirteen (y : Int) : bef y 13 = 365 + lp y := by simp [bef, ahd]
theorem bef_step (y m : Int) (h1 : 1 ≤ m) (h2 : m ≤ 12) : bef y m + 28 ≤ bef y (m + 1) ∧ bef y (m + 1) ≤ bef y m + 31 := by
  have := lp_01 y
  rcases twelve m h1 h2 with rfl | rfl | rfl | rfl | rfl | rfl | rfl | rfl | rfl | rfl | rfl | rfl <;> simp [bef, ahd] <;> omega
theorem bef_le_aux (y m : Int) (h1 : 1 ≤ m) : ∀ k : Nat, m + k ≤ 13 → bef y m + 28 * k ≤ bef y (m + k) := by
  intro k
  induction k with
  | zero => intro _; simp
  | succ k ih =>
    intro h
    have a := ih (by omega)
    have b := (bef_step y (m + k) (by omega) (by omega)).1
    have e : m + ((k + 1 : Nat) : Int) = m + (k : Int) + 1 := by omega
    rw [e]; omega
theorem bef_le (y m k : Int) (h1 : 1 ≤ m) (h : m ≤ k) (h2 : k ≤ 13) : bef y m + 28 * (k - m) ≤ bef y k := by
  have := bef_le_aux y m h1 (k - m).toNat (by omega)
  have e : m + ((k - m).toNat : Int) = k := by omega
  rw [e] at this; omega
theorem num_bd (y m d : Int) (h : vld y m d) : yr y ≤ num y m d ∧ num y m d < yr (y + 1) := by
  obtain ⟨a, b, c, e, f, g⟩ := h
  have := bef_bd y m
  have h13 := bef_thirteen y
  have := bef_le y (m + 1) 13 (by omega) (by omega) (by omega)
  have := yr_succ y
  unfold num; omega
theorem num_rng (y m d : Int) (h : vld y m d) : 0 ≤ num y m d ∧ num y m d < 3652059 := by
  have a := num_bd y m d h
  obtain ⟨y1, y2, _⟩ := h
  have b := (yr_bd y y1 (by omega)).1
  have c := yr_mono (y + 1) 10000 (by omega)
  rw [yr_max] at c; omega
theorem num_inj {y m d y' m' d' : Int} (h : vld y m d) (h' : vld y' m' d') (e : num y m d = num y' m' d') : y = y' ∧ m = m' ∧ d = d' := by
  have a := num_bd _ _ _ h
  have b := num_bd _ _ _ h'
  have hy : y = y' := by
    rcases Int.lt_trichotomy y y' with g | g | g
    · have := yr_mono (y + 1) y' (by omega); omega
    · exact g
    · have := yr_mono (y' + 1) y (by omega); omega
  subst hy
  obtain ⟨_, _, c1, c2, c3, c4⟩ := h
  obtain ⟨_, _, d1, d2, d3, d4⟩ := h'
  have hm : m = m' := by
    unfold num at e
    rcases Int.lt_trichotomy m m' with g | g | g
    · have := bef_le y (m + 1) m' (by omega) (by omega) (by omega); omega
    · exact g
    · have := bef_le y (m' + 1) m (by omega) (by omega) (by omega); omega
  subst hm
  unfold num at e
  exact ⟨rfl, rfl, by omega⟩
theorem next_day {y m d y' m' d' : Int} (h : vld y m d) (h' : vld y' m' d') (e : num y' m' d' = num y m d + 1) :
    (y' = y ∧ m' = m ∧ d' = d + 1) ∨ (d' = 1 ∧ 28 ≤ d ∧ y' = y ∧ m' = m + 1) ∨ (d' = 1 ∧ 28 ≤ d ∧ y' = y + 1 ∧ m' = 1 ∧ m = 12) := by
  have hh := h
  obtain ⟨a1, a2, a3, a4, a5, a6⟩ := h
  have st := bef_step y m a3 a4
  by_cases hd : d < bef y (m + 1) - bef y m
  · have v : vld y m (d + 1) := ⟨a1, a2, a3, a4, by omega, by omega⟩
    have := num_inj h' v (by rw [e]; unfold num; omega)
    exact .inl this
  · by_cases hm : m < 12
    · have st' := bef_step y (m + 1) (by omega) (by omega)
      have v : vld y (m + 1) 1 := ⟨a1, a2, by omega, by omega, by omega, by omega⟩
      obtain ⟨p, q, r⟩ := num_inj h' v (by rw [e]; unfold num; omega)
      exact .inr (.inl ⟨r, by omega, p, q⟩)
    · obtain rfl : m = 12 := by omega
      have h13 := bef_thirteen y
      have hy := yr_succ y
      have hb1 := bef_one (y + 1)
      have hr := num_rng _ _ _ h'
      have e13 : bef y (12 + 1) = bef y 13 := rfl
      by_cases hy9 : y = 9999
      · exfalso
        subst hy9
        have : yr (9999 + 1) = 3652059 := yr_max
        unfold num at e hr; omega
      · have st' := bef_step (y + 1) 1 (by omega) (by omega)
        have v : vld (y + 1) 1 1 := ⟨by omega, by omega, by omega, by omega, by omega, by omega⟩
        obtain ⟨p, q, r⟩ := num_inj h' v (by rw [e]; unfold num; omega)
        exact .inr (.inr ⟨r, by omega, p, q, rfl⟩)
theorem last_day {y m d : Int} (h : vld y m d) (e : 3652059 ≤ num y m d + 1) : y = 9999 ∧ m = 12 ∧ d = 31 := by
  have v : vld 9999 12 31 := by decide
  have hr := num_rng _ _ _ h
  exact num_inj h v (by have : num 9999 12 31 = 3652058 := by decide
                        omega)
/-- there is a day of each number -/
theorem has_day_y (n : Int) (h0 : 0 ≤ n) (h1 : n < 3652059) : n / 366 + 1 ≤ 9999 ∧ 1 ≤ n / 366 + 1 ∧ yr (n / 366 + 1) ≤ n := by
  unfold yr; omega
end Go.Proofs.YtdcemkfljhdceaaGreatDoor.Cal
