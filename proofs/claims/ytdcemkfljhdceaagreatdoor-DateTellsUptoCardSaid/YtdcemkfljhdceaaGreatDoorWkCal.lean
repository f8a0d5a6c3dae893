/- The plain law of weeks. -/
import Derived.Test.YtdcemkfljhdceaaGreatDoorCal
namespace Go.Proofs.YtdcemkfljhdceaaGreatDoor.Cal
/-- the number of the first Monday of a year's weeks -/
def fst (y : Int) : Int := yr y + 3 - (yr y + 3) % 7
theorem fst_mod (y : Int) : fst y % 7 = 0 := by unfold fst; omega
theorem fst_bd (y : Int) : yr y - 3 ≤ fst y ∧ fst y ≤ yr y + 3 := by unfold fst; omega
theorem fst_step (y : Int) : fst (y + 1) = fst y + 364 ∨ fst (y + 1) = fst y + 371 := by
  have := yr_succ y; have := lp_01 y; unfold fst; omega
theorem fst_mono (a b : Int) (h : a ≤ b) : fst a ≤ fst b := by have := yr_mono a b h; unfold fst; omega
theorem fst_one : fst 1 = 0 := by decide
theorem fst_max : fst 10000 = 3652061 := by decide
theorem fst_rng (y : Int) (h0 : 1 ≤ y) (h1 : y ≤ 10001) : 0 ≤ fst y ∧ fst y ≤ 3652428 := by
  have a := fst_mono 1 y h0; rw [fst_one] at a
  have := yr_bd y h0 h1; have := fst_bd y; omega
/-- the year of a number's week -/
def isWk (n y : Int) : Prop := fst y ≤ n ∧ n < fst (y + 1)
instance (n y : Int) : Decidable (isWk n y) := by unfold isWk; infer_instance
theorem isWk_inj {n y y' : Int} (h : isWk n y) (h' : isWk n y') : y = y' := by
  unfold isWk at h h'
  rcases Int.lt_trichotomy y y' with g | g | g
  · have := fst_mono (y + 1) y' (by omega); omega
  · exact g
  · have := fst_mono (y' + 1) y (by omega); omega
theorem isWk_le {n y : Int} (h : isWk n y) (h0 : 0 ≤ n) (hn : n < 3652059) : 1 ≤ y ∧ y ≤ 9999 := by
  unfold isWk at h
  constructor
  · rcases Int.lt_or_le y 1 with g | g
    · have := fst_mono (y + 1) 1 (by omega); rw [fst_one] at this; omega
    · exact g
  · rcases Int.lt_or_le 9999 y with g | g
    · have := fst_mono 10000 y (by omega); rw [fst_max] at this; omega
    · exact g
theorem above {y m d : Int} (h : vld y m d) : num y m d < fst (y + 2) := by
  have a := num_bd y m d h
  have b := fst_bd (y + 1 + 1); have c := yr_succ (y + 1); have := lp_01 (y + 1)
  have e : y + 2 = y + 1 + 1 := by omega
  rw [e]; omega
/-- the week of number n in its year -/
def wkOf (n y : Int) : Int := (n - fst y) / 7 + 1
def wks (y : Int) : Int := (fst (y + 1) - fst y) / 7
theorem wks_52 (y : Int) : wks y = 52 ∨ wks y = 53 := by have := fst_step y; unfold wks; omega
theorem wkOf_bd {n y : Int} (h : isWk n y) : 1 ≤ wkOf n y ∧ wkOf n y ≤ wks y := by
  have := fst_mod y; have := fst_mod (y + 1); unfold isWk at h; unfold wkOf wks; omega
theorem wk_back {n y : Int} (_h : isWk n y) : fst y + 7 * (wkOf n y - 1) + (n % 7 + 1) - 1 = n := by
  have := fst_mod y; unfold wkOf; omega
theorem wk_there {y k d : Int} (k1 : 1 ≤ k) (k2 : k ≤ wks y) (d1 : 1 ≤ d) (d2 : d ≤ 7) :
    isWk (fst y + 7 * (k - 1) + d - 1) y ∧ wkOf (fst y + 7 * (k - 1) + d - 1) y = k ∧ (fst y + 7 * (k - 1) + d - 1) % 7 + 1 = d := by
  have := fst_mod y; have := fst_mod (y + 1)
  unfold wks at k2; unfold isWk wkOf; omega
theorem wk_next {n y y' : Int} (h : isWk n y) (h' : isWk (n + 7) y') :
    (wkOf n y < wks y ∧ y' = y ∧ wkOf (n + 7) y' = wkOf n y + 1) ∨ (wkOf n y = wks y ∧ y' = y + 1 ∧ wkOf (n + 7) y' = 1) := by
  have hb := wkOf_bd h
  have m0 := fst_mod y; have m1 := fst_mod (y + 1); have st := fst_step (y + 1)
  by_cases g : n + 7 < fst (y + 1)
  · obtain rfl := isWk_inj h' ⟨by unfold isWk at h; omega, g⟩
    exact .inl ⟨by unfold wkOf wks; omega, rfl, by unfold wkOf; omega⟩
  · have hh := h
    unfold isWk at h
    have h2 : isWk (n + 7) (y + 1) := by unfold isWk; omega
    obtain rfl := isWk_inj h' h2
    exact .inr ⟨by unfold wkOf wks at *; omega, rfl, by unfold wkOf; omega⟩
theorem thursday {y k y' m' d' : Int} (k1 : 1 ≤ k) (k2 : k ≤ wks y) (h' : vld y' m' d') (e : num y' m' d' = fst y + 7 * (k - 1) + 4 - 1) : y' = y := by
  have a := num_bd _ _ _ h'
  have b := fst_bd y; have c := fst_bd (y + 1); have := fst_mod y; have := fst_mod (y + 1)
  unfold wks at k2
  rcases Int.lt_trichotomy y' y with g | g | g
  · have := yr_mono (y' + 1) y (by omega); omega
  · exact g
  · have := yr_mono (y + 1) y' (by omega); omega
theorem jan4 {y : Int} : isWk (yr y + 3) y ∧ wkOf (yr y + 3) y = 1 := by
  have b := fst_bd y; have c := fst_bd (y + 1); have := yr_succ y; have := lp_01 y
  unfold isWk wkOf fst at *; omega
end Go.Proofs.YtdcemkfljhdceaaGreatDoor.Cal
