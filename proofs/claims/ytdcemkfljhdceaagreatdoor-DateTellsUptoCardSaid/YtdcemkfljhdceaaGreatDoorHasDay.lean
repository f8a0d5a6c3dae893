/- Every number has its day, and every day's number its week. Plain: no program. -/
import Derived.Test.YtdcemkfljhdceaaGreatDoorWkCal
namespace Go.Proofs.YtdcemkfljhdceaaGreatDoor.Cal

theorem has_year : ∀ (k : Nat) (n : Int), 0 ≤ n → n < yr (1 + k) → ∃ y : Int, 1 ≤ y ∧ y ≤ k ∧ yr y ≤ n ∧ n < yr (y + 1)
  | 0, n, h0, h => by have : yr (1 + (0 : Nat)) = 0 := by decide
                      omega
  | k + 1, n, h0, h => by
    rcases Int.lt_or_le n (yr (1 + (k : Int))) with g | g
    · obtain ⟨y, h1, h2, h3, h4⟩ := has_year k n h0 g
      exact ⟨y, h1, by omega, h3, h4⟩
    · exact ⟨1 + k, by omega, by omega, g, by rw [show (1 + (k : Int)) + 1 = 1 + ((k + 1 : Nat) : Int) by omega]; exact h⟩
theorem has_month (y r : Int) (h0 : 0 ≤ r) (h : r < bef y 13) : ∃ m : Int, 1 ≤ m ∧ m ≤ 12 ∧ bef y m ≤ r ∧ r < bef y (m + 1) := by
  have b1 := bef_one y
  rcases Int.lt_or_le r (bef y 2) with g | g
  · exact ⟨1, by omega, by omega, by omega, g⟩
  rcases Int.lt_or_le r (bef y 3) with g3 | g3
  · exact ⟨2, by omega, by omega, g, g3⟩
  rcases Int.lt_or_le r (bef y 4) with g4 | g4
  · exact ⟨3, by omega, by omega, g3, g4⟩
  rcases Int.lt_or_le r (bef y 5) with g5 | g5
  · exact ⟨4, by omega, by omega, g4, g5⟩
  rcases Int.lt_or_le r (bef y 6) with g6 | g6
  · exact ⟨5, by omega, by omega, g5, g6⟩
  rcases Int.lt_or_le r (bef y 7) with g7 | g7
  · exact ⟨6, by omega, by omega, g6, g7⟩
  rcases Int.lt_or_le r (bef y 8) with g8 | g8
  · exact ⟨7, by omega, by omega, g7, g8⟩
  rcases Int.lt_or_le r (bef y 9) with g9 | g9
  · exact ⟨8, by omega, by omega, g8, g9⟩
  rcases Int.lt_or_le r (bef y 10) with g10 | g10
  · exact ⟨9, by omega, by omega, g9, g10⟩
  rcases Int.lt_or_le r (bef y 11) with g11 | g11
  · exact ⟨10, by omega, by omega, g10, g11⟩
  rcases Int.lt_or_le r (bef y 12) with g12 | g12
  · exact ⟨11, by omega, by omega, g11, g12⟩
  exact ⟨12, by omega, by omega, g12, h⟩
theorem has_day (n : Int) (h0 : 0 ≤ n) (h1 : n < 3652059) : ∃ y m d : Int, vld y m d ∧ num y m d = n := by
  obtain ⟨y, y1, y2, y3, y4⟩ := has_year 9999 n h0 (by rw [show (1 : Int) + (9999 : Nat) = 10000 by omega, yr_max]; exact h1)
  have e := yr_succ y
  obtain ⟨m, m1, m2, m3, m4⟩ := has_month y (n - yr y) (by omega) (by rw [bef_thirteen]; omega)
  exact ⟨y, m, n - yr y - bef y m + 1, ⟨y1, by omega, m1, m2, by omega, by omega⟩, by unfold num; omega⟩
theorem has_wk {y m d : Int} (h : vld y m d) : ∃ Y : Int, isWk (num y m d) Y ∧ 1 ≤ Y ∧ Y ≤ 9999 := by
  have hr := num_rng y m d h
  have hb := num_bd y m d h
  have ha := above h
  generalize num y m d = n at *
  have main : ∃ Y : Int, isWk n Y := by
    rcases Int.lt_or_le n (fst (y + 1)) with g | g
    · rcases Int.lt_or_le n (fst y) with g' | g'
      · refine ⟨y - 1, ?_, by rw [show y - 1 + 1 = y by omega]; exact g'⟩
        have e := yr_succ (y - 1)
        have l := lp_01 (y - 1)
        rw [show y - 1 + 1 = y by omega] at e
        unfold fst
        unfold yr at *
        omega
      · exact ⟨y, g', g⟩
    · exact ⟨y + 1, g, by rw [show y + 1 + 1 = y + 2 by omega]; exact ha⟩
  obtain ⟨Y, hY⟩ := main
  exact ⟨Y, hY, isWk_le hY hr.1 hr.2⟩
end Go.Proofs.YtdcemkfljhdceaaGreatDoor.Cal
