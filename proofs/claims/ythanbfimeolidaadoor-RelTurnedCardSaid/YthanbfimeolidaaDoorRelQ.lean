/- How long ago, turned round: the plain law, more. No program in sight. -/
import Derived.Test.YthanbfimeolidaaDoorRelP
namespace Rlt
open Go Go.Lib
theorem size_neg (n : Int) : size (-n) = size n := by unfold size; repeat' split <;> omega
theorem unit_neg (n : Int) : unit (-n) = unit n := by unfold unit; rw [size_neg]
theorem quot_neg (n : Int) : quot (-n) = -quot n := by
  unfold quot
  rw [size_neg]
  repeat' split
  all_goals first | exact Int.neg_tdiv _ _ | rfl
theorem size_tdiv (n k : Int) (hk : 0 < k) : size (n.tdiv k) = size n / k := by
  by_cases h : n < 0
  · have e : n.tdiv k = -((-n) / k) := by
      have e1 : n = -(-n) := by omega
      rw [e1, Int.neg_tdiv, Int.tdiv_eq_ediv_of_nonneg (by omega), Int.neg_neg]
    rw [e, size_neg]
    have h1 := Int.ediv_nonneg (a := -n) (b := k) (by omega) (by omega)
    have e2 : size n = -n := by unfold size; rw [if_pos h]
    rw [e2]
    unfold size; rw [if_neg (by omega)]
  · have e2 : size n = n := by unfold size; rw [if_neg h]
    rw [e2, Int.tdiv_eq_ediv_of_nonneg (by omega)]
    have h1 := Int.ediv_nonneg (a := n) (b := k) (by omega) (by omega)
    unfold size; rw [if_neg (by omega)]
theorem tdiv_near (n k : Int) (hk : 0 < k) : size (n.tdiv k) * k ≤ size n ∧ size n < (size (n.tdiv k) + 1) * k := by
  rw [size_tdiv n k hk]
  exact ⟨Int.ediv_mul_le _ (by omega), Int.lt_ediv_add_one_mul_self _ hk⟩
/-- which unit it is, how great that is, and how near the number of units comes -/
theorem which (n : Int) : (unit n = day ∧ size (quot n) * 86400 ≤ size n ∧ size n < (size (quot n) + 1) * 86400) ∨ (unit n = hour ∧ size (quot n) * 3600 ≤ size n ∧ size n < (size (quot n) + 1) * 3600) ∨
    (unit n = minute ∧ size (quot n) * 60 ≤ size n ∧ size n < (size (quot n) + 1) * 60) ∨ (unit n = second ∧ size (quot n) * 1 ≤ size n ∧ size n < (size (quot n) + 1) * 1) := by
  unfold unit quot
  by_cases c0 : 86400 ≤ size n
  · rw [if_pos c0, if_pos c0]; exact .inl ⟨rfl, tdiv_near n 86400 (by omega)⟩
  rw [if_neg c0, if_neg c0]
  by_cases c1 : 3600 ≤ size n
  · rw [if_pos c1, if_pos c1]; exact .inr (.inl ⟨rfl, tdiv_near n 3600 (by omega)⟩)
  rw [if_neg c1, if_neg c1]
  by_cases c2 : 60 ≤ size n
  · rw [if_pos c2, if_pos c2]; exact .inr (.inr (.inl ⟨rfl, tdiv_near n 60 (by omega)⟩))
  rw [if_neg c2, if_neg c2]
  exact .inr (.inr (.inr ⟨rfl, by omega, by omega⟩))
end Rlt
