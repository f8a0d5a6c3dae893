/- Numbers in few digits: the plain law. No program in sight. -/
import Derived.Lib.ItoaNum
import Derived.Lib.ItoaLen
namespace Sht
open Go Go.Lib
/-- the unit of a level: 1, a thousand, a million .. -/
def un : Nat → Int
  | 0 => 1
  | k + 1 => un k * 1000
/-- how many units a number has -/
def hd (n : Int) (k : Nat) : Int := n / un k
/-- the next digit -/
def nx (n : Int) : Nat → Int
  | 0 => 0
  | k + 1 => hd n k % 1000 / 100
def letter : Nat → List UInt8
  | 0 => []
  | 1 => [75]
  | 2 => [77]
  | 3 => [66]
  | _ => [84]
/-- a number's level -/
def lv (n : Int) : Nat := if n < 1000 then 0 else if n < 1000000 then 1 else if n < 1000000000 then 2 else if n < 1000000000000 then 3 else 4
def mid (n : Int) (k : Nat) : List UInt8 := if hd n k < 10 ∧ 0 < nx n k then 46 :: decDigits (nx n k).toNat else []
def txt (n : Int) : List UInt8 := decDigits (hd n (lv n)).toNat ++ mid n (lv n) ++ letter (lv n)

theorem un_bd (k : Nat) (h : k ≤ 4) : 1 ≤ un k ∧ un k ≤ 1000000000000 ∧ (0 < k → 1000 ≤ un k) := by
  have : k = 0 ∨ k = 1 ∨ k = 2 ∨ k = 3 ∨ k = 4 := by omega
  rcases this with rfl | rfl | rfl | rfl | rfl <;> simp [un]
theorem hd_succ (n : Int) (k : Nat) (h : k < 4) : hd n (k + 1) = hd n k / 1000 := by
  unfold hd
  rw [show un (k + 1) = un k * 1000 from rfl, Int.ediv_ediv_of_nonneg (by have := un_bd k (by omega); omega)]
theorem hd_bd (n : Int) (k : Nat) (h : k ≤ 4) (n0 : 0 ≤ n) (n1 : n ≤ 1000000000000000) : 0 ≤ hd n k ∧ hd n k ≤ 1000000000000000 := by
  have u := un_bd k h
  unfold hd
  exact ⟨Int.ediv_nonneg n0 (by omega), Int.le_trans (Int.ediv_le_self _ n0) n1⟩
theorem nx_bd (n : Int) (k : Nat) : 0 ≤ nx n k ∧ nx n k ≤ 9 := by
  cases k with
  | zero => simp [nx]
  | succ k => simp only [nx]; omega
theorem lv_le (n : Int) : lv n ≤ 4 := by unfold lv; (repeat' split) <;> omega
theorem lv_lt (n : Int) (k : Nat) (n0 : 0 ≤ n) : k < lv n ↔ k < 4 ∧ 1000 ≤ hd n k := by
  by_cases h : k < 4
  · have : k = 0 ∨ k = 1 ∨ k = 2 ∨ k = 3 := by omega
    rcases this with rfl | rfl | rfl | rfl <;> (unfold lv hd; simp [un]; repeat' split) <;> omega
  · have := lv_le n
    exact ⟨fun g => by omega, fun g => absurd g.1 h⟩
theorem lv_eq (n : Int) (k : Nat) (n0 : 0 ≤ n) (h : k ≤ lv n) (g : ¬ (k < 4 ∧ 1000 ≤ hd n k)) : k = lv n := by
  have := mt (lv_lt n k n0).1 g
  omega
/-- the next digit, by a tenth of the unit -/
theorem nx_tenth (n : Int) (k : Nat) (h0 : 0 < k) (h : k ≤ 4) : n / (un k / 10) % 10 = nx n k := by
  have : k = 1 ∨ k = 2 ∨ k = 3 ∨ k = 4 := by omega
  rcases this with rfl | rfl | rfl | rfl <;> simp [un, nx, hd] <;> omega
theorem letter_len (k : Nat) : (letter k).length ≤ 1 := by unfold letter; split <;> simp
theorem dd_len (n : Int) (h : n ≤ 9223372036854775807) : (decDigits n.toNat).length ≤ 20 := by rw [decDigits_length]; exact nDigits_le20 _ (by omega)
end Sht
