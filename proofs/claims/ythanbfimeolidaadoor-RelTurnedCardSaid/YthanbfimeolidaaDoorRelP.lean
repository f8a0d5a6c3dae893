/- How long ago: the plain law. No program in sight. -/
import Derived.Lib.ItoaNum
import Derived.Lib.ItoaLen
namespace Rlt
open Go Go.Lib
def day : List UInt8 := [100, 97, 121]
def hour : List UInt8 := [104, 111, 117, 114]
def minute : List UInt8 := [109, 105, 110, 117, 116, 101]
def second : List UInt8 := [115, 101, 99, 111, 110, 100]
def size (n : Int) : Int := if n < 0 then -n else n
def unit (n : Int) : List UInt8 := if 86400 ≤ size n then day else if 3600 ≤ size n then hour else if 60 ≤ size n then minute else second
def quot (n : Int) : Int := if 86400 ≤ size n then n.tdiv 86400 else if 3600 ≤ size n then n.tdiv 3600 else if 60 ≤ size n then n.tdiv 60 else n
def isFar (a : Int) : Prop := a < -1099511627776 ∨ 1099511627776 < a
theorem tdiv_zero (n k : Int) (hk : 0 < k) : n.tdiv k = 0 ↔ size n < k := by
  unfold size
  by_cases h : n < 0
  · rw [if_pos h]
    have e : n.tdiv k = -((-n) / k) := by
      have e1 : n = -(-n) := by omega
      rw [e1, Int.neg_tdiv, Int.tdiv_eq_ediv_of_nonneg (by omega), Int.neg_neg]
    rw [e]
    constructor
    · intro g
      have g' : (-n) / k = 0 := by omega
      have := Int.lt_ediv_add_one_mul_self (-n) hk
      rw [g'] at this
      omega
    · intro g
      rw [Int.ediv_eq_zero_of_lt (by omega) g]; rfl
  · rw [if_neg h, Int.tdiv_eq_ediv_of_nonneg (by omega)]
    constructor
    · intro g
      have := Int.lt_ediv_add_one_mul_self n hk
      rw [g] at this
      omega
    · intro g
      exact Int.ediv_eq_zero_of_lt (by omega) g
theorem tdiv_bd (n k : Int) (hk : 0 < k) : -size n ≤ n.tdiv k ∧ n.tdiv k ≤ size n := by
  unfold size
  by_cases h : n < 0
  · rw [if_pos h]
    have e : n.tdiv k = -((-n) / k) := by
      have e1 : n = -(-n) := by omega
      rw [e1, Int.neg_tdiv, Int.tdiv_eq_ediv_of_nonneg (by omega), Int.neg_neg]
    rw [e]
    have h1 := Int.ediv_nonneg (a := -n) (b := k) (by omega) (by omega)
    have h2 := Int.ediv_le_self (a := -n) k (by omega)
    omega
  · rw [if_neg h, Int.tdiv_eq_ediv_of_nonneg (by omega)]
    have h1 := Int.ediv_nonneg (a := n) (b := k) (by omega) (by omega)
    have h2 := Int.ediv_le_self (a := n) k (by omega)
    omega
theorem quot_bd (n : Int) : -size n ≤ quot n ∧ quot n ≤ size n := by
  unfold quot
  have h1 := tdiv_bd n 86400 (by omega)
  have h2 := tdiv_bd n 3600 (by omega)
  have h3 := tdiv_bd n 60 (by omega)
  have h4 : -size n ≤ n ∧ n ≤ size n := by unfold size; split <;> omega
  repeat' split
  all_goals assumption
theorem unit_len (n : Int) : (unit n).length ≤ 6 := by
  unfold unit
  repeat' split
  all_goals decide
/-- the words -/
def ago (u : List UInt8) (q : Int) : List UInt8 :=
  if q = 0 then [110, 111, 119] else
    let s := decDigits (size q).toNat ++ [32] ++ u ++ (if size q = 1 then [] else [115])
    if q < 0 then s ++ [32, 97, 103, 111] else [105, 110, 32] ++ s
end Rlt
