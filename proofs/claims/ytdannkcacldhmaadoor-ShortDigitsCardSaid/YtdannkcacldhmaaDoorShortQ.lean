/- Numbers in few digits: the plain law, more. No program in sight. -/
import Derived.Test.YtdannkcacldhmaaDoorShortP
namespace Sht
open Go Go.Lib
theorem txt_small (n : Int) (n1 : n < 1000) : txt n = decDigits n.toNat := by
  have e : lv n = 0 := by unfold lv; rw [if_pos n1]
  unfold txt mid
  rw [e]
  simp [nx, hd, un, letter]
theorem nDigits_le (u k : Nat) (h : u < 10 ^ k) (k0 : 0 < k) : nDigits u ≤ k := by
  induction k generalizing u with
  | zero => omega
  | succ k ih =>
    by_cases h1 : u < 10
    · rw [nDigits_small h1]; omega
    · rw [nDigits_big h1]
      rw [Nat.pow_succ] at h
      cases k with
      | zero => omega
      | succ k => have := ih (u / 10) (by omega) (by omega); omega
theorem hd_lv (n : Int) (n0 : 1000 ≤ n) (n1 : n ≤ 1000000000000000) : 1 ≤ hd n (lv n) ∧ hd n (lv n) ≤ 1000 := by
  unfold lv hd
  repeat' split
  all_goals (simp [un]; omega)
/-- the digits, without the letter -/
def body (n : Int) : List UInt8 := decDigits (hd n (lv n)).toNat ++ mid n (lv n)
theorem body_len (n : Int) (n0 : 1000 ≤ n) (n1 : n ≤ 1000000000000000) : 1 ≤ (body n).length ∧ (body n).length ≤ 4 := by
  have hb := hd_lv n n0 n1
  have hx := nx_bd n (lv n)
  have l1 := nDigits_pos (hd n (lv n)).toNat
  have l2 := nDigits_le (hd n (lv n)).toNat 4 (by omega) (by omega)
  unfold body mid
  by_cases h : hd n (lv n) < 10 ∧ 0 < nx n (lv n)
  · have l3 := nDigits_small (u := (nx n (lv n)).toNat) (by omega)
    have l4 := nDigits_small (u := (hd n (lv n)).toNat) (by omega)
    rw [if_pos h]
    simp [decDigits_length]
    omega
  · rw [if_neg h]
    simp [decDigits_length]
    omega
theorem txt_body (n : Int) : txt n = body n ++ letter (lv n) := rfl
theorem letter_one (n : Int) (n0 : 1000 ≤ n) : (letter (lv n)).length = 1 := by
  unfold lv
  repeat' split
  all_goals first | omega | rfl
theorem txt_len (n : Int) (n0 : 1000 ≤ n) (n1 : n ≤ 1000000000000000) : 2 ≤ (txt n).length ∧ (txt n).length ≤ 6 := by
  have h1 := body_len n n0 n1
  have h2 := letter_one n n0
  rw [txt_body, List.length_append]
  omega
theorem lv_up (n : Int) (n0 : 1000 ≤ n) (n1 : n ≤ 1000000000) : lv (1000 * n) = lv n + 1 ∧ 1 ≤ lv n ∧ lv n ≤ 3 := by
  unfold lv
  repeat' split
  all_goals omega
theorem hd_up (n : Int) (k : Nat) (h : k < 4) : hd (1000 * n) (k + 1) = hd n k := by
  unfold hd
  rw [show un (k + 1) = 1000 * un k from Int.mul_comm _ _]
  have u := un_bd k (by omega)
  exact Int.mul_ediv_mul_of_pos _ _ (by omega)
theorem nx_up (n : Int) (k : Nat) (h0 : 0 < k) (h : k < 4) : nx (1000 * n) (k + 1) = nx n k := by
  cases k with
  | zero => omega
  | succ k => simp only [nx]; rw [hd_up n k (by omega)]
theorem body_up (n : Int) (n0 : 1000 ≤ n) (n1 : n ≤ 1000000000) : body (1000 * n) = body n := by
  obtain ⟨e, h1, h2⟩ := lv_up n n0 n1
  unfold body mid
  rw [e, hd_up n _ (by omega), nx_up n _ (by omega) (by omega)]
end Sht
