import Derived.Lib.ItoaNum
namespace Dtx
open Go Go.Lib
/-- a number's digits, so many at least -/
def pad (k : Nat) (u : Nat) : List UInt8 := List.replicate (k - (decDigits u).length) 48 ++ decDigits u
theorem dd1 {u : Nat} (h : u < 10) : decDigits u = [UInt8.ofNat (48 + u)] := by rw [decDigits, dif_pos h]
theorem dd2 {u : Nat} (h : ¬ u < 10) : decDigits u = decDigits (u / 10) ++ [UInt8.ofNat (48 + u % 10)] := by rw [decDigits, dif_neg h]
theorem pad2 {u : Nat} (h : u < 100) : pad 2 u = [UInt8.ofNat (48 + u / 10), UInt8.ofNat (48 + u % 10)] := by
  unfold pad
  by_cases h1 : u < 10
  · rw [dd1 h1]
    have e1 : u / 10 = 0 := by omega
    have e2 : u % 10 = u := by omega
    rw [e1, e2]; rfl
  · rw [dd2 h1, dd1 (by omega)]; rfl
theorem pad4 {u : Nat} (h : u < 10000) : pad 4 u = [UInt8.ofNat (48 + u / 1000), UInt8.ofNat (48 + u / 100 % 10), UInt8.ofNat (48 + u / 10 % 10), UInt8.ofNat (48 + u % 10)] := by
  unfold pad
  by_cases h1 : u < 10
  · rw [dd1 h1]
    have e1 : u / 1000 = 0 := by omega
    have e2 : u / 100 % 10 = 0 := by omega
    have e3 : u / 10 % 10 = 0 := by omega
    have e4 : u % 10 = u := by omega
    rw [e1, e2, e3, e4]; rfl
  · by_cases h2 : u < 100
    · rw [dd2 h1, dd1 (by omega)]
      have e1 : u / 1000 = 0 := by omega
      have e2 : u / 100 % 10 = 0 := by omega
      have e3 : u / 10 % 10 = u / 10 := by omega
      rw [e1, e2, e3]; rfl
    · by_cases h3 : u < 1000
      · rw [dd2 h1, dd2 (by omega), dd1 (by omega)]
        have e1 : u / 1000 = 0 := by omega
        have e2 : u / 100 % 10 = u / 10 / 10 := by omega
        rw [e1, e2]; rfl
      · rw [dd2 h1, dd2 (by omega), dd2 (by omega), dd1 (by omega)]
        have e1 : u / 1000 = u / 10 / 10 / 10 := by omega
        have e2 : u / 100 % 10 = u / 10 / 10 % 10 := by omega
        rw [e1, e2]; rfl
end Dtx
