import Derived.Lib.Split
import Derived.Lib.ItoaNum
namespace Byt
open Go Go.Lib
theorem idx_hit {c : UInt8} : ∀ {X : List UInt8} (Y : List UInt8), c ∉ X → index (X ++ c :: Y) [c] = X.length
  | [], Y, _ => by simp [index]
  | b :: X, Y, h => by
    have hb : ¬ c = b := fun e => h (by simp [e])
    have hx : c ∉ X := fun e => h (by simp [e])
    have ih := idx_hit (c := c) Y hx
    have e : [c].isPrefixOf (b :: (X ++ c :: Y)) = false := by simp [List.isPrefixOf, hb]
    rw [List.cons_append, index, if_neg (by rw [e]; decide), ih, if_neg (by simp)]
    simp
theorem idx_miss {c : UInt8} : ∀ {X : List UInt8}, c ∉ X → index X [c] = -1
  | [], _ => by simp [index]
  | b :: X, h => by
    have hb : ¬ c = b := fun e => h (by simp [e])
    have hx : c ∉ X := fun e => h (by simp [e])
    have ih := idx_miss (c := c) hx
    have e : [c].isPrefixOf (b :: X) = false := by simp [List.isPrefixOf, hb]
    rw [index, if_neg (by rw [e]; decide), if_pos (by rw [ih]; decide)]
/-- a text that holds the sign: what stands ahead of the first one, and behind it -/
theorem part {c : UInt8} : ∀ {s : List UInt8}, c ∈ s → ∃ X Y, s = X ++ c :: Y ∧ c ∉ X
  | [], h => by simp at h
  | b :: s, h => by
    by_cases e : c = b
    · exact ⟨[], s, by simp [e], by simp⟩
    · obtain ⟨X, Y, e1, e2⟩ := part (s := s) (by simpa [e] using h)
      exact ⟨b :: X, Y, by simp [e1], by simp [e, e2]⟩
theorem splitK_hit {c : UInt8} {X : List UInt8} (k : Nat) (Y : List UInt8) (h : c ∉ X) : splitK [c] 0 (k + 1) (X ++ c :: Y) = X :: splitK [c] 0 k Y := by
  rw [splitK, idx_hit Y h, if_neg (by simp)]
  have e1 : (X ++ c :: Y).take ((X.length : Int).toNat + 0) = X := by simp
  have e2 : (X ++ c :: Y).drop ((X.length : Int).toNat + [c].length) = Y := by
    rw [Int.toNat_natCast, ← List.drop_drop, List.drop_left]; rfl
  rw [e1, e2]
theorem splitK_miss {c : UInt8} {X : List UInt8} (k : Nat) (h : c ∉ X) : splitK [c] 0 k X = [X] := by
  cases k with
  | zero => rfl
  | succ k => rw [splitK, idx_miss h]; rfl
end Byt
namespace Dtx
open Go Go.Lib
/-- a number's digits, so many at least -/
def pad (k : Nat) (u : Nat) : List UInt8 := List.replicate (k - (decDigits u).length) 48 ++ decDigits u
theorem dd1 {u : Nat} (h : u < 10) : decDigits u = [UInt8.ofNat (48 + u)] := by rw [decDigits, dif_pos h]
theorem dd2 {u : Nat} (h : ¬ u < 10) : decDigits u = decDigits (u / 10) ++ [UInt8.ofNat (48 + u % 10)] := by rw [decDigits, dif_neg h]
theorem pad2 {u : Nat} (h : u < 100) : pad 2 u = [UInt8.ofNat (48 + u / 10), UInt8.ofNat (48 + u % 10)] := by
  unfold pad
  by_cases h1 : u < 10
  · rw [dd1 h1]
    have e1 : u / 10 = 0 := by omega
    have e2 : u % 10 = u := by omega
    rw [e1, e2]; rfl
  · rw [dd2 h1, dd1 (by omega)]; rfl
theorem pad4 {u : Nat} (h : u < 10000) : pad 4 u = [UInt8.ofNat (48 + u / 1000), UInt8.ofNat (48 + u / 100 % 10), UInt8.ofNat (48 + u / 10 % 10), UInt8.ofNat (48 + u % 10)] := by
  unfold pad
  by_cases h1 : u < 10
  · rw [dd1 h1]
    have e1 : u / 1000 = 0 := by omega
    have e2 : u / 100 % 10 = 0 := by omega
    have e3 : u / 10 % 10 = 0 := by omega
    have e4 : u % 10 = u := by omega
    rw [e1, e2, e3, e4]; rfl
  · by_cases h2 : u < 100
    · rw [dd2 h1, dd1 (by omega)]
      have e1 : u / 1000 = 0 := by omega
      have e2 : u / 100 % 10 = 0 := by omega
      have e3 : u / 10 % 10 = u / 10 := by omega
      rw [e1, e2, e3]; rfl
    · by_cases h3 : u < 1000
      · rw [dd2 h1, dd2 (by omega), dd1 (by omega)]
        have e1 : u / 1000 = 0 := by omega
        have e2 : u / 100 % 10 = u / 10 / 10 := by omega
        rw [e1, e2]; rfl
      · rw [dd2 h1, dd2 (by omega), dd2 (by omega), dd1 (by omega)]
        have e1 : u / 1000 = u / 10 / 10 / 10 := by omega
        have e2 : u / 100 % 10 = u / 10 / 10 % 10 := by omega
        rw [e1, e2]; rfl
end Dtx
