/- Texts cut at one sign: where it stands, and where it does not. Plain: no program. -/
import Derived.Lib.Split
namespace Byt
open Go Go.Lib
theorem idx_hit {c : UInt8} : ∀ {X : List UInt8} (Y : List UInt8), c ∉ X → index (X ++ c :: Y) [c] = X.length
  | [], Y, _ => by simp [index]
  | b :: X, Y, h => by
    have hb : ¬ c = b := fun e => h (by simp [e])
    have hx : c ∉ X := fun e => h (by simp [e])
    have ih := idx_hit (c := c) Y hx
    have e : [c].isPrefixOf (b :: (X ++ c :: Y)) = false := by simp [List.isPrefixOf, hb]
    rw [List.cons_append, index, if_neg (by rw [e]; decide), ih, if_neg (by simp)]
    simp
theorem idx_miss {c : UInt8} : ∀ {X : List UInt8}, c ∉ X → index X [c] = -1
  | [], _ => by simp [index]
  | b :: X, h => by
    have hb : ¬ c = b := fun e => h (by simp [e])
    have hx : c ∉ X := fun e => h (by simp [e])
    have ih := idx_miss (c := c) hx
    have e : [c].isPrefixOf (b :: X) = false := by simp [List.isPrefixOf, hb]
    rw [index, if_neg (by rw [e]; decide), if_pos (by rw [ih]; decide)]
/-- a text that holds the sign: what stands ahead of the first one, and behind it -/
theorem part {c : UInt8} : ∀ {s : List UInt8}, c ∈ s → ∃ X Y, s = X ++ c :: Y ∧ c ∉ X
  | [], h => by simp at h
  | b :: s, h => by
    by_cases e : c = b
    · exact ⟨[], s, by simp [e], by simp⟩
    · obtain ⟨X, Y, e1, e2⟩ := part (s := s) (by simpa [e] using h)
      exact ⟨b :: X, Y, by simp [e1], by simp [e, e2]⟩
theorem splitK_hit {c : UInt8} {X : List UInt8} (k : Nat) (Y : List UInt8) (h : c ∉ X) : splitK [c] 0 (k + 1) (X ++ c :: Y) = X :: splitK [c] 0 k Y := by
  rw [splitK, idx_hit Y h, if_neg (by simp)]
  have e1 : (X ++ c :: Y).take ((X.length : Int).toNat + 0) = X := by simp
  have e2 : (X ++ c :: Y).drop ((X.length : Int).toNat + [c].length) = Y := by
    rw [Int.toNat_natCast, ← List.drop_drop, List.drop_left]; rfl
  rw [e1, e2]
theorem splitK_miss {c : UInt8} {X : List UInt8} (k : Nat) (h : c ∉ X) : splitK [c] 0 k X = [X] := by
  cases k with
  | zero => rfl
  | succ k => rw [splitK, idx_miss h]; rfl
end Byt
