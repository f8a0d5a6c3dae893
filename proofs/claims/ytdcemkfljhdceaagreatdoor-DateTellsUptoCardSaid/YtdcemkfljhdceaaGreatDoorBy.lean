/- Texts cut at one sign: where it stands, and where it does not. Plain: no program. -/
import Derived.Lib.Split
import Derived.Lib.AtoiAll
import Derived.Test.YtdcemkfljhdceaaGreatDoorDtx
namespace Byt
open Go Go.Lib
theorem idx_hit {c : UInt8} : ∀ {X : List UInt8} (Y : List UInt8), c ∉ X → index (X ++ c :: Y) [c] = X.length
  | [], Y, _ => by simp [index]
  | b :: X, Y, h => by
    have hb : ¬ c = b := fun e => h (by simp [e])
    have hx : c ∉ X := fun e => h (by simp [e])
    have ih := idx_hit (c := c) Y hx
    have e : [c].isPrefixOf (b :: (X ++ c :: Y)) = false := by simp [List.isPrefixOf, hb]
    rw [List.cons_append, index, if_neg (by rw [e]; decide), ih, if_neg (by simp)]
    simp
theorem idx_miss {c : UInt8} : ∀ {X : List UInt8}, c ∉ X → index X [c] = -1
  | [], _ => by simp [index]
  | b :: X, h => by
    have hb : ¬ c = b := fun e => h (by simp [e])
    have hx : c ∉ X := fun e => h (by simp [e])
    have ih := idx_miss (c := c) hx
    have e : [c].isPrefixOf (b :: X) = false := by simp [List.isPrefixOf, hb]
    rw [index, if_neg (by rw [e]; decide), if_pos (by rw [ih]; decide)]
/-- a text that holds the sign: what stands ahead of the first one, and behind it -/
theorem part {c : UInt8} : ∀ {s : List UInt8}, c ∈ s → ∃ X Y, s = X ++ c :: Y ∧ c ∉ X
  | [], h => by simp at h
  | b :: s, h => by
    by_cases e : c = b
    · exact ⟨[], s, by simp [e], by simp⟩
    · obtain ⟨X, Y, e1, e2⟩ := part (s := s) (by simpa [e] using h)
      exact ⟨b :: X, Y, by simp [e1], by simp [e, e2]⟩
theorem splitK_hit {c : UInt8} {X : List UInt8} (k : Nat) (Y : List UInt8) (h : c ∉ X) : splitK [c] 0 (k + 1) (X ++ c :: Y) = X :: splitK [c] 0 k Y := by
  rw [splitK, idx_hit Y h, if_neg (by simp)]
  have e1 : (X ++ c :: Y).take ((X.length : Int).toNat + 0) = X := by simp
  have e2 : (X ++ c :: Y).drop ((X.length : Int).toNat + [c].length) = Y := by
    rw [Int.toNat_natCast, ← List.drop_drop, List.drop_left]; rfl
  rw [e1, e2]
theorem splitK_miss {c : UInt8} {X : List UInt8} (k : Nat) (h : c ∉ X) : splitK [c] 0 k X = [X] := by
  cases k with
  | zero => rfl
  | succ k => rw [splitK, idx_miss h]; rfl
/-- a digit, as a byte -/
theorem dig_byte {u : Nat} (h : u < 10) : (UInt8.ofNat (48 + u)).toNat = 48 + u := by rw [UInt8.toNat_ofNat']; omega
theorem parse_cons {a u : Nat} {l : List UInt8} (ha : a < 100000000000000000) (h : u < 10) : parseUint10 a (UInt8.ofNat (48 + u) :: l) = parseUint10 (a * 10 + u) l := by
  rw [parseUint10, dig_byte h, if_pos (by omega), if_neg (by omega), if_neg (by omega), show 48 + u - 48 = u by omega]
theorem atoi_plain {u : Nat} {l : List UInt8} (h : u < 10) : atoiAll (UInt8.ofNat (48 + u) :: l) = match parseUint10 0 (UInt8.ofNat (48 + u) :: l) with | Lib.NumEnd.syntax => Lib.NumEnd.syntax | .range => .range | .ok v => if 9223372036854775808 ≤ v then .range else .ok (v : Int) := by
  have e := dig_byte h
  simp only [atoiAll, e]
  rw [if_neg (by omega)]
  simp only [parseMag, if_neg (List.cons_ne_nil _ _)]
  generalize parseUint10 0 (UInt8.ofNat (48 + u) :: l) = q
  have h45 : ¬ 48 + u = 45 := by omega
  cases q <;> simp [h45]
theorem atoi_pad2 {u : Nat} (h : u < 100) : atoiAll (Dtx.pad 2 u) = .ok (u : Int) := by
  rw [Dtx.pad2 h, atoi_plain (by omega), parse_cons (by omega) (by omega), parse_cons (by omega) (by omega)]
  simp only [parseUint10]
  rw [if_neg (by omega)]
  congr 1; omega
theorem atoi_pad4 {u : Nat} (h : u < 10000) : atoiAll (Dtx.pad 4 u) = .ok (u : Int) := by
  rw [Dtx.pad4 h, atoi_plain (by omega), parse_cons (by omega) (by omega), parse_cons (by omega) (by omega), parse_cons (by omega) (by omega), parse_cons (by omega) (by omega)]
  simp only [parseUint10]
  rw [if_neg (by omega)]
  congr 1; omega
theorem no_dash2 {u : Nat} (h : u < 100) : (45 : UInt8) ∉ Dtx.pad 2 u := by
  rw [Dtx.pad2 h]
  intro hm
  simp only [List.mem_cons, List.not_mem_nil, or_false] at hm
  rcases hm with e | e
  all_goals (have := congrArg UInt8.toNat e; rw [dig_byte (by omega)] at this; simp at this; omega)
theorem no_dash4 {u : Nat} (h : u < 10000) : (45 : UInt8) ∉ Dtx.pad 4 u := by
  rw [Dtx.pad4 h]
  intro hm
  simp only [List.mem_cons, List.not_mem_nil, or_false] at hm
  rcases hm with e | e | e | e
  all_goals (have := congrArg UInt8.toNat e; rw [dig_byte (by omega)] at this; simp at this; omega)
end Byt
