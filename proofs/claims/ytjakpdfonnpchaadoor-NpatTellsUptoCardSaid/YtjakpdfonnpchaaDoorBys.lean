/- Texts cut at one sign: a joined text is cut into what was joined; a sign is struck out. Plain: no program. -/
import Derived.Test.YtjakpdfonnpchaaDoorBy1
import Derived.Lib.Join
import Derived.Lib.SplitLaws
import Derived.Lib.Replace
namespace Byt
open Go Go.Lib
theorem split_cons {c : UInt8} {X : List UInt8} (Y : List UInt8) (h : c ∉ X) : split (X ++ c :: Y) [c] = X :: split Y [c] := by
  unfold split
  have e : count (X ++ c :: Y) [c] = count Y [c] + 1 := by
    rw [count_one, count_one, List.count_append, List.count_cons_self, List.count_eq_zero.2 h]; omega
  rw [e, splitK_hit _ _ h]
theorem split_none {c : UInt8} {X : List UInt8} (h : c ∉ X) : split X [c] = [X] := splitK_miss _ h
theorem split_join (c : UInt8) : ∀ {l : List (List UInt8)}, l ≠ [] → (∀ p ∈ l, c ∉ p) → split (join l [c]) [c] = l
  | [], h, _ => absurd rfl h
  | [x], _, h => by rw [join_one]; exact split_none (h x (by simp))
  | x :: y :: r, _, h => by
    have e : join (x :: y :: r) [c] = x ++ c :: join (y :: r) [c] := by
      rw [join_cons, join_cons]; unfold joinTail; simp
    rw [e, split_cons _ (h x (by simp)), split_join c (by simp) (fun p hp => h p (by simp at hp ⊢; exact .inr hp))]
theorem replaceK_one {c : UInt8} : ∀ (k : Nat) (s : List UInt8), s.count c = k → replaceK [c] [] k s = s.filter (· != c)
  | 0, s, h => by
    rw [replaceK]
    exact (List.filter_eq_self.2 fun x hx => by simp; exact fun e => (List.count_eq_zero.1 h) (e ▸ hx)).symm
  | k + 1, s, h => by
    have hc : c ∈ s := List.count_pos_iff.1 (by omega)
    obtain ⟨X, Y, rfl, hX⟩ := part hc
    rw [replaceK, idx_hit Y hX]
    rw [List.count_append, List.count_cons_self, List.count_eq_zero.2 hX] at h
    have e1 : (X ++ c :: Y).take (X.length : Int).toNat = X := by simp
    have e2 : (X ++ c :: Y).drop ((X.length : Int).toNat + [c].length) = Y := by rw [Int.toNat_natCast, ← List.drop_drop, List.drop_left]; rfl
    simp only [e1, e2]
    rw [replaceK_one k Y (by omega), List.filter_append]
    have f1 : X.filter (· != c) = X := List.filter_eq_self.2 fun x hx => by simp; exact fun e => hX (e ▸ hx)
    rw [f1]; simp
theorem replaceAll_one (c : UInt8) (s : List UInt8) : replaceAll s [c] [] = s.filter (· != c) := by
  unfold replaceAll replace replaceNum
  rw [if_neg (by simp), if_pos (by left; decide), count_one]
  exact replaceK_one _ s rfl
end Byt
