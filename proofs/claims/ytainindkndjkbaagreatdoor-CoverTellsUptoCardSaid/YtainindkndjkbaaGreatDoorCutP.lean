/- Texts cut at a text: the plain law over the kit's own words (Lib.split, Lib.count, Lib.index). No program in sight. -/
import Derived.Lib.Split
namespace Spl
open Go Go.Lib

theorem split_hit {s sub : List UInt8} {i : Nat} (hsub : sub ≠ []) (h : index s sub = i) : split s sub = s.take i :: split (s.drop (i + sub.length)) sub := by
  have hne : ((i : Int) == -1) = false := by rw [beq_eq_false_iff_ne]; omega
  unfold split
  rw [count_hit hsub h, Nat.add_comm 1]
  simp [splitK, h, hne]
theorem split_miss {s sub : List UInt8} (h : index s sub = -1) : split s sub = [s] := by
  unfold split
  rw [count_miss h]
  rfl
theorem splitK_len {sub : List UInt8} (hsub : sub ≠ []) : ∀ (k : Nat) (s : List UInt8), count s sub = k → (splitK sub 0 k s).length = k + 1
  | 0, _, _ => rfl
  | k + 1, s, h => by
    by_cases hi : index s sub = -1
    · rw [count_miss hi] at h; omega
    · have hg := index_ge s sub
      have he : index s sub = ((index s sub).toNat : Int) := by omega
      rw [count_hit hsub he] at h
      have hb : (index s sub == -1) = false := by rw [beq_eq_false_iff_ne]; exact hi
      simp only [splitK, hb, Bool.false_eq_true, if_false, List.length_cons]
      rw [splitK_len hsub k _ (by omega)]
theorem split_len {s sub : List UInt8} (hsub : sub ≠ []) : (split s sub).length = count s sub + 1 := splitK_len hsub _ s rfl
theorem occ_drop (s sub : List UInt8) (a j : Nat) : occAt (s.drop a) sub j = occAt s sub (a + j) := by
  unfold occAt
  rw [List.drop_drop]

/-- what the loop of a cut keeps: the pieces so far, from where the next one is, up to where it is looked for -/
def Inv (s sub : List UInt8) (P : List (List UInt8)) (a b : Nat) : Prop := split s sub = P ++ split (s.drop a) sub ∧ ∀ j, a ≤ j → j < b → occAt s sub j = false
theorem inv_start (s sub : List UInt8) : Inv s sub [] 0 0 := ⟨rfl, fun j _ h => by omega⟩
theorem inv_miss {s sub : List UInt8} {P : List (List UInt8)} {a b : Nat} (h : Inv s sub P a b) (hb : b + sub.length ≤ s.length) (hx : ¬ (s.drop b).take sub.length = sub) : Inv s sub P a (b + 1) := by
  refine ⟨h.1, fun j h1 h2 => ?_⟩
  by_cases e : j = b
  · subst e
    rw [occAt_iff_take s sub j hb]
    exact beq_eq_false_iff_ne.2 hx
  · exact h.2 j h1 (by omega)
theorem inv_hit {s sub : List UInt8} {P : List (List UInt8)} {a b : Nat} (h : Inv s sub P a b) (hsub : sub ≠ []) (hab : a ≤ b) (hb : b + sub.length ≤ s.length) (hx : (s.drop b).take sub.length = sub) :
    Inv s sub (P ++ [(s.drop a).take (b - a)]) (b + sub.length) (b + sub.length) := by
  refine ⟨?_, fun j _ h2 => by omega⟩
  have hi : index (s.drop a) sub = ((b - a : Nat) : Int) := by
    refine index_first (by rw [List.length_drop]; omega) ?_ fun j hj => ?_
    · rw [occ_drop, show a + (b - a) = b by omega, occAt_iff_take s sub b hb, hx]
      exact beq_self_eq_true _
    · rw [occ_drop]
      exact h.2 _ (by omega) (by omega)
  rw [h.1, split_hit hsub hi, List.drop_drop, show a + (b - a + sub.length) = b + sub.length by omega]
  simp
theorem inv_end {s sub : List UInt8} {P : List (List UInt8)} {a b : Nat} (h : Inv s sub P a b) (hsub : sub ≠ []) (hb : ¬ b + sub.length ≤ s.length) : split s sub = P ++ [s.drop a] := by
  have hi : index (s.drop a) sub = -1 := by
    refine index_none fun j _ => ?_
    rw [occ_drop]
    by_cases hj : a + j < b
    · exact h.2 _ (by omega) hj
    · cases ho : occAt s sub (a + j) with
      | false => rfl
      | true =>
        rcases occAt_room ho with g | g
        · omega
        · exact absurd g hsub
  rw [h.1, split_miss hi]
end Spl
