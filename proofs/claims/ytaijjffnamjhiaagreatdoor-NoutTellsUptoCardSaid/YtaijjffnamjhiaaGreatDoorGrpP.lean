/- Digits by groups: the plain law. No program. -/
import Derived.Lib.Join
import Derived.Lib.Split
import Derived.Lib.Replace
import Derived.Test.YtaijjffnamjhiaaGreatDoorBys
namespace Grp
open Go Go.Lib
/-- the pieces of a text from its end: the last of g signs, the others of g2 each, the first one no longer -/
def pieces (g g2 : Nat) (s : List UInt8) : List (List UInt8) :=
  if _h : 0 < g ∧ g < s.length then pieces g2 g2 (s.take (s.length - g)) ++ [s.drop (s.length - g)] else [s]
termination_by s.length
decreasing_by simp; omega
theorem pieces_cut {g g2 : Nat} {s : List UInt8} (h0 : 0 < g) (h : g < s.length) : pieces g g2 s = pieces g2 g2 (s.take (s.length - g)) ++ [s.drop (s.length - g)] := by
  rw [pieces, dif_pos ⟨h0, h⟩]
theorem pieces_one {g g2 : Nat} {s : List UInt8} (h : s.length ≤ g) : pieces g g2 s = [s] := by
  rw [pieces, dif_neg (by omega)]
theorem pieces_ne (g g2 : Nat) (s : List UInt8) : pieces g g2 s ≠ [] := by
  rw [pieces]; split <;> simp
theorem joinTail_snoc (sep : List UInt8) (r : List (List UInt8)) (y : List UInt8) : joinTail sep (r ++ [y]) = joinTail sep r ++ sep ++ y := by
  unfold joinTail; simp
theorem join_snoc {l : List (List UInt8)} (hl : l ≠ []) (y sep : List UInt8) : join (l ++ [y]) sep = join l sep ++ sep ++ y := by
  cases l with
  | nil => exact absurd rfl hl
  | cons x r => rw [List.cons_append, join_cons, join_cons, joinTail_snoc]; simp
/-- grouped digits -/
def grouped (g g2 : Nat) (s : List UInt8) (c : UInt8) : List UInt8 := join (pieces g g2 s) [c]
theorem grouped_cut {g g2 : Nat} {s : List UInt8} (c : UInt8) (h0 : 0 < g) (h : g < s.length) : grouped g g2 s c = grouped g2 g2 (s.take (s.length - g)) c ++ [c] ++ s.drop (s.length - g) := by
  unfold grouped
  rw [pieces_cut h0 h, join_snoc (pieces_ne _ _ _)]
theorem grouped_one {g g2 : Nat} {s : List UInt8} (c : UInt8) (h : s.length ≤ g) : grouped g g2 s c = s := by
  unfold grouped
  rw [pieces_one h, join_one]
theorem grouped_len (n : Nat) : ∀ (g g2 : Nat) (s : List UInt8) (c : UInt8), s.length ≤ n → (grouped g g2 s c).length ≤ 2 * s.length ∧ (pieces g g2 s).length ≤ s.length + 1 := by
  induction n with
  | zero => intro g g2 s c h; rw [grouped_one c (by omega), pieces_one (by omega)]; simp; omega
  | succ n ih =>
    intro g g2 s c h
    by_cases hc : 0 < g ∧ g < s.length
    · have i := ih g2 g2 (s.take (s.length - g)) c (by simp; omega)
      rw [grouped_cut c hc.1 hc.2, pieces_cut hc.1 hc.2]
      simp only [List.length_append, List.length_take, List.length_drop, List.length_cons, List.length_nil] at i ⊢
      omega
    · rw [pieces, dif_neg hc]
      unfold grouped
      rw [pieces, dif_neg hc, join_one]
      simp; omega
/-- all pieces together -/
theorem pieces_all (n : Nat) : ∀ (g g2 : Nat) (s : List UInt8), s.length ≤ n → (pieces g g2 s).flatten = s := by
  induction n with
  | zero => intro g g2 s h; rw [pieces_one (by omega)]; simp
  | succ n ih =>
    intro g g2 s h
    by_cases hc : 0 < g ∧ g < s.length
    · rw [pieces_cut hc.1 hc.2, List.flatten_append, ih g2 g2 _ (by simp; omega)]; simp
    · rw [pieces, dif_neg hc]; simp
theorem join_flat : ∀ l : List (List UInt8), join l [] = l.flatten
  | [] => rfl
  | x :: r => by rw [join_cons]; unfold joinTail; simp
theorem mem_pieces {g g2 : Nat} {s p : List UInt8} {c : UInt8} (hp : p ∈ pieces g g2 s) (hc : c ∈ p) : c ∈ s := by
  rw [← pieces_all s.length g g2 s (Nat.le_refl _)]
  exact List.mem_flatten.2 ⟨p, hp, hc⟩
/-- what is grouped, without the sign -/
theorem filter_grouped {g g2 : Nat} {s : List UInt8} {c : UInt8} (h : c ∉ s) : (grouped g g2 s c).filter (· != c) = s := by
  have key : ∀ l : List (List UInt8), (∀ p ∈ l, c ∉ p) → (join l [c]).filter (· != c) = l.flatten := by
    intro l hl
    have fl : ∀ p : List UInt8, c ∉ p → p.filter (· != c) = p := fun p hp => List.filter_eq_self.2 fun x hx => by simp; exact fun e => hp (e ▸ hx)
    cases l with
    | nil => rfl
    | cons x r =>
      rw [join_cons, List.filter_append, fl x (hl x (by simp)), List.flatten_cons]
      congr 1
      have hr : ∀ p ∈ r, c ∉ p := fun p hp => hl p (by simp [hp])
      clear hl
      induction r with
      | nil => rfl
      | cons y r ih =>
        unfold joinTail at *
        simp only [List.map_cons, List.flatten_cons, List.filter_append]
        rw [ih (fun p hp => hr p (by simp [hp])), fl y (hr y (by simp))]
        simp
  unfold grouped
  rw [key _ (fun p hp hcp => h (mem_pieces hp hcp)), pieces_all s.length g g2 s (Nat.le_refl _)]
/-- what is grouped, cut at the sign -/
theorem split_grouped {g g2 : Nat} {s : List UInt8} {c : UInt8} (h : c ∉ s) : split (grouped g g2 s c) [c] = pieces g g2 s := by
  unfold grouped
  exact Byt.split_join c (pieces_ne _ _ _) (fun p hp hcp => h (mem_pieces hp hcp))
/-- so many each -/
def Sized (g g2 : Nat) (w : List (List UInt8)) : Prop := ∀ (i : Nat) x, w[i]? = some x → 1 < w.length → 0 < x.length ∧ x.length ≤ (if i + 1 = w.length then g else g2) ∧ (0 < i → x.length = if i + 1 = w.length then g else g2)
theorem pieces_sized (n : Nat) : ∀ (g g2 : Nat) (s : List UInt8), s.length ≤ n → 0 < g → 0 < g2 → Sized g g2 (pieces g g2 s) ∧ ((pieces g g2 s).length = 1 → s.length ≤ g) ∧ (∀ x, (pieces g g2 s)[0]? = some x → s ≠ [] → 0 < x.length ∧ (x.length ≤ g2 ∨ x.length ≤ g)) := by
  induction n with
  | zero =>
    intro g g2 s h h0 h2
    rw [pieces_one (by omega)]
    refine ⟨fun i x hx h1 => by simp at h1, fun _ => by omega, fun x hx hs => ?_⟩
    have : s = [] := List.length_eq_zero_iff.1 (by omega)
    exact absurd this hs
  | succ n ih =>
    intro g g2 s h h0 h2
    by_cases hc : g < s.length
    · obtain ⟨i1, i2, i3⟩ := ih g2 g2 (s.take (s.length - g)) (by simp; omega) h2 h2
      have hne : s.take (s.length - g) ≠ [] := fun e => by have := congrArg List.length e; simp at this; omega
      have hpl : 0 < (pieces g2 g2 (s.take (s.length - g))).length := List.length_pos_iff.2 (pieces_ne _ _ _)
      rw [pieces_cut h0 hc]
      generalize pieces g2 g2 (s.take (s.length - g)) = w at *
      have ifg : ∀ i x, w[i]? = some x → 0 < x.length ∧ x.length ≤ g2 ∧ (0 < i → x.length = g2) := by
        intro i x hx
        have hi : i < w.length := (List.getElem?_eq_some_iff.1 hx).1
        by_cases h1 : 1 < w.length
        · obtain ⟨a, b, d⟩ := i1 i x hx h1
          exact ⟨a, by split at b <;> exact b, fun q => by have := d q; split at this <;> exact this⟩
        · have hi0 : i = 0 := by omega
          subst hi0
          obtain ⟨a, b⟩ := i3 x hx hne
          exact ⟨a, by omega, fun q => by omega⟩
      refine ⟨fun i x hx h1 => ?_, fun e => by rw [List.length_append] at e; simp only [List.length_cons, List.length_nil] at e; omega, fun x hx hs => ?_⟩
      · rw [List.length_append, List.length_cons, List.length_nil] at *
        by_cases hi : i < w.length
        · rw [List.getElem?_append_left hi] at hx
          rw [if_neg (by omega)]
          exact ifg i x hx
        · have hlt := (List.getElem?_eq_some_iff.1 hx).1
          rw [List.length_append, List.length_cons, List.length_nil] at hlt
          have e : i = w.length := by omega
          subst e
          rw [List.getElem?_append_right (Nat.le_refl _), Nat.sub_self] at hx
          have hx' : s.drop (s.length - g) = x := by simpa using hx
          have hl : x.length = g := by rw [← hx']; simp; omega
          rw [if_pos rfl]
          exact ⟨by omega, by omega, fun _ => hl⟩
      · rw [List.getElem?_append_left hpl] at hx
        exact ⟨(ifg 0 x hx).1, .inl (ifg 0 x hx).2.1⟩
    · rw [pieces_one (by omega)]
      refine ⟨fun i x hx h1 => by simp at h1, fun _ => by omega, fun x hx hs => ?_⟩
      obtain rfl : s = x := by simpa using hx
      exact ⟨List.length_pos_iff.2 hs, .inr (by omega)⟩
end Grp
