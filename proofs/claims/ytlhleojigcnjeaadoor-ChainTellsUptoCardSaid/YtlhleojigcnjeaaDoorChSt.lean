/- Slices of tags in memory; what growth of a row leaves as it was. -/
import Derived.Test.YtlhleojigcnjeaaDoorTagOfSt
import Derived.Test.YtlhleojigcnjeaaDoorHeld
import Derived.Test.YtlhleojigcnjeaaDoorOwn
import Derived.Maps.AppendAt
import Derived.OwnWalk
namespace Go.Proofs.YtlhleojigcnjeaaDoor
open Go.RowKit

/-- the texts do not lie in this block -/
def NotRow (row : Option Nat) (V : Value) : Prop := ∀ ad n c, V = .slice (some ad) n c → 0 < n → some ad.block ≠ row
theorem NotRow.nil (row : Option Nat) (n c : Nat) : NotRow row (.slice none n c) := fun _ _ _ e _ => by injection e with e; cases e
theorem NotRow.none (V : Value) : NotRow none V := fun _ _ _ _ _ e => by cases e
theorem NotRow.zero (row : Option Nat) (a : Option Addr) (c : Nat) : NotRow row (.slice a 0 c) := fun _ n _ e h => by injection e with _ e; omega
theorem FarV.not {B q : Nat} {V : Value} (h : FarV B V) (hq : q < B) : NotRow (some q) V := fun ad n c e h0 g => by
  have := h ad n c e h0
  injection g with g; omega
theorem StrsAt.old {w : World} {V : Value} {l : List (List UInt8)} (h : StrsAt w V l) {q : Nat} (hq : w.heap.size ≤ q) : NotRow (some q) V := fun ad n c e h0 g => by
  rcases h with ⟨_, a, cap, rfl⟩ | ⟨b, off, cap, rfl, h1, _, _, hc⟩
  · injection e with _ e; omega
  · injection e with e _
    injection e with e
    subst e
    injection g with g
    have := World.block_lt_of_cell? _ _ (hc 0 _ (List.getElem?_eq_getElem h1))
    dsimp only at this g; omega
theorem StrsAt.grown {w w' : World} {V : Value} {l : List (List UInt8)} {row : Option Nat} (h : StrsAt w V l) (hg : w.grownBy w' row) (hn : NotRow row V) : StrsAt w' V l := by
  rcases h with h | ⟨b, off, cap, rfl, h2, h3, h4, h5⟩
  · exact .inl h
  · exact .inr ⟨b, off, cap, rfl, h2, h3, h4, fun j x hx => hg.cell (h5 j x hx) (show some b ≠ row from hn ⟨b, off, none⟩ _ cap rfl h2)⟩
theorem StrsAt.put {w : World} {V : Value} {l : List (List UInt8)} (h : StrsAt w V l) (a : Addr) (hn : NotRow (some a.block) V) (u : Value) : StrsAt (w.setCell a u) V l := by
  rcases h with h | ⟨b, off, cap, rfl, h2, h3, h4, h5⟩
  · exact .inl h
  · exact .inr ⟨b, off, cap, rfl, h2, h3, h4, fun j x hx => (World.cell?_setCell_other _ _ _ _ (fun e => hn ⟨b, off, none⟩ _ cap rfl h2 (by rw [e]))).trans (h5 j x hx)⟩
theorem Boxed.grown {w w' : World} {p : Nat} {vs : Array Value} {row : Option Nat} (h : Boxed w p vs) (hg : w.grownBy w' row) (hn : some p ≠ row) : Boxed w' p vs :=
  ⟨Nat.lt_of_lt_of_le h.lt hg.size, fun j v hj => hg.cell (h.cell j v hj) hn, fun j hj => (World.frozen?_of_block (hg.block p h.lt hn)).trans (h.free j hj)⟩
theorem grown_below {w w' : World} (hb : Below w.heap.size w w') (row : Option Nat) : w.grownBy w' row :=
  ⟨hb.os, hb.tape, hb.output, hb.size, fun k hk _ => hb.block k hk⟩
theorem grown_set (w : World) (a : Addr) (u : Value) : w.grownBy (w.setCell a u) (some a.block) :=
  ⟨rfl, rfl, rfl, by rw [size_setCell]; exact Nat.le_refl _, fun k _ hk => by
    have e : a.block ≠ k := fun e => hk (by rw [e])
    unfold World.setCell
    split <;> simp [Array.getElem?_modify, e]⟩
/-- a growth of what lies behind the old world -/
theorem grown_new {w w' w'' : World} {q : Nat} (h : w.grownBy w' none) (k : w'.grownBy w'' (some q)) (hq : w.heap.size ≤ q) : w.grownBy w'' none :=
  ⟨k.os.trans h.os, k.tape.trans h.tape, k.output.trans h.output, Nat.le_trans h.size k.size, fun i hi _ => (k.block i (Nat.lt_of_lt_of_le hi h.size) (fun e => by injection e with e; omega)).trans (h.block i hi (by simp))⟩
/-- the cells of a tag -/
def tcells (t : Tg) (V : Value) : List Value := [.string ⟨t.l.toArray⟩, .string ⟨t.s.toArray⟩, .string ⟨t.r.toArray⟩, V]
def flat (A : List (Tg × Value)) : List Value := A.flatMap fun x => tcells x.1 x.2
theorem flat_snoc (A : List (Tg × Value)) (c : Tg) (V : Value) : flat (A ++ [(c, V)]) = flat A ++ tcells c V := by simp [flat]
theorem flat_append (A B : List (Tg × Value)) : flat (A ++ B) = flat A ++ flat B := by simp [flat]
theorem flat_len (A : List (Tg × Value)) : (flat A).length = A.length * 4 := by
  induction A with
  | nil => rfl
  | cons x r ih => simp only [flat, List.flatMap_cons, List.length_append, List.length_cons] at *; rw [ih]; simp [tcells]; omega
theorem flat_at : ∀ (A : List (Tg × Value)) (j : Nat) (x : Tg × Value), A[j]? = some x → ∀ k u, (tcells x.1 x.2)[k]? = some u → (flat A)[j * 4 + k]? = some u
  | [], j, x, h, _, _, _ => by simp at h
  | y :: r, 0, x, h, k, u, hu => by
    obtain rfl : y = x := by simpa using h
    have hk : k < 4 := (List.getElem?_eq_some_iff.1 hu).1
    simp only [flat, List.flatMap_cons]
    rw [List.getElem?_append_left (by show _ < 4; omega), Nat.zero_mul, Nat.zero_add]
    exact hu
  | y :: r, j + 1, x, h, k, u, hu => by
    have := flat_at r j x (by simpa using h) k u hu
    simp only [flat, List.flatMap_cons] at this ⊢
    rw [List.getElem?_append_right (by show 4 ≤ _; omega), show (j + 1) * 4 + k - (tcells y.1 y.2).length = j * 4 + k by show (j + 1) * 4 + k - 4 = _; omega]
    exact this
/-- the texts of these tags -/
def TagsOf (w : World) (A : List (Tg × Value)) : Prop := ∀ x ∈ A, StrsAt w x.2 x.1.vs ∧ Nil0 x.2
/-- a tag lies in the four cells from k on -/
def TagCell (w : World) (b k : Nat) (t : Tg) : Prop := ∃ a n c, w.cell? ⟨b, k, none⟩ = some (.string ⟨t.l.toArray⟩) ∧ w.cell? ⟨b, k + 1, none⟩ = some (.string ⟨t.s.toArray⟩) ∧ w.cell? ⟨b, k + 2, none⟩ = some (.string ⟨t.r.toArray⟩) ∧ w.cell? ⟨b, k + 3, none⟩ = some (.slice a n c) ∧ StrsAt w (.slice a n c) t.vs ∧ Nil0 (.slice a n c)
/-- a slice of tags -/
def TagsAt (w : World) (v : Value) (L : List Tg) : Prop :=
  (L = [] ∧ ∃ a cap, v = .slice a 0 cap) ∨
  ∃ b off cap, v = .slice (some ⟨b, off, none⟩) L.length cap ∧ 0 < L.length ∧ L.length ≤ cap ∧ cap ≤ maxLen ∧ ∀ (j : Nat) t, L[j]? = some t → TagCell w b (off + j * 4) t
theorem TagCell.below {w w' : World} {b k : Nat} {t : Tg} (h : TagCell w b k t) (hb : Below w.heap.size w w') : TagCell w' b k t := by
  obtain ⟨a, n, c, h0, h1, h2, h3, h4, h5⟩ := h
  exact ⟨a, n, c, cell_keep h0 hb, cell_keep h1 hb, cell_keep h2 hb, cell_keep h3 hb, h4.below hb, h5⟩
theorem TagsAt.below {w w' : World} {v : Value} {L : List Tg} (h : TagsAt w v L) (hb : Below w.heap.size w w') : TagsAt w' v L := by
  rcases h with h | ⟨b, off, cap, h1, h2, h3, h4, h5⟩
  · exact .inl h
  · exact .inr ⟨b, off, cap, h1, h2, h3, h4, fun j t ht => (h5 j t ht).below hb⟩
theorem TagsAt.isSlice {w : World} {v : Value} {L : List Tg} (h : TagsAt w v L) : ∃ a n c, v = .slice a n c := by
  rcases h with ⟨_, a, cap, rfl⟩ | ⟨_, _, cap, rfl, _⟩
  · exact ⟨_, _, _, rfl⟩
  · exact ⟨_, _, _, rfl⟩
theorem TagsAt.of_row {w : World} {base : Nat} {e : TypeId} {v : Value} {n : Nat} {A : List (Tg × Value)} (h : w.ownsRow base e 4 v n (flat A)) (ht : TagsOf w A) : TagsAt w v (A.map (·.1)) := by
  obtain ⟨hl, h⟩ := h
  rw [flat_len] at hl
  obtain rfl : n = A.length := by omega
  rcases h with ⟨rfl, h0⟩ | ⟨g, cap, cur, rfl, _, hg, h1, h2, h3, h4⟩
  · exact .inl ⟨by rw [List.length_eq_zero_iff.1 h0]; rfl, none, 0, rfl⟩
  · by_cases h0 : A.length = 0
    · exact .inl ⟨by rw [List.length_eq_zero_iff.1 h0]; rfl, _, _, by rw [h0]⟩
    · refine .inr ⟨g, 0, cap, by rw [List.length_map], by rw [List.length_map]; omega, by rw [List.length_map]; exact h1, h2, fun j t hj => ?_⟩
      rw [List.getElem?_map] at hj
      obtain ⟨⟨t', V⟩, hx, e⟩ := Option.map_eq_some_iff.1 hj
      obtain rfl : t' = t := e
      have hjl : j < A.length := (List.getElem?_eq_some_iff.1 hx).1
      obtain ⟨hs, hz⟩ := ht _ (List.mem_of_getElem? hx)
      have hc : ∀ k u, (tcells t' V)[k]? = some u → w.cell? ⟨g, 0 + j * 4 + k, none⟩ = some u := fun k u hu => by
        have hk : k < 4 := (List.getElem?_eq_some_iff.1 hu).1
        have q := flat_at A j _ hx k u hu
        have e : (cur.toList.take (A.length * 4))[j * 4 + k]? = some u := by rw [h4]; exact q
        rw [List.getElem?_take, if_pos (by omega)] at e
        have e2 : cur[j * 4 + k]? = some u := by simpa using e
        rw [Nat.zero_add]
        simp [World.cell?, hg, e2]
      obtain ⟨a, n, c, rfl⟩ := hs.isSlice
      exact ⟨a, n, c, hc 0 _ rfl, hc 1 _ rfl, hc 2 _ rfl, hc 3 _ rfl, hs, hz⟩
end Go.Proofs.YtlhleojigcnjeaaDoor
