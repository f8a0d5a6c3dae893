/- How a rule lies in memory: its parts, their relations, their ranges; kept by whatever turns nothing old. -/
import Derived.Test.YtainindkndjkbaaGreatDoorBox
import Derived.Test.YtainindkndjkbaaGreatDoorRulP
import Derived.Laws.AppendOwn
namespace Go.Proofs.YtainindkndjkbaaGreatDoor
open Go.RowKit

/-- a slice of elements of m cells each, of which each lies as C says -/
def SlAt {α : Type} (m : Nat) (C : World → Nat → Nat → α → Prop) (w : World) (v : Value) (l : List α) : Prop :=
  (l = [] ∧ ∃ a c, v = .slice a 0 c) ∨
  ∃ b off cap, v = .slice (some ⟨b, off, none⟩) l.length cap ∧ 0 < l.length ∧ l.length ≤ cap ∧ cap ≤ maxLen ∧ ∀ (j : Nat) x, l[j]? = some x → C w b (off + j * m) x
theorem SlAt.imp {α : Type} {m : Nat} {C : World → Nat → Nat → α → Prop} {w w' : World} {v : Value} {l : List α} (h : SlAt m C w v l) (hC : ∀ b k x, x ∈ l → C w b k x → C w' b k x) : SlAt m C w' v l := by
  rcases h with h | ⟨b, off, cap, h1, h2, h3, h4, h5⟩
  · exact .inl h
  · exact .inr ⟨b, off, cap, h1, h2, h3, h4, fun j x hx => hC _ _ _ (List.mem_of_getElem? hx) (h5 j x hx)⟩
theorem SlAt.spread {α : Type} {m : Nat} {C : World → Nat → Nat → α → Prop} {w : World} {v : Value} {l : List α} (h : SlAt m C w v l) :
    ∃ A cap, v = .slice A l.length cap ∧ l.length ≤ maxLen ∧ ∀ (j : Nat) x, l[j]? = some x → ∃ b off, A = some ⟨b, off, none⟩ ∧ C w b (off + j * m) x := by
  rcases h with ⟨rfl, a, c, rfl⟩ | ⟨b, off, cap, rfl, _, h3, h4, h5⟩
  · exact ⟨a, c, rfl, Nat.zero_le _, fun j x hx => by simp at hx⟩
  · exact ⟨_, cap, rfl, by omega, fun j x hx => ⟨b, off, rfl, h5 j x hx⟩⟩
theorem SlAt.isSlice {α : Type} {m : Nat} {C : World → Nat → Nat → α → Prop} {w : World} {v : Value} {l : List α} (h : SlAt m C w v l) : ∃ a n c, v = .slice a n c := by
  obtain ⟨A, cap, e, _⟩ := h.spread
  exact ⟨_, _, _, e⟩
/-- a range's two cells -/
def RngC (w : World) (b k : Nat) (p : Int × Int) : Prop := w.cell? ⟨b, k, none⟩ = some (.int .i64 p.1) ∧ w.cell? ⟨b, k + 1, none⟩ = some (.int .i64 p.2)
/-- a relation's four cells -/
def RelC (w : World) (b k : Nat) (r : Rul.Rl) : Prop := ∃ a n c, w.cell? ⟨b, k, none⟩ = some (.int .u8 (r.op.toNat : Int)) ∧ w.cell? ⟨b, k + 1, none⟩ = some (.int .i64 r.mod) ∧ w.cell? ⟨b, k + 2, none⟩ = some (.bool r.no) ∧ w.cell? ⟨b, k + 3, none⟩ = some (.slice a n c) ∧ SlAt 2 RngC w (.slice a n c) r.rs
/-- a part's cell -/
def PartC (w : World) (b k : Nat) (l : List Rul.Rl) : Prop := ∃ a n c, w.cell? ⟨b, k, none⟩ = some (.slice a n c) ∧ SlAt 4 RelC w (.slice a n c) l
abbrev RngsAt := SlAt 2 RngC
abbrev RelsAt := SlAt 4 RelC
abbrev RuleAt := SlAt 1 PartC
theorem RngC.below {w w' : World} {b k : Nat} {p : Int × Int} (h : RngC w b k p) (hb : Below w.heap.size w w') : RngC w' b k p := ⟨cell_keep h.1 hb, cell_keep h.2 hb⟩
theorem SlAt.rngs_below {w w' : World} {v : Value} {l : List (Int × Int)} (h : SlAt 2 RngC w v l) (hb : Below w.heap.size w w') : SlAt 2 RngC w' v l := h.imp fun _ _ _ _ g => g.below hb
theorem RelC.below {w w' : World} {b k : Nat} {r : Rul.Rl} (h : RelC w b k r) (hb : Below w.heap.size w w') : RelC w' b k r := by
  obtain ⟨a, n, c, h0, h1, h2, h3, h4⟩ := h
  exact ⟨a, n, c, cell_keep h0 hb, cell_keep h1 hb, cell_keep h2 hb, cell_keep h3 hb, h4.rngs_below hb⟩
theorem SlAt.rels_below {w w' : World} {v : Value} {l : List Rul.Rl} (h : SlAt 4 RelC w v l) (hb : Below w.heap.size w w') : SlAt 4 RelC w' v l := h.imp fun _ _ _ _ g => g.below hb
theorem PartC.below {w w' : World} {b k : Nat} {l : List Rul.Rl} (h : PartC w b k l) (hb : Below w.heap.size w w') : PartC w' b k l := by
  obtain ⟨a, n, c, h0, h1⟩ := h
  exact ⟨a, n, c, cell_keep h0 hb, h1.rels_below hb⟩
theorem SlAt.rule_below {w w' : World} {v : Value} {l : Rul.Rule} (h : SlAt 1 PartC w v l) (hb : Below w.heap.size w w') : SlAt 1 PartC w' v l := h.imp fun _ _ _ _ g => g.below hb
theorem any_take' {α : Type} {L : List α} {p : α → Bool} {k : Nat} {x : α} (h : L[k]? = some x) : (L.take (k + 1)).any p = ((L.take k).any p || p x) := by
  rw [List.take_add_one, h]; simp
end Go.Proofs.YtainindkndjkbaaGreatDoor
