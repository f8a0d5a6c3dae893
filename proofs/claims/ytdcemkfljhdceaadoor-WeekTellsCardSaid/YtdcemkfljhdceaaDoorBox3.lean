/- Three cells of a boxed struct. -/
import Derived.Test.YtdcemkfljhdceaaDoorBox
namespace Go.Proofs.YtdcemkfljhdceaaDoor
open Go.RowKit

/-- three cells of a boxed struct -/
structure Box3 (w : World) (p : Nat) (a b c : Value) : Prop where
  lt : p < w.heap.size
  c0 : w.cell? ⟨p, 0, none⟩ = some a
  c1 : w.cell? ⟨p, 1, none⟩ = some b
  c2 : w.cell? ⟨p, 2, none⟩ = some c
theorem Box3.below {w w' : World} {p : Nat} {a b c : Value} (h : Box3 w p a b c) (hb : Below w.heap.size w w') : Box3 w' p a b c :=
  ⟨Nat.lt_of_lt_of_le h.lt hb.size, (hb.cell (p := ⟨p, 0, none⟩) h.lt).trans h.c0, (hb.cell (p := ⟨p, 1, none⟩) h.lt).trans h.c1, (hb.cell (p := ⟨p, 2, none⟩) h.lt).trans h.c2⟩
theorem Box3.made (w : World) (a b c : Value) (t : TypeId) : Box3 (w.alloc (.cells #[a, b, c] t)) w.heap.size a b c :=
  ⟨by simp, by simp [go_sem], by simp [go_sem], by simp [go_sem]⟩
end Go.Proofs.YtdcemkfljhdceaaDoor
