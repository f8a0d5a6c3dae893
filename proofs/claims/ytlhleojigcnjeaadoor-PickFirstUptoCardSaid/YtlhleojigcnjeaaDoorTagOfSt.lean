/- The state of linguisterref1.TagOf between its pieces, and how it keeps. -/
import Derived.Test.YtlhleojigcnjeaaDoorTagPst
import Derived.Test.YtlhleojigcnjeaaDoorCut
namespace Go.Proofs.YtlhleojigcnjeaaDoor
open Go.RowKit

/-- the state of TagOf: the result's block, the tag's block p, the parts in block b, as C tells -/
structure PSc (w wx : World) (b p : Nat) (a s r : List UInt8) (V : Value) (C : Nat → Option (List UInt8)) : Prop where
  bel : Below w.heap.size w wx
  res : Boxed wx w.heap.size #[.string ByteArray.empty, .string ByteArray.empty, .string ByteArray.empty, .slice none 0 0]
  box : Boxed wx p #[.string ⟨a.toArray⟩, .string ⟨s.toArray⟩, .string ⟨r.toArray⟩, V]
  cell : ∀ (j : Nat) x, C j = some x → wx.cell? ⟨b, j, none⟩ = some (.string ⟨x.toArray⟩)
theorem PSc.below {w wx wy : World} {b p : Nat} {a s r : List UInt8} {V : Value} {C : Nat → Option (List UInt8)} (h : PSc w wx b p a s r V C) (hb : Below wx.heap.size wx wy) : PSc w wy b p a s r V C :=
  ⟨blw_trans h.bel hb, h.res.below hb, h.box.below hb, fun j x hx => cell_keep (h.cell j x hx) hb⟩
theorem PSc.drew {w wx : World} {b p : Nat} {a s r : List UInt8} {V : Value} {C : Nat → Option (List UInt8)} (h : PSc w wx b p a s r V C) : PSc w wx.drew b p a s r V C :=
  ⟨Below.drew h.bel, h.res.drew, h.box.drew, h.cell⟩
theorem PSc.setS {w wx : World} {b p : Nat} {a s r : List UInt8} {V : Value} {C : Nat → Option (List UInt8)} (h : PSc w wx b p a s r V C) (hb : b < p) (hw : w.heap.size < p) (X : List UInt8) : PSc w (wx.setCell ⟨p, 1, none⟩ (.string ⟨X.toArray⟩)) b p a X r V C :=
  ⟨h.bel.setCell (by show w.heap.size ≤ p; omega) _, h.res.far (by omega) _ _, by have z := h.box.set 1 (.string ⟨X.toArray⟩) (by simp); simpa using z,
    fun j x hx => (World.cell?_setCell_other _ _ _ _ (fun e => by have e1 := congrArg Addr.block e; dsimp only at e1; omega)).trans (h.cell j x hx)⟩
theorem PSc.setR {w wx : World} {b p : Nat} {a s r : List UInt8} {V : Value} {C : Nat → Option (List UInt8)} (h : PSc w wx b p a s r V C) (hb : b < p) (hw : w.heap.size < p) (X : List UInt8) : PSc w (wx.setCell ⟨p, 2, none⟩ (.string ⟨X.toArray⟩)) b p a s X V C :=
  ⟨h.bel.setCell (by show w.heap.size ≤ p; omega) _, h.res.far (by omega) _ _, by have z := h.box.set 2 (.string ⟨X.toArray⟩) (by simp); simpa using z,
    fun j x hx => (World.cell?_setCell_other _ _ _ _ (fun e => by have e1 := congrArg Addr.block e; dsimp only at e1; omega)).trans (h.cell j x hx)⟩
theorem PSc.setV {w wx : World} {b p : Nat} {a s r : List UInt8} {V : Value} {C : Nat → Option (List UInt8)} (h : PSc w wx b p a s r V C) (hb : b < p) (hw : w.heap.size < p) (U : Value) : PSc w (wx.setCell ⟨p, 3, none⟩ U) b p a s r U C :=
  ⟨h.bel.setCell (by show w.heap.size ≤ p; omega) _, h.res.far (by omega) _ _, by have z := h.box.set 3 U (by simp); simpa using z,
    fun j x hx => (World.cell?_setCell_other _ _ _ _ (fun e => by have e1 := congrArg Addr.block e; dsimp only at e1; omega)).trans (h.cell j x hx)⟩
theorem Nil0.of_row {w : World} {base n k : Nat} {e : TypeId} {v : Value} {l : List Value} (h : w.ownsRow base e k v n l) : Nil0 v := by
  obtain ⟨_, ⟨rfl, _⟩ | ⟨g, cap, cur, rfl, _⟩⟩ := h
  · intro n c e; injection e with _ _ e; exact e.symm
  · intro n c e; injection e with e; cases e
end Go.Proofs.YtlhleojigcnjeaaDoor
