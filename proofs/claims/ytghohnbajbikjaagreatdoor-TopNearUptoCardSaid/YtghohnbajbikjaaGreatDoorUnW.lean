/- Worlds in which but some blocks have turned. No program. -/
import Derived.Test.YtghohnbajbikjaaGreatDoorTa1
namespace Go.Proofs.YtghohnbajbikjaaGreatDoor
open Go.RowKit
/-- whatever was there is as it was, but for the blocks of S -/
structure Kpt (S : Nat → Prop) (w w' : World) : Prop where
  os : w'.os = w.os
  tape : w'.tape = w.tape
  output : w'.output = w.output
  size : w.heap.size ≤ w'.heap.size
  block : ∀ k, k < w.heap.size → ¬ S k → w'.heap[k]? = w.heap[k]?
theorem Boxed.same {w w' : World} {p : Nat} {vs : Array Value} (hx : Boxed w p vs) (e : w'.heap[p]? = w.heap[p]?) : Boxed w' p vs := by
  refine ⟨?_, fun j v hj => ?_, fun j hj => ?_⟩
  · have h := Array.getElem?_eq_getElem hx.lt
    rw [← e] at h
    exact (Array.getElem?_eq_some_iff.1 h).1
  · have := hx.cell j v hj
    simp only [World.cell?] at this ⊢
    rw [e]; exact this
  · have := hx.free j hj
    simp only [World.frozen?] at this ⊢
    rw [e]; exact this
namespace Kpt
variable {S S' : Nat → Prop} {w w' w'' : World}
theorem refl (S : Nat → Prop) (w : World) : Kpt S w w := ⟨rfl, rfl, rfl, Nat.le_refl _, fun _ _ _ => rfl⟩
theorem of_below (hb : Below w.heap.size w w') : Kpt S w w' := ⟨hb.os, hb.tape, hb.output, hb.size, fun k hk _ => hb.block k hk⟩
theorem mono (h : Kpt S w w') (hs : ∀ k, k < w.heap.size → S k → S' k) : Kpt S' w w' := ⟨h.os, h.tape, h.output, h.size, fun k hk hn => h.block k hk fun hS => hn (hs k hk hS)⟩
theorem trans (h : Kpt S w w') (k : Kpt S w' w'') : Kpt S w w'' :=
  ⟨k.os.trans h.os, k.tape.trans h.tape, k.output.trans h.output, Nat.le_trans h.size k.size, fun i hi hn => (k.block i (Nat.lt_of_lt_of_le hi h.size) hn).trans (h.block i hi hn)⟩
theorem below (h : Kpt S w w') (k : Below w'.heap.size w' w'') : Kpt S w w'' := h.trans (of_below k)
theorem alloc (h : Kpt S w w') (o : Obj) : Kpt S w (w'.alloc o) := h.below (blw_alloc w' o)
theorem setCell (h : Kpt S w w') (a : Addr) (v : Value) (hs : a.block < w.heap.size → S a.block) : Kpt S w (w'.setCell a v) := by
  refine ⟨h.os, h.tape, h.output, by rw [size_setCell]; exact h.size, fun k hk hn => ?_⟩
  have e : a.block ≠ k := fun e => hn (e ▸ hs (by omega))
  rw [show (w'.setCell a v).heap[k]? = w'.heap[k]? from ?_]
  · exact h.block k hk hn
  · simp only [World.setCell]
    rw [Array.getElem?_modify]
    rw [if_neg e]
theorem toBelow (h : Kpt S w w') {W : World} (hb : Below W.heap.size W w) (hs : ∀ k, k < W.heap.size → ¬ S k) : Below W.heap.size W w' :=
  ⟨h.os.trans hb.os, h.tape.trans hb.tape, h.output.trans hb.output, Nat.le_trans hb.size h.size, fun k hk => (h.block k (Nat.lt_of_lt_of_le hk hb.size) (hs k hk)).trans (hb.block k hk)⟩
theorem box (h : Kpt S w w') {p : Nat} {vs : Array Value} (hx : Boxed w p vs) (hp : ¬ S p) : Boxed w' p vs := by
  have e := h.block p hx.lt hp
  refine ⟨Nat.lt_of_lt_of_le hx.lt h.size, fun j v hj => ?_, fun j hj => ?_⟩
  · have := hx.cell j v hj
    simp only [World.cell?] at this ⊢
    rw [e]; exact this
  · have := hx.free j hj
    simp only [World.frozen?] at this ⊢
    rw [e]; exact this
theorem cell (h : Kpt S w w') {a : Addr} {v : Value} (hc : w.cell? a = some v) (hp : ¬ S a.block) : w'.cell? a = some v := by
  have hl := World.block_lt_of_cell? w a hc
  simp only [World.cell?] at hc ⊢
  rw [h.block _ hl hp]; exact hc
end Kpt
end Go.Proofs.YtghohnbajbikjaaGreatDoor
