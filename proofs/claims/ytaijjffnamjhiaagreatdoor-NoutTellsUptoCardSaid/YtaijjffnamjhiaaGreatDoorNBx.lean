/- Three boxes of a call: a pattern, signs, a number. -/
import Derived.Test.YtaijjffnamjhiaaGreatDoorBoxS
namespace Go.Proofs.YtaijjffnamjhiaaGreatDoor
open Go.RowKit
structure Bx (w0 : World) (pv yv : Array Value) (c s : Value) (w : World) : Prop where
  b : Below w0.heap.size w0 w
  p : Boxed w w0.heap.size pv
  y : Boxed w (w0.heap.size + 1) yv
  d : Boxed w (w0.heap.size + 2) #[c, s]
theorem Bx.made (w0 : World) (pv yv : Array Value) (c s : Value) (t1 t2 t3 : TypeId) : Bx w0 pv yv c s (((w0.alloc (.cells pv t1)).alloc (.cells yv t2)).alloc (.cells #[c, s] t3)) :=
  ⟨blw_trans (blw_trans (blw_alloc _ _) (blw_alloc _ _)) (blw_alloc _ _), ((Boxed.made w0 pv t1).alloc _).alloc _, ((Boxed.made _ yv t2).alloc _).at (by simp), (Boxed.made _ _ t3).at (by simp)⟩
theorem Bx.below {w0 w w' : World} {pv yv : Array Value} {c s : Value} (h : Bx w0 pv yv c s w) (hb : Below w.heap.size w w') : Bx w0 pv yv c s w' :=
  ⟨blw_trans h.b hb, h.p.below hb, h.y.below hb, h.d.below hb⟩
theorem Bx.alloc {w0 w : World} {pv yv : Array Value} {c s : Value} (h : Bx w0 pv yv c s w) (o : Obj) : Bx w0 pv yv c s (w.alloc o) := h.below (blw_alloc w o)
theorem Bx.drewN {w0 w : World} {pv yv : Array Value} {c s : Value} (h : Bx w0 pv yv c s w) (n : Nat) : Bx w0 pv yv c s (w.drewN n) := ⟨blw_drewN h.b n, h.p.drewN n, h.y.drewN n, h.d.drewN n⟩
theorem Bx.store {w0 w : World} {pv yv : Array Value} {c s : Value} (h : Bx w0 pv yv c s w) (x z : Value) : Bx w0 pv yv x z ((w.setCell ⟨w0.heap.size + 2, 0, none⟩ x).setCell ⟨w0.heap.size + 2, 1, none⟩ z) :=
  ⟨Below.setCell (Below.setCell h.b (by simp) x) (by simp) z,
   (h.p.far (q := w0.heap.size + 2) (by omega) 0 x).far (q := w0.heap.size + 2) (by omega) 1 z,
   (h.y.far (q := w0.heap.size + 2) (by omega) 0 x).far (q := w0.heap.size + 2) (by omega) 1 z,
   (h.d.set 0 x (by simp)).set 1 z (by simp)⟩
/-- another block than the three -/
theorem Bx.lt {w0 w : World} {pv yv : Array Value} {c s : Value} (h : Bx w0 pv yv c s w) : w0.heap.size + 2 < w.heap.size := h.d.lt
end Go.Proofs.YtaijjffnamjhiaaGreatDoor
