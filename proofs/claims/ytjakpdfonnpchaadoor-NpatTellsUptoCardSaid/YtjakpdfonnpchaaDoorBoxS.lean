/- Stores into boxes. -/
import Derived.Test.YtjakpdfonnpchaaDoorBox
namespace Go.Proofs.YtjakpdfonnpchaaDoor
open Go.RowKit

theorem size_setCell (w : World) (a : Addr) (v : Value) : (w.setCell a v).heap.size = w.heap.size := by simp [World.setCell]
/-- a store into the block -/
theorem Boxed.set {w : World} {p : Nat} {vs : Array Value} (h : Boxed w p vs) (j : Nat) (v : Value) (hj : j < vs.size) : Boxed (w.setCell ⟨p, j, none⟩ v) p (vs.setIfInBounds j v) := by
  refine ⟨by rw [size_setCell]; exact h.lt, fun k u hk => ?_, fun k hk => ?_⟩
  · rw [Array.getElem?_setIfInBounds] at hk
    by_cases e : j = k
    · subst e
      rw [if_pos rfl, if_pos hj] at hk
      obtain rfl := Option.some.inj hk
      exact World.cell?_setCell_same _ _ _ (h.cell j _ (Array.getElem?_eq_getElem hj))
    · rw [if_neg e] at hk
      rw [World.cell?_setCell_other _ _ _ _ (fun g => e (by injection g))]
      exact h.cell k u hk
  · rw [World.frozen?_setCell]; exact h.free k (by simpa using hk)
/-- a store into another block -/
theorem Boxed.far {w : World} {p : Nat} {vs : Array Value} (h : Boxed w p vs) {q : Nat} (hq : q ≠ p) (j : Nat) (v : Value) : Boxed (w.setCell ⟨q, j, none⟩ v) p vs :=
  ⟨by rw [size_setCell]; exact h.lt, fun k u hk => by rw [World.cell?_setCell_other _ _ _ _ (fun g => hq (by injection g))]; exact h.cell k u hk, fun k hk => by rw [World.frozen?_setCell]; exact h.free k hk⟩
theorem Boxed.at {w : World} {p q : Nat} {vs : Array Value} (h : Boxed w p vs) (e : p = q) : Boxed w q vs := e ▸ h
end Go.Proofs.YtjakpdfonnpchaaDoor
