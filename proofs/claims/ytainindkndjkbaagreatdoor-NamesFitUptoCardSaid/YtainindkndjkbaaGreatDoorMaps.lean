/- A map with string keys, made by the call: a store of a new key, a look-up, as whole equations to lay ahead of a walk. -/
import Derived.WalkKit
import Derived.MapKept
namespace Go.Proofs.YtainindkndjkbaaGreatDoor
open Go.RowKit Go.MapKept

theorem map_new {P : Program} (T K E : TypeId) (hT : P.underlying T = some (.map K E)) (hK : P.underlying K = some .string) (es : Array MapEntry) (c : Nat) (k : ByteArray) (v : Value)
    (hf : Instr.findNow .string (.string k) es.toList 0 = some none) (w : World) :
    (Instr.mapUpdate T (.map (some w.heap.size)) (.string k) v).run P (w.alloc (.map es c)) = .ok () (w.alloc (.map (es.push { key := .string k, val := v, born := c }) (c + 1))) := by
  have hb : (w.alloc (.map es c)).heap[w.heap.size]? = some (.map es c) := by show (w.heap.push _)[w.heap.size]? = _; simp
  have e : ({ (w.alloc (.map es c)) with heap := (w.alloc (.map es c)).heap.setIfInBounds w.heap.size (.map (es.push { key := .string k, val := v, born := c }) (c + 1)) } : World) = w.alloc (.map (es.push { key := .string k, val := v, born := c }) (c + 1)) := by
    show ({ w with heap := (w.heap.push _).setIfInBounds w.heap.size _ } : World) = { w with heap := w.heap.push _ }
    congr 1
    apply Array.ext_getElem?
    intro i
    rw [Array.getElem?_setIfInBounds]
    simp only [Array.getElem?_push, Array.size_push]
    by_cases h : w.heap.size = i
    · subst h; simp
    · simp [h, Ne.symm h]
  rw [← e]
  simp [Instr.mapUpdate, run_underlying hT, MapKept.run_getObj_map hb, run_checkKey hK (show IsKey .string (.string k) from trivial), run_findKey hK hf, MapKept.run_setObj_map _ hb, Result.andThen]
theorem map_look {P : Program} (T K E : TypeId) (hT : P.underlying T = some (.map K E)) (hK : P.underlying K = some .string) (es : Array MapEntry) (c r i : Nat) (k : ByteArray) (v : Value) (w : World)
    (hb : w.heap[r]? = some (.map es c)) (hf : Instr.findNow .string (.string k) es.toList 0 = some (some (i, v))) :
    (Instr.lookup T (.map (some r)) (.string k) true).run P w = .ok (.tuple #[v, .bool true]) w := by
  simp [Instr.lookup, run_underlying hT, MapKept.run_getObj_map hb, run_checkKey hK (show IsKey .string (.string k) from trivial), run_findKey hK hf, Result.andThen]
theorem map_none {P : Program} (T K E : TypeId) (hT : P.underlying T = some (.map K E)) (hK : P.underlying K = some .string) (es : Array MapEntry) (c r : Nat) (k : ByteArray) (z : Value) (w : World)
    (hz : (zeroValue E).run P w = .ok z w) (hb : w.heap[r]? = some (.map es c)) (hf : Instr.findNow .string (.string k) es.toList 0 = some none) :
    (Instr.lookup T (.map (some r)) (.string k) true).run P w = .ok (.tuple #[z, .bool false]) w := by
  simp [Instr.lookup, run_underlying hT, MapKept.run_getObj_map hb, run_checkKey hK (show IsKey .string (.string k) from trivial), run_findKey hK hf, hz, Result.andThen]
theorem top_alloc (w : World) (o : Obj) (n : Nat) (h : n = w.heap.size) : (w.alloc o).heap[n]? = some o := by subst h; show (w.heap.push _)[w.heap.size]? = _; simp
end Go.Proofs.YtainindkndjkbaaGreatDoor
