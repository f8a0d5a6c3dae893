/- A map of texts to bools that the call made: a look-up, a store of a new key. No program. -/
import Derived.Test.YtainindkndjkbaaGreatDoorMaps
import Derived.Test.YtainindkndjkbaaGreatDoorBoxS
namespace Go.Proofs.YtainindkndjkbaaGreatDoor
open Go.RowKit Go.MapKept
/-- the block holds the map of these keys and values -/
def KindsAt (B : Nat) (l : List (List UInt8 × Bool)) (w : World) : Prop :=
  ∃ es c, w.heap[B]? = some (.map es c) ∧ es.toList.map (fun e => (e.key, e.val)) = l.map fun p => (Value.string ⟨p.1.toArray⟩, Value.bool p.2)
theorem bytes_list (a b : List UInt8) : ((⟨a.toArray⟩ : ByteArray) == ⟨b.toArray⟩) = (b == a) := by
  rw [Bool.eq_iff_iff, bytes_beq]
  simp
  exact eq_comm
theorem find_kind (t : List UInt8) : ∀ (es : List MapEntry) (l : List (List UInt8 × Bool)) (i : Nat), es.map (fun e => (e.key, e.val)) = l.map (fun p => (Value.string ⟨p.1.toArray⟩, Value.bool p.2)) →
    (∀ p, l.find? (fun p => p.1 == t) = some p → ∃ j, Instr.findNow .string (.string ⟨t.toArray⟩) es i = some (some (j, .bool p.2))) ∧ (l.find? (fun p => p.1 == t) = none → Instr.findNow .string (.string ⟨t.toArray⟩) es i = some none)
  | [], l, i, h => by
    cases l with
    | nil => exact ⟨by simp, fun _ => rfl⟩
    | cons p r => simp at h
  | e :: es, l, i, h => by
    cases l with
    | nil => simp at h
    | cons q r =>
      simp only [List.map_cons, List.cons.injEq] at h
      obtain ⟨h1, h2⟩ := h
      injection h1 with h3 h4
      have ih := find_kind t es r (i + 1) h2
      unfold Instr.findNow
      rw [h3, List.find?_cons]
      show _ ∧ _
      simp only [Instr.sameNow, bytes_list]
      cases hq : q.1 == t with
      | true => exact ⟨fun p hp => by obtain rfl : q = p := by simpa using hp
                                      exact ⟨i, by rw [h4]⟩, fun hp => by simp at hp⟩
      | false => exact ih
theorem kinds_new (w : World) : KindsAt w.heap.size [] (w.alloc (.map #[] 0)) := ⟨#[], 0, top_alloc _ _ _ rfl, rfl⟩
theorem KindsAt.below {B : Nat} {l : List (List UInt8 × Bool)} {w w' : World} (h : KindsAt B l w) (hb : Below w.heap.size w w') : KindsAt B l w' := by
  obtain ⟨es, c, h1, h2⟩ := h
  have hlt : B < w.heap.size := (Array.getElem?_eq_some_iff.1 h1).1
  exact ⟨es, c, (hb.block B hlt).trans h1, h2⟩
theorem KindsAt.lt {B : Nat} {l : List (List UInt8 × Bool)} {w : World} (h : KindsAt B l w) : B < w.heap.size := by
  obtain ⟨es, c, h1, _⟩ := h
  exact (Array.getElem?_eq_some_iff.1 h1).1
section
variable {P : Program} (T K E : TypeId) (hT : P.underlying T = some (.map K E)) (hK : P.underlying K = some .string)
include hT hK
theorem KindsAt.look {B : Nat} {l : List (List UInt8 × Bool)} {w : World} (h : KindsAt B l w) {t : List UInt8} {p : List UInt8 × Bool} (hp : l.find? (fun p => p.1 == t) = some p) :
    (Instr.lookup T (.map (some B)) (.string ⟨t.toArray⟩) true).run P w = .ok (.tuple #[.bool p.2, .bool true]) w := by
  obtain ⟨es, c, h1, h2⟩ := h
  obtain ⟨j, hj⟩ := (find_kind t es.toList l 0 h2).1 p hp
  exact map_look T K E hT hK es c B j _ _ w h1 hj
theorem KindsAt.none {B : Nat} {l : List (List UInt8 × Bool)} {w : World} (h : KindsAt B l w) {t : List UInt8} (hz : (zeroValue E).run P w = .ok (.bool false) w) (hp : l.find? (fun p => p.1 == t) = .none) :
    (Instr.lookup T (.map (some B)) (.string ⟨t.toArray⟩) true).run P w = .ok (.tuple #[.bool false, .bool false]) w := by
  obtain ⟨es, c, h1, h2⟩ := h
  exact map_none T K E hT hK es c B _ _ w hz h1 ((find_kind t es.toList l 0 h2).2 hp)
theorem KindsAt.put {B : Nat} {l : List (List UInt8 × Bool)} {w : World} (h : KindsAt B l w) {t : List UInt8} (b : Bool) (hp : l.find? (fun p => p.1 == t) = .none) :
    ∃ w', (Instr.mapUpdate T (.map (some B)) (.string ⟨t.toArray⟩) (.bool b)).run P w = .ok () w' ∧ KindsAt B (l ++ [(t, b)]) w' ∧ ∀ base W, base ≤ B → Below base W w → Below base W w' := by
  obtain ⟨es, c, h1, h2⟩ := h
  have hlt : B < w.heap.size := (Array.getElem?_eq_some_iff.1 h1).1
  have hf := (find_kind t es.toList l 0 h2).2 hp
  refine ⟨{ w with heap := w.heap.setIfInBounds B (.map (es.push { key := .string ⟨t.toArray⟩, val := .bool b, born := c }) (c + 1)) }, ?_, ⟨_, _, (heap_set h1).1, ?_⟩, fun base W hB hb => ?_⟩
  · simp [Instr.mapUpdate, run_underlying hT, MapKept.run_getObj_map h1, run_checkKey hK (show IsKey .string (.string ⟨t.toArray⟩) from trivial), run_findKey hK hf, MapKept.run_setObj_map _ h1, Result.andThen]
  · rw [Array.toList_push, List.map_append, h2, List.map_append]; rfl
  · exact ⟨hb.os, hb.tape, hb.output, by simpa using hb.size, fun k hk => ((heap_set h1).2 k (by omega)).trans (hb.block k hk)⟩
end
end Go.Proofs.YtainindkndjkbaaGreatDoor
