/- A set of texts, as a map that the call made. No program. -/
import Derived.Test.YtghohnbajbikjaaGreatDoorTa1
namespace Go.Proofs.YtghohnbajbikjaaGreatDoor
open Go.RowKit Go.MapKept
section
variable {α : Type} {val : α → Value} {B : Nat} {l : List (List UInt8 × α)} {w : World} {P : Program} (T K E : TypeId) (hT : P.underlying T = some (.map K E)) (hK : P.underlying K = some .string)
include hT hK
theorem MapAt.look2 (h : MapAt val B l w) {t : List UInt8} {p : List UInt8 × α} (hp : l.find? (fun p => p.1 == t) = some p) :
    (Instr.lookup T (.map (some B)) (.string ⟨t.toArray⟩) true).run P w = .ok (.tuple #[val p.2, .bool true]) w := by
  obtain ⟨es, c, h1, h2⟩ := h
  obtain ⟨j, hj⟩ := (find_val t es.toList l 0 h2).1 p hp
  exact map_look T K E hT hK es c B j _ _ w h1 hj
theorem MapAt.none2 (h : MapAt val B l w) {t : List UInt8} {z : Value} (hz : (zeroValue E).run P w = .ok z w) (hp : l.find? (fun p => p.1 == t) = .none) :
    (Instr.lookup T (.map (some B)) (.string ⟨t.toArray⟩) true).run P w = .ok (.tuple #[z, .bool false]) w := by
  obtain ⟨es, c, h1, h2⟩ := h
  exact map_none T K E hT hK es c B _ _ w hz h1 ((find_val t es.toList l 0 h2).2 hp)
end
/-- the block holds the set of these texts -/
abbrev setV : Unit → Value := fun _ => .agg #[]
def unitL (l : List (List UInt8)) : List (List UInt8 × Unit) := l.map fun k => (k, ())
theorem unit_add (l : List (List UInt8)) (k : List UInt8) : unitL (l ++ [k]) = unitL l ++ [(k, ())] := by unfold unitL; rw [List.map_append]; rfl
theorem unit_has {l : List (List UInt8)} {t : List UInt8} (h : l.contains t = true) : ∃ p, (unitL l).find? (fun p => p.1 == t) = some p := by
  cases hf : (unitL l).find? (fun p => p.1 == t) with
  | some p => exact ⟨p, rfl⟩
  | none =>
    rw [List.find?_eq_none] at hf
    exact absurd (show ((t, ()) : List UInt8 × Unit).1 == t by simp) (hf (t, ()) (List.mem_map.2 ⟨t, List.contains_iff_mem.1 h, rfl⟩))
theorem unit_not {l : List (List UInt8)} {t : List UInt8} (h : l.contains t = false) : (unitL l).find? (fun p => p.1 == t) = none := by
  rw [List.find?_eq_none]
  intro p hp e
  obtain ⟨k, hk, rfl⟩ := List.mem_map.1 hp
  have e1 : k = t := by simpa using e
  subst e1
  rw [List.contains_iff_mem.2 hk] at h
  cases h
end Go.Proofs.YtghohnbajbikjaaGreatDoor
