/- How a slice of texts reads: StrsAt; kept by whatever turns nothing old. -/
import Derived.Test.YtainindkndjkbaaGreatDoorBox
import Derived.Laws.AppendOwn
import Derived.SliceStrings
namespace Go.Proofs.YtainindkndjkbaaGreatDoor
open Go.RowKit

abbrev txtV (x : List UInt8) : Value := .string ⟨x.toArray⟩
/-- a slice that holds these texts -/
def StrsAt (w : World) (v : Value) (l : List (List UInt8)) : Prop :=
  (l = [] ∧ ∃ a cap, v = .slice a 0 cap) ∨
  ∃ b off cap, v = .slice (some ⟨b, off, none⟩) l.length cap ∧ 0 < l.length ∧ l.length ≤ cap ∧ cap ≤ maxLen ∧ ∀ (j : Nat) x, l[j]? = some x → w.cell? ⟨b, off + j, none⟩ = some (.string ⟨x.toArray⟩)
theorem StrsAt.below {w w' : World} {v : Value} {l : List (List UInt8)} (h : StrsAt w v l) (hb : Below w.heap.size w w') : StrsAt w' v l := by
  rcases h with h | ⟨b, off, cap, h1, h2, h3, h4, h5⟩
  · exact .inl h
  · exact .inr ⟨b, off, cap, h1, h2, h3, h4, fun j x hx => cell_keep (h5 j x hx) hb⟩
theorem StrsAt.alloc {w : World} {v : Value} {l : List (List UInt8)} (h : StrsAt w v l) (o : Obj) : StrsAt (w.alloc o) v l := h.below (blw_alloc w o)
theorem StrsAt.drewN {w : World} {v : Value} {l : List (List UInt8)} (h : StrsAt w v l) (n : Nat) : StrsAt (w.drewN n) v l := h
/-- out of a row that the call owns -/
theorem StrsAt.of_row {w : World} {base : Nat} {e : TypeId} {v : Value} {n : Nat} {l : List (List UInt8)} (h : w.ownsRow base e 1 v n (l.map txtV)) : StrsAt w v l := by
  obtain ⟨hl, h⟩ := h
  rw [List.length_map, Nat.mul_one] at hl
  subst hl
  rcases h with ⟨rfl, h0⟩ | ⟨g, cap, cur, rfl, _, hg, h1, h2, h3, h4⟩
  · exact .inl ⟨List.length_eq_zero_iff.1 h0, none, 0, rfl⟩
  · by_cases h0 : l.length = 0
    · exact .inl ⟨List.length_eq_zero_iff.1 h0, _, _, by rw [h0]⟩
    · refine .inr ⟨g, 0, cap, rfl, by omega, h1, h2, fun j x hx => ?_⟩
      have hj : j < l.length := (List.getElem?_eq_some_iff.1 hx).1
      have hc : cur[j]? = some (txtV x) := by
        have e : (cur.toList.take (l.length * 1))[j]? = some (txtV x) := by rw [h4]; simp [hx]
        rw [Nat.mul_one, List.getElem?_take, if_pos hj] at e
        simpa using e
      simp [World.cell?, hg, hc]
end Go.Proofs.YtainindkndjkbaaGreatDoor
