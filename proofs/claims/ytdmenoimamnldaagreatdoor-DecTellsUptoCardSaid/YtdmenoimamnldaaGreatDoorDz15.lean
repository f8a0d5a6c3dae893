/- How a slice of texts reads: StrsAt; kept by whatever turns nothing old. -/
import Derived.Test.YtdmenoimamnldaaGreatDoorProg
import Derived.Test.YtdmenoimamnldaaGreatDoorDz0
import Derived.Test.YtdmenoimamnldaaGreatDoorDz1
import Derived.Laws.AppendOwn
import Derived.SliceStrings
namespace Go.Proofs.YtdmenoimamnldaaGreatDoor
open Go.RowKit
open Dcm (P10 okD)

set_option maxRecDepth 100000 in
set_option maxHeartbeats 1000000 in
theorem dflt_no (c s : Int) (w : World) (h : okD c s) :
    Calls Tryz.prog 5 #[.agg #[.int .i64 c, .int .i64 s]] w fun e w' => e = .returned (.bool false) ∧ Below w.heap.size w w' := by
  obtain ⟨h1, h2, h3, h4⟩ := h
  have d1 : decide (s < 0) = false := dec_no (by omega)
  have d2 : decide (9 < s) = false := dec_no (by omega)
  have d3 : decide (c < -1000000000000000) = false := dec_no (by omega)
  have d4 : decide (1000000000000000 < c) = false := dec_no (by omega)
  go_enter Tryz.func5, Tryz.ntmps5
  go_wp2
  go_ret
  exact ⟨rfl, blw_alloc _ _⟩
set_option maxRecDepth 100000 in
set_option maxHeartbeats 1000000 in
theorem dflt_yes (c s : Int) (w : World) (h : ¬ okD c s) :
    Calls Tryz.prog 5 #[.agg #[.int .i64 c, .int .i64 s]] w fun e w' => e = .returned (.bool true) ∧ Below w.heap.size w w' := by
  by_cases h1 : s < 0
  · go_enter Tryz.func5, Tryz.ntmps5
    go_wp2
    go_ret
    exact ⟨rfl, blw_alloc _ _⟩
  by_cases h2 : 9 < s
  · go_enter Tryz.func5, Tryz.ntmps5
    go_wp2
    go_ret
    exact ⟨rfl, blw_alloc _ _⟩
  by_cases h3 : c < -1000000000000000
  · go_enter Tryz.func5, Tryz.ntmps5
    go_wp2
    go_ret
    exact ⟨rfl, blw_alloc _ _⟩
  by_cases h4 : 1000000000000000 < c
  · go_enter Tryz.func5, Tryz.ntmps5
    go_wp2
    go_ret
    exact ⟨rfl, blw_alloc _ _⟩
  exact absurd ⟨by omega, by omega, by omega, by omega⟩ h

end Go.Proofs.YtdmenoimamnldaaGreatDoor
namespace Go.Proofs.YtdmenoimamnldaaGreatDoor
open Go.RowKit

abbrev txtV (x : List UInt8) : Value := .string ⟨x.toArray⟩
/-- a slice that holds these texts -/
def StrsAt (w : World) (v : Value) (l : List (List UInt8)) : Prop :=
  (l = [] ∧ ∃ a cap, v = .slice a 0 cap) ∨
  ∃ b off cap, v = .slice (some ⟨b, off, none⟩) l.length cap ∧ 0 < l.length ∧ l.length ≤ cap ∧ cap ≤ maxLen ∧ ∀ (j : Nat) x, l[j]? = some x → w.cell? ⟨b, off + j, none⟩ = some (.string ⟨x.toArray⟩)
theorem StrsAt.below {w w' : World} {v : Value} {l : List (List UInt8)} (h : StrsAt w v l) (hb : Below w.heap.size w w') : StrsAt w' v l := by
  rcases h with h | ⟨b, off, cap, h1, h2, h3, h4, h5⟩
  · exact .inl h
  · exact .inr ⟨b, off, cap, h1, h2, h3, h4, fun j x hx => cell_keep (h5 j x hx) hb⟩
theorem StrsAt.alloc {w : World} {v : Value} {l : List (List UInt8)} (h : StrsAt w v l) (o : Obj) : StrsAt (w.alloc o) v l := h.below (blw_alloc w o)
theorem StrsAt.drewN {w : World} {v : Value} {l : List (List UInt8)} (h : StrsAt w v l) (n : Nat) : StrsAt (w.drewN n) v l := h
/-- out of a row that the call owns -/
theorem StrsAt.of_row {w : World} {base : Nat} {e : TypeId} {v : Value} {n : Nat} {l : List (List UInt8)} (h : w.ownsRow base e 1 v n (l.map txtV)) : StrsAt w v l := by
  obtain ⟨hl, h⟩ := h
  rw [List.length_map, Nat.mul_one] at hl
  subst hl
  rcases h with ⟨rfl, h0⟩ | ⟨g, cap, cur, rfl, _, hg, h1, h2, h3, h4⟩
  · exact .inl ⟨List.length_eq_zero_iff.1 h0, none, 0, rfl⟩
  · by_cases h0 : l.length = 0
    · exact .inl ⟨List.length_eq_zero_iff.1 h0, _, _, by rw [h0]⟩
    · refine .inr ⟨g, 0, cap, rfl, by omega, h1, h2, fun j x hx => ?_⟩
      have hj : j < l.length := (List.getElem?_eq_some_iff.1 hx).1
      have hc : cur[j]? = some (txtV x) := by
        have e : (cur.toList.take (l.length * 1))[j]? = some (txtV x) := by rw [h4]; simp [hx]
        rw [Nat.mul_one, List.getElem?_take, if_pos hj] at e
        simpa using e
      simp [World.cell?, hg, hc]
end Go.Proofs.YtdmenoimamnldaaGreatDoor
