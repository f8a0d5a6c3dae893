/- What a row that the call owns gives a walk: its cells. -/
import Derived.Test.YtaijjffnamjhiaaGreatDoorBox
import Derived.Laws.AppendOwn
namespace Go.Proofs.YtaijjffnamjhiaaGreatDoor
open Go.RowKit
theorem own_cells {w : World} {base n : Nat} {e : TypeId} {v : Value} {xs : List Value} (h : w.ownsRow base e 1 v n xs) (hn : 0 < n) :
    ∃ g cap, v = .slice (some ⟨g, 0, none⟩) n cap ∧ base ≤ g ∧ n ≤ cap ∧ cap ≤ maxLen ∧ ∀ (j : Nat) x, xs[j]? = some x → w.cell? ⟨g, j, none⟩ = some x := by
  obtain ⟨hl, h⟩ := h
  rw [Nat.mul_one] at hl
  rcases h with ⟨rfl, h0⟩ | ⟨g, cap, cur, rfl, hb, hg, h1, h2, h3, h4⟩
  · omega
  · refine ⟨g, cap, rfl, hb, h1, h2, fun j x hx => ?_⟩
    have hj : j < xs.length := (List.getElem?_eq_some_iff.1 hx).1
    have hc : cur[j]? = some x := by
      have e : (cur.toList.take (n * 1))[j]? = some x := by rw [h4]; exact hx
      rw [Nat.mul_one, List.getElem?_take, if_pos (by omega)] at e
      simpa using e
    simp [World.cell?, hg, hc]
theorem own_ne {w : World} {base n : Nat} {e : TypeId} {v : Value} {xs : List Value} (h : w.ownsRow base e 1 v n xs) (hn : 0 < n) : v ≠ .slice none 0 0 := by
  obtain ⟨g, cap, rfl, _⟩ := own_cells h hn
  intro e; cases e
end Go.Proofs.YtaijjffnamjhiaaGreatDoor
