/- Worlds that only drew. No program. -/
import Derived.Test.YtjakpdfonnpchaaDoorBox
namespace Go.Proofs.YtjakpdfonnpchaaDoor
open Go.RowKit

/-- only draws -/
def Drew (w w' : World) : Prop := ∃ n, w' = w.drewN n
theorem Drew.refl (w : World) : Drew w w := ⟨0, rfl⟩
theorem drewN_drewN (w : World) (a b : Nat) : (w.drewN a).drewN b = w.drewN (a + b) := by
  induction b with
  | zero => rfl
  | succ b ih => show ((w.drewN a).drewN b).drew = (w.drewN (a + b)).drew; rw [ih]
theorem Drew.drewN {w w' : World} (h : Drew w w') (n : Nat) : Drew w (w'.drewN n) := by
  obtain ⟨a, rfl⟩ := h
  exact ⟨a + n, drewN_drewN w a n⟩
theorem Drew.drew {w w' : World} (h : Drew w w') : Drew w w'.drew := h.drewN 1
theorem Drew.below {w w' : World} (h : Drew w w') : Below w.heap.size w w' := by
  obtain ⟨a, rfl⟩ := h
  exact blw_drewN (Below.refl _ _) a
end Go.Proofs.YtjakpdfonnpchaaDoor
