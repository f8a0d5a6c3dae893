/- What a tag that came in reads as: its texts and the slice of its variants. -/
import Derived.Test.YtlhleojigcnjeaaDoorReadO
import Derived.Test.YtlhleojigcnjeaaDoorRparts
namespace Go.Proofs.YtlhleojigcnjeaaDoor
open Go.RowKit Go.WideShapes Go.ChangeShapes

/-- a field that is a slice of texts -/
theorem strs_field {H : Type} {enc : TypeId × Value → H} {P : Program} {w : World} {base : Nat} {sp : Nat → Bool} {held : Bool} {fuel : Nat} {t e : TypeId} {v : Value} {y : DataW H × List MemPlace}
    (ht : P.underlying t = some (.slice e)) (he : P.underlying e = some .string) (hc : P.cellsOf e = 1) (h : DataW.trod enc P w base sp held fuel t [v] = some y) :
    ∃ a n c l, v = .slice a n c ∧ StrsAt w v l ∧ Nil0 v ∧ Lib.lens l + l.length + 1 ≤ Rows.uptoBulk y.1 := by
  have g : ∃ a n c, v = .slice a n c ∧ Nil0 (.slice a n c) := by
    rcases open_strings ht he hc h with ⟨hcs, _⟩ | ⟨a', len', cap', ss, hcs, _⟩
    · exact ⟨none, 0, 0, by simpa using hcs, fun n c e => by injection e with _ _ e; exact e.symm⟩
    · exact ⟨some a', len', cap', by simpa using hcs, fun n c e => by injection e with e; cases e⟩
  obtain ⟨a, n, c, rfl, h0⟩ := g
  obtain ⟨l, h1, h2⟩ := strs_open ht he hc (show DataW.trod enc P w base sp held fuel t (Value.slice a n c).cells.toList = some (y.1, y.2) by simpa [Value.cells] using h)
  exact ⟨a, n, c, l, rfl, h1, h0, bulk_strs h2⟩
end Go.Proofs.YtlhleojigcnjeaaDoor
