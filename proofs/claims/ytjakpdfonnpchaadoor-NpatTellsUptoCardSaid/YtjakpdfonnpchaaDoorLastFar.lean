/- The last rune of a text that ends beyond ASCII: it lies within the text, and holds no ASCII sign. No program. -/
import Derived.Test.YtjakpdfonnpchaaDoorDecFar
import Derived.Shelf.Unicode.DecodeLast
namespace Go.Proofs.YtjakpdfonnpchaaDoor
open Go
theorem last_far (l : List UInt8) (hne : l ≠ []) (hhi : 128 ≤ (l.getD (l.length - 1) 0).toNat) :
    Utf8.valid ((Lib.decodeLastL l).1 : Int) = true ∧ 128 ≤ (Lib.decodeLastL l).1 ∧ 1 ≤ (Lib.decodeLastL l).2 ∧ (Lib.decodeLastL l).2 ≤ l.length ∧ ∀ j, l.length - (Lib.decodeLastL l).2 ≤ j → j < l.length → 128 ≤ (l.getD j 0).toNat := by
  have hl : 0 < l.length := List.length_pos_iff.2 hne
  have e : Lib.decodeLastL l = if Lib.lastStart l + (Lib.decodeL (l.drop (Lib.lastStart l))).2 = l.length then Lib.decodeL (l.drop (Lib.lastStart l)) else (Utf8.runeError, 1) := by
    unfold Lib.decodeLastL
    rw [if_neg hne, if_neg (by omega)]
  have hst := Lib.lastStart_lt l hne
  generalize Lib.lastStart l = st at *
  rw [e]
  clear e
  split
  · rename_i h
    have hsz : (⟨(l.drop st).toArray⟩ : ByteArray).size = l.length - st := by show (l.drop st).toArray.size = _; simp
    have h0 : 0 < (⟨(l.drop st).toArray⟩ : ByteArray).size := by omega
    have hg : ∀ j, j < l.length - st → (⟨(l.drop st).toArray⟩ : ByteArray).get! j = l.getD (st + j) 0 := by
      intro j hj
      have := Lib.getD_get! ⟨(l.drop st).toArray⟩ j
      rw [← this]
      show (l.drop st).getD j 0 = _
      simp [List.getD]
    have hx : ((⟨(l.drop st).toArray⟩ : ByteArray)[0]'h0) = l.getD st 0 := by
      have g := get_at ⟨(l.drop st).toArray⟩ 0 h0
      rw [← g]
      exact hg 0 (by omega)
    by_cases ha : 128 ≤ (l.getD st 0).toNat
    · obtain ⟨f1, f2, f3⟩ := decode_far ⟨(l.drop st).toArray⟩ 0 h0 (by rw [hx]; exact ha)
      obtain ⟨f4, f5⟩ := decode_high ⟨(l.drop st).toArray⟩ 0 h0 (by rw [hx]; exact ha)
      have ed : Lib.decodeL (l.drop st) = Utf8.decode ⟨(l.drop st).toArray⟩ 0 := rfl
      rw [ed] at h ⊢
      refine ⟨f1, f4, f5, by omega, fun j h1 h2 => ?_⟩
      have := f3 (j - st) (by omega) (by omega)
      rw [hg (j - st) (by omega), show st + (j - st) = j by omega] at this
      exact this
    · exfalso
      have ed : (Lib.decodeL (l.drop st)).2 = 1 := by
        show (Utf8.decode ⟨(l.drop st).toArray⟩ 0).2 = 1
        rw [decode_ascii _ 0 h0 (by rw [hx]; omega)]
      rw [ed] at h
      rw [show l.length - 1 = st by omega] at hhi
      omega
  · refine ⟨by decide, by decide, by decide, by omega, fun j h1 h2 => ?_⟩
    have h1' : l.length - 1 ≤ j := h1
    rw [show j = l.length - 1 by omega]
    exact hhi
end Go.Proofs.YtjakpdfonnpchaaDoor
