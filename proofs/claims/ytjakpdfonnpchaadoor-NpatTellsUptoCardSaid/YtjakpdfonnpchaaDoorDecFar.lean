/- Runes beyond ASCII lie within the text, and hold no ASCII sign. No program. -/
import Derived.Laws.RangeAny
namespace Go.Proofs.YtjakpdfonnpchaaDoor
open Go
theorem decode_far (s : ByteArray) (pos : Nat) (h : pos < s.size) (ha : 128 ≤ (s[pos]'h).toNat) :
    Utf8.valid ((Utf8.decode s pos).1 : Int) = true ∧ pos + (Utf8.decode s pos).2 ≤ s.size ∧ ∀ j, pos ≤ j → j < pos + (Utf8.decode s pos).2 → 128 ≤ (s.get! j).toNat := by
  have hn : ¬ (s[pos]'h).toNat < 128 := by omega
  have h0 : (s.get! pos) = s[pos]'h := by have := get_at s pos h; simpa using this
  have hb : ∀ k, (s.get! (pos + k)).toNat < 256 := fun k => (s.get! (pos + k)).toNat_lt
  have b0 := (s[pos]'h).toNat_lt; have b1 := hb 1; have b2 := hb 2; have b3 := hb 3
  have one : ∀ j, pos ≤ j → j < pos + 1 → 128 ≤ (s.get! j).toNat := fun j h1 h2 => by
    obtain rfl : j = pos := by omega
    rw [h0]; exact ha
  simp only [Utf8.decode, get_at s pos h, hn, if_false]
  split
  · rename_i hc
    simp only [Bool.and_eq_true, beq_iff_eq, decide_eq_true_eq] at hc
    obtain ⟨hc1, hc2, hc3⟩ := hc
    split
    · refine ⟨by simp [Utf8.valid]; omega, by omega, fun j h1 h2 => ?_⟩
      by_cases e : j = pos
      · rw [e, h0]; exact ha
      · obtain rfl : j = pos + 1 := by omega
        omega
    · exact ⟨by decide, by omega, one⟩
  · split
    · rename_i hc
      simp only [Bool.and_eq_true, beq_iff_eq, decide_eq_true_eq] at hc
      obtain ⟨⟨hc1, hc2, hc3⟩, hc4, hc5⟩ := hc
      split
      · rename_i hv
        simp only [Bool.and_eq_true, decide_eq_true_eq] at hv
        refine ⟨hv.2, by omega, fun j h1 h2 => ?_⟩
        by_cases e : j = pos
        · rw [e, h0]; exact ha
        · by_cases e : j = pos + 1
          · rw [e]; omega
          · obtain rfl : j = pos + 2 := by omega
            omega
      · exact ⟨by decide, by omega, one⟩
    · split
      · rename_i hc
        simp only [Bool.and_eq_true, beq_iff_eq, decide_eq_true_eq] at hc
        obtain ⟨⟨⟨hc1, hc2, hc3⟩, hc4, hc5⟩, hc6, hc7⟩ := hc
        split
        · rename_i hv
          simp only [Bool.and_eq_true, decide_eq_true_eq] at hv
          refine ⟨hv.2, by omega, fun j h1 h2 => ?_⟩
          by_cases e : j = pos
          · rw [e, h0]; exact ha
          · by_cases e : j = pos + 1
            · rw [e]; omega
            · by_cases e : j = pos + 2
              · rw [e]; omega
              · obtain rfl : j = pos + 3 := by omega
                omega
        · exact ⟨by decide, by omega, one⟩
      · exact ⟨by decide, by omega, one⟩
end Go.Proofs.YtjakpdfonnpchaaDoor
