/- Plain law: tag.Parse and linguisterref1.TagOf read the same tag. -/
import Derived.Test.YtlhleojigcnjeaaDoorTagLaw
namespace Go.Proofs.YtlhleojigcnjeaaDoor
open Go.Lib

theorem join_more (x y : List UInt8) (r : List (List UInt8)) (sep : List UInt8) : join (x :: y :: r) sep = x ++ (sep ++ join (y :: r) sep) := by
  rw [join_cons, join_cons]; simp [joinTail]
theorem join_split_one (c : UInt8) : ∀ (n : Nat) (s : List UInt8), s.length ≤ n → split s [c] ≠ [] ∧ join (split s [c]) [c] = s ∧ ∀ p ∈ split s [c], (∀ x ∈ p, x ∈ s) ∧ c ∉ p := by
  intro n
  induction n with
  | zero =>
    intro s hs
    obtain rfl : s = [] := List.length_eq_zero_iff.1 (by omega)
    rw [Byt.split_none (by simp)]
    exact ⟨by simp, join_one _ _, fun p hp => by simp at hp; subst hp; simp⟩
  | succ n ih =>
    intro s hs
    by_cases h : c ∈ s
    · obtain ⟨X, Y, rfl, hX⟩ := Byt.part h
      obtain ⟨i1, i2, i3⟩ := ih Y (by simp at hs; omega)
      rw [Byt.split_cons Y hX]
      obtain ⟨y, r, e⟩ := List.exists_cons_of_ne_nil i1
      refine ⟨by simp, ?_, fun p hp => ?_⟩
      · rw [e, join_more, ← e, i2]; simp
      · rcases List.mem_cons.1 hp with rfl | hp
        · exact ⟨fun x hx => by simp [hx], hX⟩
        · exact ⟨fun x hx => by simp [(i3 p hp).1 x hx], (i3 p hp).2⟩
    · rw [Byt.split_none h]
      exact ⟨by simp, join_one _ _, fun p hp => by simp at hp; subst hp; exact ⟨fun x hx => hx, h⟩⟩
theorem long_no {q l s r : List UInt8} {vs : List (List UInt8)} (h : (tagText l s r vs).length < q.length) : okT q l s r vs = false := by
  unfold okT
  rw [Bool.and_eq_false_iff]
  right
  apply Bool.eq_false_iff.2
  intro e
  have := congrArg List.length (beq_iff_eq.1 e)
  rw [List.length_map] at this
  omega
theorem join_cons_len (x : List UInt8) (r : List (List UInt8)) : (join (x :: r) [45]).length = r.length + (x.length + lens r) := by
  rw [join_length]; simp [lens]
theorem empty_no {q l s : List UInt8} {vs : List (List UInt8)} (hl : l ≠ []) (h : q.length = l.length + s.length + lens vs + vs.length + 1 + (if s.isEmpty then 0 else 1)) : okT q l s [] vs = false := by
  apply long_no
  rw [h]
  have a := lens_filter (fun x => !x.isEmpty) vs
  have b := List.length_filter_le (fun x : List UInt8 => !x.isEmpty) vs
  have el : l.isEmpty = false := by cases l with | nil => exact absurd rfl hl | cons _ _ => rfl
  unfold tagText parts
  rw [List.filter_cons, if_pos (by rw [el]; rfl), List.filter_cons]
  cases e : s.isEmpty
  · rw [if_pos (by rfl), List.filter_cons, if_neg (by simp), join_cons_len]
    simp only [lens, List.map_cons, List.sum_cons, List.length_cons] at *
    simp; omega
  · rw [if_neg (by simp), List.filter_cons, if_neg (by simp), join_cons_len]
    simp only [lens] at *
    simp; omega
/-- the region: read alike, or no tag -/
theorem agreeR {q l s : List UInt8} (T : List (List UInt8)) (H : ∀ vs, T = [] :: vs → okT q l s [] vs = false) :
    cutR PR1 T = cutR PR2 T ∨ (okT q l s (cutR PR1 T).1 (cutR PR1 T).2 = false ∧ okT q l s (cutR PR2 T).1 (cutR PR2 T).2 = false) := by
  cases T with
  | nil => exact .inl rfl
  | cons b r =>
    by_cases h1 : PR1 b = true
    · have := region_len (show regionB (b.map upC) = true from h1)
      rw [List.length_map] at this
      have h2 : PR2 b = true := decide_eq_true (by omega)
      exact .inl (by simp only [cutR]; rw [if_pos h1, if_pos h2])
    · by_cases h2 : PR2 b = true
      · right
        simp only [cutR]
        rw [if_neg h1, if_pos h2]
        have hb : b.length < 4 := of_decide_eq_true h2
        refine ⟨ok_no (fault_variant _ _ _ (List.mem_cons_self ..) (by omega)), ?_⟩
        by_cases h0 : b = []
        · subst h0; exact H r rfl
        · exact ok_no (fault_region _ _ _ (by simpa using h0) (Bool.eq_false_iff.2 h1))
      · exact .inl (by simp only [cutR]; rw [if_neg h1, if_neg h2])
theorem agree {q l : List UInt8} {T : List (List UInt8)} (hl : q.length = (join (l :: T) [45]).length) (hn : ∀ a ∈ T, ∀ c ∈ a, HIGH.contains c = false) :
    (cutS PS1 T = cutS PS2 T ∧ cutR PR1 (cutS PS2 T).2 = cutR PR2 (cutS PS2 T).2) ∨
    (okT q l (cutS PS1 T).1 (cutR PR1 (cutS PS1 T).2).1 (cutR PR1 (cutS PS1 T).2).2 = false ∧ okT q l (cutS PS2 T).1 (cutR PR2 (cutS PS2 T).2).1 (cutR PR2 (cutS PS2 T).2).2 = false) := by
  rw [join_cons_len] at hl
  by_cases l0 : l = []
  · subst l0; exact .inr ⟨ok_no (fault_lang _ _ _), ok_no (fault_lang _ _ _)⟩
  cases T with
  | nil => exact .inl ⟨rfl, rfl⟩
  | cons a r =>
    by_cases h1 : PS1 a = true
    · have h4 := onlyB_len h1
      have h2 : PS2 a = true := decide_eq_true (by omega)
      simp only [cutS]
      rw [if_pos h1, if_pos h2]
      rcases agreeR (q := q) (l := l) (s := scr a) r (fun vs e => by
        subst e
        have hs := scr_len a
        refine empty_no l0 ?_
        rw [if_neg (by intro e; rw [List.isEmpty_iff.1 e] at hs; simp at hs; omega)]
        simp [lens] at hl ⊢; omega) with h | h
      · exact .inl ⟨rfl, h⟩
      · exact .inr h
    · by_cases h2 : PS2 a = true
      · have h4 : a.length = 4 := of_decide_eq_true h2
        have hs := scr_len a
        have hr : ¬ PR1 a = true := fun h => by
          have := region_len (show regionB (a.map upC) = true from h)
          rw [List.length_map] at this; omega
        simp only [cutS]
        rw [if_neg h1, if_pos h2]
        right
        simp only [cutR]
        rw [if_neg hr]
        refine ⟨ok_no (fault_variant _ _ _ (List.mem_cons_self ..) (by omega)), ok_no (fault_script _ _ _ (fun e => by rw [e] at hs; simp at hs; omega) ?_)⟩
        cases e : scriptB (scr a)
        · rfl
        · exact absurd (script_was (hn a (List.mem_cons_self ..)) e) h1
      · simp only [cutS]
        rw [if_neg h1, if_neg h2]
        rcases agreeR (q := q) (l := l) (s := []) (a :: r) (fun vs e => by
          obtain ⟨rfl, rfl⟩ := List.cons.inj e
          refine empty_no l0 ?_
          rw [if_pos (by rfl)]
          simp [lens] at hl ⊢; omega) with h | h
        · exact .inl ⟨rfl, h⟩
        · exact .inr h
end Go.Proofs.YtlhleojigcnjeaaDoor
