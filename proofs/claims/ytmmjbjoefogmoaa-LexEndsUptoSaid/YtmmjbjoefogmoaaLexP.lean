/- Plain law: what lex.Bare tells of a text: what is bare up to the first sign, and where that is; of the text cut there it is the same. No program. -/
import Derived.Below
namespace Lx
/-- the signs -/
def sgs (m : Bool) : List UInt8 := if m then [123, 125, 35] else [123, 125]
def isS (m : Bool) (s : List UInt8) (i : Nat) : Bool := match s[i]? with | some c => (sgs m).contains c | none => false
def twoQ (s : List UInt8) (i : Nat) : Bool := decide (s[i]? = some 39) && decide (s[i + 1]? = some 39)
/-- quoted from i on -/
def quo : Nat → List UInt8 → Nat → List UInt8 → Option (List UInt8 × Nat)
  | 0, _, _, _ => none
  | f + 1, s, i, acc =>
    match s[i]? with
    | none => none
    | some c => if c = 39 then (if s[i + 1]? = some 39 then quo f s (i + 2) (acc ++ [39]) else some (acc, i + 1)) else quo f s (i + 1) (acc ++ [c])
/-- bare from i on -/
def bar (F : Nat) : Nat → List UInt8 → Bool → Nat → List UInt8 → Option (List UInt8 × Nat)
  | 0, _, _, _, _ => none
  | f + 1, s, m, i, acc =>
    match s[i]? with
    | none => some (acc, i)
    | some c =>
      if isS m s i then some (acc, i)
      else if twoQ s i then bar F f s m (i + 2) (acc ++ [39])
      else if c = 39 ∧ isS m s (i + 1) = true then
        (match quo F s (i + 1) [] with
        | none => none
        | some (t, e) => bar F f s m e (acc ++ t))
      else bar F f s m (i + 1) (acc ++ [c])
theorem quo_up : ∀ (f : Nat) (s : List UInt8) (i : Nat) (acc t : List UInt8) (e : Nat), quo f s i acc = some (t, e) → i < e ∧ e ≤ s.length ∧ t.length + i < acc.length + e
  | 0, s, i, acc, t, e, h => by simp [quo] at h
  | f + 1, s, i, acc, t, e, h => by
    unfold quo at h
    split at h
    · exact absurd h (by simp)
    · rename_i c hc
      have hi : i < s.length := (List.getElem?_eq_some_iff.1 hc).1
      split at h
      · split at h
        · rename_i h2
          have hi2 : i + 1 < s.length := (List.getElem?_eq_some_iff.1 h2).1
          have := quo_up f s (i + 2) _ t e h
          simp at this; omega
        · injection h with h
          injection h with h1 h2
          subst h1 h2
          omega
      · have := quo_up f s (i + 1) _ t e h
        simp at this; omega
theorem quo_cut : ∀ (f : Nat) (s : List UInt8) (i : Nat) (acc t : List UInt8) (e n : Nat), quo f s i acc = some (t, e) → e ≤ n → quo f (s.take n) i acc = some (t, e)
  | 0, s, i, acc, t, e, n, h, _ => by simp [quo] at h
  | f + 1, s, i, acc, t, e, n, h, hn => by
    have up := quo_up (f + 1) s i acc t e h
    unfold quo at h ⊢
    rw [List.getElem?_take, if_pos (by omega)]
    split at h
    · exact absurd h (by simp)
    · rename_i c hc
      split at h
      · rename_i h1
        rw [if_pos h1]
        split at h
        · rename_i h2
          have := quo_up f s (i + 2) _ t e h
          have e1 : (s.take n)[i + 1]? = s[i + 1]? := by rw [List.getElem?_take, if_pos (by omega)]
          rw [e1, if_pos h2]
          exact quo_cut f s (i + 2) _ t e n h hn
        · rename_i h2
          rw [if_neg (by
            rw [List.getElem?_take]
            split
            · exact h2
            · simp)]
          exact h
      · rename_i h1
        rw [if_neg h1]
        exact quo_cut f s (i + 1) _ t e n h hn
theorem isS_lt {m : Bool} {s : List UInt8} {i : Nat} (h : isS m s i = true) : i < s.length := by
  unfold isS at h
  split at h
  · rename_i c hc; exact (List.getElem?_eq_some_iff.1 hc).1
  · simp at h
theorem isS_take {m : Bool} {s : List UInt8} {i n : Nat} : isS m (s.take n) i = (isS m s i && decide (i < n)) := by
  unfold isS
  rw [List.getElem?_take]
  by_cases h : i < n
  · rw [if_pos h]; simp [h]
  · rw [if_neg h]; simp [h]
theorem twoQ_take {s : List UInt8} {i n : Nat} : twoQ (s.take n) i = (twoQ s i && decide (i + 1 < n)) := by
  unfold twoQ
  rw [List.getElem?_take, List.getElem?_take]
  by_cases h : i + 1 < n
  · rw [if_pos h, if_pos (by omega)]; simp [h]
  · rw [if_neg h]; simp [h]
theorem twoQ_lt {s : List UInt8} {i : Nat} (h : twoQ s i = true) : i + 1 < s.length := by
  unfold twoQ at h
  simp only [Bool.and_eq_true, decide_eq_true_eq] at h
  exact (List.getElem?_eq_some_iff.1 h.2).1
theorem bar_quote {F f : Nat} {s : List UInt8} {m : Bool} {i : Nat} {acc : List UInt8} (hx : s[i]? = some 39) (h1 : ¬ isS m s i = true) (h2 : ¬ twoQ s i = true) (h3 : isS m s (i + 1) = true) :
    (quo F s (i + 1) [] = none → bar F (f + 1) s m i acc = none) ∧ ∀ t e, quo F s (i + 1) [] = some (t, e) → bar F (f + 1) s m i acc = bar F f s m e (acc ++ t) := by
  constructor
  · intro hq
    conv => lhs; unfold bar; rw [hx]
    simp only [hq]
    rw [if_neg h1, if_neg h2, if_pos ⟨trivial, h3⟩]
  · intro t e hq
    conv => lhs; unfold bar; rw [hx]
    simp only [hq]
    rw [if_neg h1, if_neg h2, if_pos ⟨trivial, h3⟩]
/-- where it ends; and of the text cut there it is the same -/
theorem bar_ends (F : Nat) : ∀ (f : Nat) (s : List UInt8) (m : Bool) (i : Nat) (acc t : List UInt8) (n : Nat), i ≤ s.length → bar F f s m i acc = some (t, n) →
    i ≤ n ∧ n ≤ s.length ∧ (n < s.length → isS m s n = true) ∧ t.length + i ≤ acc.length + n ∧ bar F f (s.take n) m i acc = some (t, n)
  | 0, s, m, i, acc, t, n, _, h => by simp [bar] at h
  | f + 1, s, m, i, acc, t, n, hi, h => by
    unfold bar at h
    split at h
    · rename_i hc
      have hl : s.length ≤ i := by simpa using hc
      injection h with h
      injection h with h1 h2
      subst h1 h2
      refine ⟨by omega, by omega, fun g => by omega, by omega, ?_⟩
      unfold bar
      rw [List.take_of_length_le (by omega), hc]
    · rename_i c hc
      have hlt : i < s.length := (List.getElem?_eq_some_iff.1 hc).1
      split at h
      · rename_i h1
        injection h with h
        injection h with h2 h3
        subst h2 h3
        refine ⟨by omega, by omega, fun _ => h1, by omega, ?_⟩
        unfold bar
        rw [List.getElem?_take, if_neg (by omega)]
      · rename_i h1
        have cut : ∀ k, i < k → (s.take k)[i]? = some c ∧ isS m (s.take k) i = false := fun k hk => ⟨by rw [List.getElem?_take, if_pos hk]; exact hc, by rw [isS_take]; simp [h1]⟩
        split at h
        · rename_i h2
          have h2l := twoQ_lt h2
          obtain ⟨a1, a2, a3, a4, a5⟩ := bar_ends F f s m (i + 2) _ t n (by omega) h
          rw [List.length_append, List.length_singleton] at a4
          refine ⟨by omega, a2, a3, by omega, ?_⟩
          obtain ⟨c1, c2⟩ := cut n (by omega)
          unfold bar
          rw [c1]
          simp only [c2]
          rw [if_neg (by simp), if_pos (by rw [twoQ_take, h2]; simp; omega)]
          exact a5
        · rename_i h2
          split at h
          · rename_i h3
            split at h
            · exact absurd h (by simp)
            · rename_i t' e hq
              have up := quo_up F s (i + 1) [] t' e hq
              simp at up
              obtain ⟨a1, a2, a3, a4, a5⟩ := bar_ends F f s m e _ t n (by omega) h
              rw [List.length_append] at a4
              refine ⟨by omega, a2, a3, by omega, ?_⟩
              obtain ⟨c1, c2⟩ := cut n (by omega)
              unfold bar
              rw [c1]
              simp only [c2]
              rw [if_neg (by simp), if_neg (by rw [twoQ_take]; simp [h2]), if_pos ⟨h3.1, by rw [isS_take, h3.2]; simp; omega⟩, quo_cut F s (i + 1) [] t' e n hq (by omega)]
              exact a5
          · rename_i h3
            obtain ⟨a1, a2, a3, a4, a5⟩ := bar_ends F f s m (i + 1) _ t n (by omega) h
            rw [List.length_append, List.length_singleton] at a4
            refine ⟨by omega, a2, a3, by omega, ?_⟩
            obtain ⟨c1, c2⟩ := cut n (by omega)
            unfold bar
            rw [c1]
            simp only [c2]
            rw [if_neg (by simp), if_neg (by rw [twoQ_take]; simp [h2]), if_neg (by
              rintro ⟨g1, g2⟩
              rw [isS_take, Bool.and_eq_true] at g2
              exact h3 ⟨g1, g2.1⟩)]
            exact a5
end Lx
