/- Plain law: tag.Parse and linguisterref1.TagOf read the same tag; the tag of a right tag's text. -/
import Derived.Test.YtlhleojigcnjeaaDoorRtagText
import Derived.Test.YtlhleojigcnjeaaDoorCase
import Derived.Test.YtlhleojigcnjeaaDoorBys
namespace Go.Proofs.YtlhleojigcnjeaaDoor

theorem low_nohigh (c : UInt8) : HIGH.contains (lowC c) = false := each_byte (fun c => HIGH.contains (lowC c) = false) (by decide +kernel) c
theorem up_wasLow (c : UInt8) : HIGH.contains c = false → HIGH.contains (upC c) = true → LOW.contains c = true := each_byte (fun c => HIGH.contains c = false → HIGH.contains (upC c) = true → LOW.contains c = true) (by decide +kernel) c
theorem upLow_high (c : UInt8) : HIGH.contains c = true → upC (lowC c) = c ∧ LOW.contains (lowC c) = true := each_byte (fun c => HIGH.contains c = true → upC (lowC c) = c ∧ LOW.contains (lowC c) = true) (by decide +kernel) c
theorem dig_case (c : UInt8) : DIG.contains c = true → lowC c = c ∧ upC c = c := each_byte (fun c => DIG.contains c = true → lowC c = c ∧ upC c = c) (by decide +kernel) c
theorem low_case (c : UInt8) : LOW.contains c = true → lowC c = c := each_byte (fun c => LOW.contains c = true → lowC c = c) (by decide +kernel) c
theorem low_up (c : UInt8) : lowC (upC c) = lowC c := each_byte (fun c => lowC (upC c) = lowC c) (by decide +kernel) c
theorem low_low (c : UInt8) : lowC (lowC c) = lowC c := each_byte (fun c => lowC (lowC c) = lowC c) (by decide +kernel) c
theorem map_low_up (s : List UInt8) : (s.map upC).map lowC = s.map lowC := by rw [List.map_map]; exact List.map_congr_left fun c _ => low_up c
theorem map_low_low (s : List UInt8) : (s.map lowC).map lowC = s.map lowC := by rw [List.map_map]; exact List.map_congr_left fun c _ => low_low c

/-- the script out of a part -/
def scr (a : List UInt8) : List UInt8 := (a.take 1).map upC ++ a.drop 1
def cutS (P : List UInt8 → Bool) : List (List UInt8) → List UInt8 × List (List UInt8)
  | [] => ([], [])
  | a :: r => if P a then (scr a, r) else ([], a :: r)
def cutR (P : List UInt8 → Bool) : List (List UInt8) → List UInt8 × List (List UInt8)
  | [] => ([], [])
  | a :: r => if P a then (a.map upC, r) else ([], a :: r)
def PS1 (a : List UInt8) : Bool := onlyB a LOW 4 4
def PS2 (a : List UInt8) : Bool := decide (a.length = 4)
def PR1 (a : List UInt8) : Bool := regionB (a.map upC)
def PR2 (a : List UInt8) : Bool := decide (a.length < 4)
/-- right, and of this text -/
def okT (q l s r : List UInt8) (vs : List (List UInt8)) : Bool := decide (tagFault l s r vs = 0) && ((tagText l s r vs).map lowC == q)

theorem onlyB_len {s of : List UInt8} {f t : Int} (h : onlyB s of f t = true) : f ≤ (s.length : Int) ∧ (s.length : Int) ≤ t := by
  unfold onlyB at h
  simp only [Bool.and_eq_true, decide_eq_true_eq] at h
  exact h.2
theorem onlyB_all {s of : List UInt8} {f t : Int} (h : onlyB s of f t = true) : ∀ c ∈ s, of.contains c = true := by
  unfold onlyB at h
  simp only [Bool.and_eq_true] at h
  exact List.all_eq_true.1 h.1
theorem onlyB_yes {s of : List UInt8} {f t : Int} (h : ∀ c ∈ s, of.contains c = true) (h1 : f ≤ (s.length : Int)) (h2 : (s.length : Int) ≤ t) : onlyB s of f t = true := by
  unfold onlyB
  rw [List.all_eq_true.2 h, decide_eq_true h1, decide_eq_true h2]; rfl
theorem region_len {s : List UInt8} (h : regionB s = true) : s.length = 2 ∨ s.length = 3 := by
  unfold regionB at h
  rw [Bool.or_eq_true] at h
  rcases h with h | h
  · have := onlyB_len h; omega
  · have := onlyB_len h; omega
theorem scr_len (a : List UInt8) : (scr a).length = a.length := by
  cases a <;> simp [scr]
theorem script_was {a : List UInt8} (hn : ∀ c ∈ a, HIGH.contains c = false) (h : scriptB (scr a) = true) : PS1 a = true := by
  unfold scriptB at h
  rw [scr_len] at h
  simp only [Bool.and_eq_true, decide_eq_true_eq] at h
  obtain ⟨h4, h1, h3⟩ := h
  cases a with
  | nil => simp at h4
  | cons c r =>
    have a1 := onlyB_all h1 (upC c) (by simp [scr])
    have a3 : ∀ x ∈ r, LOW.contains x = true := fun x hx => onlyB_all h3 x (by simpa [scr] using hx)
    refine onlyB_yes (fun x hx => ?_) (by rw [h4]; decide) (by rw [h4]; decide)
    rcases List.mem_cons.1 hx with rfl | hx
    · exact up_wasLow x (hn x (by simp)) a1
    · exact a3 x hx
/-- a variant too short is a fault -/
theorem vf_bad : ∀ (vs pre : List (List UInt8)) {v : List UInt8}, v ∈ vs → onlyB v (LOW ++ DIG) 5 8 = false → vf pre vs ≠ 0
  | [], _, _, h, _ => by simp at h
  | x :: r, pre, v, h, hv => by
    unfold vf
    by_cases e1 : onlyB x (LOW ++ DIG) 5 8 = false
    · rw [if_pos e1]; decide
    · rw [if_neg e1]
      by_cases e2 : pre.contains x = true
      · rw [if_pos e2]; decide
      · rw [if_neg e2]
        rcases List.mem_cons.1 h with rfl | h
        · exact absurd hv e1
        · exact vf_bad r _ h hv
theorem fault_variant (l s r : List UInt8) {vs : List (List UInt8)} {v : List UInt8} (h : v ∈ vs) (hv : v.length < 5) : tagFault l s r vs ≠ 0 := by
  unfold tagFault
  split
  · refine vf_bad vs [] h ?_
    cases e : onlyB v (LOW ++ DIG) 5 8
    · rfl
    · have := onlyB_len e; omega
  · decide
theorem fault_script (l : List UInt8) {s : List UInt8} (r : List UInt8) (vs : List (List UInt8)) (h0 : s ≠ []) (h : scriptB s = false) : tagFault l s r vs ≠ 0 := by
  have e : s.isEmpty = false := by cases s with | nil => exact absurd rfl h0 | cons _ _ => rfl
  unfold tagFault headB
  rw [e, h]; simp
theorem fault_region (l s : List UInt8) {r : List UInt8} (vs : List (List UInt8)) (h0 : r ≠ []) (h : regionB r = false) : tagFault l s r vs ≠ 0 := by
  have e : r.isEmpty = false := by cases r with | nil => exact absurd rfl h0 | cons _ _ => rfl
  unfold tagFault headB
  rw [e, h]; simp
theorem fault_lang (s r : List UInt8) (vs : List (List UInt8)) : tagFault [] s r vs ≠ 0 := by
  unfold tagFault headB onlyB; simp
theorem ok_no {q l s r : List UInt8} {vs : List (List UInt8)} (h : tagFault l s r vs ≠ 0) : okT q l s r vs = false := by
  unfold okT; rw [decide_eq_false h]; rfl
end Go.Proofs.YtlhleojigcnjeaaDoor
