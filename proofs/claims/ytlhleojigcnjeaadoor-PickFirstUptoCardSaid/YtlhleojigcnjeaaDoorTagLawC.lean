/- Plain law: the tag of a right tag's text, in small letters. -/
import Derived.Test.YtlhleojigcnjeaaDoorTagLawB
namespace Go.Proofs.YtlhleojigcnjeaaDoor
open Go.Lib

/-- what a right tag is made of -/
structure Right (l s r : List UInt8) (vs : List (List UInt8)) : Prop where
  l : onlyB l LOW 2 3 = true
  s : s = [] ∨ scriptB s = true
  r : r = [] ∨ regionB r = true
  v : ∀ v ∈ vs, onlyB v (LOW ++ DIG) 5 8 = true
theorem right_of {l s r : List UInt8} {vs : List (List UInt8)} (h : tagFault l s r vs = 0) : Right l s r vs := by
  have hh : headB l s r = true := by
    cases e : headB l s r
    · unfold tagFault at h; rw [e] at h; simp at h
    · rfl
  have hv : vf [] vs = 0 := by unfold tagFault at h; rw [if_pos hh] at h; exact h
  unfold headB at hh
  simp only [Bool.and_eq_true, Bool.or_eq_true, List.isEmpty_iff] at hh
  refine ⟨hh.1, hh.2.1, hh.2.2, fun v h => ?_⟩
  cases e : onlyB v (LOW ++ DIG) 5 8
  · exact absurd hv (vf_bad vs [] h e)
  · rfl
theorem lowdig {c : UInt8} (h : (LOW ++ DIG).contains c = true) : lowC c = c := by
  rw [List.contains_eq_mem, decide_eq_true_eq, List.mem_append] at h
  rcases h with h | h
  · exact low_case c (by rw [List.contains_eq_mem]; exact decide_eq_true h)
  · exact (dig_case c (by rw [List.contains_eq_mem]; exact decide_eq_true h)).1
theorem same_map {f : UInt8 → UInt8} {s : List UInt8} (h : ∀ c ∈ s, f c = c) : s.map f = s := by
  rw [List.map_congr_left (g := id) h, List.map_id]
theorem script_parts {s : List UInt8} (h : scriptB s = true) : s.length = 4 ∧ ∃ c t, s = c :: t ∧ HIGH.contains c = true ∧ ∀ x ∈ t, LOW.contains x = true := by
  unfold scriptB at h
  simp only [Bool.and_eq_true, decide_eq_true_eq] at h
  obtain ⟨h4, h1, h3⟩ := h
  refine ⟨h4, ?_⟩
  cases s with
  | nil => simp at h4
  | cons c t => exact ⟨c, t, rfl, onlyB_all h1 c (by simp), fun x hx => onlyB_all h3 x (by simpa using hx)⟩
theorem script_back {s : List UInt8} (h : scriptB s = true) : PS1 (s.map lowC) = true ∧ scr (s.map lowC) = s := by
  obtain ⟨h4, c, t, rfl, hc, ht⟩ := script_parts h
  have e := upLow_high c hc
  refine ⟨onlyB_yes (fun x hx => ?_) (by rw [List.length_map, h4]; decide) (by rw [List.length_map, h4]; decide), ?_⟩
  · obtain ⟨y, hy, rfl⟩ := List.mem_map.1 hx
    rcases List.mem_cons.1 hy with rfl | hy
    · exact e.2
    · rw [low_case y (ht y hy)]; exact ht y hy
  · unfold scr
    simp [e.1]
    exact same_map fun x hx => low_case x (ht x hx)
theorem region_back {r : List UInt8} (h : regionB r = true) : (r.map lowC).map upC = r := by
  have h' := h
  unfold regionB at h'
  rw [Bool.or_eq_true] at h'
  rw [List.map_map]
  rcases h' with h' | h'
  · exact same_map fun c hc => (upLow_high c (onlyB_all h' c hc)).1
  · exact same_map fun c hc => by
      have := dig_case c (onlyB_all h' c hc)
      show upC (lowC c) = c
      rw [this.1, this.2]
/-- the parts of the small text -/
theorem parts_low {l s r : List UInt8} {vs : List (List UInt8)} (h : Right l s r vs) : (parts l s r vs).map (List.map lowC) = l :: ((if s.isEmpty then [] else [s.map lowC]) ++ ((if r.isEmpty then [] else [r.map lowC]) ++ vs)) := by
  have hl := onlyB_len h.l
  have hv : vs.filter (fun x => !x.isEmpty) = vs := List.filter_eq_self.2 fun v hv => by
    have := onlyB_len (h.v v hv)
    cases v with
    | nil => simp at this
    | cons _ _ => rfl
  have hm : vs.map (List.map lowC) = vs := by
    have e : ∀ v ∈ vs, v.map lowC = id v := fun v hv => same_map fun c hc => lowdig (onlyB_all (h.v v hv) c hc)
    rw [List.map_congr_left e, List.map_id]
  have hll : l.map lowC = l := same_map fun c hc => low_case c (onlyB_all h.l c hc)
  have el : l.isEmpty = false := by cases l with | nil => simp at hl | cons _ _ => rfl
  unfold parts
  rw [List.filter_cons, if_pos (by rw [el]; rfl), List.filter_cons, List.filter_cons, hv]
  cases s.isEmpty <;> cases r.isEmpty <;> simp [hll, hm]
theorem map_join (f : UInt8 → UInt8) (hf : f 45 = 45) : ∀ l : List (List UInt8), (join l [45]).map f = join (l.map (List.map f)) [45]
  | [] => rfl
  | [x] => by simp [join_one]
  | x :: y :: r => by
    have e : (x :: y :: r).map (List.map f) = x.map f :: y.map f :: r.map (List.map f) := rfl
    rw [e, join_more, join_more, List.map_append, List.map_append, map_join f hf (y :: r)]
    simp [hf]
theorem no45 {s of : List UInt8} {f t : Int} (h : onlyB s of f t = true) (ho : of.contains 45 = false) : (45 : UInt8) ∉ s := fun e => by
  rw [onlyB_all h 45 e] at ho; exact absurd ho (by decide)
theorem low45 (c : UInt8) : lowC c = 45 → c = 45 := each_byte (fun c => lowC c = 45 → c = 45) (by decide +kernel) c
theorem no45_low {s : List UInt8} (h : (45 : UInt8) ∉ s) : (45 : UInt8) ∉ s.map lowC := fun e => by
  obtain ⟨c, hc, e⟩ := List.mem_map.1 e
  rw [low45 c e] at hc; exact h hc
theorem split_low {l s r : List UInt8} {vs : List (List UInt8)} (h : Right l s r vs) :
    split ((tagText l s r vs).map lowC) [45] = l :: ((if s.isEmpty then [] else [s.map lowC]) ++ ((if r.isEmpty then [] else [r.map lowC]) ++ vs)) := by
  unfold tagText
  rw [map_join lowC (by decide), parts_low h]
  refine Byt.split_join 45 (by simp) fun p hp => ?_
  rcases List.mem_cons.1 hp with rfl | hp
  · exact no45 h.l (by decide)
  rcases List.mem_append.1 hp with hp | hp
  · cases e : s.isEmpty
    · rw [e] at hp
      obtain rfl : p = s.map lowC := by simpa using hp
      rcases h.s with rfl | hs
      · simp
      · obtain ⟨_, c, t, rfl, hc, ht⟩ := script_parts hs
        refine no45_low fun e => ?_
        rcases List.mem_cons.1 e with e | e
        · rw [← e] at hc; exact absurd hc (by decide)
        · exact absurd (ht _ e) (by decide)
    · rw [e] at hp; simp at hp
  rcases List.mem_append.1 hp with hp | hp
  · cases e : r.isEmpty
    · rw [e] at hp
      obtain rfl : p = r.map lowC := by simpa using hp
      rcases h.r with rfl | hr
      · simp
      · unfold regionB at hr
        rw [Bool.or_eq_true] at hr
        rcases hr with hr | hr
        · exact no45_low (no45 hr (by decide))
        · exact no45_low (no45 hr (by decide))
    · rw [e] at hp; simp at hp
  · exact no45 (h.v p hp) (by decide)
/-- the tag of a right tag's small text -/
theorem back {l s r : List UInt8} {vs : List (List UInt8)} (h : tagFault l s r vs = 0) :
    ∃ T, split ((tagText l s r vs).map lowC) [45] = l :: T ∧ (cutS PS1 T).1 = s ∧ (cutR PR1 (cutS PS1 T).2).1 = r ∧ (cutR PR1 (cutS PS1 T).2).2 = vs := by
  have R := right_of h
  refine ⟨_, split_low R, ?_⟩
  have hvS : ∀ a ∈ vs, PS1 a = false := fun a ha => by
    have := onlyB_len (R.v a ha)
    cases e : PS1 a
    · rfl
    · have := onlyB_len e; omega
  have hvR : ∀ a ∈ vs, PR1 a = false := fun a ha => by
    have := onlyB_len (R.v a ha)
    cases e : PR1 a
    · rfl
    · have := region_len (show regionB (a.map upC) = true from e)
      rw [List.length_map] at this; omega
  have cS : cutS PS1 vs = ([], vs) := by
    cases vs with
    | nil => rfl
    | cons a t => simp only [cutS]; rw [if_neg (by rw [hvS a (by simp)]; decide)]
  have cR : cutR PR1 vs = ([], vs) := by
    cases vs with
    | nil => rfl
    | cons a t => simp only [cutR]; rw [if_neg (by rw [hvR a (by simp)]; decide)]
  have cRr : cutR PR1 ((if r.isEmpty then [] else [r.map lowC]) ++ vs) = (r, vs) := by
    rcases R.r with rfl | hr
    · simpa using cR
    · have hl := region_len hr
      have er : r.isEmpty = false := by cases r with | nil => simp at hl | cons _ _ => rfl
      rw [er]
      show cutR PR1 (r.map lowC :: vs) = _
      simp only [cutR]
      rw [if_pos (show PR1 (r.map lowC) = true by unfold PR1; rw [region_back hr]; exact hr), region_back hr]
  have cSr : cutS PS1 ((if r.isEmpty then [] else [r.map lowC]) ++ vs) = ([], (if r.isEmpty then [] else [r.map lowC]) ++ vs) := by
    cases er : r.isEmpty
    · have hr : r = [] ∨ regionB r = true := R.r
      rcases hr with rfl | hr
      · simp at er
      · have hl := region_len hr
        show cutS PS1 (r.map lowC :: vs) = _
        simp only [cutS]
        rw [if_neg (fun e => by have := onlyB_len e; rw [List.length_map] at this; omega)]; rfl
    · simpa using cS
  have cSs : cutS PS1 ((if s.isEmpty then [] else [s.map lowC]) ++ ((if r.isEmpty then [] else [r.map lowC]) ++ vs)) = (s, (if r.isEmpty then [] else [r.map lowC]) ++ vs) := by
    rcases R.s with rfl | hs
    · simpa using cSr
    · have hl := (script_parts hs).1
      have es : s.isEmpty = false := by cases s with | nil => simp at hl | cons _ _ => rfl
      rw [es]
      show cutS PS1 (s.map lowC :: _) = _
      simp only [cutS]
      rw [if_pos (script_back hs).1, (script_back hs).2]; rfl
  rw [cSs]
  exact ⟨rfl, by rw [cRr], by rw [cRr]⟩
end Go.Proofs.YtlhleojigcnjeaaDoor
