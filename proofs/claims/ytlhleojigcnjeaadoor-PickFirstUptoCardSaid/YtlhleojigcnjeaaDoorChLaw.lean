/- Plain law: the chain of a tag, and which one is within it. -/
import Derived.Test.YtlhleojigcnjeaaDoorTagLawC
namespace Go.Proofs.YtlhleojigcnjeaaDoor
open Go.Lib

/-- a tag -/
structure Tg where
  l : List UInt8
  s : List UInt8
  r : List UInt8
  vs : List (List UInt8)
def Tg.parts (t : Tg) : List (List UInt8) := Go.Proofs.YtlhleojigcnjeaaDoor.parts t.l t.s t.r t.vs
def Tg.txt (t : Tg) : List UInt8 := tagText t.l t.s t.r t.vs
def Tg.fault (t : Tg) : Int := tagFault t.l t.s t.r t.vs
def Tg.Ok (t : Tg) : Prop := Right t.l t.s t.r t.vs
theorem Tg.txt_join (t : Tg) : t.txt = join t.parts [45] := rfl
/-- without its last part -/
def Tg.less (t : Tg) : Option Tg :=
  if 0 < t.vs.length then some ⟨t.l, t.s, t.r, t.vs.take (t.vs.length - 1)⟩
  else if t.r = [] then (if t.s = [] then none else some ⟨t.l, [], t.r, t.vs⟩) else some ⟨t.l, t.s, [], t.vs⟩
def one (x : List UInt8) : List (List UInt8) := if x.isEmpty then [] else [x]
def Tg.size (t : Tg) : Nat := (one t.s).length + ((one t.r).length + t.vs.length)
theorem one_nil : one [] = [] := rfl
theorem one_some {x : List UInt8} (h : x ≠ []) : one x = [x] := by unfold one; cases x with | nil => exact absurd rfl h | cons _ _ => rfl
theorem less_size {t u : Tg} (h : t.less = some u) : u.size + 1 = t.size := by
  unfold Tg.less at h
  split at h
  · obtain rfl := Option.some.inj h
    simp only [Tg.size, List.length_take]; omega
  · next h0 =>
    have hv : t.vs.length = 0 := by omega
    split at h
    · next h1 =>
      split at h
      · cases h
      · next h2 =>
        obtain rfl := Option.some.inj h
        simp only [Tg.size, h1, one_some h2, one_nil, List.length_cons, List.length_nil, hv]
    · next h1 =>
      obtain rfl := Option.some.inj h
      simp only [Tg.size, one_some h1, one_nil, List.length_cons, List.length_nil, hv]
def chainN : Nat → Tg → List Tg
  | 0, t => [t]
  | n + 1, t => t :: (match t.less with | none => [] | some u => chainN n u)
def Tg.chain (t : Tg) : List Tg := chainN t.size t
theorem chain_none {t : Tg} (h : t.less = none) : t.chain = [t] := by
  unfold Tg.chain
  cases t.size with
  | zero => rfl
  | succ n => simp only [chainN, h]
theorem chain_some {t u : Tg} (h : t.less = some u) : t.chain = t :: u.chain := by
  unfold Tg.chain
  rw [← less_size h]
  simp only [chainN, h]
theorem Tg.less_ok {t u : Tg} (hr : t.Ok) (h : t.less = some u) : u.Ok := by
  unfold Tg.less at h
  split at h
  · obtain rfl := Option.some.inj h
    exact ⟨hr.l, hr.s, hr.r, fun v hv => hr.v v (List.mem_of_mem_take hv)⟩
  · split at h
    · split at h
      · cases h
      · obtain rfl := Option.some.inj h
        exact ⟨hr.l, .inl rfl, hr.r, hr.v⟩
    · obtain rfl := Option.some.inj h
      exact ⟨hr.l, hr.s, .inl rfl, hr.v⟩
theorem only_ne {s of : List UInt8} {f t : Int} (h : onlyB s of f t = true) (hf : 0 < f) : s ≠ [] := by
  rintro rfl
  have := onlyB_len h
  simp at this; omega
theorem ok_parts {t : Tg} (h : t.Ok) : t.parts = t.l :: (one t.s ++ (one t.r ++ t.vs)) := by
  have hv : t.vs.filter (fun x => !x.isEmpty) = t.vs := List.filter_eq_self.2 fun v hv => by
    have := only_ne (h.v v hv) (by decide)
    cases v with
    | nil => exact absurd rfl this
    | cons _ _ => rfl
  have hl : (!t.l.isEmpty) = true := by
    have := only_ne h.l (by decide)
    cases e : t.l with
    | nil => exact absurd e this
    | cons _ _ => rfl
  unfold Tg.parts Go.Proofs.YtlhleojigcnjeaaDoor.parts one
  simp only [List.filter_cons, hl, hv]
  cases t.s.isEmpty <;> cases t.r.isEmpty <;> simp
theorem less_parts {t u : Tg} (hr : t.Ok) (h : t.less = some u) : u.parts = t.parts.dropLast := by
  rw [ok_parts hr, ok_parts (Tg.less_ok hr h)]
  unfold Tg.less at h
  split at h
  · next hv =>
    obtain rfl := Option.some.inj h
    have hne : t.vs ≠ [] := by intro e; rw [e] at hv; simp at hv
    have e1 : one t.r ++ t.vs ≠ [] := by simp [hne]
    have e2 : one t.s ++ (one t.r ++ t.vs) ≠ [] := by simp [hne]
    rw [List.dropLast_cons_of_ne_nil e2, List.dropLast_append_of_ne_nil e1, List.dropLast_append_of_ne_nil hne, List.dropLast_eq_take]
  · next hv =>
    have hv : t.vs = [] := List.length_eq_zero_iff.1 (by omega)
    split at h
    · next h1 =>
      split at h
      · cases h
      · next h2 =>
        obtain rfl := Option.some.inj h
        simp [hv, h1, one_nil, one_some h2]
    · next h1 =>
      obtain rfl := Option.some.inj h
      simp only [hv, one_nil, one_some h1, List.append_nil]
      rw [List.dropLast_cons_of_ne_nil (by simp), List.dropLast_append_of_ne_nil (by simp)]
      simp
theorem less_none {t : Tg} (hr : t.Ok) (h : t.less = none) : t.parts = [t.l] := by
  rw [ok_parts hr]
  unfold Tg.less at h
  split at h
  · cases h
  · next hv =>
    have hv : t.vs = [] := List.length_eq_zero_iff.1 (by omega)
    split at h
    · next h1 =>
      split at h
      · next h2 => simp [hv, h1, h2, one_nil]
      · cases h
    · cases h
theorem ok_size {t : Tg} (hr : t.Ok) : t.parts.length = t.size + 1 := by
  rw [ok_parts hr]; simp [Tg.size]
/-- each of the chain is a head of the parts -/
theorem chain_take : ∀ (n : Nat) (t : Tg), t.size = n → t.Ok → t.chain.length = n + 1 ∧ ∀ i, i ≤ n → ∃ x, t.chain[i]? = some x ∧ x.Ok ∧ x.parts = t.parts.take (n + 1 - i)
  | 0, t, hn, hr => by
    have hl : t.less = none := by
      cases e : t.less with
      | none => rfl
      | some u => have := less_size e; omega
    have hp := ok_size hr
    rw [chain_none hl]
    refine ⟨rfl, fun i hi => ⟨t, by obtain rfl : i = 0 := by omega
                                    rfl, hr, ?_⟩⟩
    rw [List.take_of_length_le (by omega)]
  | n + 1, t, hn, hr => by
    have hp := ok_size hr
    cases e : t.less with
    | none =>
      rw [less_none hr e] at hp
      simp at hp; omega
    | some u =>
      have hs := less_size e
      have hu := Tg.less_ok hr e
      obtain ⟨h1, h2⟩ := chain_take n u (by omega) hu
      rw [chain_some e]
      refine ⟨by simp [h1], fun i hi => ?_⟩
      cases i with
      | zero => exact ⟨t, rfl, hr, by rw [List.take_of_length_le (by omega)]⟩
      | succ i =>
        obtain ⟨x, hx, ho, hq⟩ := h2 i (by omega)
        refine ⟨x, by simpa using hx, ho, ?_⟩
        rw [hq, less_parts hr e, List.dropLast_eq_take, List.take_take]
        congr 1
        omega
theorem parts_no45 {t : Tg} (h : t.Ok) : ∀ p ∈ t.parts, (45 : UInt8) ∉ p := by
  intro p hp
  rw [ok_parts h] at hp
  rcases List.mem_cons.1 hp with rfl | hp
  · exact no45 h.l (by decide)
  rcases List.mem_append.1 hp with hp | hp
  · unfold one at hp
    cases e : t.s.isEmpty
    · rw [e] at hp
      obtain rfl : p = t.s := by simpa using hp
      rcases h.s with hs | hs
      · rw [hs] at e; simp at e
      · obtain ⟨_, c, q, e, hc, ht⟩ := script_parts hs
        rw [e]
        intro g
        rcases List.mem_cons.1 g with g | g
        · rw [← g] at hc; exact absurd hc (by decide)
        · exact absurd (ht _ g) (by decide)
    · rw [e] at hp; simp at hp
  rcases List.mem_append.1 hp with hp | hp
  · unfold one at hp
    cases e : t.r.isEmpty
    · rw [e] at hp
      obtain rfl : p = t.r := by simpa using hp
      rcases h.r with hr | hr
      · rw [hr] at e; simp at e
      · unfold regionB at hr
        rw [Bool.or_eq_true] at hr
        rcases hr with hr | hr
        · exact no45 hr (by decide)
        · exact no45 hr (by decide)
    · rw [e] at hp; simp at hp
  · exact no45 (h.v p hp) (by decide)
theorem txt_inj {t u : Tg} (h : t.Ok) (k : u.Ok) : t.txt = u.txt ↔ t.parts = u.parts := by
  constructor
  · intro e
    have a := Byt.split_join 45 (l := t.parts) (by rw [ok_parts h]; simp) (parts_no45 h)
    have b := Byt.split_join 45 (l := u.parts) (by rw [ok_parts k]; simp) (parts_no45 k)
    rw [← Tg.txt_join] at a b
    rw [← a, ← b, e]
  · intro e; rw [Tg.txt_join, Tg.txt_join, e]
/-- is one within the other's chain? -/
def inChain (t of : Tg) : Bool := t.chain.any fun x => x.txt == of.txt
theorem inChain_iff {t of : Tg} (h : t.Ok) (k : of.Ok) : inChain t of = true ↔ of.parts <+: t.parts := by
  obtain ⟨h1, h2⟩ := chain_take _ t rfl h
  have hs := ok_size h
  have ks := ok_size k
  unfold inChain
  rw [List.any_eq_true]
  constructor
  · rintro ⟨x, hx, e⟩
    obtain ⟨i, hi, rfl⟩ := List.getElem_of_mem hx
    obtain ⟨y, hy, yo, hp⟩ := h2 i (by omega)
    rw [List.getElem?_eq_getElem hi] at hy
    obtain rfl := Option.some.inj hy
    rw [← (txt_inj yo k).1 (by simpa using e), hp]
    exact List.take_prefix _ _
  · intro hp
    have hl := hp.length_le
    obtain ⟨y, hy, yo, he⟩ := h2 (t.size + 1 - of.parts.length) (by omega)
    refine ⟨y, List.mem_of_getElem? hy, ?_⟩
    rw [(txt_inj yo k).2, beq_self_eq_true]
    rw [he, show t.size + 1 - (t.size + 1 - of.parts.length) = of.parts.length by omega]
    exact (List.prefix_iff_eq_take.1 hp).symm
theorem inChain_self {t : Tg} (h : t.Ok) : inChain t t = true := (inChain_iff h h).2 (List.prefix_refl _)
theorem inChain_on {a b c : Tg} (ha : a.Ok) (hb : b.Ok) (hc : c.Ok) (x : inChain a b = true) (y : inChain b c = true) : inChain a c = true :=
  (inChain_iff ha hc).2 (((inChain_iff hb hc).1 y).trans ((inChain_iff ha hb).1 x))
theorem inChain_both {a b : Tg} (ha : a.Ok) (hb : b.Ok) (x : inChain a b = true) (y : inChain b a = true) : a.txt = b.txt := by
  have p := (inChain_iff ha hb).1 x
  have q := (inChain_iff hb ha).1 y
  exact (txt_inj ha hb).2 (q.eq_of_length (Nat.le_antisymm q.length_le p.length_le))
end Go.Proofs.YtlhleojigcnjeaaDoor
