/- Rules and their texts: how long they are; of what a rule holds. Plain law: no program. -/
import Derived.Test.YtaijjffnamjhiaaGreatDoorRulP
import Derived.Test.YtaijjffnamjhiaaGreatDoorListP
namespace Rul
open Go Go.Lib

/-- the pieces of a text have no more signs than it -/
theorem split_lens {sub : List UInt8} (hs : sub ≠ []) : ∀ (k : Nat) (s : List UInt8), s.length ≤ k → lens (split s sub) + sub.length * (split s sub).length = s.length + sub.length := by
  intro k
  induction k with
  | zero =>
    intro s h
    have e : s = [] := List.eq_nil_of_length_eq_zero (by omega)
    subst e
    have hi : index [] sub < 0 := by
      have r := index_room [] sub
      have := List.length_pos_iff.2 hs
      simp at r
      omega
    rw [Spl.split_miss (by have := index_ge [] sub; omega)]
    simp [lens]
  | succ k ih =>
    intro s h
    by_cases hi : index s sub < 0
    · rw [Spl.split_miss (by have := index_ge s sub; omega)]
      simp [lens]
    · obtain ⟨i, hi'⟩ : ∃ i : Nat, index s sub = i := ⟨(index s sub).toNat, by omega⟩
      have room := index_room s sub (by omega)
      have hp := List.length_pos_iff.2 hs
      rw [Spl.split_hit hs hi']
      have q := ih (s.drop (i + sub.length)) (by rw [List.length_drop]; omega)
      rw [List.length_drop] at q
      have e : lens (s.take i :: split (s.drop (i + sub.length)) sub) = i + lens (split (s.drop (i + sub.length)) sub) := by
        simp [lens]; omega
      rw [e, List.length_cons, Nat.mul_succ]
      omega
theorem lens_sum (l : List (List UInt8)) : lens l = (l.map List.length).sum := by
  simp [lens]
theorem split_short {s sub : List UInt8} (hs : sub ≠ []) : (split s sub).length ≤ s.length + 1 := by
  have h := split_lens hs _ s (Nat.le_refl _)
  have hp := List.length_pos_iff.2 hs
  have q : 1 * (split s sub).length ≤ sub.length * (split s sub).length := Nat.mul_le_mul_right _ hp
  have : (split s sub).length + sub.length ≤ s.length + 1 + sub.length ∨ True := .inr trivial
  rcases Nat.eq_or_lt_of_le hp with e | e
  · rw [← e] at h; omega
  · have hl : 0 < (split s sub).length := by rw [Spl.split_len hs]; omega
    obtain ⟨m, hm⟩ : ∃ m, (split s sub).length = m + 1 := ⟨_, (Nat.succ_pred_eq_of_pos hl).symm⟩
    rw [hm] at h ⊢
    rw [Nat.mul_succ] at h
    have : 1 * m ≤ sub.length * m := Nat.mul_le_mul_right _ hp
    omega
/-- a rule that was read has no more relations than its text signs -/
theorem count_P (s : List UInt8) : (ruleP s).length ≤ s.length + 1 ∧ count (ruleP s) ≤ 2 * s.length + 2 := by
  have h1 := split_short (s := s) (sub := orS) (by decide)
  have h2 := split_lens (sub := orS) (by decide) _ s (Nat.le_refl _)
  refine ⟨by unfold ruleP; rw [List.length_map]; exact h1, ?_⟩
  have key : ∀ l : List (List UInt8), ((l.map partP).map (·.length)).sum ≤ lens l + l.length := by
    intro l
    induction l with
    | nil => simp [lens]
    | cons a l ih =>
      have ha := split_short (s := a) (sub := andS) (by decide)
      have e : lens (a :: l) = a.length + lens l := by simp [lens]
      rw [e, List.map_cons, List.map_cons, List.sum_cons, List.length_cons]
      have : (partP a).length ≤ a.length + 1 := by unfold partP; rw [List.length_map]; exact ha
      omega
  have := key (split s orS)
  unfold count ruleP
  have : 0 ≤ orS.length * (split s orS).length := Nat.zero_le _
  have h3 : lens (split s orS) ≤ s.length := by
    have hl : 0 < (split s orS).length := by rw [Spl.split_len (by decide)]; omega
    have : orS.length * 1 ≤ orS.length * (split s orS).length := Nat.mul_le_mul_left _ hl
    omega
  omega
theorem mem_splitK {sub : List UInt8} : ∀ (k : Nat) (s x : List UInt8), x ∈ splitK sub 0 k s → x.length ≤ s.length := by
  intro k
  induction k with
  | zero => intro s x hx; simp [splitK] at hx; rw [hx]; omega
  | succ k ih =>
    intro s x hx
    unfold splitK at hx
    split at hx
    · simp at hx; rw [hx]; omega
    · rcases List.mem_cons.1 hx with rfl | hx
      · simp; omega
      · have := ih _ x hx
        simp at this; omega
theorem mem_split {s sub x : List UInt8} (hx : x ∈ split s sub) : x.length ≤ s.length := mem_splitK _ s x hx
theorem hd_len (s : List UInt8) : (hd s).2.length ≤ s.length := by
  unfold hd
  split
  · unfold cut; split
    · simp only [List.length_drop]; omega
    · simp
  · unfold cut; split
    · simp only [List.length_drop]; omega
    · simp
theorem rs_P (s : List UInt8) : ∀ l ∈ ruleP s, ∀ x ∈ l, x.rs.length ≤ s.length + 1 := by
  intro l hl x hx
  obtain ⟨p, hp, rfl⟩ := List.mem_map.1 hl
  obtain ⟨q, hq, rfl⟩ := List.mem_map.1 hx
  have h1 := mem_split hp
  have h2 := mem_split hq
  have h3 := hd_len q
  have h4 := split_short (s := (hd q).2) (sub := [44]) (by decide)
  show ((split (hd q).2 [44]).map rngP).length ≤ _
  rw [List.length_map]
  omega

theorem dg_len {v : Int} (h : v ≤ 1000000) : (dg v).length ≤ 7 := Byt.digits_short 7 v.toNat (by omega) (by omega)
theorem rngT_len {p : Int × Int} (h : rngOk p = true) : (rngT p).length ≤ 16 := by
  simp only [rngOk, Bool.and_eq_true, decide_eq_true_eq] at h
  have h1 := dg_len (v := p.1) (by omega)
  have h2 := dg_len (v := p.2) (by omega)
  unfold rngT
  split
  · omega
  · simp only [List.length_append, List.length_cons, List.length_nil]; omega
theorem total_le {l : List (List UInt8)} {sep : List UInt8} {k : Nat} (h : ∀ x ∈ l, x.length ≤ k) : Lst.total l sep ≤ l.length * (k + sep.length) := by
  unfold Lst.total
  have : lens l ≤ l.length * k := by
    induction l with
    | nil => simp [lens]
    | cons a l ih =>
      have e : lens (a :: l) = a.length + lens l := by simp [lens]
      have h1 := h a (by simp)
      have h2 := ih (fun x hx => h x (by simp [hx]))
      rw [e, List.length_cons, Nat.succ_mul]
      omega
  rw [Nat.mul_add, Nat.mul_comm sep.length]
  omega
theorem relOk_parts {r : Rl} (h : relOk r = true) : opOk r.op = true ∧ 0 ≤ r.mod ∧ r.mod ≤ 1000000 ∧ r.rs ≠ [] ∧ ∀ p ∈ r.rs, rngOk p = true := by
  simp only [relOk, Bool.and_eq_true, decide_eq_true_eq, Bool.not_eq_true', List.isEmpty_eq_false_iff, List.all_eq_true] at h
  exact ⟨h.1.1.1.1, h.1.1.1.2, h.1.1.2, h.1.2, h.2⟩
theorem relT_len {r : Rl} {m : Nat} (h : relOk r = true) (hm : r.rs.length ≤ m) : (relT r).length ≤ 15 + m * 17 := by
  obtain ⟨_, _, h2, _, h4⟩ := relOk_parts h
  have hd := dg_len h2
  have t := total_le (l := r.rs.map rngT) (sep := [44]) (k := 16) (fun x hx => by
    obtain ⟨p, hp, rfl⟩ := List.mem_map.1 hx
    exact rngT_len (h4 p hp))
  have j := Lst.join_le (r.rs.map rngT) [44]
  rw [List.length_map] at t
  have q : r.rs.length * (16 + ([44] : List UInt8).length) ≤ m * 17 := Nat.mul_le_mul_right _ hm
  have hh : (headT r).length ≤ 11 := by
    unfold headT
    split
    · simp
    · simp only [List.length_append, List.length_cons, List.length_nil, pcS]; omega
  have hn : (if r.no then neS else eqS).length ≤ 4 := by split <;> decide
  unfold relT
  simp only [List.length_append]
  omega
theorem count_mem {r : Rule} {l : List Rl} (h : l ∈ r) : l.length ≤ count r := by
  unfold count
  induction r with
  | nil => simp at h
  | cons a r ih =>
    rcases List.mem_cons.1 h with rfl | h
    · simp
    · have := ih h
      simp; omega
theorem len_count {r : Rule} (h : ∀ l ∈ r, l ≠ []) : r.length ≤ count r := by
  unfold count
  induction r with
  | nil => simp
  | cons a r ih =>
    have := ih (fun l hl => h l (by simp [hl]))
    have := List.length_pos_iff.2 (h a (by simp))
    simp; omega
/-- the texts of a right rule are short -/
theorem ok_totals {r : Rule} (h : ruleE r = 0) (hm : ∀ l ∈ r, ∀ x ∈ l, x.rs.length ≤ 100000001) :
    Lst.total (r.map partT) [32, 111, 114, 32] ≤ 2000000000000 ∧ ∀ l ∈ r, l.length ≤ 4000000001 ∧ Lst.total (l.map relT) [32, 97, 110, 100, 32] ≤ 2000000000000 ∧ ∀ x ∈ l, Lst.total (x.rs.map rngT) [44] ≤ 2000000000000 := by
  obtain ⟨hs, hc⟩ := ruleE_zero.1 h
  obtain ⟨hr, hp⟩ := shape_parts hs
  have hlen : r.length ≤ 20 := Nat.le_trans (len_count (fun l hl => (part_parts (hp l hl)).1)) hc
  have part : ∀ l ∈ r, Lst.total (l.map relT) [32, 97, 110, 100, 32] ≤ 34000001000 := by
    intro l hl
    have t := total_le (l := l.map relT) (sep := [32, 97, 110, 100, 32]) (k := 1700000032) (fun x hx => by
      obtain ⟨q, hq, rfl⟩ := List.mem_map.1 hx
      exact relT_len ((part_parts (hp l hl)).2 q hq) (hm l hl q hq))
    rw [List.length_map] at t
    have : l.length ≤ 20 := Nat.le_trans (count_mem hl) hc
    have : l.length * (1700000032 + ([32, 97, 110, 100, 32] : List UInt8).length) ≤ 20 * (1700000032 + ([32, 97, 110, 100, 32] : List UInt8).length) := Nat.mul_le_mul_right _ this
    simp only [List.length_cons, List.length_nil] at *
    omega
  refine ⟨?_, fun l hl => ⟨?_, ?_, fun x hx => ?_⟩⟩
  · have t := total_le (l := r.map partT) (sep := [32, 111, 114, 32]) (k := 34000001000) (fun x hx => by
      obtain ⟨l, hl, rfl⟩ := List.mem_map.1 hx
      exact Nat.le_trans (Lst.join_le _ _) (part l hl))
    rw [List.length_map] at t
    have : r.length * (34000001000 + ([32, 111, 114, 32] : List UInt8).length) ≤ 20 * (34000001000 + ([32, 111, 114, 32] : List UInt8).length) := Nat.mul_le_mul_right _ hlen
    simp only [List.length_cons, List.length_nil] at *
    omega
  · have := count_mem hl; omega
  · have := part l hl; omega
  · have t := total_le (l := x.rs.map rngT) (sep := [44]) (k := 16) (fun y hy => by
      obtain ⟨p, hp', rfl⟩ := List.mem_map.1 hy
      exact rngT_len ((relOk_parts ((part_parts (hp l hl)).2 x hx)).2.2.2.2 p hp'))
    rw [List.length_map] at t
    have : x.rs.length * (16 + ([44] : List UInt8).length) ≤ 100000001 * (16 + ([44] : List UInt8).length) := Nat.mul_le_mul_right _ (hm l hl x hx)
    simp only [List.length_cons, List.length_nil] at *
    omega

/-- how many ranges a rule has -/
def mass (r : Rule) : Nat := (r.map fun l => (l.map fun x => x.rs.length).sum).sum
theorem lens_cons (a : List UInt8) (l : List (List UInt8)) : lens (a :: l) = a.length + lens l := by simp [lens]
theorem part_len {l : List Rl} (h : ∀ x ∈ l, relOk x = true) : (partT l).length ≤ 20 * l.length + 17 * (l.map fun x => x.rs.length).sum := by
  have k : lens (l.map relT) ≤ 15 * l.length + 17 * (l.map fun x => x.rs.length).sum := by
    induction l with
    | nil => simp [lens]
    | cons a l ih =>
      have h1 := relT_len (h a (by simp)) (Nat.le_refl _)
      have h2 := ih (fun x hx => h x (by simp [hx]))
      rw [List.map_cons, lens_cons, List.map_cons, List.sum_cons, List.length_cons]
      omega
  have j := Lst.join_le (l.map relT) andS
  unfold Lst.total at j
  rw [List.length_map, show andS.length = 5 from rfl] at j
  unfold partT
  omega
theorem rule_len {r : Rule} (h : ruleE r = 0) : (ruleT r).length ≤ 480 + 17 * mass r := by
  obtain ⟨hs, hc⟩ := ruleE_zero.1 h
  obtain ⟨hne, hp⟩ := shape_parts hs
  have hlen : r.length ≤ 20 := Nat.le_trans (len_count (fun l hl => (part_parts (hp l hl)).1)) hc
  have k : lens (r.map partT) ≤ 20 * count r + 17 * mass r := by
    clear h hs hc hlen hne
    unfold count mass
    induction r with
    | nil => simp [lens]
    | cons a r ih =>
      have h1 := part_len (part_parts (hp a (by simp))).2
      have h2 := ih (fun l hl => hp l (by simp [hl]))
      rw [List.map_cons, lens_cons, List.map_cons, List.sum_cons, List.map_cons, List.sum_cons]
      omega
  have j := Lst.join_le (r.map partT) orS
  unfold Lst.total at j
  rw [List.length_map, show orS.length = 4 from rfl] at j
  unfold ruleT
  omega

/-- of what is read: is it a rule's text? -/
def parseOk (s : List UInt8) : Bool := decide (ruleE (ruleP s) = 0) && (ruleT (ruleP s) == s)
theorem parseOk_iff {s : List UInt8} : parseOk s = true ↔ ruleE (ruleP s) = 0 ∧ ruleT (ruleP s) = s := by
  unfold parseOk
  simp
theorem parse_text {r : Rule} (h : ruleE r = 0) : parseOk (ruleT r) = true ∧ ruleP (ruleT r) = r := by
  have e := ruleP_T r (ruleE_zero.1 h).1
  exact ⟨parseOk_iff.2 (by rw [e]; exact ⟨h, rfl⟩), e⟩

/-- the operands -/
structure Op5 where
  i : Int
  v : Int
  w : Int
  f : Int
  t : Int
/-- an operand by its name -/
def opv (c : UInt8) (o : Op5) : Int := if c = 110 then o.i else if c = 105 then o.i else if c = 118 then o.v else if c = 119 then o.w else if c = 102 then o.f else if c = 116 then o.t else 0
def opx (r : Rl) (o : Op5) : Int := if r.mod = 0 then opv r.op o else (opv r.op o).tmod r.mod
def rngHas (x : Int) (p : Int × Int) : Bool := decide (p.1 ≤ x) && decide (x ≤ p.2)
def relH (r : Rl) (o : Op5) : Bool := (r.rs.any (rngHas (opx r o)) && (!decide (r.op = 110) || decide (o.t = 0))) != r.no
def partH (l : List Rl) (o : Op5) : Bool := l.all (relH · o)
def ruleH (r : Rule) (o : Op5) : Bool := r.any (partH · o)
/-- the first text that a rule is read of: i = 1 and v = 0 -/
def firstR : Rule := [[⟨105, 0, false, [(1, 1)]⟩, ⟨118, 0, false, [(0, 0)]⟩]]
def firstS : List UInt8 := [105, 32, 61, 32, 49, 32, 97, 110, 100, 32, 118, 32, 61, 32, 48]
theorem first_ok : ruleE firstR = 0 := by decide
theorem first_text : ruleT firstR = firstS := by decide +kernel
theorem first_parse : parseOk firstS = true ∧ ruleP firstS = firstR := by
  have := parse_text first_ok
  rwa [first_text] at this
end Rul
