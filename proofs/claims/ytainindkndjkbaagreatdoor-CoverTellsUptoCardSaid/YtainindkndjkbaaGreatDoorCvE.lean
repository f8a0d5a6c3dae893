/- What the rules' functions want of the start. No walk. -/
import Derived.Lib.Join
import Derived.Test.YtainindkndjkbaaGreatDoorRulP
import Derived.Test.YtainindkndjkbaaGreatDoorAtoi
import Derived.OwnWalk
import Derived.RangeFuncNested
import Derived.RangeFuncLeaves
import Derived.RangeFuncBound
import Derived.Test.YtainindkndjkbaaGreatDoorShelfI
import Derived.Test.YtainindkndjkbaaGreatDoorMax
import Derived.Test.YtainindkndjkbaaGreatDoorCutP
import Derived.Test.YtainindkndjkbaaGreatDoorStr
import Derived.Test.YtainindkndjkbaaGreatDoorBox
import Derived.Lib.Hide
import Derived.RangeFuncBox
import Derived.Shelf.Abstract
import Derived.OwnWalkIn
import Derived.TacticsInMore
import Derived.LoopNIn
import Derived.LoopIn
import Derived.OrdersIn
import Derived.TacticsIn
import Derived.RangeFuncCalls
import Derived.Deep.RegionHeld3
import Derived.Test.YtainindkndjkbaaGreatDoorRulAt
import Derived.Test.YtainindkndjkbaaGreatDoorHeld
import Derived.Test.YtainindkndjkbaaGreatDoorBoxS
import Derived.Test.YtainindkndjkbaaGreatDoorShelfC
import Derived.Deep.DeepCutAuto
import Derived.Deep.CutRange
import Derived.Sort.CutIn
import Derived.Maps.AppendAt
import Derived.Test.YtainindkndjkbaaGreatDoorItoa
import Derived.Test.YtainindkndjkbaaGreatDoorShelfG
import Derived.Test.YtainindkndjkbaaGreatDoorRead
import Derived.Test.YtainindkndjkbaaGreatDoorProg
import Derived.LoopTactic
import Derived.Lib.Walk
import Derived.WalkKit
import Derived.Deep.LoopGhost
import Derived.Deep.Draws
import Derived.Test.YtainindkndjkbaaGreatDoorShelfU
import Derived.Laws.Runes
import Derived.BigQuiet
import Derived.WalkMore
import Derived.Test.YtainindkndjkbaaGreatDoorErrs
import Derived.Maps.OwnIn
namespace Lst
open Go Go.Lib
/-- the first k texts, joined -/
def upto (l : List (List UInt8)) (sep : List UInt8) (k : Nat) : List UInt8 := join (l.take k) sep
theorem upto_zero (l : List (List UInt8)) (sep : List UInt8) : upto l sep 0 = [] := by unfold upto; rw [List.take_zero]; exact join_nil sep
theorem upto_one (l : List (List UInt8)) (sep x : List UInt8) (h : l[0]? = some x) : upto l sep 1 = x := by
  unfold upto
  cases l with
  | nil => simp at h
  | cons y r => simp at h; subst h; simp [join_one]
theorem upto_succ (l : List (List UInt8)) (sep x : List UInt8) (k : Nat) (h0 : 0 < k) (h : l[k]? = some x) : upto l sep (k + 1) = upto l sep k ++ sep ++ x := by
  unfold upto
  cases l with
  | nil => simp at h
  | cons y r =>
    cases k with
    | zero => omega
    | succ k =>
      rw [List.take_succ_cons, List.take_succ_cons, join_cons, join_cons]
      rw [joinTail_take_succ sep r k x (by simpa using h)]
      simp
theorem upto_all (l : List (List UInt8)) (sep : List UInt8) (k : Nat) (h : l.length ≤ k) : upto l sep k = join l sep := by unfold upto; rw [List.take_of_length_le h]
def total (l : List (List UInt8)) (sep : List UInt8) : Nat := sep.length * l.length + lens l
theorem join_le (l : List (List UInt8)) (sep : List UInt8) : (join l sep).length ≤ total l sep := by
  cases l with
  | nil => rw [join_nil]; simp [total]
  | cons x r => rw [join_length]; unfold total; simp [Nat.mul_succ]; try omega
theorem lens_take (l : List (List UInt8)) (k : Nat) : lens (l.take k) ≤ lens l := lens_take_le l k
theorem upto_le (l : List (List UInt8)) (sep : List UInt8) (k : Nat) : (upto l sep k).length ≤ total l sep := by
  refine Nat.le_trans (join_le _ _) ?_
  unfold total
  have h1 := lens_take l k
  have h2 : sep.length * (l.take k).length ≤ sep.length * l.length := Nat.mul_le_mul_left _ (by simp; omega)
  omega
theorem lens_at (l : List (List UInt8)) (k : Nat) (x : List UInt8) (h : l[k]? = some x) : x.length ≤ lens l := by
  have h1 := lens_take_succ l k x h
  have h2 := lens_take l (k + 1)
  omega
/-- list.Join, plainly -/
def joined (l : List (List UInt8)) (two sep last : List UInt8) : List UInt8 :=
  if l.length < 2 then join l [] else if l.length = 2 then l.getD 0 [] ++ two ++ l.getD 1 [] else join (l.take (l.length - 1)) sep ++ last ++ l.getD (l.length - 1) []
end Lst
namespace Rul
open Go Go.Lib

/-- the pieces of a text have no more signs than it -/
theorem split_lens {sub : List UInt8} (hs : sub ≠ []) : ∀ (k : Nat) (s : List UInt8), s.length ≤ k → lens (split s sub) + sub.length * (split s sub).length = s.length + sub.length := by
  intro k
  induction k with
  | zero =>
    intro s h
    have e : s = [] := List.eq_nil_of_length_eq_zero (by omega)
    subst e
    have hi : index [] sub < 0 := by
      have r := index_room [] sub
      have := List.length_pos_iff.2 hs
      simp at r
      omega
    rw [Spl.split_miss (by have := index_ge [] sub; omega)]
    simp [lens]
  | succ k ih =>
    intro s h
    by_cases hi : index s sub < 0
    · rw [Spl.split_miss (by have := index_ge s sub; omega)]
      simp [lens]
    · obtain ⟨i, hi'⟩ : ∃ i : Nat, index s sub = i := ⟨(index s sub).toNat, by omega⟩
      have room := index_room s sub (by omega)
      have hp := List.length_pos_iff.2 hs
      rw [Spl.split_hit hs hi']
      have q := ih (s.drop (i + sub.length)) (by rw [List.length_drop]; omega)
      rw [List.length_drop] at q
      have e : lens (s.take i :: split (s.drop (i + sub.length)) sub) = i + lens (split (s.drop (i + sub.length)) sub) := by
        simp [lens]; omega
      rw [e, List.length_cons, Nat.mul_succ]
      omega
theorem lens_sum (l : List (List UInt8)) : lens l = (l.map List.length).sum := by
  simp [lens]
theorem split_short {s sub : List UInt8} (hs : sub ≠ []) : (split s sub).length ≤ s.length + 1 := by
  have h := split_lens hs _ s (Nat.le_refl _)
  have hp := List.length_pos_iff.2 hs
  have q : 1 * (split s sub).length ≤ sub.length * (split s sub).length := Nat.mul_le_mul_right _ hp
  have : (split s sub).length + sub.length ≤ s.length + 1 + sub.length ∨ True := .inr trivial
  rcases Nat.eq_or_lt_of_le hp with e | e
  · rw [← e] at h; omega
  · have hl : 0 < (split s sub).length := by rw [Spl.split_len hs]; omega
    obtain ⟨m, hm⟩ : ∃ m, (split s sub).length = m + 1 := ⟨_, (Nat.succ_pred_eq_of_pos hl).symm⟩
    rw [hm] at h ⊢
    rw [Nat.mul_succ] at h
    have : 1 * m ≤ sub.length * m := Nat.mul_le_mul_right _ hp
    omega
/-- a rule that was read has no more relations than its text signs -/
theorem count_P (s : List UInt8) : (ruleP s).length ≤ s.length + 1 ∧ count (ruleP s) ≤ 2 * s.length + 2 := by
  have h1 := split_short (s := s) (sub := orS) (by decide)
  have h2 := split_lens (sub := orS) (by decide) _ s (Nat.le_refl _)
  refine ⟨by unfold ruleP; rw [List.length_map]; exact h1, ?_⟩
  have key : ∀ l : List (List UInt8), ((l.map partP).map (·.length)).sum ≤ lens l + l.length := by
    intro l
    induction l with
    | nil => simp [lens]
    | cons a l ih =>
      have ha := split_short (s := a) (sub := andS) (by decide)
      have e : lens (a :: l) = a.length + lens l := by simp [lens]
      rw [e, List.map_cons, List.map_cons, List.sum_cons, List.length_cons]
      have : (partP a).length ≤ a.length + 1 := by unfold partP; rw [List.length_map]; exact ha
      omega
  have := key (split s orS)
  unfold count ruleP
  have : 0 ≤ orS.length * (split s orS).length := Nat.zero_le _
  have h3 : lens (split s orS) ≤ s.length := by
    have hl : 0 < (split s orS).length := by rw [Spl.split_len (by decide)]; omega
    have : orS.length * 1 ≤ orS.length * (split s orS).length := Nat.mul_le_mul_left _ hl
    omega
  omega
theorem mem_splitK {sub : List UInt8} : ∀ (k : Nat) (s x : List UInt8), x ∈ splitK sub 0 k s → x.length ≤ s.length := by
  intro k
  induction k with
  | zero => intro s x hx; simp [splitK] at hx; rw [hx]; omega
  | succ k ih =>
    intro s x hx
    unfold splitK at hx
    split at hx
    · simp at hx; rw [hx]; omega
    · rcases List.mem_cons.1 hx with rfl | hx
      · simp; omega
      · have := ih _ x hx
        simp at this; omega
theorem mem_split {s sub x : List UInt8} (hx : x ∈ split s sub) : x.length ≤ s.length := mem_splitK _ s x hx
theorem hd_len (s : List UInt8) : (hd s).2.length ≤ s.length := by
  unfold hd
  split
  · unfold cut; split
    · simp only [List.length_drop]; omega
    · simp
  · unfold cut; split
    · simp only [List.length_drop]; omega
    · simp
theorem rs_P (s : List UInt8) : ∀ l ∈ ruleP s, ∀ x ∈ l, x.rs.length ≤ s.length + 1 := by
  intro l hl x hx
  obtain ⟨p, hp, rfl⟩ := List.mem_map.1 hl
  obtain ⟨q, hq, rfl⟩ := List.mem_map.1 hx
  have h1 := mem_split hp
  have h2 := mem_split hq
  have h3 := hd_len q
  have h4 := split_short (s := (hd q).2) (sub := [44]) (by decide)
  show ((split (hd q).2 [44]).map rngP).length ≤ _
  rw [List.length_map]
  omega

theorem dg_len {v : Int} (h : v ≤ 1000000) : (dg v).length ≤ 7 := Byt.digits_short 7 v.toNat (by omega) (by omega)
theorem rngT_len {p : Int × Int} (h : rngOk p = true) : (rngT p).length ≤ 16 := by
  simp only [rngOk, Bool.and_eq_true, decide_eq_true_eq] at h
  have h1 := dg_len (v := p.1) (by omega)
  have h2 := dg_len (v := p.2) (by omega)
  unfold rngT
  split
  · omega
  · simp only [List.length_append, List.length_cons, List.length_nil]; omega
theorem total_le {l : List (List UInt8)} {sep : List UInt8} {k : Nat} (h : ∀ x ∈ l, x.length ≤ k) : Lst.total l sep ≤ l.length * (k + sep.length) := by
  unfold Lst.total
  have : lens l ≤ l.length * k := by
    induction l with
    | nil => simp [lens]
    | cons a l ih =>
      have e : lens (a :: l) = a.length + lens l := by simp [lens]
      have h1 := h a (by simp)
      have h2 := ih (fun x hx => h x (by simp [hx]))
      rw [e, List.length_cons, Nat.succ_mul]
      omega
  rw [Nat.mul_add, Nat.mul_comm sep.length]
  omega
theorem relOk_parts {r : Rl} (h : relOk r = true) : opOk r.op = true ∧ 0 ≤ r.mod ∧ r.mod ≤ 1000000 ∧ r.rs ≠ [] ∧ ∀ p ∈ r.rs, rngOk p = true := by
  simp only [relOk, Bool.and_eq_true, decide_eq_true_eq, Bool.not_eq_true', List.isEmpty_eq_false_iff, List.all_eq_true] at h
  exact ⟨h.1.1.1.1, h.1.1.1.2, h.1.1.2, h.1.2, h.2⟩
theorem relT_len {r : Rl} {m : Nat} (h : relOk r = true) (hm : r.rs.length ≤ m) : (relT r).length ≤ 15 + m * 17 := by
  obtain ⟨_, _, h2, _, h4⟩ := relOk_parts h
  have hd := dg_len h2
  have t := total_le (l := r.rs.map rngT) (sep := [44]) (k := 16) (fun x hx => by
    obtain ⟨p, hp, rfl⟩ := List.mem_map.1 hx
    exact rngT_len (h4 p hp))
  have j := Lst.join_le (r.rs.map rngT) [44]
  rw [List.length_map] at t
  have q : r.rs.length * (16 + ([44] : List UInt8).length) ≤ m * 17 := Nat.mul_le_mul_right _ hm
  have hh : (headT r).length ≤ 11 := by
    unfold headT
    split
    · simp
    · simp only [List.length_append, List.length_cons, List.length_nil, pcS]; omega
  have hn : (if r.no then neS else eqS).length ≤ 4 := by split <;> decide
  unfold relT
  simp only [List.length_append]
  omega
theorem count_mem {r : Rule} {l : List Rl} (h : l ∈ r) : l.length ≤ count r := by
  unfold count
  induction r with
  | nil => simp at h
  | cons a r ih =>
    rcases List.mem_cons.1 h with rfl | h
    · simp
    · have := ih h
      simp; omega
theorem len_count {r : Rule} (h : ∀ l ∈ r, l ≠ []) : r.length ≤ count r := by
  unfold count
  induction r with
  | nil => simp
  | cons a r ih =>
    have := ih (fun l hl => h l (by simp [hl]))
    have := List.length_pos_iff.2 (h a (by simp))
    simp; omega
/-- the texts of a right rule are short -/
theorem ok_totals {r : Rule} (h : ruleE r = 0) (hm : ∀ l ∈ r, ∀ x ∈ l, x.rs.length ≤ 100000001) :
    Lst.total (r.map partT) [32, 111, 114, 32] ≤ 2000000000000 ∧ ∀ l ∈ r, l.length ≤ 4000000001 ∧ Lst.total (l.map relT) [32, 97, 110, 100, 32] ≤ 2000000000000 ∧ ∀ x ∈ l, Lst.total (x.rs.map rngT) [44] ≤ 2000000000000 := by
  obtain ⟨hs, hc⟩ := ruleE_zero.1 h
  obtain ⟨hr, hp⟩ := shape_parts hs
  have hlen : r.length ≤ 20 := Nat.le_trans (len_count (fun l hl => (part_parts (hp l hl)).1)) hc
  have part : ∀ l ∈ r, Lst.total (l.map relT) [32, 97, 110, 100, 32] ≤ 34000001000 := by
    intro l hl
    have t := total_le (l := l.map relT) (sep := [32, 97, 110, 100, 32]) (k := 1700000032) (fun x hx => by
      obtain ⟨q, hq, rfl⟩ := List.mem_map.1 hx
      exact relT_len ((part_parts (hp l hl)).2 q hq) (hm l hl q hq))
    rw [List.length_map] at t
    have : l.length ≤ 20 := Nat.le_trans (count_mem hl) hc
    have : l.length * (1700000032 + ([32, 97, 110, 100, 32] : List UInt8).length) ≤ 20 * (1700000032 + ([32, 97, 110, 100, 32] : List UInt8).length) := Nat.mul_le_mul_right _ this
    simp only [List.length_cons, List.length_nil] at *
    omega
  refine ⟨?_, fun l hl => ⟨?_, ?_, fun x hx => ?_⟩⟩
  · have t := total_le (l := r.map partT) (sep := [32, 111, 114, 32]) (k := 34000001000) (fun x hx => by
      obtain ⟨l, hl, rfl⟩ := List.mem_map.1 hx
      exact Nat.le_trans (Lst.join_le _ _) (part l hl))
    rw [List.length_map] at t
    have : r.length * (34000001000 + ([32, 111, 114, 32] : List UInt8).length) ≤ 20 * (34000001000 + ([32, 111, 114, 32] : List UInt8).length) := Nat.mul_le_mul_right _ hlen
    simp only [List.length_cons, List.length_nil] at *
    omega
  · have := count_mem hl; omega
  · have := part l hl; omega
  · have t := total_le (l := x.rs.map rngT) (sep := [44]) (k := 16) (fun y hy => by
      obtain ⟨p, hp', rfl⟩ := List.mem_map.1 hy
      exact rngT_len ((relOk_parts ((part_parts (hp l hl)).2 x hx)).2.2.2.2 p hp'))
    rw [List.length_map] at t
    have : x.rs.length * (16 + ([44] : List UInt8).length) ≤ 100000001 * (16 + ([44] : List UInt8).length) := Nat.mul_le_mul_right _ (hm l hl x hx)
    simp only [List.length_cons, List.length_nil] at *
    omega

/-- how many ranges a rule has -/
def mass (r : Rule) : Nat := (r.map fun l => (l.map fun x => x.rs.length).sum).sum
theorem lens_cons (a : List UInt8) (l : List (List UInt8)) : lens (a :: l) = a.length + lens l := by simp [lens]
theorem part_len {l : List Rl} (h : ∀ x ∈ l, relOk x = true) : (partT l).length ≤ 20 * l.length + 17 * (l.map fun x => x.rs.length).sum := by
  have k : lens (l.map relT) ≤ 15 * l.length + 17 * (l.map fun x => x.rs.length).sum := by
    induction l with
    | nil => simp [lens]
    | cons a l ih =>
      have h1 := relT_len (h a (by simp)) (Nat.le_refl _)
      have h2 := ih (fun x hx => h x (by simp [hx]))
      rw [List.map_cons, lens_cons, List.map_cons, List.sum_cons, List.length_cons]
      omega
  have j := Lst.join_le (l.map relT) andS
  unfold Lst.total at j
  rw [List.length_map, show andS.length = 5 from rfl] at j
  unfold partT
  omega
theorem rule_len {r : Rule} (h : ruleE r = 0) : (ruleT r).length ≤ 480 + 17 * mass r := by
  obtain ⟨hs, hc⟩ := ruleE_zero.1 h
  obtain ⟨hne, hp⟩ := shape_parts hs
  have hlen : r.length ≤ 20 := Nat.le_trans (len_count (fun l hl => (part_parts (hp l hl)).1)) hc
  have k : lens (r.map partT) ≤ 20 * count r + 17 * mass r := by
    clear h hs hc hlen hne
    unfold count mass
    induction r with
    | nil => simp [lens]
    | cons a r ih =>
      have h1 := part_len (part_parts (hp a (by simp))).2
      have h2 := ih (fun l hl => hp l (by simp [hl]))
      rw [List.map_cons, lens_cons, List.map_cons, List.sum_cons, List.map_cons, List.sum_cons]
      omega
  have j := Lst.join_le (r.map partT) orS
  unfold Lst.total at j
  rw [List.length_map, show orS.length = 4 from rfl] at j
  unfold ruleT
  omega

/-- of what is read: is it a rule's text? -/
def parseOk (s : List UInt8) : Bool := decide (ruleE (ruleP s) = 0) && (ruleT (ruleP s) == s)
theorem parseOk_iff {s : List UInt8} : parseOk s = true ↔ ruleE (ruleP s) = 0 ∧ ruleT (ruleP s) = s := by
  unfold parseOk
  simp
theorem parse_text {r : Rule} (h : ruleE r = 0) : parseOk (ruleT r) = true ∧ ruleP (ruleT r) = r := by
  have e := ruleP_T r (ruleE_zero.1 h).1
  exact ⟨parseOk_iff.2 (by rw [e]; exact ⟨h, rfl⟩), e⟩

/-- the operands -/
structure Op5 where
  i : Int
  v : Int
  w : Int
  f : Int
  t : Int
/-- an operand by its name -/
def opv (c : UInt8) (o : Op5) : Int := if c = 110 then o.i else if c = 105 then o.i else if c = 118 then o.v else if c = 119 then o.w else if c = 102 then o.f else if c = 116 then o.t else 0
def opx (r : Rl) (o : Op5) : Int := if r.mod = 0 then opv r.op o else (opv r.op o).tmod r.mod
def rngHas (x : Int) (p : Int × Int) : Bool := decide (p.1 ≤ x) && decide (x ≤ p.2)
def relH (r : Rl) (o : Op5) : Bool := (r.rs.any (rngHas (opx r o)) && (!decide (r.op = 110) || decide (o.t = 0))) != r.no
def partH (l : List Rl) (o : Op5) : Bool := l.all (relH · o)
def ruleH (r : Rule) (o : Op5) : Bool := r.any (partH · o)
/-- the first text that a rule is read of: i = 1 and v = 0 -/
def firstR : Rule := [[⟨105, 0, false, [(1, 1)]⟩, ⟨118, 0, false, [(0, 0)]⟩]]
def firstS : List UInt8 := [105, 32, 61, 32, 49, 32, 97, 110, 100, 32, 118, 32, 61, 32, 48]
theorem first_ok : ruleE firstR = 0 := by decide
theorem first_text : ruleT firstR = firstS := by decide +kernel
theorem first_parse : parseOk firstS = true ∧ ruleP firstS = firstR := by
  have := parse_text first_ok
  rwa [first_text] at this
end Rul
namespace Go.Proofs.YtainindkndjkbaaGreatDoor
open Go.RowKit

set_option maxRecDepth 100000 in
set_option maxHeartbeats 1000000 in
theorem number_any (x : List UInt8) (w : World) (hN : NumW w) (hx : x.length ≤ 4000000000) :
    Calls Tryz.prog 110 #[.string ⟨x.toArray⟩] w fun e w' => e = .returned (.int .i64 (Rul.num x)) ∧ Below w.heap.size w w' := by
  by_cases h : ∃ v, Lib.atoiAll x = .ok v
  · obtain ⟨v, h⟩ := h
    have e : Rul.num x = v := by unfold Rul.num; rw [h]
    have CA := Lib.hid fun w => atoi_yes x v w hx h
    rw [e]
    clear h e
    go_enter Tryz.func110, Tryz.ntmps110
    go_wp2_with fail
    refine (CA.out _).mono ?_
    rintro e w1 ⟨rfl, hb⟩
    go_wp2_with fail
    go_ret
    exact ⟨rfl, hb⟩
  · have e : Rul.num x = -1 := by
      unfold Rul.num
      split
      · rename_i v h'; exact absurd ⟨v, h'⟩ h
      · rfl
    have CA := Lib.hid fun w hW => atoi_no x w hW hx (fun v g => h ⟨v, g⟩)
    rw [e]
    clear h e
    go_enter Tryz.func110, Tryz.ntmps110
    go_wp2_with fail
    refine (CA.out _ hN).mono ?_
    rintro e w1 ⟨u, N, rfl, hb⟩
    go_wp2_with fail
    go_ret
    exact ⟨rfl, hb⟩
end Go.Proofs.YtainindkndjkbaaGreatDoor
namespace Go.Proofs.YtainindkndjkbaaGreatDoor
open Go.RowKit

variable {F : Fence} {n : Nat} {P : Program}

/-- what is said of a world stands when the one block b turns, or new ones come -/
def Turns {β : Type} (b : Nat) (J : β → World → Prop) : Prop := ∀ s A B, J s A → A.grownBy B (some b) → J s B
/-- an iterator that hands over L, one by one; the one block that it turns is b; what a round keeps is Kp -/
def ListAt {α : Type} (F : Fence) (n : Nat) (P : Program) (g : Nat) (lb : Array Value) (encs : α → Array Value) (Kp : World → World → Prop) (b : Nat) (L : List α) (w : World) : Prop :=
  ∀ (l : Nat) (J : List α → World → Prop) (W : World), Below w.heap.size w W → Turns b J →
    (∀ pre x W1, J pre W1 → pre ++ [x] <+: L → YieldAt F (n - 1) P l (encs x) W1 fun e W' => e = .returned (.bool true) ∧ J (pre ++ [x]) W' ∧ Kp W1 W') →
    J [] W →
    CallsIn F n P g (#[.func (.yield l) #[] #[]] ++ lb) W fun e W' => (∃ v, e = .returned v) ∧ J L W'
/-- a round goes on -/
def onPost {α : Type} (B : Nat) (Kp : World → World → Prop) (I : List α → World → Prop) (xs : List α) (W : World) : Exit → Act → World → Prop
  | .normal, _, W' => KeepsFrom B W W' ∧ Kp W W' ∧ I xs W'
  | _, _, _ => False
theorem ListAt.inRound {α : Type} {g : Nat} {lb : Array Value} {encs : α → Array Value} {Kp : World → World → Prop} {b : Nat} {L : List α} {w : World} (l : Nat)
    (h : ListAt F n P g lb encs Kp b L w) : ListAt (F.inRound l) n P g lb encs Kp b L w := h
theorem rec_kept {A B : World} {b k : Nat} {o : Obj} (hg : A.grownBy B (some b)) (h : A.heap[k]? = some o) (hne : k ≠ b) : B.heap[k]? = some o :=
  (hg.block k (Array.getElem?_eq_some_iff.1 h).1 (fun e => hne (Option.some.inj e))).trans h

/-- the loop, outermost -/
theorem wpIn_range_out {α : Type} {g : Operand} {ps : Array Tmp} {assign body : Code} {Q : Exit → Act → World → Prop} {a : Act} {w : World}
    (hro : F.round = none) (h1 : 1 ≤ n) {gf : Nat} {lb : Array Value} (hg : a.eval g = .func (.func gf) #[] lb) (hFg : F.fn gf) (eg : ∀ args w, (callFunc gf args).run P w = .ok (.enter gf args) w)
    {encs : α → Array Value} {Kp : World → World → Prop} {b : Nat} {L : List α} (hseq : ListAt F (n - 1) P gf lb encs Kp b L w) (hbw : b < w.heap.size)
    (hKt : ∀ {A B C : World}, Kp A B → Kp B C → Kp A C) (hKb : ∀ (W : World) (l : Nat) (o o' : Obj), w.heap.size ≤ l → W.heap[l]? = some o → o.isCells = false → o.isWalk = false → Kp W (W.putObj l o')) (hps : ∀ x, (encs x).size = ps.size)
    (I : List α → World → Prop) (hI : OwnFrom w.heap.size I) (hIb : Turns b I) (h0 : I [] w) (Ax : α → Act → World → Prop) (hAx : ∀ x a', OwnFrom w.heap.size (fun (_ : Unit) W => Ax x a' W))
    (hassign : ∀ (l : Nat) (pre : List α) (x : α) (W : World) (K : Act → World → Prop), I pre W → (∀ a' W', KeepsFrom w.heap.size W W' → Kp W W' → I pre W' → Ax x a' W' → K a' W') →
      assign.wpIn (F.inRound l) (n - 1 - 1) P (Exit.then K (fun _ _ _ => False)) { tmps := (ps.zip (encs x)).foldl (fun t (p, v) => t.setIfInBounds p v) a.tmps, defers := [] } W)
    (hbody : ∀ (l : Nat) (pre : List α) (x : α) (a' : Act) (W : World), w.heap.size ≤ l → (∃ r, W.heap[l]? = some (.loop r)) → I pre W → Ax x a' W → pre ++ [x] <+: L → body.wpIn (F.inRound l) (n - 1 - 1) P (onPost w.heap.size Kp I (pre ++ [x]) W) a' W)
    (hdone : ∀ (D : Nat) (W : World), w.heap.size ≤ D → I L W → W.heap[D]? = some (.deferred (some [])) → Q .normal { a with defers := { target := .collected D, args := #[] } :: a.defers } W) :
    (Code.rangeFunc g ps assign body).wpIn F n P Q a w := by
  refine wpIn_rangeFunc ?_
  intro fn hfn
  rw [hro]
  obtain ⟨rec, hrec⟩ : ∃ rec : LoopState → Loop, rec = fun st => { state := st, pending := none, fn, tmps := a.tmps, params := ps, assign, body, defers := w.heap.size } := ⟨_, rfl⟩
  obtain ⟨W1, hW1⟩ : ∃ W1, (w.alloc (.deferred (some []))).alloc (.loop (rec .ready)) = W1 := ⟨_, rfl⟩
  have hL1 : W1.heap[w.heap.size + 1]? = some (.loop (rec .ready)) := by
    rw [← hW1]; have := World.alloc_heap_new (w.alloc (.deferred (some []))) (.loop (rec .ready)); rwa [World.size_alloc] at this
  have hK1 : W1.heap[w.heap.size]? = some (.deferred (some [])) := by
    rw [← hW1]; exact (Below.heap_alloc _ _ _ (by simp)).trans (World.alloc_heap_new w _)
  have hI1 : I [] W1 := by rw [← hW1]; exact hI.alloc _ (hI.alloc _ h0)
  have hb1 : Below w.heap.size w W1 := by
    rw [← hW1]; exact ((Below.refl _ w).alloc (Nat.le_refl _) _).alloc (by simp) _
  refine ⟨w.heap.size + 1, [{ target := .collected w.heap.size, args := #[] }], W1, { target := .fn (.func gf) lb, args := #[.func (.yield (w.heap.size + 1)) #[] #[]] }, W1, gf,
    #[.func (.yield (w.heap.size + 1)) #[] #[]] ++ lb, W1, ?_, ?_, ?_, ?_, fun _ => h1, ?_⟩
  · rw [← hW1, hrec]; exact run_enterLoop_outer _ _ _ _ _
  · simp only [resolve, hg]
    simp [go_sem]
  · intro f' hf'; simp [Target.leads] at hf'; subst hf'; exact hFg
  · simp [invoke, go_sem, eg]
  refine (hseq (w.heap.size + 1)
    (fun pre W => I pre W ∧ W.heap[w.heap.size + 1]? = some (.loop (rec .ready)) ∧ W.heap[w.heap.size]? = some (.deferred (some [])))
    W1 hb1 (fun s A B hs hg' => ⟨hIb s A B hs.1 hg', rec_kept hg' hs.2.1 (by omega), rec_kept hg' hs.2.2 (by omega)⟩) ?_ ⟨hI1, hL1, hK1⟩).mono ?_
  · rintro pre x W ⟨hi, hl, hk⟩ hlen
    have hy := run_yield (P := P) (args := encs x) hl (by rw [hrec]; exact hps x)
    rw [hrec] at hy
    refine ⟨fn, _, assign, body, hy, roundIn_of_wpIn hfn (hassign _ pre x W _ hi ?_)⟩
    clear hy
    intro a' Wa hkfa hkpa hia hax
    have hla := hkfa.same _ _ (by omega) hl rfl
    have hka := hkfa.same _ _ (Nat.le_refl _) hk rfl
    have hlt := (Array.getElem?_eq_some_iff.1 hla).1
    refine ⟨_, run_beginRound hla (by rw [hrec]), ?_⟩
    obtain ⟨W2, hW2⟩ : ∃ W2, Wa.putObj (w.heap.size + 1) (.loop { rec .ready with state := .busy }) = W2 := ⟨_, rfl⟩
    have hl2 : W2.heap[w.heap.size + 1]? = some (.loop { rec .ready with state := .busy }) := by rw [← hW2]; exact World.putObj_heap_same hlt
    have hk2 : W2.heap[w.heap.size]? = some (.deferred (some [])) := by rw [← hW2]; exact (World.putObj_heap_other (by omega)).trans hka
    have hw2 : Kp Wa W2 := by rw [← hW2]; exact hKb _ _ _ _ (by omega) hla rfl rfl
    have hi2 : I pre W2 := by rw [← hW2]; exact hI.putObj _ hia (by omega) hla rfl
    have ha2 : Ax x a' W2 := by rw [← hW2]; exact (hAx x a').putObj (s := ()) _ hax (by omega) hla rfl
    rw [hW2]
    refine wpIn_mono (hbody _ pre x a' W2 (by omega) ⟨_, hl2⟩ hi2 ha2 hlen) ?_
    rintro e a3 W3 hp
    cases e with
    | normal =>
      obtain ⟨hk3, hkp3, hi3⟩ := hp
      have hl3 := hk3.same _ _ (by omega) hl2 rfl
      have hd3 := hk3.same _ _ (Nat.le_refl _) hk2 rfl
      have hr := run_endRound (P := P) none hl3
      exact ⟨_, _, hr, rfl, ⟨hI.putObj _ hi3 (by omega) hl3 rfl, by
        rw [World.putObj_heap_same (Array.getElem?_eq_some_iff.1 hl3).1]; rw [hrec]; rfl, (World.putObj_heap_other (by omega)).trans hd3⟩, hKt hkpa (hKt (hKt hw2 hkp3) (hKb _ _ _ _ (by omega) hl3 rfl rfl))⟩
    | ret => exact hp.elim
    | exit id => exact hp.elim
    | goto t => exact hp.elim
    | panic ch => exact hp.elim
    | outgrown => exact hp.elim
  · rintro e W2 ⟨⟨v, rfl⟩, hi, hl, hk⟩
    exact ⟨none, _, by have := run_endLoop (P := P) hl (by rw [hrec]; simp); rw [hrec] at this; exact this, hdone _ _ (Nat.le_refl _) (hI.putObj _ hi (by omega) hl rfl) ((World.putObj_heap_other (by omega)).trans hk)⟩

/-- the loop, within a round of another one -/
theorem wpIn_range_in {α : Type} {g : Operand} {ps : Array Tmp} {assign body : Code} {Q : Exit → Act → World → Prop} {a : Act} {w : World}
    {l₀ : Nat} {r₀ : Loop} (hro : F.round = some l₀) (hl₀ : w.heap[l₀]? = some (.loop r₀)) (h1 : 1 ≤ n) {gf : Nat} {lb : Array Value} (hg : a.eval g = .func (.func gf) #[] lb) (hFg : F.fn gf) (eg : ∀ args w, (callFunc gf args).run P w = .ok (.enter gf args) w)
    {encs : α → Array Value} {Kp : World → World → Prop} {b : Nat} {L : List α} (hseq : ListAt F (n - 1) P gf lb encs Kp b L w) (hbw : b < w.heap.size)
    (hKt : ∀ {A B C : World}, Kp A B → Kp B C → Kp A C) (hKb : ∀ (W : World) (l : Nat) (o o' : Obj), w.heap.size ≤ l → W.heap[l]? = some o → o.isCells = false → o.isWalk = false → Kp W (W.putObj l o')) (hps : ∀ x, (encs x).size = ps.size)
    (I : List α → World → Prop) (hI : OwnFrom w.heap.size I) (hIb : Turns b I) (h0 : I [] w) (Ax : α → Act → World → Prop) (hAx : ∀ x a', OwnFrom w.heap.size (fun (_ : Unit) W => Ax x a' W))
    (hassign : ∀ (l : Nat) (pre : List α) (x : α) (W : World) (K : Act → World → Prop), I pre W → (∀ a' W', KeepsFrom w.heap.size W W' → Kp W W' → I pre W' → Ax x a' W' → K a' W') →
      assign.wpIn (F.inRound l) (n - 1 - 1) P (Exit.then K (fun _ _ _ => False)) { tmps := (ps.zip (encs x)).foldl (fun t (p, v) => t.setIfInBounds p v) a.tmps, defers := [] } W)
    (hbody : ∀ (l : Nat) (pre : List α) (x : α) (a' : Act) (W : World), w.heap.size ≤ l → (∃ r, W.heap[l]? = some (.loop r)) → I pre W → Ax x a' W → pre ++ [x] <+: L → body.wpIn (F.inRound l) (n - 1 - 1) P (onPost w.heap.size Kp I (pre ++ [x]) W) a' W)
    (hdone : ∀ (W : World), I L W → Q .normal a W) :
    (Code.rangeFunc g ps assign body).wpIn F n P Q a w := by
  refine wpIn_rangeFunc ?_
  intro fn hfn
  rw [hro]
  obtain ⟨rec, hrec⟩ : ∃ rec : LoopState → Loop, rec = fun st => { state := st, pending := none, fn, tmps := a.tmps, params := ps, assign, body, defers := r₀.defers } := ⟨_, rfl⟩
  obtain ⟨W1, hW1⟩ : ∃ W1, w.alloc (.loop (rec .ready)) = W1 := ⟨_, rfl⟩
  have hL1 : W1.heap[w.heap.size]? = some (.loop (rec .ready)) := by rw [← hW1]; exact World.alloc_heap_new w _
  have hI1 : I [] W1 := by rw [← hW1]; exact hI.alloc _ h0
  have hb1 : Below w.heap.size w W1 := by rw [← hW1]; exact (Below.refl _ w).alloc (Nat.le_refl _) _
  refine ⟨w.heap.size, [], W1, { target := .fn (.func gf) lb, args := #[.func (.yield w.heap.size) #[] #[]] }, W1, gf,
    #[.func (.yield w.heap.size) #[] #[]] ++ lb, W1, ?_, ?_, ?_, ?_, fun _ => h1, ?_⟩
  · rw [← hW1, hrec]; exact run_enterLoop_inner hl₀ _ _ _ _ _
  · simp only [resolve, hg]
    simp [go_sem]
  · intro f' hf'; simp [Target.leads] at hf'; subst hf'; exact hFg
  · simp [invoke, go_sem, eg]
  refine (hseq w.heap.size (fun pre W => I pre W ∧ W.heap[w.heap.size]? = some (.loop (rec .ready)))
    W1 hb1 (fun s A B hs hg' => ⟨hIb s A B hs.1 hg', rec_kept hg' hs.2 (by omega)⟩) ?_ ⟨hI1, hL1⟩).mono ?_
  · rintro pre x W ⟨hi, hl⟩ hlen
    have hy := run_yield (P := P) (args := encs x) hl (by rw [hrec]; exact hps x)
    rw [hrec] at hy
    refine ⟨fn, _, assign, body, hy, roundIn_of_wpIn hfn (hassign _ pre x W _ hi ?_)⟩
    clear hy
    intro a' Wa hkfa hkpa hia hax
    have hla := hkfa.same _ _ (Nat.le_refl _) hl rfl
    have hlt := (Array.getElem?_eq_some_iff.1 hla).1
    refine ⟨_, run_beginRound hla (by rw [hrec]), ?_⟩
    obtain ⟨W2, hW2⟩ : ∃ W2, Wa.putObj w.heap.size (.loop { rec .ready with state := .busy }) = W2 := ⟨_, rfl⟩
    have hl2 : W2.heap[w.heap.size]? = some (.loop { rec .ready with state := .busy }) := by rw [← hW2]; exact World.putObj_heap_same hlt
    have hw2 : Kp Wa W2 := by rw [← hW2]; exact hKb _ _ _ _ (Nat.le_refl _) hla rfl rfl
    have hi2 : I pre W2 := by rw [← hW2]; exact hI.putObj _ hia (Nat.le_refl _) hla rfl
    have ha2 : Ax x a' W2 := by rw [← hW2]; exact (hAx x a').putObj (s := ()) _ hax (Nat.le_refl _) hla rfl
    rw [hW2]
    refine wpIn_mono (hbody _ pre x a' W2 (Nat.le_refl _) ⟨_, hl2⟩ hi2 ha2 hlen) ?_
    rintro e a3 W3 hp
    cases e with
    | normal =>
      obtain ⟨hk3, hkp3, hi3⟩ := hp
      have hl3 := hk3.same _ _ (Nat.le_refl _) hl2 rfl
      have hr := run_endRound (P := P) none hl3
      exact ⟨_, _, hr, rfl, ⟨hI.putObj _ hi3 (Nat.le_refl _) hl3 rfl, by
        rw [World.putObj_heap_same (Array.getElem?_eq_some_iff.1 hl3).1]; rw [hrec]; rfl⟩, hKt hkpa (hKt (hKt hw2 hkp3) (hKb _ _ _ _ (Nat.le_refl _) hl3 rfl rfl))⟩
    | ret => exact hp.elim
    | exit id => exact hp.elim
    | goto t => exact hp.elim
    | panic ch => exact hp.elim
    | outgrown => exact hp.elim
  · rintro e W2 ⟨⟨v, rfl⟩, hi, hl⟩
    exact ⟨none, _, by have := run_endLoop (P := P) hl (by rw [hrec]; simp); rw [hrec] at this; exact this, hdone _ (hI.putObj _ hi (Nat.le_refl _) hl rfl)⟩
/-- the same, at one value a round, kept in slot d -/
theorem wpIn_range_out1 {α : Type} {g : Operand} {q d : Nat} {assign body : Code} {Q : Exit → Act → World → Prop} {a : Act} {w : World}
    (hro : F.round = none) (h1 : 1 ≤ n) {gf : Nat} {lb : Array Value} (hg : a.eval g = .func (.func gf) #[] lb) (hFg : F.fn gf) (eg : ∀ args w, (callFunc gf args).run P w = .ok (.enter gf args) w)
    {val : α → Value} {Kp : World → World → Prop} {b : Nat} {L : List α} (hseq : ListAt F (n - 1) P gf lb (fun x => #[val x]) Kp b L w) (hbw : b < w.heap.size)
    (hKt : ∀ {A B C : World}, Kp A B → Kp B C → Kp A C) (hKb : ∀ (W : World) (l : Nat) (o o' : Obj), w.heap.size ≤ l → W.heap[l]? = some o → o.isCells = false → o.isWalk = false → Kp W (W.putObj l o'))
    (I : List α → World → Prop) (hI : OwnFrom w.heap.size I) (hIb : Turns b I) (h0 : I [] w)
    (hassign : ∀ (l : Nat) (pre : List α) (x : α) (W : World) (K : Act → World → Prop), I pre W → (∀ W', KeepsFrom w.heap.size W W' → Kp W W' → I pre W' → K { tmps := (a.tmps.setIfInBounds q (val x)).setIfInBounds d (val x), defers := [] } W') →
      assign.wpIn (F.inRound l) (n - 1 - 1) P (Exit.then K (fun _ _ _ => False)) { tmps := a.tmps.setIfInBounds q (val x), defers := [] } W)
    (hbody : ∀ (l : Nat) (pre : List α) (x : α) (W : World), w.heap.size ≤ l → (∃ r, W.heap[l]? = some (.loop r)) → I pre W → pre ++ [x] <+: L → body.wpIn (F.inRound l) (n - 1 - 1) P (onPost w.heap.size Kp I (pre ++ [x]) W) { tmps := (a.tmps.setIfInBounds q (val x)).setIfInBounds d (val x), defers := [] } W)
    (hdone : ∀ (D : Nat) (W : World), w.heap.size ≤ D → I L W → W.heap[D]? = some (.deferred (some [])) → Q .normal { a with defers := { target := .collected D, args := #[] } :: a.defers } W) :
    (Code.rangeFunc g #[q] assign body).wpIn F n P Q a w :=
  wpIn_range_out hro h1 hg hFg eg hseq hbw hKt hKb (fun _ => rfl) I hI hIb h0 (fun x a' _ => a' = { tmps := (a.tmps.setIfInBounds q (val x)).setIfInBounds d (val x), defers := [] }) (fun _ _ => ownFrom_pure _ _)
    (fun l pre x W K hi hK => by
      have h := hassign l pre x W K hi (fun W' k1 k2 k3 => hK _ W' k1 k2 k3 rfl)
      simpa using h)
    (fun l pre x a' W h1 h2 h3 h4 h5 => by subst h4; exact hbody l pre x W h1 h2 h3 h5) hdone
/-- the same, at one value a round, kept in slot d -/
theorem wpIn_range_in1 {α : Type} {g : Operand} {q d : Nat} {assign body : Code} {Q : Exit → Act → World → Prop} {a : Act} {w : World}
    {l₀ : Nat} {r₀ : Loop} (hro : F.round = some l₀) (hl₀ : w.heap[l₀]? = some (.loop r₀)) (h1 : 1 ≤ n) {gf : Nat} {lb : Array Value} (hg : a.eval g = .func (.func gf) #[] lb) (hFg : F.fn gf) (eg : ∀ args w, (callFunc gf args).run P w = .ok (.enter gf args) w)
    {val : α → Value} {Kp : World → World → Prop} {b : Nat} {L : List α} (hseq : ListAt F (n - 1) P gf lb (fun x => #[val x]) Kp b L w) (hbw : b < w.heap.size)
    (hKt : ∀ {A B C : World}, Kp A B → Kp B C → Kp A C) (hKb : ∀ (W : World) (l : Nat) (o o' : Obj), w.heap.size ≤ l → W.heap[l]? = some o → o.isCells = false → o.isWalk = false → Kp W (W.putObj l o'))
    (I : List α → World → Prop) (hI : OwnFrom w.heap.size I) (hIb : Turns b I) (h0 : I [] w)
    (hassign : ∀ (l : Nat) (pre : List α) (x : α) (W : World) (K : Act → World → Prop), I pre W → (∀ W', KeepsFrom w.heap.size W W' → Kp W W' → I pre W' → K { tmps := (a.tmps.setIfInBounds q (val x)).setIfInBounds d (val x), defers := [] } W') →
      assign.wpIn (F.inRound l) (n - 1 - 1) P (Exit.then K (fun _ _ _ => False)) { tmps := a.tmps.setIfInBounds q (val x), defers := [] } W)
    (hbody : ∀ (l : Nat) (pre : List α) (x : α) (W : World), w.heap.size ≤ l → (∃ r, W.heap[l]? = some (.loop r)) → I pre W → pre ++ [x] <+: L → body.wpIn (F.inRound l) (n - 1 - 1) P (onPost w.heap.size Kp I (pre ++ [x]) W) { tmps := (a.tmps.setIfInBounds q (val x)).setIfInBounds d (val x), defers := [] } W)
    (hdone : ∀ (W : World), I L W → Q .normal a W) :
    (Code.rangeFunc g #[q] assign body).wpIn F n P Q a w :=
  wpIn_range_in hro hl₀ h1 hg hFg eg hseq hbw hKt hKb (fun _ => rfl) I hI hIb h0 (fun x a' _ => a' = { tmps := (a.tmps.setIfInBounds q (val x)).setIfInBounds d (val x), defers := [] }) (fun _ _ => ownFrom_pure _ _)
    (fun l pre x W K hi hK => by
      have h := hassign l pre x W K hi (fun W' k1 k2 k3 => hK _ W' k1 k2 k3 rfl)
      simpa using h)
    (fun l pre x a' W h1 h2 h3 h4 h5 => by subst h4; exact hbody l pre x W h1 h2 h3 h5) hdone
end Go.Proofs.YtainindkndjkbaaGreatDoor
namespace Go.Proofs.YtainindkndjkbaaGreatDoor
open Go.RowKit Go.Shelf

attribute [local go_sem] Oper.semAt_some

/-- what a round over pieces keeps: what lay below n₀, and the iterator's own three boxes -/
structure KpS (n₀ bp bs bv : Nat) (W W' : World) : Prop where
  low : Below n₀ W W'
  p : W'.heap[bp]? = W.heap[bp]?
  s : W'.heap[bs]? = W.heap[bs]?
  v : W'.heap[bv]? = W.heap[bv]?
theorem KpS.trans {n₀ bp bs bv : Nat} {A B C : World} (h : KpS n₀ bp bs bv A B) (k : KpS n₀ bp bs bv B C) : KpS n₀ bp bs bv A C :=
  ⟨h.low.trans k.low, k.p.trans h.p, k.s.trans h.s, k.v.trans h.v⟩
theorem KpS.put {n₀ bp bs bv : Nat} {w : World} (hn : n₀ ≤ w.heap.size) (hp : bp < w.heap.size) (hs : bs < w.heap.size) (hv : bv < w.heap.size) (W : World) (l : Nat) (o o' : Obj) (hl : w.heap.size ≤ l) (h : W.heap[l]? = some o) (ho : o.isCells = false) (hw : o.isWalk = false) : KpS n₀ bp bs bv W (W.putObj l o') :=
  ⟨belowK_b hn W l o o' hl h ho hw, World.putObj_heap_other (by omega), World.putObj_heap_other (by omega), World.putObj_heap_other (by omega)⟩
theorem max_low {n₀ : Nat} {W W' : World} (hg : 1 < n₀) (h : MaxW W) (hb : Below n₀ W W') : MaxW W' := by
  obtain ⟨m, hm⟩ := h
  exact ⟨m, (hb.cell (p := ⟨1, 0, none⟩) hg).trans hm⟩
/-- how much of the text is left -/
def leftS (b : Nat) (w : World) : Nat := match w.cell? ⟨b, 0, none⟩ with | some (.string x) => x.size | _ => 0
theorem leftS_eq {b : Nat} {w : World} {x : List UInt8} (h : w.cell? ⟨b, 0, none⟩ = some (.string ⟨x.toArray⟩)) : leftS b w = x.length := by
  unfold leftS; rw [h]; exact size_mkl x

set_option maxRecDepth 100000 in
set_option maxHeartbeats 2000000 in
theorem split_iter (s sep : List UInt8) (bp bs bv n₀ n : Nat) (w : World) (hn : 1 ≤ n) (hsep : sep ≠ []) (hs : s.length ≤ 4000000000) (hl : sep.length ≤ 1000)
    (hg : 1 < n₀) (h0 : n₀ ≤ bs) (hm : MaxW w) (hps : bp ≠ bs) (hvs : bv ≠ bs) (hbp : bp < w.heap.size) (hbs : bs < w.heap.size) (hbv : bv < w.heap.size)
    (cp : w.cell? ⟨bp, 0, none⟩ = some (.string ⟨sep.toArray⟩)) (cs : w.cell? ⟨bs, 0, none⟩ = some (.string ⟨s.toArray⟩)) (cv : w.cell? ⟨bv, 0, none⟩ = some (.int .i64 0)) (fs : w.frozen? ⟨bs, 0, none⟩ = false) :
    ListAt Fence.wide n Tryz.prog 121 #[.pointer (some ⟨bp, 0, none⟩), .pointer (some ⟨bs, 0, none⟩), .pointer (some ⟨bv, 0, none⟩)] (fun x : List UInt8 => #[.string ⟨x.toArray⟩]) (KpS n₀ bp bs bv) bs (Lib.split s sep) w := by
  intro l J W hW hJ hY hJ0
  have HY := Lib.hid hY
  have HJ := Lib.hid hJ
  have kp : W.cell? ⟨bp, 0, none⟩ = some (.string ⟨sep.toArray⟩) := (hW.cell (p := ⟨bp, 0, none⟩) hbp).trans cp
  have ks : W.cell? ⟨bs, 0, none⟩ = some (.string ⟨s.toArray⟩) := (hW.cell (p := ⟨bs, 0, none⟩) hbs).trans cs
  have kv : W.cell? ⟨bv, 0, none⟩ = some (.int .i64 0) := (hW.cell (p := ⟨bv, 0, none⟩) hbv).trans cv
  have gs : W.frozen? ⟨bs, 0, none⟩ = false := (hW.frozen (p := ⟨bs, 0, none⟩) hbs).trans fs
  have hM := Lib.hid (hm.below hW)
  have dl : ((sep.length : Int) == 0) = false := beq_no (by have := List.length_pos_iff.2 hsep; omega)
  clear hY hJ cp cs cv fs hW hm
  refine callsIn_of_wp Tryz.func121 rfl trivial ?_ rfl
  simp only [Tryz.ntmps121, List.size_toArray, List.length_cons, List.length_nil, Nat.reduceAdd, Nat.reduceSub, Array.replicate_succ, Array.replicate_zero, List.push_toArray, List.append_toArray, List.nil_append, List.cons_append]
  have KS := Lib.hid ks
  gi_wp2
  gi_loopw [7, 8] (fun _ _ wr => ∃ (pre : List (List UInt8)) (rest : List UInt8), Hid (Lib.split s sep = pre ++ Lib.split rest sep) ∧ rest.length ≤ s.length ∧ Hid (J pre wr) ∧ Hid (MaxW wr) ∧ Hid (wr.cell? ⟨bp, 0, none⟩ = some (.string ⟨sep.toArray⟩)) ∧ Hid (wr.cell? ⟨bs, 0, none⟩ = some (.string ⟨rest.toArray⟩)) ∧ Hid (wr.cell? ⟨bv, 0, none⟩ = some (.int .i64 0)) ∧ Hid (wr.frozen? ⟨bs, 0, none⟩ = false)) (fun _ _ wr => leftS bs wr)
  case atStart => exact ⟨[], s, Lib.hid rfl, Nat.le_refl _, Lib.hid hJ0, hM, Lib.hid kp, KS, Lib.hid kv, Lib.hid gs⟩
  case round =>
    obtain ⟨pre, rest, HL, hrl, HJ0, HM, HP, HS, HV, HF⟩ := hrel
    clear kp ks kv gs hM KS hJ0
    have kp := HP.out
    have ks := HS.out
    have kv := HV.out
    have gs := HF.out
    obtain ⟨m, hm⟩ := HM.out
    have CI := Lib.hid fun wx hm => Tryz.strings_Index ⟨rest.toArray⟩ ⟨sep.toArray⟩ m wx (by rw [size_mkl]; omega) hm
    have HLf := Lib.hid (leftS_eq ks)
    by_cases hi : Lib.index rest sep < 0
    · have HE := Lib.hid (show Lib.split s sep = pre ++ [rest] by rw [HL.out, Spl.split_miss (by have := Lib.index_ge rest sep; omega)])
      obtain ⟨fn, tmps, assign, body, hy, hR⟩ := HY.out pre rest wr HJ0.out (by rw [HE.out]; exact List.prefix_refl _)
      have HX := Lib.hid (show Lib.index (⟨rest.toArray⟩ : ByteArray).data.toList (⟨sep.toArray⟩ : ByteArray).data.toList = -1 from by have := Lib.index_ge rest sep; show Lib.index rest sep = -1; omega)
      rw [HX.out] at CI
      have HJE := Lib.hid (show pre ++ [rest] = Lib.split s sep from HE.out.symm)
      clear hi HL HLf
      gi_wp2_with (refine ⟨trivial, ?_⟩; gi_at_call 122; refine (callsIn_wide.2 (CI.out _ hm)).mono ?_; rintro e w' ⟨rfl, rfl⟩)
      refine hR.mono ?_
      rintro e W3 ⟨rfl, hJ3, hk3⟩
      gi_wp2
      go_end0
      exact ⟨⟨_, rfl⟩, by rw [← HJE.out]; exact hJ3⟩
    · obtain ⟨i, hi'⟩ : ∃ i : Nat, Lib.index rest sep = i := ⟨(Lib.index rest sep).toNat, by omega⟩
      have room := Lib.index_room rest sep (by omega)
      have HE := Lib.hid (show Lib.split s sep = (pre ++ [rest.take i]) ++ Lib.split (rest.drop (i + sep.length)) sep by rw [HL.out, Spl.split_hit hsep hi']; simp)
      have HX := Lib.hid (show Lib.index (⟨rest.toArray⟩ : ByteArray).data.toList (⟨sep.toArray⟩ : ByteArray).data.toList = (i : Int) from hi')
      rw [HX.out] at CI
      obtain ⟨fn, tmps, assign, body, hy, hR⟩ := HY.out pre (rest.take i) wr HJ0.out (by rw [HE.out]; exact List.prefix_append _ _)
      have hsl : 1 ≤ sep.length := List.length_pos_iff.2 hsep
      have S1 := fun w => slice_to (P := Tryz.prog) 9 Tryz.underlying9 rest .i64 i (by omega) w
      have S2 : ∀ w, (Instr.slice 9 (.string ⟨rest.toArray⟩) (some (.int .i64 ((i : Int) + (sep.length : Int)))) none none).run Tryz.prog w = .ok (.string ⟨(rest.drop (i + sep.length)).toArray⟩) w := fun w => slice_from (P := Tryz.prog) 9 Tryz.underlying9 rest .i64 (i + sep.length) (by omega) w
      have room' : (i : Int) + (sep.length : Int) ≤ (rest.length : Int) := by omega
      have hlen : (rest.drop (i + sep.length)).length < rest.length := by rw [List.length_drop]; omega
      clear hi hi' HL room
      generalize rest.drop (i + sep.length) = R2 at *
      generalize rest.take i = R1 at *
      gi_wp2_with (refine ⟨trivial, ?_⟩; gi_at_call 122; refine (callsIn_wide.2 (CI.out _ hm)).mono ?_; rintro e w' ⟨rfl, rfl⟩)
      refine hR.mono ?_
      rintro e W3 ⟨rfl, hJ3, hk3⟩
      have kp3 : W3.cell? ⟨bp, 0, none⟩ = some (.string ⟨sep.toArray⟩) := (World.cell?_of_block hk3.p).trans kp
      have ks3 : W3.cell? ⟨bs, 0, none⟩ = some (.string ⟨rest.toArray⟩) := (World.cell?_of_block hk3.s).trans ks
      have kv3 : W3.cell? ⟨bv, 0, none⟩ = some (.int .i64 0) := (World.cell?_of_block hk3.v).trans kv
      have gs3 : W3.frozen? ⟨bs, 0, none⟩ = false := (World.frozen?_of_block hk3.s).trans gs
      have HM3 := Lib.hid (max_low hg HM.out hk3.low)
      have HJ3 := Lib.hid hJ3
      clear kp ks kv gs hm hJ3 HJ0 HM HP HS HV HF CI hk3
      gi_wp2
      go_roundw
      case rel =>
        refine ⟨pre ++ [R1], R2, HE, by omega, Lib.hid (HJ.out _ _ _ HJ3.out (grownBy_setCell' W3 bs _)), Lib.hid ?_, Lib.hid ?_, Lib.hid (World.cell?_setCell_same _ _ _ ks3), Lib.hid ?_, Lib.hid (by rw [World.frozen?_setCell]; exact gs3)⟩
        · obtain ⟨m, hm⟩ := HM3.out
          exact ⟨m, by rw [World.cell?_setCell_other _ _ _ _ (fun e => by injection e with e; omega)]; exact hm⟩
        · rw [World.cell?_setCell_other _ _ _ _ (fun e => hps (by injection e with e; exact e.symm))]; exact kp3
        · rw [World.cell?_setCell_other _ _ _ _ (fun e => hvs (by injection e with e; exact e.symm))]; exact kv3
      case measure =>
        rw [HLf.out, leftS_eq (x := R2) (World.cell?_setCell_same _ _ _ ks3)]
        exact hlen

set_option maxHeartbeats 1000000 in
/-- strings.SplitSeq: the text, the separator and what it keeps of that are boxed; the function value captures the boxes -/
theorem splitseq_any (s sep : List UInt8) (w : World) :
    Calls Tryz.prog 98 #[.string ⟨s.toArray⟩, .string ⟨sep.toArray⟩] w fun e w' => e = .returned (.func (.func 121) #[] #[.pointer (some ⟨w.heap.size + 1, 0, none⟩), .pointer (some ⟨w.heap.size, 0, none⟩), .pointer (some ⟨w.heap.size + 2, 0, none⟩)]) ∧
      w' = ((w.alloc (.cells #[.string ⟨s.toArray⟩] 9)).alloc (.cells #[.string ⟨sep.toArray⟩] 9)).alloc (.cells #[.int .i64 0] 3) := by
  go_enter Tryz.func98, Tryz.ntmps98
  go_wp2
  go_ret
  exact ⟨rfl, rfl⟩
end Go.Proofs.YtainindkndjkbaaGreatDoor
namespace Go.Proofs.YtainindkndjkbaaGreatDoor
open Go

variable {P : Program} {ops : Array Oper} {Q : Exit → Act → World → Prop} {md : Region.Mode}

theorem upon_round {l n : Nat} {o : Oper} {a : Act} {K : Act → World → Prop} (r : Result Next) (h : o.upon P a K Q r) : o.uponIn (Fence.wide.inRound l) n P a K Q r := by
  match r, h with
  | .ok (.value _) _, h => exact h
  | .ok .skip _, h => exact h
  | .ok (.defer _) _, h => exact h
  | .ok (.enter _ _) _, h =>
    refine ⟨(fun g => by cases g), CallsIn.inRound l (callsIn_wide.2 ?_)⟩
    exact h
  | .ok (.row _ _) _, h =>
    refine ⟨(fun g => by cases g), fun c cs _ => ?_⟩
    obtain ⟨v, w', hv, hs⟩ := h c cs
    exact ⟨v, w', hv, stepsIn_wide.2 hs⟩
  | .halt (.panic _) _, h => exact h
theorem oper_round {l n : Nat} {o : Oper} {a : Act} {w : World} {K : Act → World → Prop} (hd : ∀ c, o.op ≠ .defer c) (h : o.wp P a w K Q) : o.wpIn (Fence.wide.inRound l) n P a w K Q := by
  refine ⟨fun _ _ => trivial, ?_⟩
  show o.uponIn _ n P a K Q ((Oper.semAt (some l) a.eval o).run P w)
  rw [Oper.semAt_some l _ o hd]
  exact upon_round _ h
theorem any_round {l n : Nat} (hQ : ∀ a w, ¬ Q .outgrown a w) (hd : ∀ (i : Nat) (o : Oper), ops[i]? = some o → ∀ c, o.op ≠ .defer c) : ∀ (fuel : Nat) (listed : Array Bool) (a : Act) (w : World), wpAny P md ops Q fuel listed a w → wpAnyIn (Fence.wide.inRound l) n P md ops Q fuel listed a w
  | 0, _, _, _, h => h
  | fuel + 1, listed, a, w, h => ⟨h.1, fun i hi => by
      have g := h.2 i hi
      unfold wpOp at g
      unfold wpOpIn
      split
      · rename_i ho
        simp only [ho] at g
        exact any_round hQ hd fuel _ _ _ g
      · rename_i o ho
        simp only [ho] at g
        split
        · rename_i hw
          simp only [hw, if_true] at g
          rcases g with g | ⟨_, a', w', g⟩
          · exact Oper.wpIn_mono (fun a w h => any_round hQ hd fuel _ a w h) (oper_round (hd i o ho) g)
          · exact absurd g (hQ a' w')
        · rename_i hw
          simp only [hw] at g
          exact ⟨fun _ _ => trivial, any_round hQ hd fuel _ _ _ g⟩⟩
/-- is nothing in a list of operations deferred? -/
def calm (l : List Oper) : Bool := l.all fun o => match o.op with | .defer _ => false | _ => true
theorem calm_spec {l : List Oper} (h : calm l = true) : ∀ (i : Nat) (o : Oper), l.toArray[i]? = some o → ∀ c, o.op ≠ .defer c := fun i o ho c e => by
  have := List.all_eq_true.1 h o (List.mem_of_getElem? (by simpa using ho))
  rw [e] at this
  simp at this
/-- the beginning of a region in a round -/
theorem region_round {S : World → Prop} {l : List Oper} {l₀ n id : Nat} {a : Act} {w : World} (hm : P.follows .mixedOrders = true) (hc : calm l = true) (hQ : ∀ a w, ¬ Q .outgrown a w) (hS : S w.drew)
    (h : S w.drew → wpAnyH P .any l.toArray Q S l.toArray.size (Array.replicate l.toArray.size false) a w.drew) : (Code.region id l.toArray true).wpIn (Fence.wide.inRound l₀) n P Q a w :=
  wpIn_region_any hm (any_round hQ (calm_spec hc) _ _ _ _ (wpAny_of_held _ _ _ _ (h hS)))
end Go.Proofs.YtainindkndjkbaaGreatDoor
namespace Go.Proofs.YtainindkndjkbaaGreatDoor
open Go.RowKit Go.Shelf

theorem scut_any (t s : List UInt8) (w : World) (hM : MaxW w) (ht : t.length ≤ 4000000000) :
    Calls Tryz.prog 109 #[.string ⟨t.toArray⟩, .string ⟨s.toArray⟩] w fun e w' => e = .returned (.tuple #[.string ⟨(Lib.cut t s).1.toArray⟩, .string ⟨(Lib.cut t s).2.1.toArray⟩, .bool (Lib.cut t s).2.2]) ∧ Below w.heap.size w w' := by
  obtain ⟨m, hm⟩ := hM
  refine (Tryz.strings_Cut ⟨t.toArray⟩ ⟨s.toArray⟩ m w (by rw [size_mkl]; omega) hm).mono ?_
  rintro e w' ⟨rfl, n, rfl⟩
  exact ⟨rfl, blw_drewN (Below.refl _ _) n⟩
theorem cut_lens (t s : List UInt8) : (Lib.cut t s).1.length ≤ t.length ∧ (Lib.cut t s).2.1.length ≤ t.length := by
  unfold Lib.cut
  split
  · simp only [List.length_take, List.length_drop]; omega
  · simp

attribute [local go_sem] Oper.semAt_some

theorem infoRng : (Tryz.prog.info? 141).map (fun i => (i.zero, i.size, i.bytes)) = some (some (.agg #[.int .i64 0, .int .i64 0]), 2, 16) := by kernel_rfl
theorem piece_len (sub : List UInt8) : ∀ (k : Nat) (s x : List UInt8), x ∈ Lib.splitK sub 0 k s → x.length ≤ s.length := by
  intro k
  induction k with
  | zero => intro s x hx; simp [Lib.splitK] at hx; rw [hx]; omega
  | succ k ih =>
    intro s x hx
    unfold Lib.splitK at hx
    split at hx
    · simp at hx; rw [hx]; omega
    · rcases List.mem_cons.1 hx with rfl | hx
      · simp; omega
      · have := ih _ x hx
        simp at this; omega
theorem piece_le {s sub x : List UInt8} (hx : x ∈ Lib.split s sub) : x.length ≤ s.length := piece_len sub _ s x hx
theorem set_else {w : World} {a : Addr} {v : Value} {k : Nat} (h : a.block ≠ k) : (w.setCell a v).heap[k]? = w.heap[k]? :=
  Below.heap_setCell _ _ _ k (by first | exact h | exact h.symm)
/-- the cells of ranges -/
def rflat (l : List (List UInt8)) : List Value := l.flatMap fun x => [.int .i64 (Rul.rngP x).1, .int .i64 (Rul.rngP x).2]
theorem rflat_at {l : List (List UInt8)} : ∀ {j : Nat} {x : List UInt8}, l[j]? = some x → (rflat l)[j * 2]? = some (.int .i64 (Rul.rngP x).1) ∧ (rflat l)[j * 2 + 1]? = some (.int .i64 (Rul.rngP x).2) := by
  induction l with
  | nil => intro j x h; simp at h
  | cons a l ih =>
    intro j x h
    cases j with
    | zero => simp at h; subst h; exact ⟨rfl, rfl⟩
    | succ j =>
      have h' := ih (by simpa using h)
      have e : (j + 1) * 2 = j * 2 + 1 + 1 := by omega
      rw [e]
      exact h'
/-- the round's world: the box of the relation, the row of its ranges -/
structure PX (w : World) (B p : Nat) (o m b vb vr : Value) (pre : List (List UInt8)) (W : World) : Prop where
  box : Boxed W p #[o, m, b, vb]
  row : W.ownsRow B 141 2 vr pre.length (rflat pre)
  res : Boxed W w.heap.size #[.int .u8 0, .int .i64 0, .bool false, .slice none 0 0]
  low : Below w.heap.size w W
  sz : B ≤ W.heap.size
theorem boxed_grown {A C : World} {r : Option Nat} {p : Nat} {vs : Array Value} (h : Boxed A p vs) (g : A.grownBy C r) (hr : some p ≠ r) : Boxed C p vs :=
  ⟨Nat.lt_of_lt_of_le h.lt g.size, fun j v hv => g.cell (h.cell j v hv) hr, fun j hj => (World.frozen?_of_block (g.block p h.lt hr)).trans (h.free j hj)⟩
theorem PX.grown {w : World} {B p : Nat} {o m b vb vr : Value} {pre : List (List UInt8)} {A C : World} {r : Option Nat} (h : PX w B p o m b vb vr pre A) (g : A.grownBy C r)
    (hr : ∀ k, r = some k → w.heap.size < k ∧ k ≠ p ∧ vr.ownBlock ≠ some k) : PX w B p o m b vb vr pre C :=
  ⟨boxed_grown h.box g (fun e => (hr _ e.symm).2.1 rfl), h.row.kept g (by
      cases hv : vr.ownBlock with
      | none => exact .inl rfl
      | some k => exact .inr fun e => (hr k e.symm).2.2 hv), boxed_grown h.res g (fun e => by have := (hr _ e.symm).1; omega),
    h.low.grown g h.low.size (fun k hk => by have := (hr k hk).1; omega), Nat.le_trans h.sz g.size⟩

theorem PX.lies {w : World} {B p : Nat} {o m b vb vr : Value} {pre : List (List UInt8)} {A C : World} (h : PX w B p o m b vb vr pre A)
    (hC : ∀ (g : Nat) cur e, B ≤ g → A.heap[g]? = some (.cells cur e (0, 0)) → C.heap[g]? = A.heap[g]?) : SlAt 2 RngC C vr (pre.map Rul.rngP) := by
  rcases hv : h.row.2 with ⟨rfl, hn⟩ | ⟨g, cap, cur, rfl, hB, hg, hc, hm, _⟩
  · exact .inl ⟨by rw [List.length_eq_zero_iff.1 hn]; rfl, _, _, rfl⟩
  · by_cases h0 : pre.length = 0
    · exact .inl ⟨by rw [List.length_eq_zero_iff.1 h0]; rfl, some ⟨g, 0, none⟩, cap, by rw [h0]⟩
    · have hgC := hC g cur _ hB hg
      refine .inr ⟨g, 0, cap, by rw [List.length_map], by rw [List.length_map]; omega, by rw [List.length_map]; exact hc, hm, fun j x hx => ?_⟩
      rw [List.getElem?_map] at hx
      obtain ⟨y, hy, rfl⟩ := Option.map_eq_some_iff.1 hx
      have hj : j < pre.length := (List.getElem?_eq_some_iff.1 hy).1
      obtain ⟨e0, e1⟩ := rflat_at hy
      have c0 := h.row.cellAt (g := g) (j * 2) (by omega)
      have c1 := h.row.cellAt (g := g) (j * 2 + 1) (by omega)
      rw [e0] at c0
      rw [e1] at c1
      rw [Nat.zero_add]
      exact ⟨(World.cell?_of_block (a := ⟨g, j * 2, none⟩) hgC).trans c0, (World.cell?_of_block (a := ⟨g, j * 2 + 1, none⟩) hgC).trans c1⟩

theorem row_some {w : World} {base n k : Nat} {e : TypeId} {v : Value} {xs : List Value} (h : w.ownsRow base e k v n xs) (hn : 0 < n) : ∃ g cap, v = .slice (some ⟨g, 0, none⟩) n cap := by
  obtain ⟨_, ⟨rfl, rfl⟩ | ⟨g, cap, cur, rfl, _⟩⟩ := h
  · omega
  · exact ⟨_, _, rfl⟩
theorem boxed_add {W : World} {q : Nat} {l : List Value} (h : Boxed W q l.toArray) : ∀ j u, l[j]? = some u → W.cell? ((⟨q, 0, none⟩ : Addr).add j) = some u := by
  intro j u hj
  have c := h.cell j u (by simpa using hj)
  cases j with
  | zero => simpa [Addr.add] using c
  | succ j => simpa [Addr.add] using c
/-- number i or number j may come up -/
theorem take_two {P : Program} {l : List Oper} {Q : Exit → Act → World → Prop} {md : Region.Mode} {S : World → Prop} {oi oj : Oper} {fuel : Nat} {listed : Array Bool} {a : Act} {w : World} (i j : Nat) (hi : l[i]? = some oi) (hj : l[j]? = some oj) (hr : Region.ready md l.toArray listed = [i, j])
    (hwi : Region.wanted oi (yielded l.toArray a.tmps) = true) (hwj : Region.wanted oj (yielded l.toArray a.tmps) = true)
    (h1 : ∀ K' : Act → World → Prop, Shut (∀ a w, S w → (S w → wpAnyH P md l.toArray Q S fuel (listed.setIfInBounds i true) a w) → K' a w) → Oper.wp P oi a w K' Q)
    (h2 : ∀ K' : Act → World → Prop, Shut (∀ a w, S w → (S w → wpAnyH P md l.toArray Q S fuel (listed.setIfInBounds j true) a w) → K' a w) → Oper.wp P oj a w K' Q) : wpAnyH P md l.toArray Q S (fuel + 1) listed a w :=
  wpAnyH_ready hr (by simp) (AllReadyH.cons (by simpa using hi) (fun K' hK => by rw [if_pos hwi]; exact h1 K' hK) (AllReadyH.cons (by simpa using hj) (fun K' hK => by rw [if_pos hwj]; exact h2 K' hK) AllReadyH.nil))
/-- the round's world, and what the round keeps of its start -/
structure PL (w : World) (B p bp bs bv : Nat) (o m b vb vr : Value) (pre : List (List UInt8)) (W0 W : World) : Prop where
  px : PX w B p o m b vb vr pre W
  kf : KeepsFrom B W0 W
  kp : KpS w.heap.size bp bs bv W0 W
theorem PL.start {w : World} {B p bp bs bv : Nat} {o m b vb vr : Value} {pre : List (List UInt8)} {W : World} (h : PX w B p o m b vb vr pre W) : PL w B p bp bs bv o m b vb vr pre W W :=
  ⟨h, KeepsFrom.refl _ _, ⟨Below.refl _ _, rfl, rfl, rfl⟩⟩
theorem PL.below {w : World} {B p bp bs bv : Nat} {o m b vb vr : Value} {pre : List (List UInt8)} {W0 A C : World} (h : PL w B p bp bs bv o m b vb vr pre W0 A) (hb : Below A.heap.size A C)
    (h1 : bp < B ∧ bs < B ∧ bv < B) : PL w B p bp bs bv o m b vb vr pre W0 C :=
  have s := h.px.sz
  have g : A.grownBy C none := ⟨hb.os, hb.tape, hb.output, hb.size, fun k hk _ => hb.block k hk⟩
  ⟨h.px.grown g (fun k e => by cases e), h.kf.trans (KeepsFrom.of_grownBy g (fun j e => by cases e)),
    h.kp.trans ⟨hb.mono h.px.low.size, hb.block _ (by omega), hb.block _ (by omega), hb.block _ (by omega)⟩⟩
theorem PL.append {w : World} {B p bp bs bv : Nat} {o m b vb vr v' : Value} {pre : List (List UInt8)} {x : List UInt8} {W0 A C : World} (h : PL w B p bp bs bv o m b vb vr pre W0 A)
    (hown : C.ownsRow B 141 2 v' (pre.length + 1) (rflat pre ++ [.int .i64 (Rul.rngP x).1, .int .i64 (Rul.rngP x).2])) (g : A.grownBy C vr.ownBlock) (hw : w.heap.size < B) (hp : p < B)
    (h1 : bp < B ∧ bs < B ∧ bv < B) : PL w B p bp bs bv o m b vb v' (pre ++ [x]) W0 C := by
  have hB : ∀ k, vr.ownBlock = some k → B ≤ k := fun k hk => (h.px.row.lt k hk).1
  have s := h.px.sz
  have keep : ∀ k, k < B → C.heap[k]? = A.heap[k]? := fun k hk => g.block k (by omega) (fun e => by have := hB k e.symm; omega)
  refine ⟨⟨boxed_grown h.px.box g (fun e => by have := hB _ e.symm; omega), ?_, boxed_grown h.px.res g (fun e => by have := hB _ e.symm; omega),
    h.px.low.grown g h.px.low.size (fun k hk => by have := hB _ hk; omega), Nat.le_trans h.px.sz g.size⟩, h.kf.trans ⟨g.size, fun k ob hk hA hc => ?_⟩,
    h.kp.trans ⟨⟨g.os, g.tape, g.output, g.size, fun k hk => keep k (by omega)⟩, keep _ h1.1, keep _ h1.2.1, keep _ h1.2.2⟩⟩
  · have e : rflat (pre ++ [x]) = rflat pre ++ [.int .i64 (Rul.rngP x).1, .int .i64 (Rul.rngP x).2] := by unfold rflat; rw [List.flatMap_append]; rfl
    rw [e, List.length_append]
    exact hown
  · refine (g.block k (Array.getElem?_eq_some_iff.1 hA).1 (fun e => ?_)).trans hA
    rcases h.px.row.2 with ⟨rfl, _⟩ | ⟨g', cap, cur, rfl, _, hg', _⟩
    · cases e
    · injection e with e
      subst e
      rw [hA] at hg'
      injection hg' with hg'
      subst hg'
      cases hc
theorem PL.stored {w : World} {B p bp bs bv : Nat} {o m b vb vr : Value} {pre : List (List UInt8)} {W0 A : World} (h : PL w B p bp bs bv o m b vb vr pre W0 A) (hw : w.heap.size < p) (hp : p < B)
    (hne : p ≠ bp ∧ p ≠ bs ∧ p ≠ bv) : PL w B p bp bs bv o m b vr vr pre W0 (A.setCell ⟨p, 3, none⟩ vr) := by
  have g : A.grownBy (A.setCell ⟨p, 3, none⟩ vr) (some p) := ⟨rfl, rfl, rfl, by rw [size_setCell]; exact Nat.le_refl _, fun k _ hk => set_else (fun e => hk (by rw [← e]))⟩
  have keep : ∀ k, p ≠ k → (A.setCell ⟨p, 3, none⟩ vr).heap[k]? = A.heap[k]? := fun k hk => set_else hk
  refine ⟨⟨h.px.box.set 3 vr (by show 3 < 4; omega), h.px.row.kept g ?_, h.px.res.far (by omega) 3 vr, h.px.low.setCell (p := ⟨p, 3, none⟩) (show w.heap.size ≤ p by omega) vr, by rw [size_setCell]; exact h.px.sz⟩,
    h.kf.trans (KeepsFrom.of_grownBy g (fun j e => by injection e with e; omega)),
    h.kp.trans ⟨(Below.refl _ _).setCell (p := ⟨p, 3, none⟩) (show w.heap.size ≤ p by omega) vr, keep _ hne.1, keep _ hne.2.1, keep _ hne.2.2⟩⟩
  cases hv : vr.ownBlock with
  | none => exact .inl rfl
  | some k => exact .inr fun e => by have := h.px.row.lt k hv; injection e with e; omega

set_option maxRecDepth 100000 in
set_option maxHeartbeats 8000000 in
theorem parsed_any (t : List UInt8) (w : World) (hM : MaxW w) (hN : NumW w) (ht : t.length ≤ 4000000000) :
    Calls Tryz.prog 99 #[.string ⟨t.toArray⟩] w fun e w' => ∃ v, e = .returned (.agg #[.int .u8 ((Rul.relP t).op.toNat : Int), .int .i64 (Rul.relP t).mod, .bool (Rul.relP t).no, v]) ∧ SlAt 2 RngC w' v (Rul.relP t).rs ∧ (∀ b, v.ownBlock = some b → w.heap.size ≤ b) ∧ Below w.heap.size w w' := by
  have C1 := Lib.hid fun w hM => scut_any t [32, 61, 32] w hM ht
  have C2 := Lib.hid fun w hM => scut_any t [32, 33, 61, 32] w hM ht
  have l1 := cut_lens t Rul.eqS
  have l2 := cut_lens t Rul.neS
  obtain ⟨hh, hhh⟩ : ∃ hh, hh = (Rul.hd t).1 := ⟨_, rfl⟩
  obtain ⟨tl, htl⟩ : ∃ tl, tl = (Rul.hd t).2 := ⟨_, rfl⟩
  have eop : (Rul.relP t).op = Rul.opP (Lib.cut hh Rul.pcS).1 := by rw [hhh]; rfl
  have emd : (Rul.relP t).mod = if (Lib.cut hh Rul.pcS).2.2 then Rul.num (Lib.cut hh Rul.pcS).2.1 else 0 := by rw [hhh]; rfl
  have eno : (Rul.relP t).no = !(Lib.cut t Rul.eqS).2.2 := rfl
  have ers : (Rul.relP t).rs = (Lib.split tl [44]).map Rul.rngP := by rw [htl]; rfl
  have lh : hh.length ≤ t.length ∧ tl.length ≤ t.length := by
    rw [hhh, htl]; unfold Rul.hd; split
    · exact l1
    · exact l2
  unfold Rul.hd at hhh htl
  have C3 := Lib.hid fun w hM => scut_any hh [32, 37, 32] w hM (by omega)
  have l3 := cut_lens hh Rul.pcS
  rw [eop, emd, eno, ers]
  clear eop emd eno ers
  generalize hR : (Lib.split tl [44]).map Rul.rngP = RS
  change Hid (∀ w, MaxW w → Calls Tryz.prog 109 #[.string ⟨hh.toArray⟩, .string ⟨#[32, 37, 32]⟩] w fun e w' => e = .returned (.tuple #[.string ⟨(Lib.cut hh Rul.pcS).1.toArray⟩, .string ⟨(Lib.cut hh Rul.pcS).2.1.toArray⟩, .bool (Lib.cut hh Rul.pcS).2.2]) ∧ Below w.heap.size w w') at C3
  change Hid (∀ w, MaxW w → Calls Tryz.prog 109 #[.string ⟨t.toArray⟩, .string ⟨#[32, 61, 32]⟩] w fun e w' => e = .returned (.tuple #[.string ⟨(Lib.cut t Rul.eqS).1.toArray⟩, .string ⟨(Lib.cut t Rul.eqS).2.1.toArray⟩, .bool (Lib.cut t Rul.eqS).2.2]) ∧ Below w.heap.size w w') at C1
  change Hid (∀ w, MaxW w → Calls Tryz.prog 109 #[.string ⟨t.toArray⟩, .string ⟨#[32, 33, 61, 32]⟩] w fun e w' => e = .returned (.tuple #[.string ⟨(Lib.cut t Rul.neS).1.toArray⟩, .string ⟨(Lib.cut t Rul.neS).2.1.toArray⟩, .bool (Lib.cut t Rul.neS).2.2]) ∧ Below w.heap.size w w') at C2
  generalize Lib.cut t Rul.eqS = c1 at *
  generalize Lib.cut t Rul.neS = c2 at *
  generalize Lib.cut hh Rul.pcS = c3 at *
  obtain ⟨a1, b1, f1⟩ := c1
  obtain ⟨a2, b2, f2⟩ := c2
  obtain ⟨nm, md, f3⟩ := c3
  dsimp only at *
  have CN := Lib.hid fun w hN => number_any md w hN (by omega)
  generalize Rul.num md = MD at *
  obtain ⟨MO, hMO⟩ : ∃ MO, (if f3 = true then MD else 0) = MO := ⟨_, rfl⟩
  obtain ⟨OP, hOP⟩ : ∃ OP, ((Rul.opP nm).toNat : Int) = OP := ⟨_, rfl⟩
  obtain ⟨NO, hNO⟩ : ∃ NO, (!f1) = NO := ⟨_, rfl⟩
  rw [hMO, hOP, hNO]
  have HMO := Lib.hid hMO
  have HOP := Lib.hid hOP
  have HNO := Lib.hid hNO
  clear hMO hOP hNO
  have HT := Lib.hid (show (if f1 = true then (a1, b1) else (a2, b2)) = (hh, tl) by rw [hhh, htl])
  clear hhh htl
  refine (callsIn_wide (n := 10)).1 ?_
  refine callsIn_of_wp_marks Tryz.func99 rfl trivial ?_ rfl
  refine wpIn_wide.2 ?_
  simp only [Tryz.ntmps99, List.size_toArray, List.length_cons, List.length_nil, Nat.reduceAdd, Nat.reduceSub, Array.replicate_succ, Array.replicate_zero, List.push_toArray, List.append_toArray, List.nil_append, List.cons_append]
  go_wp2_with fail
  refine (C1.out _ (hM.alloc _)).mono ?_
  rintro e w1 ⟨rfl, hb⟩
  have M1 := (hM.alloc _).below hb
  have W1 := Lib.hid (blw_trans (blw_alloc w _) hb)
  have B1 := Lib.hid ((Boxed.made w _ _).below hb)
  have hwl := W1.out.size
  have hMw := Lib.hid hM
  have hNw := Lib.hid hN
  clear hb hM hN C1
  have ne : w1.heap.size ≠ w.heap.size := by have := B1.out.lt; omega
  go_upto_if 21 with fail
  go_cut [3, 4] from 14 to 46 (fun v3 v4 wx => v3 = .string ⟨hh.toArray⟩ ∧ v4 = .string ⟨tl.toArray⟩ ∧ Hid (Boxed wx w1.heap.size #[.int .u8 0, .int .i64 0, .bool NO, .slice none 0 0]) ∧ Hid (Boxed wx w.heap.size #[.int .u8 0, .int .i64 0, .bool false, .slice none 0 0]) ∧ Hid (Below w.heap.size w wx))
  case first =>
    have M2 := M1.alloc (.cells #[.int .u8 0, .int .i64 0, .bool false, .slice none 0 0] 108)
    have W2 := Lib.hid (blw_trans W1.out (blw_alloc w1 (.cells #[.int .u8 0, .int .i64 0, .bool false, .slice none 0 0] 108)))
    have B2 := Lib.hid (B1.out.alloc (.cells #[.int .u8 0, .int .i64 0, .bool false, .slice none 0 0] 108))
    have A2 := Lib.hid (Boxed.made w1 #[.int .u8 0, .int .i64 0, .bool false, .slice none 0 0] 108)
    cases f1 with
    | true =>
      obtain rfl : NO = false := HNO.out.symm
      obtain ⟨rfl, rfl⟩ := Prod.mk.inj ((if_pos rfl).symm.trans HT.out)
      go_wp2_with fail
      go_meet
      exact ⟨rfl, rfl, A2, B2, W2⟩
    | false =>
      obtain rfl : NO = true := HNO.out.symm
      obtain ⟨rfl, rfl⟩ := Prod.mk.inj ((if_neg (by decide)).symm.trans HT.out)
      go_wp2_with fail
      refine (C2.out _ M2).mono ?_
      rintro e w2 ⟨rfl, hb⟩
      have W3 := Lib.hid (blw_trans W2.out hb)
      have A3 := Lib.hid (A2.out.below hb)
      have B3 := Lib.hid (B2.out.below hb)
      have k2 := A3.out.cell 2 _ rfl
      have fz := A3.out.free
      have sz := A3.out.lt
      clear hb A2 B2 W2 B1 W1 C2 C3 CN
      go_wp2_with fail
      go_meet
      exact ⟨rfl, rfl, Lib.hid (A3.out.set 2 (.bool true) (by decide)), Lib.hid (B3.out.far ne 2 _), Lib.hid (W3.out.setCell (show w.heap.size ≤ w1.heap.size from hwl) _)⟩
  case rest =>
    obtain ⟨rfl, rfl, A4, B4, W4⟩ := hcut
    clear HT C2 M1 B1
    go_wp2_with fail
    refine (C3.out _ (hMw.out.below W4.out)).mono ?_
    rintro e w2 ⟨rfl, hb⟩
    have W5 := Lib.hid (blw_trans W4.out hb)
    have A5 := Lib.hid (A4.out.below hb)
    have B5 := Lib.hid (B4.out.below hb)
    clear hb C3 A4 B4 W4 W1
    have k0 := A5.out.cell 0 _ rfl
    have f0 := A5.out.free 0 (by show 0 < 4; omega)
    have hlt := A5.out.lt
    go_upto_if 37 with fail
    go_cut [] from 14 to 46 (fun wx => Hid (Boxed wx w1.heap.size #[.int .u8 OP, .int .i64 0, .bool NO, .slice none 0 0]) ∧ Hid (Boxed wx w.heap.size #[.int .u8 0, .int .i64 0, .bool false, .slice none 0 0]) ∧ Hid (Below w.heap.size w wx))
    case first =>
      by_cases hn : nm.length = 1
      · obtain ⟨c, rfl⟩ := List.length_eq_one_iff.1 hn
        have IX : ∀ w, (Instr.index 9 (.string ⟨[c].toArray⟩) (.int .i64 0)).run Tryz.prog w = .ok (.int .u8 (c.toNat : Int)) w := fun w => index_str (P := Tryz.prog) 9 Tryz.underlying9 [c] .i64 0 c rfl w
        have e1 : ((([c] : List UInt8).length : Int) == 1) = true := rfl
        have eo : Rul.opP [c] = c := rfl
        clear hn
        generalize [c] = nm at *
        go_wp2_with fail
        go_meet
        obtain rfl : OP = (c.toNat : Int) := by rw [← HOP.out, eo]
        exact ⟨Lib.hid (by exact A5.out.set 0 (.int .u8 (c.toNat : Int)) (by show 0 < 4; omega)), Lib.hid (B5.out.far ne 0 _), Lib.hid (W5.out.setCell (show w.heap.size ≤ w1.heap.size from hwl) _)⟩
      · have e1 : ((nm.length : Int) == 1) = false := beq_no (by omega)
        have eo : Rul.opP nm = 0 := by
          unfold Rul.opP
          split
          · simp at hn
          · rfl
        go_wp2_with fail
        go_meet
        obtain rfl : OP = 0 := by rw [← HOP.out, eo]; rfl
        exact ⟨A5, B5, W5⟩
    case rest =>
      obtain ⟨A6, B6, W6⟩ := hcut
      clear A5 B5 W5 k0 f0 hlt
      go_upto_if 41 with fail
      go_cut [] from 14 to 46 (fun wx => Hid (Boxed wx w1.heap.size #[.int .u8 OP, .int .i64 MO, .bool NO, .slice none 0 0]) ∧ Hid (Boxed wx w.heap.size #[.int .u8 0, .int .i64 0, .bool false, .slice none 0 0]) ∧ Hid (Below w.heap.size w wx))
      case first =>
        cases f3 with
        | false =>
          obtain rfl : MO = 0 := by simpa using HMO.out.symm
          go_wp2_with fail
          go_meet
          exact ⟨A6, B6, W6⟩
        | true =>
          obtain rfl : MO = MD := by simpa using HMO.out.symm
          go_wp2_with fail
          refine (CN.out _ (hNw.out.below W6.out)).mono ?_
          rintro e w3 ⟨rfl, hb⟩
          have W7 := Lib.hid (blw_trans W6.out hb)
          have A7 := Lib.hid (A6.out.below hb)
          have B7 := Lib.hid (B6.out.below hb)
          have k1 := A7.out.cell 1 _ rfl
          have f1 := A7.out.free 1 (by show 1 < 4; omega)
          have hlt := A7.out.lt
          clear hb A6 B6 W6 CN
          go_wp2_with fail
          go_meet
          exact ⟨Lib.hid (A7.out.set 1 (.int .i64 MO) (by show 1 < 4; omega)), Lib.hid (B7.out.far ne 1 _), Lib.hid (W7.out.setCell (show w.heap.size ≤ w1.heap.size from hwl) _)⟩
      case rest =>
        obtain ⟨A8, B8, W8⟩ := hcut
        clear A6 B6 W6 CN
        go_wp2_with fail
        refine (splitseq_any tl [44] _).mono ?_
        rintro e w2 ⟨rfl, rfl⟩
        go_wp2_with fail
        have hgM : 1 < w.heap.size := by
          obtain ⟨m, hm⟩ := hMw.out
          exact World.block_lt_of_cell? w _ hm
        obtain ⟨V, hV⟩ : ∃ V, ((wc.alloc (.cells #[.string ⟨tl.toArray⟩] 9)).alloc (.cells #[.string ⟨#[44]⟩] 9)).alloc (.cells #[.int .i64 0] 3) = V := ⟨_, rfl⟩
        have bS := Lib.hid (((Boxed.made wc #[.string ⟨tl.toArray⟩] 9).alloc (.cells #[.string ⟨#[44]⟩] 9)).alloc (.cells #[.int .i64 0] 3))
        have bP := Lib.hid ((Boxed.made (wc.alloc (.cells #[.string ⟨tl.toArray⟩] 9)) #[.string ⟨#[44]⟩] 9).alloc (.cells #[.int .i64 0] 3))
        have bV := Lib.hid (Boxed.made ((wc.alloc (.cells #[.string ⟨tl.toArray⟩] 9)).alloc (.cells #[.string ⟨#[44]⟩] 9)) #[.int .i64 0] 3)
        simp only [World.size_alloc] at bP bV
        have wV := Lib.hid (((blw_alloc wc (.cells #[.string ⟨tl.toArray⟩] 9)).alloc (by simp) (.cells #[.string ⟨#[44]⟩] 9)).alloc (by simp; omega) (.cells #[.int .i64 0] 3))
        have zV : V.heap.size = wc.heap.size + 3 := by rw [← hV]; simp
        rw [hV] at bS bP bV wV ⊢
        clear hV
        have W9 := Lib.hid (blw_trans W8.out wV.out)
        have A9 := Lib.hid (A8.out.below wV.out)
        have B9 := Lib.hid (B8.out.below wV.out)
        have l8 := W8.out.size
        have la := A8.out.lt
        have lb := B8.out.lt
        clear W8 A8 B8 wV
        refine (wpIn_wide (n := 10)).1 ?_
        refine wpIn_range_out1 (F := Fence.wide) (d := 10) (val := fun x : List UInt8 => Value.string ⟨x.toArray⟩) (n := 10) rfl (by omega) (gf := 121) (lb := #[.pointer (some ⟨wc.heap.size + 1, 0, none⟩), .pointer (some ⟨wc.heap.size, 0, none⟩), .pointer (some ⟨wc.heap.size + 2, 0, none⟩)]) rfl trivial (enters_of Tryz.func121 (by kernel_rfl) rfl)
          (split_iter tl [44] (wc.heap.size + 1) wc.heap.size (wc.heap.size + 2) w.heap.size 9 V (by omega) (by simp) (by omega) (by simp) hgM (by omega) (hMw.out.below W9.out) (by omega) (by omega) (by omega) (by omega) (by omega)
            (bP.out.cell 0 _ rfl) (bS.out.cell 0 _ rfl) (bV.out.cell 0 _ rfl) (bS.out.free 0 (by show 0 < 1; omega)))
          (by omega) KpS.trans (KpS.put (by omega) (by omega) (by omega) (by omega))
          (fun pre W => ∃ v, PX w V.heap.size w1.heap.size (.int .u8 OP) (.int .i64 MO) (.bool NO) v v pre W)
          (fun pre A C r hs g hr => by
            obtain ⟨v, hs⟩ := hs
            exact ⟨v, hs.grown g fun k hk => by
              obtain ⟨h1, o, h2, h3⟩ := hr k hk
              refine ⟨by omega, by omega, fun e => ?_⟩
              rcases hs.row.2 with ⟨rfl, _⟩ | ⟨g', cap, cur, rfl, _, hg', _⟩
              · cases e
              · injection e with e
                subst e
                rw [hg'] at h2
                injection h2 with h2
                subst h2
                cases h3⟩)
          (fun pre A C hs g => by
            obtain ⟨v, hs⟩ := hs
            exact ⟨v, hs.grown g fun k hk => by
              injection hk with hk
              subst hk
              refine ⟨by omega, by omega, fun e => ?_⟩
              have := hs.row.lt _ e
              omega⟩)
          ⟨.slice none 0 0, A9.out, ⟨rfl, .inl ⟨rfl, rfl⟩⟩, B9.out, W9.out, Nat.le_refl _⟩
          ?assign ?body ?done
        case assign =>
          intro l pre x W K hi hK
          gi_wp2
          exact hK _ (KeepsFrom.refl _ _) ⟨Below.refl _ _, rfl, rfl, rfl⟩ hi
        case done =>
          rintro D W hD ⟨v, hs⟩ hK
          obtain ⟨a, n, c, rfl⟩ : ∃ a n c, v = .slice a n c := by
            rcases hs.row.2 with ⟨rfl, _⟩ | ⟨g', cap, cur, rfl, _⟩
            · exact ⟨_, _, _, rfl⟩
            · exact ⟨_, _, _, rfl⟩
          have k0 := hs.box.cell 0 _ rfl
          have k1 := hs.box.cell 1 _ rfl
          have k2 := hs.box.cell 2 _ rfl
          have k3 := hs.box.cell 3 _ rfl
          have q0 := hs.res.free 0 (by show 0 < 4; omega)
          have q1 := hs.res.free 1 (by show 1 < 4; omega)
          have q2 := hs.res.free 2 (by show 2 < 4; omega)
          have q3 := hs.res.free 3 (by show 3 < 4; omega)
          have c0 := hs.res.cell 0 _ rfl
          have c1 := hs.res.cell 1 _ rfl
          have c2 := hs.res.cell 2 _ rfl
          have c3 := hs.res.cell 3 _ rfl
          have s0 := hs.res.lt
          have s1 := hs.box.lt
          have HS := Lib.hid hs
          clear hs
          go_wp2_with fail
          have HD := Lib.hid (show ((((W.setCell ⟨w.heap.size, 0, none⟩ (.int .u8 OP)).setCell ⟨w.heap.size, 1, none⟩ (.int .i64 MO)).setCell ⟨w.heap.size, 2, none⟩ (.bool NO)).setCell ⟨w.heap.size, 3, none⟩ (.slice a n c)).heap[D]? = some (.deferred (some [])) by
            rw [set_else (by show w.heap.size ≠ D; omega), set_else (by show w.heap.size ≠ D; omega), set_else (by show w.heap.size ≠ D; omega), set_else (by show w.heap.size ≠ D; omega)]
            exact hK)
          have BD := Lib.hid (boxed_grown ((((HS.out.res.set 0 (.int .u8 OP) (by show 0 < 4; omega)).set 1 (.int .i64 MO) (by show 1 < 4; omega)).set 2 (.bool NO) (by show 2 < 4; omega)).set 3 (.slice a n c) (by show 3 < 4; omega)) (grownBy_putObj' _ D (.deferred none)) (fun e => by injection e with e; omega))
          have WD := Lib.hid ((((HS.out.low.setCell (p := ⟨w.heap.size, 0, none⟩) (Nat.le_refl _) (.int .u8 OP)).setCell (p := ⟨w.heap.size, 1, none⟩) (Nat.le_refl _) (.int .i64 MO)).setCell (p := ⟨w.heap.size, 2, none⟩) (Nat.le_refl _) (.bool NO)).setCell (p := ⟨w.heap.size, 3, none⟩) (Nat.le_refl _) (.slice a n c))
          have SD := Lib.hid (PX.lies HS.out (C := ((((W.setCell ⟨w.heap.size, 0, none⟩ (.int .u8 OP)).setCell ⟨w.heap.size, 1, none⟩ (.int .i64 MO)).setCell ⟨w.heap.size, 2, none⟩ (.bool NO)).setCell ⟨w.heap.size, 3, none⟩ (.slice a n c)).putObj D (.deferred none)) (fun g cur e hg h => by
            have hgD : g ≠ D := fun e => by subst e; rw [hK] at h; cases h
            rw [World.putObj_heap_other hgD, set_else (by show w.heap.size ≠ g; omega), set_else (by show w.heap.size ≠ g; omega), set_else (by show w.heap.size ≠ g; omega), set_else (by show w.heap.size ≠ g; omega)]))
          refine ⟨by simp, .inl ⟨_, _, rfl, run_takeDeferred HD.out, ?_⟩⟩
          have y0 := BD.out.cell 0 _ rfl
          have y1 := BD.out.cell 1 _ rfl
          have y2 := BD.out.cell 2 _ rfl
          have y3 := BD.out.cell 3 _ rfl
          have WE := Lib.hid (WD.out.trans (belowK_b (w := w) (Nat.le_refl _) _ D _ (.deferred none) (by omega) HD.out rfl rfl))
          have FR : ∀ b, (Value.slice a n c).ownBlock = some b → w.heap.size ≤ b := fun b hb => by have := (HS.out.row.lt b hb).1; omega
          clear HD BD WD HS k0 k1 k2 k3 q0 q1 q2 q3 c0 c1 c2 c3
          generalize ((((W.setCell ⟨w.heap.size, 0, none⟩ (.int .u8 OP)).setCell ⟨w.heap.size, 1, none⟩ (.int .i64 MO)).setCell ⟨w.heap.size, 2, none⟩ (.bool NO)).setCell ⟨w.heap.size, 3, none⟩ (.slice a n c)).putObj D (.deferred none) = Z at *
          refine ⟨.agg #[.int .u8 OP, .int .i64 MO, .bool NO, .slice a n c], ?res, .slice a n c, rfl, ?_, FR, WE.out⟩
          case res => simp [results, Tryz.results99, go_sem, y0, y1, y2, y3]
          · rw [← hR]; exact SD.out
        case body =>
          rintro l pre x W hl ⟨r, hr⟩ ⟨v, hs⟩ hpre
          have hxl : x.length ≤ 4000000000 := by have := piece_le (hpre.subset (by simp) : x ∈ Lib.split tl [44]); omega
          have hpl : pre.length + 1 ≤ 4000000001 := by
            have h1 := hpre.length_le
            rw [Spl.split_len (by simp), Lib.count_one] at h1
            have h2 := List.count_le_length (a := (44 : UInt8)) (l := tl)
            simp at h1
            omega
          have CC := Lib.hid fun w hM => scut_any x [46, 46] w hM hxl
          have lc := cut_lens x [46, 46]
          have er : Rul.rngP x = (Rul.num (Lib.cut x [46, 46]).1, Rul.num (if (Lib.cut x [46, 46]).2.2 then (Lib.cut x [46, 46]).2.1 else (Lib.cut x [46, 46]).1)) := rfl
          generalize Lib.cut x [46, 46] = c at *
          obtain ⟨a, b, f⟩ := c
          dsimp only at *
          have HER := Lib.hid er
          have P0 := Lib.hid (PL.start (bp := wc.heap.size + 1) (bs := wc.heap.size) (bv := wc.heap.size + 2) hs)
          have hBs : wc.heap.size + 1 < V.heap.size ∧ wc.heap.size < V.heap.size ∧ wc.heap.size + 2 < V.heap.size := by omega
          clear er hs hpre A9 B9 W9 bS bP bV
          gi_upto_if 55 with (refine ⟨trivial, ?_⟩; gi_at_call 109; refine (CallsIn.inRound l (callsIn_wide.2 (CC.out _ (hMw.out.below P0.out.px.low)))).mono ?_; rintro e w2 ⟨rfl, hb⟩)
          have P1 := Lib.hid (P0.out.below hb hBs)
          clear hb CC P0
          have CN1 := Lib.hid fun w hN => number_any a w hN (by omega)
          have lz : (if f = true then b else a).length ≤ 4000000000 := by split <;> omega
          have CN2 := Lib.hid fun w hN => number_any (if f = true then b else a) w hN lz
          obtain ⟨z, hz⟩ : ∃ z, (if f = true then b else a) = z := ⟨_, rfl⟩
          rw [hz] at CN2
          replace HER := Lib.hid (show Rul.rngP x = (Rul.num a, Rul.num z) by rw [HER.out, hz])
          have HZ := Lib.hid hz
          generalize Rul.num z = N2 at CN2 HER
          generalize Rul.num a = N1 at CN1 HER
          clear hz lz
          have hwB : w.heap.size < V.heap.size := by omega
          have hpB : w1.heap.size < V.heap.size := by omega
          have hwp : w.heap.size < w1.heap.size := by omega
          have hne : w1.heap.size ≠ wc.heap.size + 1 ∧ w1.heap.size ≠ wc.heap.size ∧ w1.heap.size ≠ wc.heap.size + 2 := by omega
          gi_cut [12] from 48 (fun v wx => v = .string ⟨z.toArray⟩ ∧ wx = w2)
          case first =>
            cases f with
            | false =>
              obtain rfl : a = z := HZ.out
              gi_wp2
              gi_meet
              exact ⟨rfl, rfl⟩
            | true =>
              obtain rfl : b = z := HZ.out
              gi_wp2
              gi_meet
              exact ⟨rfl, rfl⟩
          case rest =>
            obtain ⟨rfl, rfl⟩ := hcut
            gi_wp2
            obtain ⟨iR, hiR, hR0, hR1, hR2⟩ := info_parts infoRng
            refine region_round (S := fun _ => True) (by kernel_rfl) (by kernel_rfl) (fun _ _ h => h) trivial (fun hHeld => ?_)
            have P := Lib.hid (P1.out.below (Below.drew (Below.refl _ _)) hBs)
            clear P1
            generalize World.drew _ = w3 at *
            refine take_run (d := some 57) (v := ?v11) 0 rfl rfl (by kernel_rfl) (by kernel_rfl) (by kernel_rfl) (fun _ _ _ h => h) (by rfl) hHeld ?hy11 ?rs11
            case hy11 => (intro w hSw; (try dsimp only at hSw); go_simp) <;> (try with_reducible rfl)
            (try simp only [Act.put, List.setIfInBounds_toArray, List.set_cons_zero, List.set_cons_succ])
            refine take_run (d := some 59) (v := ?v12) 2 rfl rfl (by kernel_rfl) (by kernel_rfl) (by kernel_rfl) (fun _ _ _ h => h) (by rfl) hHeld ?hy12 ?rs12
            case hy12 => (intro w hSw; (try dsimp only at hSw); go_simp) <;> (try with_reducible rfl)
            (try simp only [Act.put, List.setIfInBounds_toArray, List.set_cons_zero, List.set_cons_succ])
            refine take_run (d := some 61) (v := ?v13) 4 rfl rfl (by kernel_rfl) (by kernel_rfl) (by kernel_rfl) (fun _ _ _ h => h) (by rfl) hHeld ?hy13 ?rs13
            case hy13 => (intro w hSw; (try dsimp only at hSw); go_simp) <;> (try with_reducible rfl)
            (try simp only [Act.put, List.setIfInBounds_toArray, List.set_cons_zero, List.set_cons_succ])
            refine take_two 1 3 rfl rfl (by kernel_rfl) (by rfl) (by rfl) (fun K hK => ?_) (fun K hK => ?_)
            · have k3 := P.out.px.box.cell 3 _ rfl
              go_simp
              clear k3
              refine hK.out _ _ trivial (fun hHeld => ?_)
              clear hK K
              (try simp only [Act.put, List.setIfInBounds_toArray, List.set_cons_zero, List.set_cons_succ])
              refine take_call 3 rfl (by kernel_rfl) (by rfl) (fun K hK => ?_)
              go_simp
              refine (CN1.out _ (hNw.out.below P.out.px.low)).mono ?_
              rintro e w' ⟨rfl, hb⟩
              replace P := Lib.hid (P.out.below hb hBs)
              refine hK.out _ _ trivial (fun hHeld => ?_)
              clear hK K
              (try simp only [Act.put, List.setIfInBounds_toArray, List.set_cons_zero, List.set_cons_succ])
              clear hb
              refine take_call 5 rfl (by kernel_rfl) (by rfl) (fun K hK => ?_)
              go_simp
              refine (CN2.out _ (hNw.out.below P.out.px.low)).mono ?_
              rintro e w' ⟨rfl, hb⟩
              replace P := Lib.hid (P.out.below hb hBs)
              refine hK.out _ _ trivial (fun hHeld => ?_)
              clear hK K
              (try simp only [Act.put, List.setIfInBounds_toArray, List.set_cons_zero, List.set_cons_succ])
              clear hb
              refine take_run (d := some 63) (v := ?v14) 6 rfl rfl (by kernel_rfl) (by kernel_rfl) (by kernel_rfl) (fun _ _ _ h => h) (by rfl) hHeld ?hy14 ?rs14
              case hy14 => (intro w hSw; (try dsimp only at hSw); go_simp) <;> (try with_reducible rfl)
              (try simp only [Act.put, List.setIfInBounds_toArray, List.set_cons_zero, List.set_cons_succ])
              refine take_call 7 rfl (by kernel_rfl) (by rfl) (fun K hK => ?_)
              go_simp
              refine hK.out _ _ trivial (fun hHeld => ?_)
              clear hK K
              (try simp only [Act.put, List.setIfInBounds_toArray, List.set_cons_zero, List.set_cons_succ])
              replace P := Lib.hid (P.out.below (blw_alloc _ (.cells #[.int .i64 N1, .int .i64 N2] 141)) hBs)
              have BN := Lib.hid (Boxed.made _ #[.int .i64 N1, .int .i64 N2] 141 : Boxed (World.alloc w' (.cells #[.int .i64 N1, .int .i64 N2] 141)) w'.heap.size _)
              generalize hq : w'.heap.size = q at *
              generalize World.alloc w' (.cells #[.int .i64 N1, .int .i64 N2] 141) = w5 at *
              clear hq
              refine take_call 8 rfl (by kernel_rfl) (by rfl) (fun K hK => ?_)
              refine wp_append_own _ _ _ 106 rfl V.heap.size 141 iR _ 2 16 Tryz.underlying106 hiR hR0 hR1 hR2 rfl (by decide) v pre.length (rflat pre) (by simp [go_sem]) P.out.px.row ⟨q, 0, none⟩ 1 1 [.int .i64 N1, .int .i64 N2] (by simp [go_sem]) rfl (boxed_add BN.out) (fun u hu => by simp at hu; rcases hu with rfl | rfl <;> rfl) (by unfold maxLen; omega) (by omega) P.out.px.sz ?_
              intro v' w6 hown hgrow hnil
              clear hnil
              obtain ⟨g', cap', rfl⟩ := row_some hown (by omega)
              replace P := Lib.hid (P.out.append (x := x) (by rw [HER.out]; exact hown) hgrow hwB hpB hBs)
              clear hown hgrow
              refine hK.out _ _ trivial (fun hHeld => ?_)
              clear hK K
              (try simp only [Act.put, List.setIfInBounds_toArray, List.set_cons_zero, List.set_cons_succ])
              refine take_run (d := some 66) (v := ?v15) 9 rfl rfl (by kernel_rfl) (by kernel_rfl) (by kernel_rfl) (fun _ _ _ h => h) (by rfl) hHeld ?hy15 ?rs15
              case hy15 => (intro w hSw; (try dsimp only at hSw); go_simp) <;> (try with_reducible rfl)
              (try simp only [Act.put, List.setIfInBounds_toArray, List.set_cons_zero, List.set_cons_succ])
              refine take_call 10 rfl (by kernel_rfl) (by rfl) (fun K hK => ?_)
              have k3 := P.out.px.box.cell 3 _ rfl
              have z3 := P.out.px.box.free 3 (by show 3 < 4; omega)
              have hlt := P.out.px.box.lt
              go_simp
              clear k3 z3 hlt
              refine hK.out _ _ trivial (fun hHeld => ?_)
              clear hK K
              (try simp only [Act.put, List.setIfInBounds_toArray, List.set_cons_zero, List.set_cons_succ])
              replace P := Lib.hid (P.out.stored hwp hpB hne)
              refine wpAnyH_done (by kernel_rfl) ?_ _
              exact ⟨P.out.kf, P.out.kp, _, P.out.px⟩
            · go_simp
              refine (CN1.out _ (hNw.out.below P.out.px.low)).mono ?_
              rintro e w' ⟨rfl, hb⟩
              replace P := Lib.hid (P.out.below hb hBs)
              refine hK.out _ _ trivial (fun hHeld => ?_)
              clear hK K
              (try simp only [Act.put, List.setIfInBounds_toArray, List.set_cons_zero, List.set_cons_succ])
              clear hb
              refine take_two 1 5 rfl rfl (by kernel_rfl) (by rfl) (by rfl) (fun K hK => ?_) (fun K hK => ?_)
              · have k3 := P.out.px.box.cell 3 _ rfl
                go_simp
                clear k3
                refine hK.out _ _ trivial (fun hHeld => ?_)
                clear hK K
                (try simp only [Act.put, List.setIfInBounds_toArray, List.set_cons_zero, List.set_cons_succ])
                refine take_call 5 rfl (by kernel_rfl) (by rfl) (fun K hK => ?_)
                go_simp
                refine (CN2.out _ (hNw.out.below P.out.px.low)).mono ?_
                rintro e w' ⟨rfl, hb⟩
                replace P := Lib.hid (P.out.below hb hBs)
                refine hK.out _ _ trivial (fun hHeld => ?_)
                clear hK K
                (try simp only [Act.put, List.setIfInBounds_toArray, List.set_cons_zero, List.set_cons_succ])
                clear hb
                refine take_run (d := some 63) (v := ?v19) 6 rfl rfl (by kernel_rfl) (by kernel_rfl) (by kernel_rfl) (fun _ _ _ h => h) (by rfl) hHeld ?hy19 ?rs19
                case hy19 => (intro w hSw; (try dsimp only at hSw); go_simp) <;> (try with_reducible rfl)
                (try simp only [Act.put, List.setIfInBounds_toArray, List.set_cons_zero, List.set_cons_succ])
                refine take_call 7 rfl (by kernel_rfl) (by rfl) (fun K hK => ?_)
                go_simp
                refine hK.out _ _ trivial (fun hHeld => ?_)
                clear hK K
                (try simp only [Act.put, List.setIfInBounds_toArray, List.set_cons_zero, List.set_cons_succ])
                replace P := Lib.hid (P.out.below (blw_alloc _ (.cells #[.int .i64 N1, .int .i64 N2] 141)) hBs)
                have BN := Lib.hid (Boxed.made _ #[.int .i64 N1, .int .i64 N2] 141 : Boxed (World.alloc w' (.cells #[.int .i64 N1, .int .i64 N2] 141)) w'.heap.size _)
                generalize hq : w'.heap.size = q at *
                generalize World.alloc w' (.cells #[.int .i64 N1, .int .i64 N2] 141) = w5 at *
                clear hq
                refine take_call 8 rfl (by kernel_rfl) (by rfl) (fun K hK => ?_)
                refine wp_append_own _ _ _ 106 rfl V.heap.size 141 iR _ 2 16 Tryz.underlying106 hiR hR0 hR1 hR2 rfl (by decide) v pre.length (rflat pre) (by simp [go_sem]) P.out.px.row ⟨q, 0, none⟩ 1 1 [.int .i64 N1, .int .i64 N2] (by simp [go_sem]) rfl (boxed_add BN.out) (fun u hu => by simp at hu; rcases hu with rfl | rfl <;> rfl) (by unfold maxLen; omega) (by omega) P.out.px.sz ?_
                intro v' w6 hown hgrow hnil
                clear hnil
                obtain ⟨g', cap', rfl⟩ := row_some hown (by omega)
                replace P := Lib.hid (P.out.append (x := x) (by rw [HER.out]; exact hown) hgrow hwB hpB hBs)
                clear hown hgrow
                refine hK.out _ _ trivial (fun hHeld => ?_)
                clear hK K
                (try simp only [Act.put, List.setIfInBounds_toArray, List.set_cons_zero, List.set_cons_succ])
                refine take_run (d := some 66) (v := ?v20) 9 rfl rfl (by kernel_rfl) (by kernel_rfl) (by kernel_rfl) (fun _ _ _ h => h) (by rfl) hHeld ?hy20 ?rs20
                case hy20 => (intro w hSw; (try dsimp only at hSw); go_simp) <;> (try with_reducible rfl)
                (try simp only [Act.put, List.setIfInBounds_toArray, List.set_cons_zero, List.set_cons_succ])
                refine take_call 10 rfl (by kernel_rfl) (by rfl) (fun K hK => ?_)
                have k3 := P.out.px.box.cell 3 _ rfl
                have z3 := P.out.px.box.free 3 (by show 3 < 4; omega)
                have hlt := P.out.px.box.lt
                go_simp
                clear k3 z3 hlt
                refine hK.out _ _ trivial (fun hHeld => ?_)
                clear hK K
                (try simp only [Act.put, List.setIfInBounds_toArray, List.set_cons_zero, List.set_cons_succ])
                replace P := Lib.hid (P.out.stored hwp hpB hne)
                refine wpAnyH_done (by kernel_rfl) ?_ _
                exact ⟨P.out.kf, P.out.kp, _, P.out.px⟩
              · go_simp
                refine (CN2.out _ (hNw.out.below P.out.px.low)).mono ?_
                rintro e w' ⟨rfl, hb⟩
                replace P := Lib.hid (P.out.below hb hBs)
                refine hK.out _ _ trivial (fun hHeld => ?_)
                clear hK K
                (try simp only [Act.put, List.setIfInBounds_toArray, List.set_cons_zero, List.set_cons_succ])
                clear hb
                refine take_run (d := some 63) (v := ?v16) 6 rfl rfl (by kernel_rfl) (by kernel_rfl) (by kernel_rfl) (fun _ _ _ h => h) (by rfl) hHeld ?hy16 ?rs16
                case hy16 => (intro w hSw; (try dsimp only at hSw); go_simp) <;> (try with_reducible rfl)
                (try simp only [Act.put, List.setIfInBounds_toArray, List.set_cons_zero, List.set_cons_succ])
                refine take_two 1 7 rfl rfl (by kernel_rfl) (by rfl) (by rfl) (fun K hK => ?_) (fun K hK => ?_)
                · have k3 := P.out.px.box.cell 3 _ rfl
                  go_simp
                  clear k3
                  refine hK.out _ _ trivial (fun hHeld => ?_)
                  clear hK K
                  (try simp only [Act.put, List.setIfInBounds_toArray, List.set_cons_zero, List.set_cons_succ])
                  refine take_call 7 rfl (by kernel_rfl) (by rfl) (fun K hK => ?_)
                  go_simp
                  refine hK.out _ _ trivial (fun hHeld => ?_)
                  clear hK K
                  (try simp only [Act.put, List.setIfInBounds_toArray, List.set_cons_zero, List.set_cons_succ])
                  replace P := Lib.hid (P.out.below (blw_alloc _ (.cells #[.int .i64 N1, .int .i64 N2] 141)) hBs)
                  have BN := Lib.hid (Boxed.made _ #[.int .i64 N1, .int .i64 N2] 141 : Boxed (World.alloc w' (.cells #[.int .i64 N1, .int .i64 N2] 141)) w'.heap.size _)
                  generalize hq : w'.heap.size = q at *
                  generalize World.alloc w' (.cells #[.int .i64 N1, .int .i64 N2] 141) = w5 at *
                  clear hq
                  refine take_call 8 rfl (by kernel_rfl) (by rfl) (fun K hK => ?_)
                  refine wp_append_own _ _ _ 106 rfl V.heap.size 141 iR _ 2 16 Tryz.underlying106 hiR hR0 hR1 hR2 rfl (by decide) v pre.length (rflat pre) (by simp [go_sem]) P.out.px.row ⟨q, 0, none⟩ 1 1 [.int .i64 N1, .int .i64 N2] (by simp [go_sem]) rfl (boxed_add BN.out) (fun u hu => by simp at hu; rcases hu with rfl | rfl <;> rfl) (by unfold maxLen; omega) (by omega) P.out.px.sz ?_
                  intro v' w6 hown hgrow hnil
                  clear hnil
                  obtain ⟨g', cap', rfl⟩ := row_some hown (by omega)
                  replace P := Lib.hid (P.out.append (x := x) (by rw [HER.out]; exact hown) hgrow hwB hpB hBs)
                  clear hown hgrow
                  refine hK.out _ _ trivial (fun hHeld => ?_)
                  clear hK K
                  (try simp only [Act.put, List.setIfInBounds_toArray, List.set_cons_zero, List.set_cons_succ])
                  refine take_run (d := some 66) (v := ?v17) 9 rfl rfl (by kernel_rfl) (by kernel_rfl) (by kernel_rfl) (fun _ _ _ h => h) (by rfl) hHeld ?hy17 ?rs17
                  case hy17 => (intro w hSw; (try dsimp only at hSw); go_simp) <;> (try with_reducible rfl)
                  (try simp only [Act.put, List.setIfInBounds_toArray, List.set_cons_zero, List.set_cons_succ])
                  refine take_call 10 rfl (by kernel_rfl) (by rfl) (fun K hK => ?_)
                  have k3 := P.out.px.box.cell 3 _ rfl
                  have z3 := P.out.px.box.free 3 (by show 3 < 4; omega)
                  have hlt := P.out.px.box.lt
                  go_simp
                  clear k3 z3 hlt
                  refine hK.out _ _ trivial (fun hHeld => ?_)
                  clear hK K
                  (try simp only [Act.put, List.setIfInBounds_toArray, List.set_cons_zero, List.set_cons_succ])
                  replace P := Lib.hid (P.out.stored hwp hpB hne)
                  refine wpAnyH_done (by kernel_rfl) ?_ _
                  exact ⟨P.out.kf, P.out.kp, _, P.out.px⟩
                · go_simp
                  refine hK.out _ _ trivial (fun hHeld => ?_)
                  clear hK K
                  (try simp only [Act.put, List.setIfInBounds_toArray, List.set_cons_zero, List.set_cons_succ])
                  replace P := Lib.hid (P.out.below (blw_alloc _ (.cells #[.int .i64 N1, .int .i64 N2] 141)) hBs)
                  have BN := Lib.hid (Boxed.made _ #[.int .i64 N1, .int .i64 N2] 141 : Boxed (World.alloc w' (.cells #[.int .i64 N1, .int .i64 N2] 141)) w'.heap.size _)
                  generalize hq : w'.heap.size = q at *
                  generalize World.alloc w' (.cells #[.int .i64 N1, .int .i64 N2] 141) = w5 at *
                  clear hq
                  refine take_call 1 rfl (by kernel_rfl) (by rfl) (fun K hK => ?_)
                  have k3 := P.out.px.box.cell 3 _ rfl
                  go_simp
                  clear k3
                  refine hK.out _ _ trivial (fun hHeld => ?_)
                  clear hK K
                  (try simp only [Act.put, List.setIfInBounds_toArray, List.set_cons_zero, List.set_cons_succ])
                  refine take_call 8 rfl (by kernel_rfl) (by rfl) (fun K hK => ?_)
                  refine wp_append_own _ _ _ 106 rfl V.heap.size 141 iR _ 2 16 Tryz.underlying106 hiR hR0 hR1 hR2 rfl (by decide) v pre.length (rflat pre) (by simp [go_sem]) P.out.px.row ⟨q, 0, none⟩ 1 1 [.int .i64 N1, .int .i64 N2] (by simp [go_sem]) rfl (boxed_add BN.out) (fun u hu => by simp at hu; rcases hu with rfl | rfl <;> rfl) (by unfold maxLen; omega) (by omega) P.out.px.sz ?_
                  intro v' w6 hown hgrow hnil
                  clear hnil
                  obtain ⟨g', cap', rfl⟩ := row_some hown (by omega)
                  replace P := Lib.hid (P.out.append (x := x) (by rw [HER.out]; exact hown) hgrow hwB hpB hBs)
                  clear hown hgrow
                  refine hK.out _ _ trivial (fun hHeld => ?_)
                  clear hK K
                  (try simp only [Act.put, List.setIfInBounds_toArray, List.set_cons_zero, List.set_cons_succ])
                  refine take_run (d := some 66) (v := ?v18) 9 rfl rfl (by kernel_rfl) (by kernel_rfl) (by kernel_rfl) (fun _ _ _ h => h) (by rfl) hHeld ?hy18 ?rs18
                  case hy18 => (intro w hSw; (try dsimp only at hSw); go_simp) <;> (try with_reducible rfl)
                  (try simp only [Act.put, List.setIfInBounds_toArray, List.set_cons_zero, List.set_cons_succ])
                  refine take_call 10 rfl (by kernel_rfl) (by rfl) (fun K hK => ?_)
                  have k3 := P.out.px.box.cell 3 _ rfl
                  have z3 := P.out.px.box.free 3 (by show 3 < 4; omega)
                  have hlt := P.out.px.box.lt
                  go_simp
                  clear k3 z3 hlt
                  refine hK.out _ _ trivial (fun hHeld => ?_)
                  clear hK K
                  (try simp only [Act.put, List.setIfInBounds_toArray, List.set_cons_zero, List.set_cons_succ])
                  replace P := Lib.hid (P.out.stored hwp hpB hne)
                  refine wpAnyH_done (by kernel_rfl) ?_ _
                  exact ⟨P.out.kf, P.out.kp, _, P.out.px⟩
end Go.Proofs.YtainindkndjkbaaGreatDoor
namespace Go.Proofs.YtainindkndjkbaaGreatDoor
open Go.RowKit

def RngI (S : Nat → Prop) (w : World) (b k : Nat) (p : Int × Int) : Prop := S b ∧ RngC w b k p
def RelI (S : Nat → Prop) (w : World) (b k : Nat) (r : Rul.Rl) : Prop := S b ∧ ∃ a n c, w.cell? ⟨b, k, none⟩ = some (.int .u8 (r.op.toNat : Int)) ∧ w.cell? ⟨b, k + 1, none⟩ = some (.int .i64 r.mod) ∧ w.cell? ⟨b, k + 2, none⟩ = some (.bool r.no) ∧ w.cell? ⟨b, k + 3, none⟩ = some (.slice a n c) ∧ SlAt 2 (RngI S) w (.slice a n c) r.rs
def PartI (S : Nat → Prop) (w : World) (b k : Nat) (l : List Rul.Rl) : Prop := S b ∧ ∃ a n c, w.cell? ⟨b, k, none⟩ = some (.slice a n c) ∧ SlAt 4 (RelI S) w (.slice a n c) l
theorem SlAt.into {α : Type} {m : Nat} {C D : World → Nat → Nat → α → Prop} {w w' : World} {v : Value} {l : List α} (h : SlAt m C w v l) (hC : ∀ b k x, C w b k x → D w' b k x) : SlAt m D w' v l := by
  rcases h with h | ⟨b, off, cap, h1, h2, h3, h4, h5⟩
  · exact .inl h
  · exact .inr ⟨b, off, cap, h1, h2, h3, h4, fun j x hx => hC _ _ _ (h5 j x hx)⟩
/-- the blocks of S lie in the second world as in the first -/
def SameOn (S : Nat → Prop) (A C : World) : Prop := ∀ b, S b → C.heap[b]? = A.heap[b]?
theorem SameOn.cell {S : Nat → Prop} {A C : World} (h : SameOn S A C) {b k : Nat} {v : Value} (hb : S b) (hc : A.cell? ⟨b, k, none⟩ = some v) : C.cell? ⟨b, k, none⟩ = some v :=
  (World.cell?_of_block (a := ⟨b, k, none⟩) (h b hb)).trans hc
theorem rngsI_kept {S T : Nat → Prop} {A C : World} {v : Value} {l : List (Int × Int)} (hs : SlAt 2 (RngI S) A v l) (h : SameOn S A C) (hT : ∀ b, S b → T b) : SlAt 2 (RngI T) C v l :=
  hs.into fun _ _ _ g => ⟨hT _ g.1, h.cell g.1 g.2.1, h.cell g.1 g.2.2⟩
theorem relsI_kept {S T : Nat → Prop} {A C : World} {v : Value} {l : List Rul.Rl} (hs : SlAt 4 (RelI S) A v l) (h : SameOn S A C) (hT : ∀ b, S b → T b) : SlAt 4 (RelI T) C v l :=
  hs.into fun _ _ _ g => by
    obtain ⟨g, a, n, c, x0, x1, x2, x3, xs⟩ := g
    exact ⟨hT _ g, a, n, c, h.cell g x0, h.cell g x1, h.cell g x2, h.cell g x3, rngsI_kept xs h hT⟩
theorem ruleI_kept {S T : Nat → Prop} {A C : World} {v : Value} {l : Rul.Rule} (hs : SlAt 1 (PartI S) A v l) (h : SameOn S A C) (hT : ∀ b, S b → T b) : SlAt 1 (PartI T) C v l :=
  hs.into fun _ _ _ g => by
    obtain ⟨g, a, n, c, x0, xs⟩ := g
    exact ⟨hT _ g, a, n, c, h.cell g x0, relsI_kept xs h hT⟩
theorem relsI_plain {S : Nat → Prop} {A : World} {v : Value} {l : List Rul.Rl} (hs : SlAt 4 (RelI S) A v l) : SlAt 4 RelC A v l :=
  hs.into fun _ _ _ g => by
    obtain ⟨_, a, n, c, x0, x1, x2, x3, xs⟩ := g
    exact ⟨a, n, c, x0, x1, x2, x3, xs.into fun _ _ _ k => k.2⟩
theorem ruleI_plain {S : Nat → Prop} {A : World} {v : Value} {l : Rul.Rule} (hs : SlAt 1 (PartI S) A v l) : SlAt 1 PartC A v l :=
  hs.into fun _ _ _ g => by
    obtain ⟨_, a, n, c, x0, xs⟩ := g
    exact ⟨a, n, c, x0, relsI_plain xs⟩
end Go.Proofs.YtainindkndjkbaaGreatDoor
namespace Go.Proofs.YtainindkndjkbaaGreatDoor
open Go.RowKit Go.Shelf

/-- block b holds cells -/
def IsC (W : World) (b : Nat) : Prop := ∃ o, W.heap[b]? = some o ∧ o.isCells = true
theorem IsC.lt {W : World} {b : Nat} (h : IsC W b) : b < W.heap.size := by
  obtain ⟨o, h, _⟩ := h
  exact (Array.getElem?_eq_some_iff.1 h).1
theorem IsC.grown {A C : World} {r : Option Nat} {b : Nat} (h : IsC A b) (g : A.grownBy C r) (hr : some b ≠ r) : IsC C b := by
  have hl := h.lt
  obtain ⟨o, h, k⟩ := h
  exact ⟨o, (g.block b hl hr).trans h, k⟩
theorem IsC.of_cell {W : World} {b k : Nat} {v : Value} (h : W.cell? ⟨b, k, none⟩ = some v) : IsC W b := by
  unfold World.cell? at h
  split at h
  · rename_i c x y hc
    exact ⟨_, hc, rfl⟩
  · cases h
theorem IsC.row {W : World} {base n k : Nat} {e : TypeId} {v : Value} {xs : List Value} (h : W.ownsRow base e k v n xs) {b : Nat} (hb : v.ownBlock = some b) : IsC W b := by
  rcases h.2 with ⟨rfl, _⟩ | ⟨g, cap, cur, rfl, _, hg, _⟩
  · cases hb
  · injection hb with hb
    subst hb
    exact ⟨_, hg, rfl⟩
theorem IsC.not {W : World} {b : Nat} {o : Obj} (h : IsC W b) (ho : W.heap[b]? = some o) (hc : o.isCells = false) : False := by
  obtain ⟨o', h, k⟩ := h
  rw [ho] at h
  injection h with h
  subst h
  rw [hc] at k
  cases k

/-- a set of blocks of cells from base on, none of which is the slice's own -/
structure Own (base : Nat) (S : Nat → Prop) (v : Value) (W : World) : Prop where
  ge : ∀ b, S b → base ≤ b
  ne : ∀ b, S b → v.ownBlock ≠ some b
  is : ∀ b, S b → IsC W b
theorem Own.grown {base : Nat} {S : Nat → Prop} {v : Value} {A C : World} {r : Option Nat} (h : Own base S v A) (g : A.grownBy C r) (hr : ∀ b, S b → some b ≠ r) : Own base S v C :=
  ⟨h.ge, h.ne, fun b hb => (h.is b hb).grown g (hr b hb)⟩
theorem same_grown {base : Nat} {S : Nat → Prop} {v : Value} {A C : World} {r : Option Nat} (h : Own base S v A) (g : A.grownBy C r) (hr : ∀ b, S b → some b ≠ r) : SameOn S A C :=
  fun b hb => g.block b (h.is b hb).lt (hr b hb)

theorem keeps_grown {B : Nat} {W0 A C : World} {r : Option Nat} (h : KeepsFrom B W0 A) (g : A.grownBy C r) (hr : ∀ k, r = some k → W0.heap.size ≤ k ∨ IsC A k ∨ k < B) : KeepsFrom B W0 C :=
  ⟨Nat.le_trans h.size g.size, fun k o hk hA hc => by
    have e := h.same k o hk hA hc
    refine (g.block k (Array.getElem?_eq_some_iff.1 e).1 (fun e' => ?_)).trans e
    rcases hr k e'.symm with h1 | h1 | h1
    · have := (Array.getElem?_eq_some_iff.1 hA).1; omega
    · exact h1.not e hc
    · omega⟩
theorem kps_grown {n₀ bp bs bv : Nat} {W0 A C : World} {r : Option Nat} (h : KpS n₀ bp bs bv W0 A) (g : A.grownBy C r) (h0 : n₀ ≤ A.heap.size) (h1 : bp < A.heap.size ∧ bs < A.heap.size ∧ bv < A.heap.size)
    (hr : ∀ k, r = some k → n₀ ≤ k ∧ k ≠ bp ∧ k ≠ bs ∧ k ≠ bv) : KpS n₀ bp bs bv W0 C :=
  ⟨h.low.grown g h0 (fun k hk => (hr k hk).1), (g.block bp h1.1 (fun e => (hr _ e.symm).2.1 rfl)).trans h.p, (g.block bs h1.2.1 (fun e => (hr _ e.symm).2.2.1 rfl)).trans h.s, (g.block bv h1.2.2 (fun e => (hr _ e.symm).2.2.2 rfl)).trans h.v⟩
theorem grown_below {A C : World} (hb : Below A.heap.size A C) : A.grownBy C none := ⟨hb.os, hb.tape, hb.output, hb.size, fun k hk _ => hb.block k hk⟩
theorem grown_store (A : World) (p k : Nat) (v : Value) : A.grownBy (A.setCell ⟨p, k, none⟩ v) (some p) :=
  ⟨rfl, rfl, rfl, by rw [size_setCell]; exact Nat.le_refl _, fun j _ hj => set_else (fun e => hj (by rw [← e]))⟩

/-- the cells of relations -/
def qflat (l : List (Rul.Rl × Value)) : List Value := l.flatMap fun q => [.int .u8 (q.1.op.toNat : Int), .int .i64 q.1.mod, .bool q.1.no, q.2]
theorem qflat_at : ∀ {l : List (Rul.Rl × Value)} {j : Nat} {q : Rul.Rl × Value}, l[j]? = some q →
    (qflat l)[j * 4]? = some (.int .u8 (q.1.op.toNat : Int)) ∧ (qflat l)[j * 4 + 1]? = some (.int .i64 q.1.mod) ∧ (qflat l)[j * 4 + 2]? = some (.bool q.1.no) ∧ (qflat l)[j * 4 + 3]? = some q.2 := by
  intro l
  induction l with
  | nil => intro j q h; simp at h
  | cons a l ih =>
    intro j q h
    cases j with
    | zero => simp at h; subst h; exact ⟨rfl, rfl, rfl, rfl⟩
    | succ j =>
      have h' := ih (j := j) (q := q) (by simpa using h)
      have e : (j + 1) * 4 = j * 4 + 1 + 1 + 1 + 1 := by omega
      rw [e]
      exact h'
theorem qflat_add (l : List (Rul.Rl × Value)) (r : Rul.Rl) (v : Value) : qflat (l ++ [(r, v)]) = qflat l ++ [.int .u8 (r.op.toNat : Int), .int .i64 r.mod, .bool r.no, v] := by
  unfold qflat; rw [List.flatMap_append]; rfl

/-- the row of relations that grows -/
structure PI (B p : Nat) (vb vr : Value) (qs : List (Rul.Rl × Value)) (S : Nat → Prop) (pre : List (List UInt8)) (W : World) : Prop where
  box : Boxed W p #[vb]
  row : W.ownsRow B 108 4 vr qs.length (qflat qs)
  fst : qs.map (·.1) = pre.map Rul.relP
  it : ∀ q ∈ qs, ∃ a n c, q.2 = .slice a n c ∧ SlAt 2 (RngI S) W (.slice a n c) q.1.rs
  own : Own B S vr W
  sz : B ≤ W.heap.size
theorem PI.grown {B p : Nat} {vb vr : Value} {qs : List (Rul.Rl × Value)} {S : Nat → Prop} {pre : List (List UInt8)} {A C : World} {r : Option Nat} (h : PI B p vb vr qs S pre A) (g : A.grownBy C r)
    (hr : ∀ k, r = some k → k ≠ p ∧ vr.ownBlock ≠ some k ∧ ¬ S k) : PI B p vb vr qs S pre C := by
  have hS : ∀ b, S b → some b ≠ r := fun b hb e => (hr b e.symm).2.2 hb
  refine ⟨boxed_grown h.box g (fun e => (hr _ e.symm).1 rfl), h.row.kept g ?_, h.fst, fun q hq => ?_, h.own.grown g hS, Nat.le_trans h.sz g.size⟩
  · cases hv : vr.ownBlock with
    | none => exact .inl rfl
    | some k => exact .inr fun e => (hr k e.symm).2.1 hv
  · obtain ⟨a, n, c, e, hs⟩ := h.it q hq
    exact ⟨a, n, c, e, rngsI_kept hs (same_grown h.own g hS) (fun _ hb => hb)⟩
theorem PI.len {B p : Nat} {vb vr : Value} {qs : List (Rul.Rl × Value)} {S : Nat → Prop} {pre : List (List UInt8)} {W : World} (h : PI B p vb vr qs S pre W) : qs.length = pre.length := by
  have := congrArg List.length h.fst
  simpa using this
/-- the relation that was read is added -/
theorem PI.append {B p : Nat} {vb vr v' : Value} {qs : List (Rul.Rl × Value)} {S : Nat → Prop} {pre : List (List UInt8)} {x : List UInt8} {a : Option Addr} {n c : Nat} {A C : World} (h : PI B p vb vr qs S pre A)
    (hown : C.ownsRow B 108 4 v' (qs.length + 1) (qflat qs ++ [.int .u8 ((Rul.relP x).op.toNat : Int), .int .i64 (Rul.relP x).mod, .bool (Rul.relP x).no, .slice a n c])) (g : A.grownBy C vr.ownBlock)
    (hat : v'.ownBlock = vr.ownBlock ∨ v'.ownBlock = some A.heap.size) (hp : p < B)
    (hs : SlAt 2 RngC A (.slice a n c) (Rul.relP x).rs) (hb : ∀ b, (Value.slice a n c).ownBlock = some b → B ≤ b ∧ vr.ownBlock ≠ some b) :
    PI B p vb v' (qs ++ [(Rul.relP x, .slice a n c)]) (fun b => S b ∨ ((Rul.relP x).rs ≠ [] ∧ (Value.slice a n c).ownBlock = some b)) (pre ++ [x]) C := by
  have hB : ∀ k, vr.ownBlock = some k → B ≤ k := fun k hk => (h.row.lt k hk).1
  have hS : ∀ b, S b → some b ≠ vr.ownBlock := fun b hb e => h.own.ne b hb e.symm
  have hT : ∀ b, (Rul.relP x).rs ≠ [] → (Value.slice a n c).ownBlock = some b → IsC A b := by
    intro b hn hb
    rcases hs with ⟨e, _⟩ | ⟨b', off, cap, e1, e2, _, _, e3⟩
    · exact absurd e hn
    · injection e1 with e1 _ _
      subst e1
      injection hb with hb
      subst hb
      have hq := e3 0 _ (List.getElem?_eq_getElem e2)
      exact IsC.of_cell hq.1
  have hs' : SlAt 2 (RngI (fun b => S b ∨ ((Rul.relP x).rs ≠ [] ∧ (Value.slice a n c).ownBlock = some b))) C (.slice a n c) (Rul.relP x).rs := by
    rcases hs with ⟨e, z⟩ | ⟨b', off, cap, e1, e2, e4, e5, e3⟩
    · exact .inl ⟨e, z⟩
    · have hne : (Rul.relP x).rs ≠ [] := by rintro e; rw [e] at e2; simp at e2
      have ho : (Value.slice a n c).ownBlock = some b' := by rw [e1]; rfl
      have hC := g.block b' (hT b' hne ho).lt (fun e => (hb b' ho).2 e.symm)
      refine .inr ⟨b', off, cap, e1, e2, e4, e5, fun j y hy => ⟨.inr ⟨hne, ho⟩, ?_, ?_⟩⟩
      · exact (World.cell?_of_block (a := ⟨b', off + j * 2, none⟩) hC).trans (e3 j y hy).1
      · exact (World.cell?_of_block (a := ⟨b', off + j * 2 + 1, none⟩) hC).trans (e3 j y hy).2
  refine ⟨boxed_grown h.box g (fun e => by have := hB _ e.symm; omega), ?_, ?_, ?_, ⟨?_, ?_, ?_⟩, Nat.le_trans h.sz g.size⟩
  · rw [qflat_add, List.length_append]; exact hown
  · rw [List.map_append, List.map_append, h.fst]; rfl
  · intro q hq
    rcases List.mem_append.1 hq with hq | hq
    · obtain ⟨a', n', c', e, z⟩ := h.it q hq
      exact ⟨a', n', c', e, rngsI_kept z (same_grown h.own g hS) (fun _ hb => .inl hb)⟩
    · rw [List.mem_singleton.1 hq]
      exact ⟨a, n, c, rfl, hs'⟩
  · rintro b (hb' | hb')
    · exact h.own.ge b hb'
    · exact (hb b hb'.2).1
  · rintro b (hb' | hb') e
    · rcases hat with e' | e'
      · exact h.own.ne b hb' (e'.symm.trans e)
      · have := (h.own.is b hb').lt
        rw [e'] at e; injection e with e; omega
    · rcases hat with e' | e'
      · exact (hb b hb'.2).2 (e'.symm.trans e)
      · have := (hT b hb'.1 hb'.2).lt
        rw [e'] at e; injection e with e; omega
  · rintro b (hb' | hb')
    · exact (h.own.is b hb').grown g (hS b hb')
    · exact (hT b hb'.1 hb'.2).grown g (fun e => (hb b hb'.2).2 e.symm)
theorem PI.stored {B p : Nat} {vb vr : Value} {qs : List (Rul.Rl × Value)} {S : Nat → Prop} {pre : List (List UInt8)} {A : World} (h : PI B p vb vr qs S pre A) (hp : p < B) : PI B p vr vr qs S pre (A.setCell ⟨p, 0, none⟩ vr) := by
  have g := grown_store A p 0 vr
  have hS : ∀ b, S b → some b ≠ some p := fun b hb e => by have := h.own.ge b hb; injection e with e; omega
  refine ⟨h.box.set 0 vr (by show 0 < 1; omega), h.row.kept g ?_, h.fst, fun q hq => ?_, h.own.grown g hS, Nat.le_trans h.sz g.size⟩
  · cases hv : vr.ownBlock with
    | none => exact .inl rfl
    | some k => exact .inr fun e => by have := h.row.lt k hv; injection e with e; omega
  · obtain ⟨a, n, c, e, hs⟩ := h.it q hq
    exact ⟨a, n, c, e, rngsI_kept hs (same_grown h.own g hS) (fun _ hb => hb)⟩
/-- the row as it lies -/
theorem PI.lies {B p : Nat} {vb : Value} {a : Option Addr} {n c : Nat} {qs : List (Rul.Rl × Value)} {S : Nat → Prop} {pre : List (List UInt8)} {A : World} (h : PI B p vb (.slice a n c) qs S pre A) :
    SlAt 4 (RelI (fun b => S b ∨ (Value.slice a n c).ownBlock = some b)) A (.slice a n c) (pre.map Rul.relP) ∧ ∀ b, (S b ∨ (Value.slice a n c).ownBlock = some b) → B ≤ b ∧ IsC A b := by
  refine ⟨?_, ?_⟩
  · rw [← h.fst]
    have hr := h.row
    rcases hr.2 with ⟨e, hn⟩ | ⟨g, cap, cur, e, hB, hg, hc, hm, _⟩
    · have : qs = [] := List.eq_nil_of_length_eq_zero hn
      subst this
      injection e with e1 e2 e3
      subst e1 e2 e3
      exact .inl ⟨rfl, _, _, rfl⟩
    · injection e with e1 e2 e3
      subst e1 e2 e3
      by_cases h0 : qs.length = 0
      · have : qs = [] := List.eq_nil_of_length_eq_zero h0
        subst this
        exact .inl ⟨rfl, _, _, rfl⟩
      · refine .inr ⟨g, 0, _, by rw [List.length_map], by rw [List.length_map]; omega, by rw [List.length_map]; exact hc, hm, fun j x hx => ?_⟩
        rw [List.getElem?_map] at hx
        obtain ⟨q, hq, rfl⟩ := Option.map_eq_some_iff.1 hx
        obtain ⟨e0, e1, e2, e3⟩ := qflat_at hq
        have hj : j < qs.length := (List.getElem?_eq_some_iff.1 hq).1
        have c0 := hr.cellAt (g := g) (j * 4) (by omega)
        have c1 := hr.cellAt (g := g) (j * 4 + 1) (by omega)
        have c2 := hr.cellAt (g := g) (j * 4 + 2) (by omega)
        have c3 := hr.cellAt (g := g) (j * 4 + 3) (by omega)
        rw [e0] at c0
        rw [e1] at c1
        rw [e2] at c2
        rw [e3] at c3
        rw [Nat.zero_add]
        obtain ⟨a', n', c', e, z⟩ := h.it q (List.mem_of_getElem? hq)
        rw [e] at c3
        exact ⟨.inr rfl, a', n', c', c0, c1, c2, c3, rngsI_kept z (fun _ _ => rfl) (fun _ hb => .inl hb)⟩
  · rintro b (hb | hb)
    · exact ⟨h.own.ge b hb, h.own.is b hb⟩
    · exact ⟨(h.row.lt b hb).1, IsC.row h.row hb⟩

/-- the row of parts that grows -/
structure PO (w : World) (B p : Nat) (vb vr : Value) (ps : List (List Rul.Rl × Value)) (S : Nat → Prop) (pre : List (List UInt8)) (W : World) : Prop where
  box : Boxed W p #[vb]
  row : W.ownsRow B 105 1 vr ps.length (ps.map (·.2))
  fst : ps.map (·.1) = pre.map Rul.partP
  it : ∀ q ∈ ps, ∃ a n c, q.2 = .slice a n c ∧ SlAt 4 (RelI S) W (.slice a n c) q.1
  own : Own B S vr W
  low : Below w.heap.size w W
  sz : B ≤ W.heap.size
theorem PO.grown {w : World} {B p : Nat} {vb vr : Value} {ps : List (List Rul.Rl × Value)} {S : Nat → Prop} {pre : List (List UInt8)} {A C : World} {r : Option Nat} (h : PO w B p vb vr ps S pre A) (g : A.grownBy C r)
    (hr : ∀ k, r = some k → w.heap.size ≤ k ∧ k ≠ p ∧ vr.ownBlock ≠ some k ∧ ¬ S k) : PO w B p vb vr ps S pre C := by
  have hS : ∀ b, S b → some b ≠ r := fun b hb e => (hr b e.symm).2.2.2 hb
  refine ⟨boxed_grown h.box g (fun e => (hr _ e.symm).2.1 rfl), h.row.kept g ?_, h.fst, fun q hq => ?_, h.own.grown g hS, h.low.grown g h.low.size (fun k hk => (hr k hk).1), Nat.le_trans h.sz g.size⟩
  · cases hv : vr.ownBlock with
    | none => exact .inl rfl
    | some k => exact .inr fun e => (hr k e.symm).2.2.1 hv
  · obtain ⟨a, n, c, e, hs⟩ := h.it q hq
    exact ⟨a, n, c, e, relsI_kept hs (same_grown h.own g hS) (fun _ hb => hb)⟩
theorem PO.len {w : World} {B p : Nat} {vb vr : Value} {ps : List (List Rul.Rl × Value)} {S : Nat → Prop} {pre : List (List UInt8)} {W : World} (h : PO w B p vb vr ps S pre W) : ps.length = pre.length := by
  have := congrArg List.length h.fst
  simpa using this
theorem PO.append {w : World} {B p : Nat} {vb vr v' : Value} {ps : List (List Rul.Rl × Value)} {S S2 : Nat → Prop} {pre : List (List UInt8)} {x : List UInt8} {a : Option Addr} {n c : Nat} {A C : World} (h : PO w B p vb vr ps S pre A)
    (hown : C.ownsRow B 105 1 v' (ps.length + 1) (ps.map (·.2) ++ [.slice a n c])) (g : A.grownBy C vr.ownBlock)
    (hat : v'.ownBlock = vr.ownBlock ∨ v'.ownBlock = some A.heap.size) (hp : p < B) (hw : w.heap.size ≤ B)
    (hs : SlAt 4 (RelI S2) A (.slice a n c) (Rul.partP x)) (hb : ∀ b, S2 b → B ≤ b ∧ vr.ownBlock ≠ some b ∧ IsC A b) :
    PO w B p vb v' (ps ++ [(Rul.partP x, .slice a n c)]) (fun b => S b ∨ S2 b) (pre ++ [x]) C := by
  have hB : ∀ k, vr.ownBlock = some k → B ≤ k := fun k hk => (h.row.lt k hk).1
  have hS : ∀ b, S b → some b ≠ vr.ownBlock := fun b hb e => h.own.ne b hb e.symm
  have hS2 : ∀ b, S2 b → some b ≠ vr.ownBlock := fun b hb' e => (hb b hb').2.1 e.symm
  have sm2 : SameOn S2 A C := fun b hb' => g.block b (hb b hb').2.2.lt (hS2 b hb')
  refine ⟨boxed_grown h.box g (fun e => by have := hB _ e.symm; omega), ?_, ?_, ?_, ⟨?_, ?_, ?_⟩, h.low.grown g h.low.size (fun k hk => by have := hB k hk; omega), Nat.le_trans h.sz g.size⟩
  · rw [List.length_append, List.map_append]; exact hown
  · rw [List.map_append, List.map_append, h.fst]; rfl
  · intro q hq
    rcases List.mem_append.1 hq with hq | hq
    · obtain ⟨a', n', c', e, z⟩ := h.it q hq
      exact ⟨a', n', c', e, relsI_kept z (same_grown h.own g hS) (fun _ hb => .inl hb)⟩
    · rw [List.mem_singleton.1 hq]
      exact ⟨a, n, c, rfl, relsI_kept hs sm2 (fun _ hb => .inr hb)⟩
  · rintro b (hb' | hb')
    · exact h.own.ge b hb'
    · exact (hb b hb').1
  · rintro b (hb' | hb') e
    · rcases hat with e' | e'
      · exact h.own.ne b hb' (e'.symm.trans e)
      · have := (h.own.is b hb').lt
        rw [e'] at e; injection e with e; omega
    · rcases hat with e' | e'
      · exact (hb b hb').2.1 (e'.symm.trans e)
      · have := (hb b hb').2.2.lt
        rw [e'] at e; injection e with e; omega
  · rintro b (hb' | hb')
    · exact (h.own.is b hb').grown g (hS b hb')
    · exact (hb b hb').2.2.grown g (hS2 b hb')
theorem PO.stored {w : World} {B p : Nat} {vb vr : Value} {ps : List (List Rul.Rl × Value)} {S : Nat → Prop} {pre : List (List UInt8)} {A : World} (h : PO w B p vb vr ps S pre A) (hp : p < B) (hw : w.heap.size ≤ p) : PO w B p vr vr ps S pre (A.setCell ⟨p, 0, none⟩ vr) := by
  have g := grown_store A p 0 vr
  have hS : ∀ b, S b → some b ≠ some p := fun b hb e => by have := h.own.ge b hb; injection e with e; omega
  refine ⟨h.box.set 0 vr (by show 0 < 1; omega), h.row.kept g ?_, h.fst, fun q hq => ?_, h.own.grown g hS, h.low.grown g h.low.size (fun k hk => by injection hk with hk; omega), Nat.le_trans h.sz g.size⟩
  · cases hv : vr.ownBlock with
    | none => exact .inl rfl
    | some k => exact .inr fun e => by have := h.row.lt k hv; injection e with e; omega
  · obtain ⟨a, n, c, e, hs⟩ := h.it q hq
    exact ⟨a, n, c, e, relsI_kept hs (same_grown h.own g hS) (fun _ hb => hb)⟩
theorem PO.lies {w : World} {B p : Nat} {vb : Value} {a : Option Addr} {n c : Nat} {ps : List (List Rul.Rl × Value)} {S : Nat → Prop} {pre : List (List UInt8)} {A : World} (h : PO w B p vb (.slice a n c) ps S pre A) :
    SlAt 1 PartC A (.slice a n c) (pre.map Rul.partP) := by
  rw [← h.fst]
  have hr := h.row
  rcases hr.2 with ⟨e, hn⟩ | ⟨g, cap, cur, e, hB, hg, hc, hm, _⟩
  · have : ps = [] := List.eq_nil_of_length_eq_zero hn
    subst this
    injection e with e1 e2 e3
    subst e1 e2 e3
    exact .inl ⟨rfl, _, _, rfl⟩
  · injection e with e1 e2 e3
    subst e1 e2 e3
    by_cases h0 : ps.length = 0
    · have : ps = [] := List.eq_nil_of_length_eq_zero h0
      subst this
      exact .inl ⟨rfl, _, _, rfl⟩
    · refine .inr ⟨g, 0, _, by rw [List.length_map], by rw [List.length_map]; omega, by rw [List.length_map]; exact hc, hm, fun j x hx => ?_⟩
      rw [List.getElem?_map] at hx
      obtain ⟨q, hq, rfl⟩ := Option.map_eq_some_iff.1 hx
      have hj : j < ps.length := (List.getElem?_eq_some_iff.1 hq).1
      have c0 := hr.cellAt (g := g) (j * 1) (by omega)
      rw [Nat.mul_one, List.getElem?_map, hq] at c0
      rw [Nat.zero_add, Nat.mul_one]
      obtain ⟨a', n', c', e, z⟩ := h.it q (List.mem_of_getElem? hq)
      exact ⟨a', n', c', c0.trans (by rw [← e]; rfl), relsI_plain z⟩

/-- the outer round's world, and what the round keeps of its start -/
structure PT (w : World) (B p bp bs bv : Nat) (v : Value) (ps : List (List Rul.Rl × Value)) (S : Nat → Prop) (pre : List (List UInt8)) (W0 W : World) : Prop where
  po : PO w B p v v ps S pre W
  kf : KeepsFrom B W0 W
  kp : KpS w.heap.size bp bs bv W0 W
theorem PT.start {w : World} {B p bp bs bv : Nat} {v : Value} {ps : List (List Rul.Rl × Value)} {S : Nat → Prop} {pre : List (List UInt8)} {W : World} (h : PO w B p v v ps S pre W) : PT w B p bp bs bv v ps S pre W W :=
  ⟨h, KeepsFrom.refl _ _, ⟨Below.refl _ _, rfl, rfl, rfl⟩⟩
/-- what lies ahead of the round's start stays -/
structure Olds (B p bp bs bv : Nat) (v : Value) (S : Nat → Prop) (n : Nat) : Prop where
  o : ∀ b, S b → b < n
  v : ∀ b, v.ownBlock = some b → b < n
  b : p < B ∧ bp < B ∧ bs < B ∧ bv < B ∧ B ≤ n
theorem PO.olds {w : World} {B p bp bs bv : Nat} {vb v : Value} {ps : List (List Rul.Rl × Value)} {S : Nat → Prop} {pre : List (List UInt8)} {W : World} (h : PO w B p vb v ps S pre W) (hb : p < B ∧ bp < B ∧ bs < B ∧ bv < B) : Olds B p bp bs bv v S W.heap.size :=
  ⟨fun b hb => (h.own.is b hb).lt, fun b hb => (h.row.lt b hb).2, hb.1, hb.2.1, hb.2.2.1, hb.2.2.2, h.sz⟩
theorem PT.grown {w : World} {B p bp bs bv : Nat} {v : Value} {ps : List (List Rul.Rl × Value)} {S : Nat → Prop} {pre : List (List UInt8)} {W0 A C : World} {r : Option Nat} (h : PT w B p bp bs bv v ps S pre W0 A) (g : A.grownBy C r)
    (ho : Olds B p bp bs bv v S W0.heap.size) (hw : w.heap.size ≤ B) (hr : ∀ k, r = some k → W0.heap.size ≤ k) : PT w B p bp bs bv v ps S pre W0 C := by
  have hb := ho.b
  have hz := h.kf.size
  refine ⟨h.po.grown g fun k hk => ?_, keeps_grown h.kf g (fun k hk => .inl (hr k hk)), kps_grown h.kp g (by omega) (by omega) fun k hk => ?_⟩
  · have := hr k hk
    exact ⟨by omega, by omega, fun e => by have := ho.v _ e; omega, fun e => by have := ho.o _ e; omega⟩
  · have := hr k hk
    exact ⟨by omega, by omega, by omega, by omega⟩
theorem PT.below {w : World} {B p bp bs bv : Nat} {v : Value} {ps : List (List Rul.Rl × Value)} {S : Nat → Prop} {pre : List (List UInt8)} {W0 A C : World} (h : PT w B p bp bs bv v ps S pre W0 A) (hb : Below A.heap.size A C)
    (ho : Olds B p bp bs bv v S W0.heap.size) (hw : w.heap.size ≤ B) : PT w B p bp bs bv v ps S pre W0 C :=
  h.grown (grown_below hb) ho hw (fun k e => by cases e)

/-- the inner round's world -/
structure PQ (w : World) (B p bp bs bv : Nat) (v : Value) (ps : List (List Rul.Rl × Value)) (S : Nat → Prop) (pre : List (List UInt8)) (W0 : World) (B2 p2 bp2 bs2 bv2 : Nat) (vb vr : Value) (qs : List (Rul.Rl × Value)) (S2 : Nat → Prop) (pre2 : List (List UInt8)) (W1 W : World) : Prop where
  pt : PT w B p bp bs bv v ps S pre W0 W
  pi : PI B2 p2 vb vr qs S2 pre2 W
  kf : KeepsFrom B2 W1 W
  kp : KpS w.heap.size bp2 bs2 bv2 W1 W
theorem PQ.start {w : World} {B p bp bs bv : Nat} {v : Value} {ps : List (List Rul.Rl × Value)} {S : Nat → Prop} {pre : List (List UInt8)} {W0 : World} {B2 p2 bp2 bs2 bv2 : Nat} {vb vr : Value} {qs : List (Rul.Rl × Value)} {S2 : Nat → Prop} {pre2 : List (List UInt8)} {W : World}
    (h : PT w B p bp bs bv v ps S pre W0 W) (k : PI B2 p2 vb vr qs S2 pre2 W) : PQ w B p bp bs bv v ps S pre W0 B2 p2 bp2 bs2 bv2 vb vr qs S2 pre2 W W :=
  ⟨h, k, KeepsFrom.refl _ _, ⟨Below.refl _ _, rfl, rfl, rfl⟩⟩
/-- what is fixed of both rounds -/
structure Fix (w : World) (B p bp bs bv : Nat) (v : Value) (S : Nat → Prop) (W0 : World) (B2 p2 bp2 bs2 bv2 : Nat) : Prop where
  ho : Olds B p bp bs bv v S W0.heap.size
  hw : w.heap.size ≤ B
  h2 : W0.heap.size ≤ p2 ∧ p2 < B2 ∧ bp2 < B2 ∧ bs2 < B2 ∧ bv2 < B2
  ne : p2 ≠ bp2 ∧ p2 ≠ bs2 ∧ p2 ≠ bv2
theorem PQ.below {w : World} {B p bp bs bv : Nat} {v : Value} {ps : List (List Rul.Rl × Value)} {S : Nat → Prop} {pre : List (List UInt8)} {W0 : World} {B2 p2 bp2 bs2 bv2 : Nat} {vb vr : Value} {qs : List (Rul.Rl × Value)} {S2 : Nat → Prop} {pre2 : List (List UInt8)} {W1 A C : World}
    (h : PQ w B p bp bs bv v ps S pre W0 B2 p2 bp2 bs2 bv2 vb vr qs S2 pre2 W1 A) (hb : Below A.heap.size A C) (f : Fix w B p bp bs bv v S W0 B2 p2 bp2 bs2 bv2) : PQ w B p bp bs bv v ps S pre W0 B2 p2 bp2 bs2 bv2 vb vr qs S2 pre2 W1 C := by
  have g := grown_below hb
  have := f.h2
  have := f.ho.b
  have := f.hw
  have := h.pi.sz
  exact ⟨h.pt.below hb f.ho f.hw, h.pi.grown g (fun k e => by cases e), keeps_grown h.kf g (fun k e => by cases e), kps_grown h.kp g (by omega) (by omega) (fun k e => by cases e)⟩
theorem PQ.append {w : World} {B p bp bs bv : Nat} {v : Value} {ps : List (List Rul.Rl × Value)} {S : Nat → Prop} {pre : List (List UInt8)} {W0 : World} {B2 p2 bp2 bs2 bv2 : Nat} {vb vr v' : Value} {qs : List (Rul.Rl × Value)} {S2 : Nat → Prop} {pre2 : List (List UInt8)} {W1 A C : World}
    {x : List UInt8} {a : Option Addr} {n c : Nat} (h : PQ w B p bp bs bv v ps S pre W0 B2 p2 bp2 bs2 bv2 vb vr qs S2 pre2 W1 A) (f : Fix w B p bp bs bv v S W0 B2 p2 bp2 bs2 bv2)
    (hown : C.ownsRow B2 108 4 v' (qs.length + 1) (qflat qs ++ [.int .u8 ((Rul.relP x).op.toNat : Int), .int .i64 (Rul.relP x).mod, .bool (Rul.relP x).no, .slice a n c])) (g : A.grownBy C vr.ownBlock)
    (hat : v'.ownBlock = vr.ownBlock ∨ v'.ownBlock = some A.heap.size)
    (hs : SlAt 2 RngC A (.slice a n c) (Rul.relP x).rs) (hb : ∀ b, (Value.slice a n c).ownBlock = some b → B2 ≤ b ∧ vr.ownBlock ≠ some b) :
    PQ w B p bp bs bv v ps S pre W0 B2 p2 bp2 bs2 bv2 vb v' (qs ++ [(Rul.relP x, .slice a n c)]) (fun b => S2 b ∨ ((Rul.relP x).rs ≠ [] ∧ (Value.slice a n c).ownBlock = some b)) (pre2 ++ [x]) W1 C := by
  have h2 := f.h2
  have := f.ho.b
  have := f.hw
  have := h.pi.sz
  have hB : ∀ k, vr.ownBlock = some k → B2 ≤ k := fun k hk => (h.pi.row.lt k hk).1
  exact ⟨h.pt.grown g f.ho f.hw (fun k hk => by have := hB k hk; omega), h.pi.append hown g hat h2.2.1 hs hb, keeps_grown h.kf g (fun k hk => .inr (.inl (IsC.row h.pi.row hk))),
    kps_grown h.kp g (by omega) (by omega) (fun k hk => by have := hB k hk; omega)⟩
theorem PQ.stored {w : World} {B p bp bs bv : Nat} {v : Value} {ps : List (List Rul.Rl × Value)} {S : Nat → Prop} {pre : List (List UInt8)} {W0 : World} {B2 p2 bp2 bs2 bv2 : Nat} {vb vr : Value} {qs : List (Rul.Rl × Value)} {S2 : Nat → Prop} {pre2 : List (List UInt8)} {W1 A : World}
    (h : PQ w B p bp bs bv v ps S pre W0 B2 p2 bp2 bs2 bv2 vb vr qs S2 pre2 W1 A) (f : Fix w B p bp bs bv v S W0 B2 p2 bp2 bs2 bv2) : PQ w B p bp bs bv v ps S pre W0 B2 p2 bp2 bs2 bv2 vr vr qs S2 pre2 W1 (A.setCell ⟨p2, 0, none⟩ vr) := by
  have g := grown_store A p2 0 vr
  have h2 := f.h2
  have hn := f.ne
  have := f.ho.b
  have := f.hw
  have := h.pi.sz
  exact ⟨h.pt.grown g f.ho f.hw (fun k hk => by injection hk with hk; omega), h.pi.stored h2.2.1, keeps_grown h.kf g (fun k hk => .inr (.inr (by injection hk with hk; omega))),
    kps_grown h.kp g (by omega) (by omega) (fun k hk => by injection hk with hk; subst hk; exact ⟨by omega, hn⟩)⟩

theorem PQ.len2 {w : World} {B p bp bs bv : Nat} {v : Value} {ps : List (List Rul.Rl × Value)} {S : Nat → Prop} {pre : List (List UInt8)} {W0 : World} {B2 p2 bp2 bs2 bv2 : Nat} {vb vr : Value} {qs : List (Rul.Rl × Value)} {S2 : Nat → Prop} {pre2 : List (List UInt8)} {W1 A : World}
    (h : PQ w B p bp bs bv v ps S pre W0 B2 p2 bp2 bs2 bv2 vb vr qs S2 pre2 W1 A) : ps.length = pre.length ∧ qs.length = pre2.length := ⟨h.pt.po.len, h.pi.len⟩
/-- the end of the outer round: the part is added -/
structure PU (w : World) (B p bp bs bv : Nat) (vb vr : Value) (ps : List (List Rul.Rl × Value)) (S : Nat → Prop) (pre : List (List UInt8)) (W0 W : World) : Prop where
  po : PO w B p vb vr ps S pre W
  kf : KeepsFrom B W0 W
  kp : KpS w.heap.size bp bs bv W0 W
theorem PQ.close {w : World} {B p bp bs bv : Nat} {v v' : Value} {ps : List (List Rul.Rl × Value)} {S : Nat → Prop} {pre : List (List UInt8)} {W0 : World} {B2 p2 bp2 bs2 bv2 : Nat} {vb : Value} {a : Option Addr} {n c : Nat} {qs : List (Rul.Rl × Value)} {S2 : Nat → Prop} {pre2 : List (List UInt8)} {W1 A C : World}
    {x : List UInt8} (h : PQ w B p bp bs bv v ps S pre W0 B2 p2 bp2 bs2 bv2 vb (.slice a n c) qs S2 pre2 W1 A) (f : Fix w B p bp bs bv v S W0 B2 p2 bp2 bs2 bv2) (hx : Rul.partP x = pre2.map Rul.relP)
    (hown : C.ownsRow B 105 1 v' (ps.length + 1) (ps.map (·.2) ++ [.slice a n c])) (g : A.grownBy C v.ownBlock) (hat : v'.ownBlock = v.ownBlock ∨ v'.ownBlock = some A.heap.size) :
    PU w B p bp bs bv v v' (ps ++ [(Rul.partP x, .slice a n c)]) (fun b => S b ∨ (S2 b ∨ (Value.slice a n c).ownBlock = some b)) (pre ++ [x]) W0 C := by
  obtain ⟨hl, hl2⟩ := h.pi.lies
  have h2 := f.h2
  have hb := f.ho.b
  have hw := f.hw
  have hB : ∀ k, v.ownBlock = some k → B ≤ k := fun k hk => (h.pt.po.row.lt k hk).1
  have hz := h.pi.sz
  refine ⟨h.pt.po.append hown g hat hb.1 hw (by rw [hx]; exact hl) (fun b h' => ?_), keeps_grown h.pt.kf g (fun k hk => .inr (.inl (IsC.row h.pt.po.row hk))), kps_grown h.pt.kp g (by omega) (by omega) (fun k hk => by have := hB k hk; omega)⟩
  have := hl2 b h'
  exact ⟨by omega, fun e => by have := f.ho.v b e; omega, this.2⟩
theorem PU.stored {w : World} {B p bp bs bv : Nat} {vb vr : Value} {ps : List (List Rul.Rl × Value)} {S : Nat → Prop} {pre : List (List UInt8)} {W0 A : World} (h : PU w B p bp bs bv vb vr ps S pre W0 A) (hp : p < B) (hw : w.heap.size ≤ p) (hb : bp < B ∧ bs < B ∧ bv < B) (hne : p ≠ bp ∧ p ≠ bs ∧ p ≠ bv) :
    PU w B p bp bs bv vr vr ps S pre W0 (A.setCell ⟨p, 0, none⟩ vr) := by
  have g := grown_store A p 0 vr
  have hz := h.po.sz
  exact ⟨h.po.stored hp hw, keeps_grown h.kf g (fun k hk => .inr (.inr (by injection hk with hk; omega))), kps_grown h.kp g (by omega) (by omega) (fun k hk => by injection hk with hk; subst hk; exact ⟨hw, hne⟩)⟩

section
variable {P : Program} (w : World)
theorem wp_append_own_at {o : Oper} {a : Act} {K : Act → World → Prop} {Q : Exit → Act → World → Prop} (s x : Operand) (t : TypeId)
    (ho : o.op = .call { callee := .builtin .append, args := #[s, x], argTypes := #[t, t] })
    (base : Nat) (e : TypeId) (i : TypeInfo) (z : Value) (size bytes : Nat) (ht : P.underlying t = some (.slice e)) (hi : P.info? e = some i) (hz : i.zero = some z)
    (hsize : i.size = size) (hby : i.bytes = bytes) (hzs : z.cells.size = size) (hsz : 0 < size)
    (v : Value) (n : Nat) (xs : List Value) (hs : a.eval s = v) (hown : w.ownsRow base e size v n xs)
    (ad : Addr) (m c : Nat) (news : List Value) (hx : a.eval x = .slice (some ad) m c) (hl : news.length = m * size) (hnews : ∀ j u, news[j]? = some u → w.cell? (ad.add j) = some u) (h1 : ∀ u ∈ news, u.oneCell' = true)
    (h63 : n + m ≤ maxLen) (hbytes : (n + m) * bytes ≤ 140737488355328) (hbase : base ≤ w.heap.size)
    (h : ∀ v' w', w'.ownsRow base e size v' (n + m) (xs ++ news) → w.grownBy w' v.ownBlock → (v'.ownBlock = v.ownBlock ∨ v'.ownBlock = some w.heap.size) → K (a.put o.dst v') w') : o.wp P a w K Q := by
  obtain ⟨v', w', hr, h2, h3, _, h5⟩ := run_append_own_at (P := P) w base t o.type e i z size bytes ht hi hz hsize hby hzs hsz v n xs hown ad m c news hl hnews h1 h63 hbytes hbase
  unfold Oper.wp execOp
  simp only [ho, resolve, invoke, builtin, Sem.run_bind, Sem.run_pure, Result.andThen_ok, List.map_toArray, List.map_cons, List.map_nil, hs, hx, hr]
  exact h v' w' h2 h3 h5
end
end Go.Proofs.YtainindkndjkbaaGreatDoor
namespace Go.Proofs.YtainindkndjkbaaGreatDoor
open Go.RowKit

set_option maxRecDepth 100000 in
set_option maxHeartbeats 2000000 in
theorem ranged_any (p : Int × Int) (w : World) (hp : PowW w) (hk : Rul.rngOk p = true) :
    Calls Tryz.prog 129 #[.agg #[.int .i64 p.1, .int .i64 p.2]] w fun e w' => e = .returned (.string ⟨(Rul.rngT p).toArray⟩) ∧ Below w.heap.size w w' := by
  obtain ⟨a, b⟩ := p
  simp only [Rul.rngOk, Bool.and_eq_true, decide_eq_true_eq] at hk
  obtain ⟨⟨h0, h1⟩, h2⟩ := hk
  dsimp only
  have CA := Lib.hid fun w hp => itoa_pos a w hp h0 (by omega)
  have CB := Lib.hid fun w hp => itoa_pos b w hp (by omega) (by omega)
  have hE : Rul.rngT (a, b) = if a = b then Lib.decDigits a.toNat else Lib.decDigits a.toNat ++ [46, 46] ++ Lib.decDigits b.toNat := rfl
  have la : (Lib.decDigits a.toNat).length ≤ 100 := by have := Byt.digits_short 7 a.toNat (by omega) (by omega); omega
  have lb : (Lib.decDigits b.toNat).length ≤ 100 := by have := Byt.digits_short 7 b.toNat (by omega) (by omega); omega
  rw [hE]
  generalize Lib.decDigits a.toNat = DA at *
  generalize Lib.decDigits b.toNat = DB at *
  clear hE
  by_cases he : a = b
  · have e1 : (a == b) = true := beq_yes he
    rw [if_pos he]
    clear he
    go_enter Tryz.func129, Tryz.ntmps129
    go_wp2_with fail
    refine (CA.out _ (hp.alloc _)).mono ?_
    rintro e w1 ⟨rfl, hb⟩
    go_wp2_with fail
    go_ret
    exact ⟨rfl, blw_trans (blw_alloc w (.cells #[.int .i64 a, .int .i64 b] 141)) hb⟩
  · have e1 : (a == b) = false := beq_no he
    rw [if_neg he]
    clear he
    obtain ⟨X1, hX1⟩ : ∃ X1, X1 = DA ++ [46, 46] := ⟨_, rfl⟩
    obtain ⟨X2, hX2⟩ : ∃ X2, X2 = X1 ++ DB := ⟨_, rfl⟩
    have A1 : ∀ w, (Op.stringOp .add ⟨DA.toArray⟩ ⟨#[46, 46]⟩).run Tryz.prog w = .ok (.string ⟨X1.toArray⟩) w := fun w => by rw [hX1]; exact add_str (P := Tryz.prog) DA [46, 46] (by simp; omega) w
    have l1 : X1.length ≤ 102 := by rw [hX1, List.length_append]; simp; omega
    have A2 : ∀ w, (Op.stringOp .add ⟨X1.toArray⟩ ⟨DB.toArray⟩).run Tryz.prog w = .ok (.string ⟨X2.toArray⟩) w := fun w => by rw [hX2]; exact add_str (P := Tryz.prog) X1 DB (by omega) w
    rw [← hX1, ← hX2]
    have B0 := Lib.hid (Boxed.made w #[.int .i64 a, .int .i64 b] 141)
    have k0 := B0.out.cell 0 _ rfl
    have k1 := B0.out.cell 1 _ rfl
    have P0 := Lib.hid (hp.alloc (.cells #[.int .i64 a, .int .i64 b] 141))
    have W0 := Lib.hid (blw_alloc w (.cells #[.int .i64 a, .int .i64 b] 141))
    clear hX1 hX2 la lb l1 h0 h1 h2 B0
    go_enter Tryz.func129, Tryz.ntmps129
    go_wp2_with fail
    refine wp_region_held_drew (S := fun w' => w'.cell? ⟨w.heap.size, 0, none⟩ = some (.int .i64 a) ∧ w'.cell? ⟨w.heap.size, 1, none⟩ = some (.int .i64 b) ∧ Hid (PowW w') ∧ Hid (Below w.heap.size w w')) (by kernel_rfl) (by exact ⟨k0, k1, Lib.hid (P0.out.drewN 1), Lib.hid (Below.drew W0.out)⟩) (fun hHeld => ?_)
    refine take_run (d := (some 11)) (v := ?v1) 0 rfl rfl (by kernel_rfl) (by kernel_rfl) (by kernel_rfl) (fun _ _ _ h => h) (by rfl) hHeld ?hy1 ?rs1
    case hy1 => (intro w hSw; (try dsimp only at hSw); go_simp) <;> (try with_reducible rfl)
    (try simp only [Act.put, List.setIfInBounds_toArray, List.set_cons_zero, List.set_cons_succ])
    refine take_run (d := (some 12)) (v := ?v2) 1 rfl rfl (by kernel_rfl) (by kernel_rfl) (by kernel_rfl) (fun _ _ _ h => h) (by rfl) hHeld ?hy2 ?rs2
    case hy2 => (intro w hSw; (try dsimp only at hSw); go_simp) <;> (try with_reducible rfl)
    (try simp only [Act.put, List.setIfInBounds_toArray, List.set_cons_zero, List.set_cons_succ])
    refine take_run (d := (some 15)) (v := ?v3) 4 rfl rfl (by kernel_rfl) (by kernel_rfl) (by kernel_rfl) (fun _ _ _ h => h) (by rfl) hHeld ?hy3 ?rs3
    case hy3 => (intro w hSw; (try dsimp only at hSw); go_simp) <;> (try with_reducible rfl)
    (try simp only [Act.put, List.setIfInBounds_toArray, List.set_cons_zero, List.set_cons_succ])
    refine take_run (d := (some 16)) (v := ?v4) 5 rfl rfl (by kernel_rfl) (by kernel_rfl) (by kernel_rfl) (fun _ _ _ h => h) (by rfl) hHeld ?hy4 ?rs4
    case hy4 => (intro w hSw; (try dsimp only at hSw); go_simp) <;> (try with_reducible rfl)
    (try simp only [Act.put, List.setIfInBounds_toArray, List.set_cons_zero, List.set_cons_succ])
    refine take_call 2 rfl (by kernel_rfl) (by rfl) (fun K hK => ?_)
    go_simp
    refine (CA.out _ (by obtain ⟨_, _, h2, _⟩ := hHeld; exact h2.out)).mono ?_
    rintro e w' ⟨rfl, hb⟩
    refine hK.out _ _ (by obtain ⟨h0, h1, h2, hw⟩ := hHeld; exact ⟨cell_keep h0 hb, cell_keep h1 hb, Lib.hid (h2.out.below hb), Lib.hid (blw_trans hw.out hb)⟩) (fun hHeld => ?_)
    clear hK K
    (try simp only [Act.put, List.setIfInBounds_toArray, List.set_cons_zero, List.set_cons_succ])
    refine take_run (d := (some 14)) (v := ?v6) 3 rfl rfl (by kernel_rfl) (by kernel_rfl) (by kernel_rfl) (fun _ _ _ h => h) (by rfl) hHeld ?hy6 ?rs6
    case hy6 => (intro w hSw; (try dsimp only at hSw); go_simp) <;> (try with_reducible rfl)
    (try simp only [Act.put, List.setIfInBounds_toArray, List.set_cons_zero, List.set_cons_succ])
    refine take_call 6 rfl (by kernel_rfl) (by rfl) (fun K hK => ?_)
    go_simp
    refine (CB.out _ (by obtain ⟨_, _, h2, _⟩ := hHeld; exact h2.out)).mono ?_
    rintro e w' ⟨rfl, hb⟩
    refine hK.out _ _ (by obtain ⟨h0, h1, h2, hw⟩ := hHeld; exact ⟨cell_keep h0 hb, cell_keep h1 hb, Lib.hid (h2.out.below hb), Lib.hid (blw_trans hw.out hb)⟩) (fun hHeld => ?_)
    clear hK K
    (try simp only [Act.put, List.setIfInBounds_toArray, List.set_cons_zero, List.set_cons_succ])
    refine take_run (d := (some 18)) (v := ?v8) 7 rfl rfl (by kernel_rfl) (by kernel_rfl) (by kernel_rfl) (fun _ _ _ h => h) (by rfl) hHeld ?hy8 ?rs8
    case hy8 => (intro w hSw; (try dsimp only at hSw); go_simp) <;> (try with_reducible rfl)
    (try simp only [Act.put, List.setIfInBounds_toArray, List.set_cons_zero, List.set_cons_succ])
    refine take_run (d := (some 2)) (v := ?v9) 8 rfl rfl (by kernel_rfl) (by kernel_rfl) (by kernel_rfl) (fun _ _ _ h => h) (by rfl) hHeld ?hy9 ?rs9
    case hy9 => (intro w hSw; (try dsimp only at hSw); go_simp) <;> (try with_reducible rfl)
    (try simp only [Act.put, List.setIfInBounds_toArray, List.set_cons_zero, List.set_cons_succ])
    refine wpAnyH_done (by kernel_rfl) ?_ _
    obtain ⟨z0, z1, z2, zW⟩ := hHeld
    go_wp2_with fail
    go_ret
    exact ⟨rfl, zW.out⟩
end Go.Proofs.YtainindkndjkbaaGreatDoor
namespace Go.Proofs.YtainindkndjkbaaGreatDoor
open Go.RowKit

/-- strings.Join over StrsAt -/
theorem sjoin_any (l : List (List UInt8)) (v : Value) (sep : List UInt8) (w : World) (h : StrsAt w v l) (hn : l.length ≤ 2000000000000) (ht : Lst.total l sep ≤ 2000000000000) :
    Calls Tryz.prog 126 #[v, .string ⟨sep.toArray⟩] w fun e w' => e = .returned (.string ⟨(Lib.join l sep).toArray⟩) ∧ Below w.heap.size w w' := by
  rcases h with ⟨rfl, a, cap, rfl⟩ | ⟨b, off, cap, rfl, h0, hc, hm, hcell⟩
  · exact (Tryz.strings_Join_none a cap ⟨sep.toArray⟩ w).mono fun _ _ ⟨he, hw⟩ => ⟨he, hw ▸ Below.refl _ _⟩
  · have hl := Lst.join_le l sep
    have e : (l.map fun x => (⟨x.toArray⟩ : ByteArray)).map (·.data.toList) = l := by simp [Function.comp_def]
    have c := Tryz.strings_Join b off cap (l.map fun x => ⟨x.toArray⟩) ⟨sep.toArray⟩ w (fun j x hx => by
      rw [List.getElem?_map] at hx
      obtain ⟨y, hy, rfl⟩ := Option.map_eq_some_iff.1 hx
      exact hcell j y hy) (World.block_lt_of_cell? w _ (hcell 0 _ (List.getElem?_eq_getElem h0))) (by rw [List.length_map]; omega) (by rw [List.length_map]; exact hc) (by rw [e]; show (Lib.join l sep).length ≤ _; omega)
    rw [e, List.length_map] at c
    exact c
theorem lens_le_join (l : List (List UInt8)) (sep : List UInt8) : Lib.lens l ≤ (Lib.join l sep).length := by
  cases l with
  | nil => simp [Lib.lens]
  | cons x r => rw [Lib.join_length]; omega
end Go.Proofs.YtainindkndjkbaaGreatDoor
namespace Go.Proofs.YtainindkndjkbaaGreatDoor
open Go.RowKit Go.Lib

set_option maxRecDepth 100000 in
set_option maxHeartbeats 1000000 in
theorem idx_rng (l : List (Int × Int)) (p : Int × Int → Bool) (g : Nat) (lb : Array Value) (eg : ∀ args w, (callFunc g args).run Tryz.prog w = .ok (.enter g args) w) (v : Value) (w : World) (hl : SlAt 2 RngC w v l)
    (CP : Hid (∀ x ∈ l, ∀ wx, Below w.heap.size w wx → Calls Tryz.prog g (#[.agg #[.int .i64 x.1, .int .i64 x.2]] ++ lb) wx fun e w' => e = .returned (.bool (p x)) ∧ Below wx.heap.size wx w')) :
    Calls Tryz.prog 147 #[v, .func (.func g) #[] lb] w fun e w' => ∃ i : Int, e = .returned (.int .i64 i) ∧ decide (0 ≤ i) = l.any p ∧ Below w.heap.size w w' := by
  have HLB := Lib.hid (show ∀ wx, Below w.heap.size w wx → SlAt 2 RngC wx v l from fun wx hb => hl.rngs_below hb)
  obtain ⟨A, cap, rfl, hm, _⟩ := hl.spread
  unfold maxLen at hm
  clear hl
  go_enter Tryz.func147, Tryz.ntmps147
  go_wp2_with fail
  go_loopw [5, 8] (fun _ i wr => ∃ k : Nat, i = .int .i64 k ∧ k ≤ l.length ∧ Hid ((l.take k).any p = false) ∧ Hid (Below w.heap.size w wr)) (fun _ i _ => l.length - (RowKit.intOf i).toNat)
  case atStart => exact ⟨0, rfl, Nat.zero_le _, Lib.hid rfl, Lib.hid (Below.refl _ _)⟩
  case round =>
    obtain ⟨k, rfl, hk, HA, HB⟩ := hrel
    by_cases hlt : k < l.length
    · obtain ⟨x, hx⟩ : ∃ x, l[k]? = some x := ⟨l[k], List.getElem?_eq_getElem hlt⟩
      have HX := Lib.hid (any_take' (p := p) hx)
      have hxm := List.mem_of_getElem? hx
      obtain ⟨A', cap', eA, _, hsp⟩ := (HLB.out wr HB.out).spread
      injection eA with e1 e2 e3
      subst e1
      obtain ⟨b, off, rfl, hxc⟩ := hsp k x hx
      clear hsp e2 e3
      obtain ⟨x0, x1⟩ := hxc
      have CX := Lib.hid (CP.out x hxm _ HB.out)
      clear hx hxm
      cases hq : p x with
      | true =>
        rw [hq] at CX
        have HT := Lib.hid (show l.any p = true by
          have h1 : (l.take (k + 1)).any p = true := by rw [HX.out, hq]; simp
          obtain ⟨y, hy, e⟩ := List.any_eq_true.1 h1
          exact List.any_eq_true.2 ⟨y, List.mem_of_mem_take hy, e⟩)
        clear hq
        go_wp2_with (go_at_fn g; refine CX.out.mono ?_; rintro e w' ⟨rfl, hb⟩; have HB2 := Lib.hid (blw_trans HB.out hb); clear hb)
        go_ret
        exact ⟨_, rfl, by rw [HT.out]; exact decide_eq_true (by omega), HB2.out⟩
      | false =>
        rw [hq] at CX
        have HT := Lib.hid (show (l.take (k + 1)).any p = false by rw [HX.out, hq, HA.out]; rfl)
        clear hq
        go_wp2_with (go_at_fn g; refine CX.out.mono ?_; rintro e w' ⟨rfl, hb⟩; have HB2 := Lib.hid (blw_trans HB.out hb); clear hb)
        go_roundw
        case rel => exact ⟨k + 1, by go_num, by omega, HT, HB2⟩
        case measure => simp [RowKit.intOf]; omega
    · have HT := Lib.hid (show l.any p = false by rw [← List.take_of_length_le (l := l) (i := k) (by omega)]; exact HA.out)
      go_wp2_with fail
      go_ret
      exact ⟨_, rfl, by rw [HT.out]; rfl, HB.out⟩

set_option maxRecDepth 100000 in
set_option maxHeartbeats 1000000 in
theorem has_rng (l : List (Int × Int)) (p : Int × Int → Bool) (g : Nat) (lb : Array Value) (eg : ∀ args w, (callFunc g args).run Tryz.prog w = .ok (.enter g args) w) (v : Value) (w : World) (hl : SlAt 2 RngC w v l)
    (CP : Hid (∀ x ∈ l, ∀ wx, Below w.heap.size w wx → Calls Tryz.prog g (#[.agg #[.int .i64 x.1, .int .i64 x.2]] ++ lb) wx fun e w' => e = .returned (.bool (p x)) ∧ Below wx.heap.size wx w')) :
    Calls Tryz.prog 134 #[v, .func (.func g) #[] lb] w fun e w' => e = .returned (.bool (l.any p)) ∧ Below w.heap.size w w' := by
  have CI := Lib.hid (idx_rng l p g lb eg v w hl CP)
  obtain ⟨za, zn, zc, rfl⟩ := hl.isSlice
  clear hl CP eg
  go_enter Tryz.func134, Tryz.ntmps134
  go_wp2_with fail
  refine CI.out.mono ?_
  rintro e w1 ⟨i, rfl, hi, hb⟩
  have HI := Lib.hid hi
  clear hi
  go_wp2_with fail
  go_ret
  exact ⟨ret_bool HI.out, hb⟩
end Go.Proofs.YtainindkndjkbaaGreatDoor
namespace Go.Proofs.YtainindkndjkbaaGreatDoor
open Go.RowKit

theorem infoStrJ : (Tryz.prog.info? 9).map (fun i => (i.zero, i.size, i.bytes)) = some (some (.string ByteArray.empty), 1, 16) := by kernel_rfl

set_option maxRecDepth 100000 in
set_option maxHeartbeats 1000000 in
theorem joined_rng (l : List (Int × Int)) (f : Int × Int → List UInt8) (g : Nat) (eg : ∀ args w, (callFunc g args).run Tryz.prog w = .ok (.enter g args) w) (v : Value) (sep : List UInt8) (w : World) (hl : SlAt 2 RngC w v l) (hm : l.length ≤ 4000000001)
    (ht : Lst.total (l.map f) sep ≤ 2000000000000)
    (CP : Hid (∀ x ∈ l, ∀ wx, Below w.heap.size w wx → Calls Tryz.prog g #[.agg #[.int .i64 x.1, .int .i64 x.2]] wx fun e w' => e = .returned (.string ⟨(f x).toArray⟩) ∧ Below wx.heap.size wx w')) :
    Calls Tryz.prog 128 #[v, .string ⟨sep.toArray⟩, .func (.func g) #[] #[]] w fun e w' => e = .returned (.string ⟨(Lib.join (l.map f) sep).toArray⟩) ∧ Below w.heap.size w w' := by
  obtain ⟨i0, hi, hz0, hz1, hz2⟩ := info_parts infoStrJ
  obtain ⟨za, zn, zc, rfl⟩ := hl.isSlice
  have HLB := Lib.hid fun (wr : World) (hb : Below w.heap.size w wr) => hl.rngs_below hb
  have hn : zn = l.length := by
    obtain ⟨A, cap, e, _⟩ := hl.spread
    injection e
  subst hn
  have CJ := Lib.hid fun (v : Value) (w : World) (h : StrsAt w v (l.map f)) => sjoin_any (l.map f) v sep w h (by rw [List.length_map]; omega) ht
  clear hl ht
  go_enter Tryz.func128, Tryz.ntmps128
  go_wp2_with fail
  go_loopw [7, 12] (fun o i wr => ∃ k : Nat, i = .int .i64 (k : Int) ∧ k ≤ l.length ∧ Hid (wr.ownsRow w.heap.size 9 1 o k (((l.map f).take k).map txtV)) ∧ Hid (Below w.heap.size w wr)) (fun _ i _ => l.length - (RowKit.intOf i).toNat)
  case atStart => exact ⟨0, rfl, Nat.zero_le _, Lib.hid ⟨rfl, .inl ⟨rfl, rfl⟩⟩, Lib.hid (Below.refl _ _)⟩
  case round =>
    obtain ⟨k, rfl, hk, HO, HB⟩ := hrel
    by_cases hlt : k < l.length
    · obtain ⟨x, hx⟩ : ∃ x, l[k]? = some x := ⟨l[k], List.getElem?_eq_getElem hlt⟩
      obtain ⟨A', cap', eA, _, hsp⟩ := (HLB.out wr HB.out).spread
      injection eA with e1 e2 e3
      subst e1
      obtain ⟨b, off, rfl, hxc⟩ := hsp k x hx
      clear hsp e2 e3
      obtain ⟨x0, x1⟩ := hxc
      have CX := Lib.hid fun wx hb => CP.out x (List.mem_of_getElem? hx) wx hb
      have HT := Lib.hid (show ((l.map f).take (k + 1)).map txtV = ((l.map f).take k).map txtV ++ [txtV (f x)] by
        rw [List.take_add_one, List.getElem?_map, hx]; simp)
      clear hx
      generalize f x = fx at *
      go_wp2_with fail
      refine (CX.out _ (blw_trans HB.out (blw_alloc _ _))).mono ?_
      rintro e w2 ⟨rfl, hb⟩
      have hb' := blw_trans (blw_alloc wr _) hb
      have HB2 := Lib.hid (blw_trans HB.out hb')
      have hown := HO.out.kept (row := none) ⟨hb'.os, hb'.tape, hb'.output, hb'.size, fun k hk _ => hb'.block k hk⟩ (by cases u7.ownBlock <;> simp)
      have hbs := HB2.out.size
      clear hb hb' CX HO HB x0 x1
      go_wp2_with (at_builtin; refine wpList_append_own _ rfl _ _ 45 rfl w.heap.size 9 i0 (.string ByteArray.empty) 1 16 Tryz.underlying45 hi hz0 hz1 hz2 rfl (by decide) _ _ _ rfl (hown.alloc _) ⟨w2.heap.size, 0, none⟩ 1 1 [txtV fx] rfl rfl (cell_one_new _ _ _) (fun x hx => by simp at hx; subst hx; rfl) (by unfold maxLen; omega) (by omega) (by simp; omega) ?_; intro v' w1 hown' hgrow _)
      have HO' := Lib.hid (show w1.ownsRow w.heap.size 9 1 v' (k + 1) (((l.map f).take (k + 1)).map txtV) by rw [HT.out]; exact hown')
      have HB' := Lib.hid (show Below w.heap.size w w1 from (HB2.out.alloc hbs _).grown hgrow (by simp; omega) (fun k hk => (hown.lt k hk).1))
      clear hown hown' hgrow hbs HB2
      go_wp2_with fail
      go_roundw
      case rel => exact ⟨k + 1, by go_num, by omega, HO', HB'⟩
      case measure => simp [RowKit.intOf]; omega
    · obtain rfl : k = l.length := by omega
      have HS := Lib.hid (show StrsAt wr u7 (l.map f) from StrsAt.of_row (n := l.length) (by have h := HO.out; rw [List.take_of_length_le (by rw [List.length_map]; omega)] at h; exact h))
      go_wp2_with fail
      refine (CJ.out _ _ HS.out).mono ?_
      rintro e w2 ⟨rfl, hb⟩
      have HB2 := Lib.hid (blw_trans HB.out hb)
      clear hb
      go_wp2_with fail
      go_ret
      exact ⟨rfl, HB2.out⟩
end Go.Proofs.YtainindkndjkbaaGreatDoor
namespace Go.Proofs.YtainindkndjkbaaGreatDoor
open Go.RowKit

theorem op_text (c : UInt8) (h : Rul.opOk c = true) : Utf8.encode (c.toNat : Int) = ⟨#[c]⟩ := by
  have h' : c ∈ [110, 105, 118, 119, 102, 116] := by simpa [Rul.opOk] using h
  simp only [List.mem_cons, List.not_mem_nil, or_false] at h'
  rcases h' with rfl | rfl | rfl | rfl | rfl | rfl
  · show Utf8.encode 110 = ⟨#[110]⟩
    kernel_rfl
  · show Utf8.encode 105 = ⟨#[105]⟩
    kernel_rfl
  · show Utf8.encode 118 = ⟨#[118]⟩
    kernel_rfl
  · show Utf8.encode 119 = ⟨#[119]⟩
    kernel_rfl
  · show Utf8.encode 102 = ⟨#[102]⟩
    kernel_rfl
  · show Utf8.encode 116 = ⟨#[116]⟩
    kernel_rfl
theorem ranged_at (args : Array Value) (w : World) : (callFunc 129 args).run Tryz.prog w = .ok (.enter 129 args) w := enters_of Tryz.func129 (by kernel_rfl) rfl args w

set_option maxRecDepth 100000 in
set_option maxHeartbeats 2000000 in
theorem related_any (r : Rul.Rl) (a : Option Addr) (n c : Nat) (w : World) (hp : PowW w) (hs : SlAt 2 RngC w (.slice a n c) r.rs) (hl : r.rs.length ≤ 4000000001) (ht : Lst.total (r.rs.map Rul.rngT) [44] ≤ 2000000000000) (hk : Rul.relOk r = true) :
    Calls Tryz.prog 115 #[.agg #[.int .u8 (r.op.toNat : Int), .int .i64 r.mod, .bool r.no, .slice a n c]] w fun e w' => e = .returned (.string ⟨(Rul.relT r).toArray⟩) ∧ Below w.heap.size w w' := by
  obtain ⟨op, mod, no, rs⟩ := r
  simp only [Rul.relOk, Bool.and_eq_true, decide_eq_true_eq] at hk
  obtain ⟨⟨⟨⟨ho, hm0⟩, hm1⟩, _⟩, hall⟩ := hk
  dsimp only at *
  have EO := op_text op ho
  have i0 : 0 ≤ (op.toNat : Int) ∧ (op.toNat : Int) < 256 := by have := op.toNat_lt; omega
  have CM := Lib.hid fun w hp => itoa_pos mod w hp hm0 (by omega)
  have CJ := Lib.hid fun (wx : World) (hb : Below w.heap.size w wx) => joined_rng rs Rul.rngT 129 ranged_at (.slice a n c) [44] wx (hs.rngs_below hb) hl ht (Lib.hid fun x hx wy hy => ranged_any x wy ((hp.below hb).below hy) (List.all_eq_true.1 hall x hx))
  have hT := Lib.hid (show Rul.relT ⟨op, mod, no, rs⟩ = (if mod = 0 then [op] else [op] ++ Rul.pcS ++ Rul.dg mod) ++ (if no then Rul.neS else Rul.eqS) ++ Lib.join (rs.map Rul.rngT) [44] from rfl)
  generalize Rul.relT ⟨op, mod, no, rs⟩ = T at *
  have hJ : (Lib.join (rs.map Rul.rngT) [44]).length ≤ 2000000000000 := by have := Lst.join_le (rs.map Rul.rngT) [44]; omega
  generalize Lib.join (rs.map Rul.rngT) [44] = J at *
  have lm : (Lib.decDigits mod.toNat).length ≤ 100 := by have := Byt.digits_short 7 mod.toNat (by omega) (by omega); omega
  have hdg : Rul.dg mod = Lib.decDigits mod.toNat := rfl
  rw [hdg] at hT
  clear hdg
  generalize Lib.decDigits mod.toNat = DM at *
  generalize (op.toNat : Int) = opI at *
  have ew : wrap32 opI = opI := IntWalk.wrap32_in _ ⟨by omega, by omega⟩
  clear ho hm0 hm1 hall hs ht hl
  obtain ⟨SG, hSG⟩ : ∃ SG, SG = (if no then Rul.neS else Rul.eqS) := ⟨_, rfl⟩
  have hSl : SG.length ≤ 4 := by rw [hSG]; cases no <;> decide
  obtain ⟨P1, hP1⟩ : ∃ P1, P1 = Rul.pcS ++ DM := ⟨_, rfl⟩
  have lP : P1.length ≤ 103 := by rw [hP1, List.length_append]; show 3 + _ ≤ _; omega
  obtain ⟨X1, hX1⟩ : ∃ X1, X1 = (if mod = 0 then [op] else [op] ++ P1) := ⟨_, rfl⟩
  have lX : X1.length ≤ 104 := by rw [hX1]; split <;> simp <;> omega
  obtain ⟨X2, hX2⟩ : ∃ X2, X2 = X1 ++ SG := ⟨_, rfl⟩
  have lX2 : X2.length ≤ 108 := by rw [hX2, List.length_append]; omega
  have hTT := Lib.hid (show X2 ++ J = T by rw [hX2, hX1, hP1, hSG, hT.out]; simp only [List.append_assoc])
  have AP : ∀ w, (Op.stringOp .add ⟨#[32, 37, 32]⟩ ⟨DM.toArray⟩).run Tryz.prog w = .ok (.string ⟨P1.toArray⟩) w := fun w => by rw [hP1]; exact add_str (P := Tryz.prog) [32, 37, 32] DM (by simp; omega) w
  have AT : ∀ w, (Op.stringOp .add ⟨X2.toArray⟩ ⟨J.toArray⟩).run Tryz.prog w = .ok (.string ⟨T.toArray⟩) w := fun w => by rw [← hTT.out]; exact add_str (P := Tryz.prog) X2 J (by omega) w
  have B0 := Lib.hid (Boxed.made w #[.int .u8 opI, .int .i64 mod, .bool no, .slice a n c] 108)
  have W0 := Lib.hid (blw_alloc w (.cells #[.int .u8 opI, .int .i64 mod, .bool no, .slice a n c] 108))
  have P0 := Lib.hid (hp.alloc (.cells #[.int .u8 opI, .int .i64 mod, .bool no, .slice a n c] 108))
  by_cases hm : mod = 0
  · have e0 : (mod == 0) = true := beq_yes hm
    rw [if_pos hm] at hX1
    subst hX1
    cases no with
    | true =>
      have A2 : ∀ w, (Op.stringOp .add ⟨#[op]⟩ ⟨#[32, 33, 61, 32]⟩).run Tryz.prog w = .ok (.string ⟨X2.toArray⟩) w := fun w => by rw [hX2, hSG]; exact add_str (P := Tryz.prog) [op] [32, 33, 61, 32] (by simp) w
      clear hX2 hP1 hT hm hSG
      go_enter Tryz.func115, Tryz.ntmps115
      go_wp2_with fail
      refine (CJ.out _ W0.out).mono ?_
      rintro e w2 ⟨rfl, hb⟩
      have W2 := Lib.hid (blw_trans W0.out hb)
      clear hb CJ CM
      go_wp2_with fail
      go_ret
      exact ⟨rfl, W2.out⟩
    | false =>
      have A2 : ∀ w, (Op.stringOp .add ⟨#[op]⟩ ⟨#[32, 61, 32]⟩).run Tryz.prog w = .ok (.string ⟨X2.toArray⟩) w := fun w => by rw [hX2, hSG]; exact add_str (P := Tryz.prog) [op] [32, 61, 32] (by simp) w
      clear hX2 hP1 hT hm hSG
      go_enter Tryz.func115, Tryz.ntmps115
      go_wp2_with fail
      refine (CJ.out _ W0.out).mono ?_
      rintro e w2 ⟨rfl, hb⟩
      have W2 := Lib.hid (blw_trans W0.out hb)
      clear hb CJ CM
      go_wp2_with fail
      go_ret
      exact ⟨rfl, W2.out⟩
  · have e0 : (mod == 0) = false := beq_no hm
    rw [if_neg hm] at hX1
    have A1 : ∀ w, (Op.stringOp .add ⟨#[op]⟩ ⟨P1.toArray⟩).run Tryz.prog w = .ok (.string ⟨X1.toArray⟩) w := fun w => by rw [hX1]; exact add_str (P := Tryz.prog) [op] P1 (by simp; omega) w
    cases no with
    | true =>
      have A2 : ∀ w, (Op.stringOp .add ⟨X1.toArray⟩ ⟨#[32, 33, 61, 32]⟩).run Tryz.prog w = .ok (.string ⟨X2.toArray⟩) w := fun w => by rw [hX2, hSG]; exact add_str (P := Tryz.prog) X1 [32, 33, 61, 32] (by simp; omega) w
      clear hX1 hX2 hP1 hT hm hSG
      go_enter Tryz.func115, Tryz.ntmps115
      go_wp2_with fail
      refine (CM.out _ P0.out).mono ?_
      rintro e w1 ⟨rfl, hb⟩
      have W1 := Lib.hid (blw_trans W0.out hb)
      have B1 := Lib.hid (B0.out.below hb)
      have k2 := B1.out.cell 2 _ rfl
      have k3 := B1.out.cell 3 _ rfl
      clear hb CM B0 W0 P0
      go_wp2_with fail
      refine (CJ.out _ W1.out).mono ?_
      rintro e w2 ⟨rfl, hb⟩
      have W2 := Lib.hid (blw_trans W1.out hb)
      clear hb CJ
      go_wp2_with fail
      go_ret
      exact ⟨rfl, W2.out⟩
    | false =>
      have A2 : ∀ w, (Op.stringOp .add ⟨X1.toArray⟩ ⟨#[32, 61, 32]⟩).run Tryz.prog w = .ok (.string ⟨X2.toArray⟩) w := fun w => by rw [hX2, hSG]; exact add_str (P := Tryz.prog) X1 [32, 61, 32] (by simp; omega) w
      clear hX1 hX2 hP1 hT hm hSG
      go_enter Tryz.func115, Tryz.ntmps115
      go_wp2_with fail
      refine (CM.out _ P0.out).mono ?_
      rintro e w1 ⟨rfl, hb⟩
      have W1 := Lib.hid (blw_trans W0.out hb)
      have B1 := Lib.hid (B0.out.below hb)
      have k2 := B1.out.cell 2 _ rfl
      have k3 := B1.out.cell 3 _ rfl
      clear hb CM B0 W0 P0
      go_wp2_with fail
      refine (CJ.out _ W1.out).mono ?_
      rintro e w2 ⟨rfl, hb⟩
      have W2 := Lib.hid (blw_trans W1.out hb)
      clear hb CJ
      go_wp2_with fail
      go_ret
      exact ⟨rfl, W2.out⟩
end Go.Proofs.YtainindkndjkbaaGreatDoor
namespace Go.Proofs.YtainindkndjkbaaGreatDoor
open Go.RowKit

set_option maxRecDepth 100000 in
set_option maxHeartbeats 1000000 in
theorem joined_rel (l : List Rul.Rl) (f : Rul.Rl → List UInt8) (g : Nat) (eg : ∀ args w, (callFunc g args).run Tryz.prog w = .ok (.enter g args) w) (v : Value) (sep : List UInt8) (w : World) (hl : SlAt 4 RelC w v l) (hm : l.length ≤ 4000000001)
    (ht : Lst.total (l.map f) sep ≤ 2000000000000)
    (CP : Hid (∀ x ∈ l, ∀ a n c wx, Below w.heap.size w wx → SlAt 2 RngC wx (.slice a n c) x.rs → Calls Tryz.prog g #[.agg #[.int .u8 (x.op.toNat : Int), .int .i64 x.mod, .bool x.no, .slice a n c]] wx fun e w' => e = .returned (.string ⟨(f x).toArray⟩) ∧ Below wx.heap.size wx w')) :
    Calls Tryz.prog 114 #[v, .string ⟨sep.toArray⟩, .func (.func g) #[] #[]] w fun e w' => e = .returned (.string ⟨(Lib.join (l.map f) sep).toArray⟩) ∧ Below w.heap.size w w' := by
  obtain ⟨i0, hi, hz0, hz1, hz2⟩ := info_parts infoStrJ
  obtain ⟨za, zn, zc, rfl⟩ := hl.isSlice
  have HLB := Lib.hid fun (wr : World) (hb : Below w.heap.size w wr) => hl.rels_below hb
  have hn : zn = l.length := by
    obtain ⟨A, cap, e, _⟩ := hl.spread
    injection e
  subst hn
  have CJ := Lib.hid fun (v : Value) (w : World) (h : StrsAt w v (l.map f)) => sjoin_any (l.map f) v sep w h (by rw [List.length_map]; omega) ht
  clear hl ht
  go_enter Tryz.func114, Tryz.ntmps114
  go_wp2_with fail
  go_loopw [7, 12] (fun o i wr => ∃ k : Nat, i = .int .i64 (k : Int) ∧ k ≤ l.length ∧ Hid (wr.ownsRow w.heap.size 9 1 o k (((l.map f).take k).map txtV)) ∧ Hid (Below w.heap.size w wr)) (fun _ i _ => l.length - (RowKit.intOf i).toNat)
  case atStart => exact ⟨0, rfl, Nat.zero_le _, Lib.hid ⟨rfl, .inl ⟨rfl, rfl⟩⟩, Lib.hid (Below.refl _ _)⟩
  case round =>
    obtain ⟨k, rfl, hk, HO, HB⟩ := hrel
    by_cases hlt : k < l.length
    · obtain ⟨x, hx⟩ : ∃ x, l[k]? = some x := ⟨l[k], List.getElem?_eq_getElem hlt⟩
      obtain ⟨A', cap', eA, _, hsp⟩ := (HLB.out wr HB.out).spread
      injection eA with e1 e2 e3
      subst e1
      obtain ⟨b, off, rfl, hxc⟩ := hsp k x hx
      clear hsp e2 e3
      obtain ⟨a4, n4, c4, x0, x1, x2, x3, xs⟩ := hxc
      have HXS := Lib.hid fun wx (hb : Below wr.heap.size wr wx) => xs.rngs_below hb
      clear xs
      have CX := Lib.hid fun wx hb h => CP.out x (List.mem_of_getElem? hx) a4 n4 c4 wx hb h
      have HT := Lib.hid (show ((l.map f).take (k + 1)).map txtV = ((l.map f).take k).map txtV ++ [txtV (f x)] by
        rw [List.take_add_one, List.getElem?_map, hx]; simp)
      clear hx
      generalize f x = fx at *
      go_wp2_with fail
      refine (CX.out _ (blw_trans HB.out (blw_alloc _ _)) (HXS.out _ (blw_alloc _ _))).mono ?_
      rintro e w2 ⟨rfl, hb⟩
      have hb' := blw_trans (blw_alloc wr _) hb
      have HB2 := Lib.hid (blw_trans HB.out hb')
      have hown := HO.out.kept (row := none) ⟨hb'.os, hb'.tape, hb'.output, hb'.size, fun k hk _ => hb'.block k hk⟩ (by cases u7.ownBlock <;> simp)
      have hbs := HB2.out.size
      clear hb hb' CX HO HB HXS x0 x1 x2 x3
      go_wp2_with (at_builtin; refine wpList_append_own _ rfl _ _ 45 rfl w.heap.size 9 i0 (.string ByteArray.empty) 1 16 Tryz.underlying45 hi hz0 hz1 hz2 rfl (by decide) _ _ _ rfl (hown.alloc _) ⟨w2.heap.size, 0, none⟩ 1 1 [txtV fx] rfl rfl (cell_one_new _ _ _) (fun x hx => by simp at hx; subst hx; rfl) (by unfold maxLen; omega) (by omega) (by simp; omega) ?_; intro v' w1 hown' hgrow _)
      have HO' := Lib.hid (show w1.ownsRow w.heap.size 9 1 v' (k + 1) (((l.map f).take (k + 1)).map txtV) by rw [HT.out]; exact hown')
      have HB' := Lib.hid (show Below w.heap.size w w1 from (HB2.out.alloc hbs _).grown hgrow (by simp; omega) (fun k hk => (hown.lt k hk).1))
      clear hown hown' hgrow hbs HB2
      go_wp2_with fail
      go_roundw
      case rel => exact ⟨k + 1, by go_num, by omega, HO', HB'⟩
      case measure => simp [RowKit.intOf]; omega
    · obtain rfl : k = l.length := by omega
      have HS := Lib.hid (show StrsAt wr u7 (l.map f) from StrsAt.of_row (n := l.length) (by have h := HO.out; rw [List.take_of_length_le (by rw [List.length_map]; omega)] at h; exact h))
      go_wp2_with fail
      refine (CJ.out _ _ HS.out).mono ?_
      rintro e w2 ⟨rfl, hb⟩
      have HB2 := Lib.hid (blw_trans HB.out hb)
      clear hb
      go_wp2_with fail
      go_ret
      exact ⟨rfl, HB2.out⟩

set_option maxRecDepth 100000 in
set_option maxHeartbeats 1000000 in
theorem joined_part (l : List (List Rul.Rl)) (f : List Rul.Rl → List UInt8) (g : Nat) (eg : ∀ args w, (callFunc g args).run Tryz.prog w = .ok (.enter g args) w) (v : Value) (sep : List UInt8) (w : World) (hl : SlAt 1 PartC w v l) (hm : l.length ≤ 4000000001)
    (ht : Lst.total (l.map f) sep ≤ 2000000000000)
    (CP : Hid (∀ x ∈ l, ∀ a n c wx, Below w.heap.size w wx → SlAt 4 RelC wx (.slice a n c) x → Calls Tryz.prog g #[.slice a n c] wx fun e w' => e = .returned (.string ⟨(f x).toArray⟩) ∧ Below wx.heap.size wx w')) :
    Calls Tryz.prog 112 #[v, .string ⟨sep.toArray⟩, .func (.func g) #[] #[]] w fun e w' => e = .returned (.string ⟨(Lib.join (l.map f) sep).toArray⟩) ∧ Below w.heap.size w w' := by
  obtain ⟨i0, hi, hz0, hz1, hz2⟩ := info_parts infoStrJ
  obtain ⟨za, zn, zc, rfl⟩ := hl.isSlice
  have HLB := Lib.hid fun (wr : World) (hb : Below w.heap.size w wr) => hl.rule_below hb
  have hn : zn = l.length := by
    obtain ⟨A, cap, e, _⟩ := hl.spread
    injection e
  subst hn
  have CJ := Lib.hid fun (v : Value) (w : World) (h : StrsAt w v (l.map f)) => sjoin_any (l.map f) v sep w h (by rw [List.length_map]; omega) ht
  clear hl ht
  go_enter Tryz.func112, Tryz.ntmps112
  go_wp2_with fail
  go_loopw [7, 12] (fun o i wr => ∃ k : Nat, i = .int .i64 (k : Int) ∧ k ≤ l.length ∧ Hid (wr.ownsRow w.heap.size 9 1 o k (((l.map f).take k).map txtV)) ∧ Hid (Below w.heap.size w wr)) (fun _ i _ => l.length - (RowKit.intOf i).toNat)
  case atStart => exact ⟨0, rfl, Nat.zero_le _, Lib.hid ⟨rfl, .inl ⟨rfl, rfl⟩⟩, Lib.hid (Below.refl _ _)⟩
  case round =>
    obtain ⟨k, rfl, hk, HO, HB⟩ := hrel
    by_cases hlt : k < l.length
    · obtain ⟨x, hx⟩ : ∃ x, l[k]? = some x := ⟨l[k], List.getElem?_eq_getElem hlt⟩
      obtain ⟨A', cap', eA, _, hsp⟩ := (HLB.out wr HB.out).spread
      injection eA with e1 e2 e3
      subst e1
      obtain ⟨b, off, rfl, hxc⟩ := hsp k x hx
      clear hsp e2 e3
      obtain ⟨a4, n4, c4, x0, xs⟩ := hxc
      rw [Nat.mul_one] at x0
      have HXS := Lib.hid xs
      clear xs
      have CX := Lib.hid fun wx hb h => CP.out x (List.mem_of_getElem? hx) a4 n4 c4 wx hb h
      have HT := Lib.hid (show ((l.map f).take (k + 1)).map txtV = ((l.map f).take k).map txtV ++ [txtV (f x)] by
        rw [List.take_add_one, List.getElem?_map, hx]; simp)
      clear hx
      generalize f x = fx at *
      go_wp2_with fail
      refine (CX.out _ HB.out HXS.out).mono ?_
      rintro e w2 ⟨rfl, hb⟩
      have hb' := hb
      have HB2 := Lib.hid (blw_trans HB.out hb')
      have hown := HO.out.kept (row := none) ⟨hb'.os, hb'.tape, hb'.output, hb'.size, fun k hk _ => hb'.block k hk⟩ (by cases u7.ownBlock <;> simp)
      have hbs := HB2.out.size
      clear hb hb' CX HO HB HXS x0
      go_wp2_with (at_builtin; refine wpList_append_own _ rfl _ _ 45 rfl w.heap.size 9 i0 (.string ByteArray.empty) 1 16 Tryz.underlying45 hi hz0 hz1 hz2 rfl (by decide) _ _ _ rfl (hown.alloc _) ⟨w2.heap.size, 0, none⟩ 1 1 [txtV fx] rfl rfl (cell_one_new _ _ _) (fun x hx => by simp at hx; subst hx; rfl) (by unfold maxLen; omega) (by omega) (by simp; omega) ?_; intro v' w1 hown' hgrow _)
      have HO' := Lib.hid (show w1.ownsRow w.heap.size 9 1 v' (k + 1) (((l.map f).take (k + 1)).map txtV) by rw [HT.out]; exact hown')
      have HB' := Lib.hid (show Below w.heap.size w w1 from (HB2.out.alloc hbs _).grown hgrow (by simp; omega) (fun k hk => (hown.lt k hk).1))
      clear hown hown' hgrow hbs HB2
      go_wp2_with fail
      go_roundw
      case rel => exact ⟨k + 1, by go_num, by omega, HO', HB'⟩
      case measure => simp [RowKit.intOf]; omega
    · obtain rfl : k = l.length := by omega
      have HS := Lib.hid (show StrsAt wr u7 (l.map f) from StrsAt.of_row (n := l.length) (by have h := HO.out; rw [List.take_of_length_le (by rw [List.length_map]; omega)] at h; exact h))
      go_wp2_with fail
      refine (CJ.out _ _ HS.out).mono ?_
      rintro e w2 ⟨rfl, hb⟩
      have HB2 := Lib.hid (blw_trans HB.out hb)
      clear hb
      go_wp2_with fail
      go_ret
      exact ⟨rfl, HB2.out⟩
end Go.Proofs.YtainindkndjkbaaGreatDoor
namespace Go.Proofs.YtainindkndjkbaaGreatDoor
open Go.RowKit

theorem each_op (c : UInt8) : decide (0 ≤ Lib.indexByte [110, 105, 118, 119, 102, 116] c) = Rul.opOk c := by
  have key : ∀ n : Nat, n < 256 → decide (0 ≤ Lib.indexByte [110, 105, 118, 119, 102, 116] (UInt8.ofNat n)) = Rul.opOk (UInt8.ofNat n) := by decide +kernel
  have := key c.toNat c.toNat_lt
  simpa using this
theorem op_low (c : UInt8) (h : 128 ≤ c.toNat) : Rul.opOk c = false := by
  cases e : Rul.opOk c with
  | false => rfl
  | true =>
    rcases Rul.op_cases e with rfl | rfl | rfl | rfl | rfl | rfl <;> exact absurd h (by decide)
theorem enc_two (n : Int) (h0 : 128 ≤ n) (h1 : n ≤ 255) : ∃ b0 b1 : UInt8, Utf8.encode n = ⟨[b0, b1].toArray⟩ ∧ 128 ≤ b1.toNat := by
  have hv : Utf8.valid n = true := by unfold Utf8.valid; simp; omega
  refine ⟨UInt8.ofNat (0xC0 + n.toNat / 64), UInt8.ofNat (0x80 + n.toNat % 64), ?_, ?_⟩
  · unfold Utf8.encode
    simp only [hv, if_true]
    rw [if_neg (by omega), if_pos (by omega)]
  · rw [UInt8.toNat_ofNat']; omega
theorem far_two (c : UInt8) (h : 128 ≤ c.toNat) : Lib.indexByte [118, 119, 102, 116] c = -1 := by
  have key : ∀ n : Nat, n < 256 → 128 ≤ n → Lib.indexByte [118, 119, 102, 116] (UInt8.ofNat n) = -1 := by decide +kernel
  have := key c.toNat c.toNat_lt h
  simpa using this

set_option maxRecDepth 100000 in
set_option maxHeartbeats 1000000 in
theorem valid_low (r : Int) (w : World) (h0 : 0 ≤ r) (h1 : r < 55296) : Calls Tryz.prog 118 #[.int .i32 r] w fun e w' => e = .returned (.bool true) ∧ w' = w := by
  go_enter Tryz.func118, Tryz.ntmps118
  go_wp2_with fail
  go_ret
  exact ⟨rfl, rfl⟩

set_option maxRecDepth 100000 in
set_option maxHeartbeats 1000000 in
theorem irune_hi (c : Int) (w : World) (h0 : 128 ≤ c) (h1 : c ≤ 255) :
    Calls Tryz.prog 106 #[.string ⟨#[110, 105, 118, 119, 102, 116]⟩, .int .i32 c] w fun e w' => e = .returned (.int .i64 (-1)) ∧ Below w.heap.size w w' := by
  obtain ⟨b0, b1, he, hb⟩ := enc_two c h0 h1
  have CE : ∀ w, (convert 21 9 (.int .i32 c)).run Tryz.prog w = .ok (.string ⟨[b0, b1].toArray⟩) w := fun w => (run_convert_int_string (P := Tryz.prog) w 21 9 .i32 c (by rw [Tryz.underlying21]; rfl) Tryz.underlying9).trans (by rw [he])
  have CV := Lib.hid fun w => valid_low c w (by omega) (by omega)
  have I0 := fun w => index_str (P := Tryz.prog) 9 Tryz.underlying9 [110, 105, 118, 119, 102, 116] .i64 1 105 rfl w
  have I1 := fun w => index_str (P := Tryz.prog) 9 Tryz.underlying9 [b0, b1] .i64 1 b1 rfl w
  have SL := fun w => slice_from (P := Tryz.prog) 9 Tryz.underlying9 [110, 105, 118, 119, 102, 116] .i64 2 (by decide) w
  have CB := Lib.hid fun (w : World) => Tryz.strings_IndexByte ⟨#[118, 119, 102, 116]⟩ (b1.toNat : Int) w
  have e1 : Lib.indexByte (⟨#[118, 119, 102, 116]⟩ : ByteArray).data.toList ((b1.toNat : Int)).toNat.toUInt8 = -1 := by
    have : ((b1.toNat : Int)).toNat.toUInt8 = b1 := by simp
    rw [this]; exact far_two b1 hb
  rw [e1] at CB
  clear e1 he
  have hb2 := b1.toNat_lt
  go_enter Tryz.func106, Tryz.ntmps106
  go_wp2_with fail
  refine (CV.out _).mono ?_
  rintro e w' ⟨rfl, rfl⟩
  go_wp2_with fail
  go_step3
  go_wp2_with fail
  go_loopw [9] (fun i wr => i = .int .i64 1 ∧ wr = w') (fun _ _ => 0)
  case atStart => exact ⟨rfl, rfl⟩
  case round =>
    obtain ⟨rfl, rfl⟩ := hrel
    have hx : (⟨#[110, 105, 118, 119, 102, 116]⟩ : ByteArray).extract 2 6 = ⟨#[118, 119, 102, 116]⟩ := by decide
    have hy : (⟨#[b0, b1]⟩ : ByteArray)[1]'(by show 1 < 2; decide) = b1 := rfl
    have hw2 : IntKind.i64.wrap 2 = 2 := by decide
    have hz : ((⟨#[110, 105, 118, 119, 102, 116]⟩ : ByteArray)[1]'(by decide)).toNat = 105 := by decide
    have hne : ((105 : Int) == (b1.toNat : Int)) = false := beq_no (by omega)
    have hne2 : (((105 : Nat) : Int) != (b1.toNat : Int)) = true := by rw [bne, show (((105 : Nat) : Int) == (b1.toNat : Int)) = false from hne]; rfl
    go_wp2_with fail
    go_step3
    go_wp2_with fail
    go_quiet (fail)
    rename_i nq
    have HB := Lib.hid (blw_drewN (Below.refl wr.heap.size wr) nq)
    generalize wr.drewN nq = w2 at *
    go_wp2_with fail
    go_big_quiet ((go_at_call 52; exact quiet_left ((CB.out _).mono fun _ _ h => ⟨h.1, h.2.symm⟩)))
    go_wp2_with fail
    simp (config := { zetaDelta := true }) only [Exit.then, Exit.noGoto, Exit.inBlock]
    go_ret
    exact ⟨rfl, blw_drewN HB.out _⟩

set_option maxRecDepth 100000 in
set_option maxHeartbeats 1000000 in
theorem crune_hi (c : Int) (w : World) (h0 : 128 ≤ c) (h1 : c ≤ 255) :
    Calls Tryz.prog 95 #[.string ⟨#[110, 105, 118, 119, 102, 116]⟩, .int .i32 c] w fun e w' => e = .returned (.bool false) ∧ Below w.heap.size w w' := by
  have CI := Lib.hid (irune_hi c w h0 h1)
  go_enter Tryz.func95, Tryz.ntmps95
  go_wp2_with fail
  refine CI.out.mono ?_
  rintro e w' ⟨rfl, hb⟩
  go_wp2_with fail
  go_ret
  exact ⟨rfl, hb⟩
/-- is a byte an operand's letter? -/
theorem crune_any (c : UInt8) (w : World) :
    Calls Tryz.prog 95 #[.string ⟨#[110, 105, 118, 119, 102, 116]⟩, .int .i32 (c.toNat : Int)] w fun e w' => e = .returned (.bool (Rul.opOk c)) ∧ Below w.heap.size w w' := by
  by_cases h : c.toNat < 128
  · have e : ((c.toNat : Int)).toNat.toUInt8 = c := by simp
    have C := Tryz.strings_ContainsRune_ascii ⟨#[110, 105, 118, 119, 102, 116]⟩ (c.toNat : Int) w (by omega) (by omega)
    rw [e, each_op c] at C
    exact C.mono fun _ _ h => ⟨h.1, by rw [h.2]; exact Below.refl _ _⟩
  · have := c.toNat_lt
    rw [op_low c (by omega)]
    exact crune_hi _ w (by omega) (by omega)
end Go.Proofs.YtainindkndjkbaaGreatDoor
namespace Go.Proofs.YtainindkndjkbaaGreatDoor
open Go.RowKit

/-- no error, or the one of this number -/
def errR (n : Int) : Value := if n = 0 then .nilIface else errV n

set_option maxRecDepth 100000 in
set_option maxHeartbeats 1000000 in
theorem fine1_any (p : Int × Int) (w : World) :
    Calls Tryz.prog 135 (#[.agg #[.int .i64 p.1, .int .i64 p.2]] ++ #[]) w fun e w' => e = .returned (.bool (!Rul.rngOk p)) ∧ Below w.heap.size w w' := by
  obtain ⟨a, b⟩ := p
  dsimp only
  have HR := Lib.hid (show Rul.rngOk (a, b) = (decide (0 ≤ a) && decide (a ≤ b) && decide (b ≤ 1000000)) from rfl)
  generalize Rul.rngOk (a, b) = R at *
  show Calls _ _ #[_] _ _
  by_cases h0 : a < 0
  · have HF := Lib.hid (show R = false by rw [HR.out, dec_no (show ¬ 0 ≤ a by omega)]; rfl)
    go_enter Tryz.func135, Tryz.ntmps135
    go_wp2_with fail
    go_ret
    exact ⟨ret_bool (by rw [HF.out]; rfl), blw_alloc _ _⟩
  · by_cases h1 : b < a
    · have HF := Lib.hid (show R = false by rw [HR.out, dec_no (show ¬ a ≤ b by omega)]; simp)
      go_enter Tryz.func135, Tryz.ntmps135
      go_wp2_with fail
      go_ret
      exact ⟨ret_bool (by rw [HF.out]; rfl), blw_alloc _ _⟩
    · by_cases h2 : 1000000 < b
      · have HF := Lib.hid (show R = false by rw [HR.out, dec_no (show ¬ b ≤ 1000000 by omega)]; simp)
        have d2 : decide (1000000 < b) = true := dec_yes h2
        go_enter Tryz.func135, Tryz.ntmps135
        go_wp2_with fail
        go_ret
        exact ⟨ret_bool (by rw [HF.out]; first | rfl | simpa using h2), blw_alloc _ _⟩
      · have HF := Lib.hid (show R = true by rw [HR.out, dec_yes (show 0 ≤ a by omega), dec_yes (show a ≤ b by omega), dec_yes (show b ≤ 1000000 by omega)]; rfl)
        have d2 : decide (1000000 < b) = false := dec_no h2
        go_enter Tryz.func135, Tryz.ntmps135
        go_wp2_with fail
        go_ret
        exact ⟨ret_bool (by rw [HF.out]; first | rfl | simpa using h2), blw_alloc _ _⟩
theorem any_not {l : List (Int × Int)} : (l.any fun p => !Rul.rngOk p) = !(l.all Rul.rngOk) := by
  induction l with
  | nil => rfl
  | cons x r ih => rw [List.any_cons, List.all_cons, ih, Bool.not_and]
theorem fine1_at (args : Array Value) (w : World) : (callFunc 135 args).run Tryz.prog w = .ok (.enter 135 args) w := enters_of Tryz.func135 (by kernel_rfl) rfl args w
end Go.Proofs.YtainindkndjkbaaGreatDoor
namespace Go.Proofs.YtainindkndjkbaaGreatDoor
open Go.RowKit

set_option maxRecDepth 100000 in
set_option maxHeartbeats 2000000 in
theorem fine_any (r : Rul.Rl) (a : Option Addr) (n c : Nat) (w : World) (hs : SlAt 2 RngC w (.slice a n c) r.rs) (hl : r.rs.length ≤ 4000000001) :
    Calls Tryz.prog 125 #[.agg #[.int .u8 (r.op.toNat : Int), .int .i64 r.mod, .bool r.no, .slice a n c]] w fun e w' => e = .returned (.bool (Rul.relOk r)) ∧ Below w.heap.size w w' := by
  obtain ⟨op, mod, no, rs⟩ := r
  dsimp only at *
  have hn : n = rs.length := by
    obtain ⟨A, cap, e, _⟩ := hs.spread
    injection e
  have CR := Lib.hid fun w => crune_any op w
  have HA := Lib.hid fun (w' : World) (hb : Below w.heap.size w w') => has_rng rs (fun p => !Rul.rngOk p) 135 #[] fine1_at (.slice a n c) w' (hs.rngs_below hb) (Lib.hid fun x _ wx _ => fine1_any x wx)
  have HR := Lib.hid (show Rul.relOk ⟨op, mod, no, rs⟩ = (Rul.opOk op && decide (0 ≤ mod) && decide (mod ≤ 1000000) && !rs.isEmpty && rs.all Rul.rngOk) from rfl)
  generalize Rul.relOk ⟨op, mod, no, rs⟩ = R at *
  generalize Rul.opOk op = O at *
  have hOB : (op.toNat : Int) < 256 := by have := op.toNat_lt; omega
  have hO0 : 0 ≤ (op.toNat : Int) := by omega
  generalize (op.toNat : Int) = opI at *
  have hX : (rs.any fun p => !Rul.rngOk p) = !(rs.all Rul.rngOk) := any_not
  rw [hX] at HA
  subst hn
  have hE : rs.isEmpty = decide ((rs.length : Int) = 0) := by cases rs <;> simp <;> omega
  rw [hE] at HR
  generalize rs.all Rul.rngOk = L at *
  have hnl : (rs.length : Int) ≤ 4000000001 := by omega
  clear hX hE hs hl
  generalize rs.length = n at *
  have ew : wrap32 opI = opI := IntWalk.wrap32_in _ ⟨by omega, by omega⟩
  go_enter Tryz.func125, Tryz.ntmps125
  go_wp2_with fail
  refine (CR.out _).mono ?_
  rintro e w1 ⟨rfl, hb⟩
  have W1 := Lib.hid (blw_trans (blw_alloc w (.cells #[.int .u8 opI, .int .i64 mod, .bool no, .slice a n c] 108)) hb)
  have B1 := Lib.hid ((Boxed.made w #[.int .u8 opI, .int .i64 mod, .bool no, .slice a n c] 108).below hb)
  have k1 := B1.out.cell 1 _ rfl
  have k3 := B1.out.cell 3 _ rfl
  clear hb CR ew
  cases O with
  | false =>
    obtain rfl : R = false := HR.out
    go_wp2_with fail
    go_ret
    exact ⟨rfl, W1.out⟩
  | true =>
    by_cases h0 : mod < 0
    · obtain rfl : R = false := by rw [HR.out, dec_no (show ¬ 0 ≤ mod by omega)]; rfl
      go_wp2_with fail
      go_ret
      exact ⟨rfl, W1.out⟩
    · by_cases h1 : 1000000 < mod
      · obtain rfl : R = false := by rw [HR.out, dec_yes (show 0 ≤ mod by omega), dec_no (show ¬ mod ≤ 1000000 by omega)]; rfl
        go_wp2_with fail
        go_ret
        exact ⟨rfl, W1.out⟩
      · by_cases h2 : (n : Int) = 0
        · obtain rfl : R = false := by rw [HR.out, dec_yes (show 0 ≤ mod by omega), dec_yes (show mod ≤ 1000000 by omega), dec_yes h2]; rfl
          have e2 : ((n : Int) == 0) = true := beq_yes h2
          go_wp2_with fail
          go_ret
          exact ⟨rfl, W1.out⟩
        · obtain rfl : R = L := by rw [HR.out, dec_yes (show 0 ≤ mod by omega), dec_yes (show mod ≤ 1000000 by omega), dec_no h2]; simp
          have e2 : ((n : Int) == 0) = false := beq_no h2
          have e1 : decide (1000000 < mod) = false := dec_no h1
          have e0 : decide (mod < 0) = false := dec_no h0
          clear h0 h1 h2 HR
          go_wp2_with fail
          refine (HA.out _ W1.out).mono ?_
          rintro e w2 ⟨rfl, hb⟩
          have W2 := Lib.hid (blw_trans W1.out hb)
          clear hb HA W1 k1 k3
          go_wp2_with fail
          go_ret
          exact ⟨ret_bool (by simp), W2.out⟩
end Go.Proofs.YtainindkndjkbaaGreatDoor
namespace Go.Proofs.YtainindkndjkbaaGreatDoor
open Go.RowKit

theorem count_take {r : Rul.Rule} {k : Nat} {l : List Rul.Rl} (h : r[k]? = some l) : Rul.count (r.take (k + 1)) = Rul.count (r.take k) + l.length := by
  unfold Rul.count
  rw [List.take_add_one, h]
  simp
theorem count_le {r : Rul.Rule} {k : Nat} {l : List Rul.Rl} (h : r[k]? = some l) : Rul.count (r.take k) + l.length ≤ Rul.count r := by
  rw [← count_take h]
  unfold Rul.count
  have e : r = r.take (k + 1) ++ r.drop (k + 1) := (List.take_append_drop _ _).symm
  conv => rhs; rw [e]
  rw [List.map_append, List.sum_append]
  omega
/-- a rule with a bad part is none -/
theorem bad_part {r : Rul.Rule} {k : Nat} {l : List Rul.Rl} (h : r[k]? = some l) (hb : Rul.partOk l = false) : Rul.ruleE r = 3 := by
  have hs : Rul.shapeOk r = false := by
    unfold Rul.shapeOk
    have : r.all Rul.partOk = false := by
      rw [List.all_eq_false]
      exact ⟨l, List.mem_of_getElem? h, by rw [hb]; decide⟩
    rw [this, Bool.and_false]
  unfold Rul.ruleE
  rw [hs]; rfl
theorem bad_rel {l : List Rul.Rl} {j : Nat} {x : Rul.Rl} (h : l[j]? = some x) (hb : Rul.relOk x = false) : Rul.partOk l = false := by
  unfold Rul.partOk
  have : l.all Rul.relOk = false := by
    rw [List.all_eq_false]
    exact ⟨x, List.mem_of_getElem? h, by rw [hb]; decide⟩
  rw [this, Bool.and_false]
theorem bad_none : Rul.partOk [] = false := rfl
theorem all_take {α : Type} {p : α → Bool} {l : List α} {k : Nat} {x : α} (h : l[k]? = some x) (ha : (l.take k).all p = true) (hx : p x = true) : (l.take (k + 1)).all p = true := by
  rw [List.take_add_one, h, List.all_append, ha]
  simp [hx]
theorem ruleE_ok {r : Rul.Rule} (h0 : r.length ≠ 0) (h : r.all Rul.partOk = true) : Rul.ruleE r = if 20 < Rul.count r then 4 else 0 := by
  have hs : Rul.shapeOk r = true := by
    unfold Rul.shapeOk
    rw [h]
    cases r with
    | nil => simp at h0
    | cons => rfl
  unfold Rul.ruleE
  rw [hs]; rfl
theorem ruleE_none : Rul.ruleE [] = 3 := rfl

set_option maxRecDepth 100000 in
set_option maxHeartbeats 4000000 in
theorem check_any (r : Rul.Rule) (A : Option Addr) (n c : Nat) (w : World) (hr : SlAt 1 PartC w (.slice A n c) r) (hl : r.length ≤ 1000000000) (hc : Rul.count r ≤ 1000000000) (hrs : ∀ l ∈ r, ∀ x ∈ l, x.rs.length ≤ 4000000001) :
    Calls Tryz.prog 111 #[.slice A n c] w fun e w' => e = .returned (errR (Rul.ruleE r)) ∧ Below w.heap.size w w' := by
  obtain ⟨A', cap, e, hm, hcell⟩ := hr.spread
  injection e with e1 e2 e3
  subst e1 e2 e3
  have HLB := Lib.hid fun (wr : World) (hb : Below w.heap.size w wr) => hr.rule_below hb
  have HS := Lib.hid hrs
  clear hr hcell hrs hm
  by_cases h0 : r.length = 0
  · have e0 : ((r.length : Int) == 0) = true := beq_yes (by omega)
    obtain rfl := List.length_eq_zero_iff.1 h0
    go_enter Tryz.func111, Tryz.ntmps111
    go_wp2_with fail
    go_ret
    exact ⟨rfl, Below.refl _ _⟩
  have e0 : ((r.length : Int) == 0) = false := beq_no (by omega)
  go_enter Tryz.func111, Tryz.ntmps111
  go_wp2_with fail
  go_loopw [3, 14] (fun cn i wr => ∃ k : Nat, cn = .int .i64 (Rul.count (r.take k) : Int) ∧ i = .int .i64 (k : Int) ∧ k ≤ r.length ∧ Hid ((r.take k).all Rul.partOk = true) ∧ Hid (Below w.heap.size w wr)) (fun _ i _ => r.length - (RowKit.intOf i).toNat)
  case atStart => exact ⟨0, rfl, rfl, Nat.zero_le _, Lib.hid rfl, Lib.hid (Below.refl _ _)⟩
  case round =>
    obtain ⟨k, rfl, rfl, hk, HA, HB⟩ := hrel
    by_cases hlt : k < r.length
    · obtain ⟨l, hx⟩ : ∃ l, r[k]? = some l := ⟨r[k], List.getElem?_eq_getElem hlt⟩
      obtain ⟨A', cap', eA, _, hsp⟩ := (HLB.out wr HB.out).spread
      injection eA with e1 e2 e3
      subst e1
      obtain ⟨b, off, rfl, hxc⟩ := hsp k l hx
      clear hsp e2 e3
      obtain ⟨za, zn, zc, x0, xs⟩ := hxc
      rw [Nat.mul_one] at x0
      have HCT := Lib.hid (count_take hx)
      have hcl := count_le hx
      have HRS := Lib.hid (HS.out l (List.mem_of_getElem? hx))
      have HBP := Lib.hid fun hb => bad_part hx hb
      have HAT := Lib.hid fun hb => all_take hx HA.out hb
      have HXL := Lib.hid fun (wx : World) (hb : Below wr.heap.size wr wx) => xs.rels_below hb
      obtain ⟨A2, cap2, eA, _, _⟩ := xs.spread
      injection eA with e1 e2 e3
      subst e1 e2 e3
      clear hx xs
      cases l with
      | nil =>
        have HE := Lib.hid (HBP.out rfl)
        go_wp2_with fail
        go_ret
        exact ⟨by rw [HE.out]; rfl, HB.out⟩
      | cons y ys =>
        have e20 : (((y :: ys).length : Int) == 0) = false := beq_no (by rw [List.length_cons]; omega)
        generalize hL : y :: ys = L at *
        have hL0 : 0 < L.length := by rw [← hL, List.length_cons]; omega
        have hL1 : (0 : Int) < (L.length : Int) := by omega
        have h0 : L[0]? = some y := by rw [← hL]; rfl
        obtain ⟨A3, cap3, eA, _, hsp⟩ := (HXL.out wr (Below.refl _ _)).spread
        injection eA with e1 e2 e3
        subst e1
        obtain ⟨b2, off2, rfl, hxc⟩ := hsp 0 y h0
        clear hsp e2 e3
        rw [Nat.zero_mul, Nat.add_zero] at hxc
        obtain ⟨a, n, c', y0, y1, y2, y3, ys'⟩ := hxc
        have CF := Lib.hid fun w2 (hb : Below wr.heap.size wr w2) => fine_any y a n c' w2 (ys'.rngs_below hb) (HRS.out y (List.mem_of_getElem? h0))
        clear ys'
        cases hq : Rul.relOk y with
        | false =>
          rw [hq] at CF
          have HE := Lib.hid (HBP.out (bad_rel h0 hq))
          clear hL
          go_wp2_with fail
          refine (CF.out _ (Below.refl _ _)).mono ?_
          rintro e w2 ⟨rfl, hb⟩
          have W2 := Lib.hid (blw_trans HB.out hb)
          clear hb CF
          go_wp2_with fail
          go_ret
          exact ⟨by rw [HE.out]; rfl, W2.out⟩
        | true =>
          rw [hq] at CF
          clear hL
          go_wp2_with fail
          refine (CF.out _ (Below.refl _ _)).mono ?_
          rintro e w2 ⟨rfl, hb⟩
          have W2 := Lib.hid hb
          clear hb CF hq y0 y1 y2 y3 h0
          go_wp2_with fail
          go_loopw [3, 31] (fun cn j wx => ∃ m : Nat, cn = .int .i64 ((Rul.count (r.take k) + m : Nat) : Int) ∧ j = .int .i64 (m : Int) ∧ m ≤ L.length ∧ Hid ((L.take m).all Rul.relOk = true) ∧ Hid (Below wr.heap.size wr wx)) (fun _ j _ => L.length - (RowKit.intOf j).toNat)
          case atStart => exact ⟨0, rfl, rfl, Nat.zero_le _, Lib.hid rfl, W2⟩
          case round =>
            obtain ⟨m, rfl, rfl, hm, HM, HW⟩ := hrel
            by_cases hml : m < L.length
            · obtain ⟨x, hx⟩ : ∃ x, L[m]? = some x := ⟨L[m], List.getElem?_eq_getElem hml⟩
              obtain ⟨A4, cap4, eA, _, hsp⟩ := (HXL.out wr HW.out).spread
              injection eA with e1 e2 e3
              obtain ⟨b4, off4, e4, hxc⟩ := hsp m x hx
              rw [e4] at e1
              injection e1 with e1
              injection e1 with e5 e6 _
              subst e5 e6
              clear hsp e2 e3 e4
              obtain ⟨a4, n4, c4, z0, z1, z2, z3, zs⟩ := hxc
              have CG := Lib.hid fun w2 (hb : Below wr.heap.size wr w2) => fine_any x a4 n4 c4 w2 (zs.rngs_below hb) (HRS.out x (List.mem_of_getElem? hx))
              clear zs
              cases hq : Rul.relOk x with
              | false =>
                rw [hq] at CG
                have HE := Lib.hid (HBP.out (bad_rel hx hq))
                clear hx hq
                go_wp2_with fail
                refine (CG.out _ (blw_alloc _ _)).mono ?_
                rintro e w3 ⟨rfl, hb⟩
                have W3 := Lib.hid (blw_trans HB.out (blw_trans HW.out (blw_trans (blw_alloc _ _) hb)))
                clear hb CG
                go_wp2_with fail
                go_ret
                exact ⟨by rw [HE.out]; rfl, W3.out⟩
              | true =>
                rw [hq] at CG
                have HT := Lib.hid (all_take hx HM.out hq)
                clear hx hq
                go_wp2_with fail
                refine (CG.out _ (blw_alloc _ _)).mono ?_
                rintro e w3 ⟨rfl, hb⟩
                have W3 := Lib.hid (blw_trans HW.out (blw_trans (blw_alloc _ _) hb))
                clear hb CG z0 z1 z2 z3
                go_wp2_with fail
                exact ⟨⟨m + 1, by go_num, by go_num, by omega, HT, W3⟩, by simp [RowKit.intOf]; omega⟩
            · have HT := Lib.hid (HAT.out (by
                unfold Rul.partOk
                rw [show L.all Rul.relOk = true by rw [← List.take_of_length_le (l := L) (i := m) (by omega)]; exact HM.out]
                cases L with
                | nil => simp at hL0
                | cons => rfl))
              obtain rfl : m = L.length := by omega
              rw [← HCT.out]
              go_wp2_with fail
              exact ⟨⟨k + 1, rfl, by go_num, by omega, HT, Lib.hid (blw_trans HB.out HW.out)⟩, by simp [RowKit.intOf]; omega⟩
    · have HT := Lib.hid (ruleE_ok h0 (show r.all Rul.partOk = true by rw [← List.take_of_length_le (l := r) (i := k) (by omega)]; exact HA.out))
      rw [List.take_of_length_le (by omega)]
      by_cases h20 : 20 < Rul.count r
      · rw [if_pos h20] at HT
        have d : decide ((20 : Int) < (Rul.count r : Int)) = true := dec_yes (by omega)
        go_wp2_with fail
        go_ret
        exact ⟨by rw [HT.out]; rfl, HB.out⟩
      · rw [if_neg h20] at HT
        have d : decide ((20 : Int) < (Rul.count r : Int)) = false := dec_no (by omega)
        go_wp2_with fail
        go_ret
        exact ⟨by rw [HT.out]; rfl, HB.out⟩
end Go.Proofs.YtainindkndjkbaaGreatDoor
namespace Go.Proofs.YtainindkndjkbaaGreatDoor
open Go.RowKit

theorem related_at (args : Array Value) (w : World) : (callFunc 115 args).run Tryz.prog w = .ok (.enter 115 args) w := enters_of Tryz.func115 (by kernel_rfl) rfl args w
theorem text1_at (args : Array Value) (w : World) : (callFunc 113 args).run Tryz.prog w = .ok (.enter 113 args) w := enters_of Tryz.func113 (by kernel_rfl) rfl args w

set_option maxRecDepth 100000 in
set_option maxHeartbeats 1000000 in
theorem text1_any (l : List Rul.Rl) (a : Option Addr) (n c : Nat) (w : World) (hp : PowW w) (hs : SlAt 4 RelC w (.slice a n c) l) (hl : l.length ≤ 4000000001) (ht : Lst.total (l.map Rul.relT) [32, 97, 110, 100, 32] ≤ 2000000000000)
    (hr : ∀ x ∈ l, x.rs.length ≤ 4000000001 ∧ Lst.total (x.rs.map Rul.rngT) [44] ≤ 2000000000000 ∧ Rul.relOk x = true) :
    Calls Tryz.prog 113 #[.slice a n c] w fun e w' => e = .returned (.string ⟨(Rul.partT l).toArray⟩) ∧ Below w.heap.size w w' := by
  have CJ := Lib.hid (joined_rel l Rul.relT 115 related_at (.slice a n c) [32, 97, 110, 100, 32] w hs hl ht (Lib.hid fun x hx a n c wx hb h => related_any x a n c wx (hp.below hb) h (hr x hx).1 (hr x hx).2.1 (hr x hx).2.2))
  have hT : Rul.partT l = Lib.join (l.map Rul.relT) [32, 97, 110, 100, 32] := rfl
  rw [hT]
  generalize Lib.join (l.map Rul.relT) [32, 97, 110, 100, 32] = T at *
  clear hT hs hr ht hl hp
  go_enter Tryz.func113, Tryz.ntmps113
  go_wp2_with fail
  refine CJ.out.mono ?_
  rintro e w2 ⟨rfl, hb⟩
  go_wp2_with fail
  go_ret
  exact ⟨rfl, hb⟩

set_option maxRecDepth 100000 in
set_option maxHeartbeats 1000000 in
theorem rtext_no (r : Rul.Rule) (A : Option Addr) (n c : Nat) (w : World) (hr : SlAt 1 PartC w (.slice A n c) r) (hl : r.length ≤ 1000000000) (hc : Rul.count r ≤ 1000000000) (hrs : ∀ l ∈ r, ∀ x ∈ l, x.rs.length ≤ 4000000001) (hE : Rul.ruleE r ≠ 0) :
    Calls Tryz.prog 100 #[.slice A n c] w fun e w' => e = .returned (.tuple #[.string ⟨#[]⟩, errV (Rul.ruleE r)]) ∧ Below w.heap.size w w' := by
  have CC := Lib.hid (check_any r A n c w hr hl hc hrs)
  have e1 : errR (Rul.ruleE r) = errV (Rul.ruleE r) := if_neg hE
  rw [e1] at CC
  generalize Rul.ruleE r = E at *
  clear e1 hr hrs hE
  go_enter Tryz.func100, Tryz.ntmps100
  go_wp2_with fail
  refine CC.out.mono ?_
  rintro e w2 ⟨rfl, hb⟩
  go_wp2_with fail
  go_ret2
  exact ⟨rfl, hb⟩

theorem ruleE_zero {r : Rul.Rule} (h : Rul.ruleE r = 0) : ∀ l ∈ r, ∀ x ∈ l, Rul.relOk x = true := by
  have hs : Rul.shapeOk r = true := by
    unfold Rul.ruleE at h
    cases hq : Rul.shapeOk r with
    | true => rfl
    | false => rw [hq] at h; simp at h
  simp only [Rul.shapeOk, Rul.partOk, Bool.and_eq_true, List.all_eq_true] at hs
  exact fun l hl x hx => (hs.2 l hl).2 x hx

set_option maxRecDepth 100000 in
set_option maxHeartbeats 1000000 in
theorem rtext_yes (r : Rul.Rule) (A : Option Addr) (n c : Nat) (w : World) (hp : PowW w) (hr : SlAt 1 PartC w (.slice A n c) r) (hl : r.length ≤ 1000000000) (hc : Rul.count r ≤ 1000000000) (hrs : ∀ l ∈ r, ∀ x ∈ l, x.rs.length ≤ 4000000001) (hE : Rul.ruleE r = 0)
    (ht : Lst.total (r.map Rul.partT) [32, 111, 114, 32] ≤ 2000000000000) (hpt : ∀ l ∈ r, l.length ≤ 4000000001 ∧ Lst.total (l.map Rul.relT) [32, 97, 110, 100, 32] ≤ 2000000000000 ∧ ∀ x ∈ l, Lst.total (x.rs.map Rul.rngT) [44] ≤ 2000000000000) :
    Calls Tryz.prog 100 #[.slice A n c] w fun e w' => e = .returned (.tuple #[.string ⟨(Rul.ruleT r).toArray⟩, .nilIface]) ∧ Below w.heap.size w w' := by
  have CC := Lib.hid (check_any r A n c w hr hl hc hrs)
  have e1 : errR (Rul.ruleE r) = .nilIface := if_pos hE
  rw [e1] at CC
  have CJ := Lib.hid fun (w' : World) (hb : Below w.heap.size w w') => joined_part r Rul.partT 113 text1_at (.slice A n c) [32, 111, 114, 32] w' (hr.rule_below hb) (by omega) ht
    (Lib.hid fun l hx a n c wx hy h => text1_any l a n c wx ((hp.below hb).below hy) h (hpt l hx).1 (hpt l hx).2.1 (fun x hxl => ⟨hrs l hx x hxl, (hpt l hx).2.2 x hxl, ruleE_zero hE l hx x hxl⟩))
  have hT : Rul.ruleT r = Lib.join (r.map Rul.partT) [32, 111, 114, 32] := rfl
  rw [hT]
  generalize Lib.join (r.map Rul.partT) [32, 111, 114, 32] = T at *
  clear e1 hr hrs hE hpt ht hT hp
  go_enter Tryz.func100, Tryz.ntmps100
  go_wp2_with fail
  refine CC.out.mono ?_
  rintro e w2 ⟨rfl, hb⟩
  have W2 := Lib.hid hb
  clear hb
  go_wp2_with fail
  refine (CJ.out _ W2.out).mono ?_
  rintro e w3 ⟨rfl, hb⟩
  have W3 := Lib.hid (blw_trans W2.out hb)
  clear hb
  go_wp2_with fail
  go_ret2
  exact ⟨rfl, W3.out⟩

end Go.Proofs.YtainindkndjkbaaGreatDoor
namespace Go.Proofs.YtainindkndjkbaaGreatDoor
open Go.RowKit Go.Shelf

attribute [local go_sem] Oper.semAt_some

/-- what rule.Parse hands back -/
def ParsePost (s : List UInt8) (w' : World) (v f : Value) : Prop :=
  (Rul.parseOk s = true ∧ f = .nilIface ∧ ∃ a n c, v = .slice a n c ∧ SlAt 1 PartC w' (.slice a n c) (Rul.ruleP s)) ∨ (Rul.parseOk s = false ∧ f = errV 3 ∧ v = .slice none 0 0)
theorem infoRel : (Tryz.prog.info? 108).map (fun i => (i.zero, i.size, i.bytes)) = some (some (.agg #[.int .u8 0, .int .i64 0, .bool false, .slice none 0 0]), 4, 48) := by kernel_rfl
theorem infoPart : (Tryz.prog.info? 105).map (fun i => (i.zero, i.size, i.bytes)) = some (some (.slice none 0 0), 1, 24) := by kernel_rfl

set_option maxRecDepth 100000 in
set_option maxHeartbeats 8000000 in
theorem rparse_any (s : List UInt8) (w : World) (hM : MaxW w) (hN : NumW w) (hp : PowW w) (ht : s.length ≤ 100000000) :
    Calls Tryz.prog 81 #[.string ⟨s.toArray⟩] w fun e w' => ∃ v f, e = .returned (.tuple #[v, f]) ∧ ParsePost s w' v f ∧ Below w.heap.size w w' := by
  have hMw := Lib.hid hM
  have hNw := Lib.hid hN
  have hPw := Lib.hid hp
  clear hM hN hp
  refine (callsIn_wide (n := 10)).1 ?_
  refine callsIn_of_wp_marks Tryz.func81 rfl trivial ?_ rfl
  refine wpIn_wide.2 ?_
  simp only [Tryz.ntmps81, List.size_toArray, List.length_cons, List.length_nil, Nat.reduceAdd, Nat.reduceSub, Array.replicate_succ, Array.replicate_zero, List.push_toArray, List.append_toArray, List.nil_append, List.cons_append]
  go_wp2_with fail
  refine (splitseq_any s [32, 111, 114, 32] _).mono ?_
  rintro e w2 ⟨rfl, rfl⟩
  have B0 := Lib.hid (Boxed.made w #[.slice none 0 0] 85)
  have W0 := Lib.hid (blw_alloc w (.cells #[.slice none 0 0] 85))
  have Z0 := Lib.hid (show (w.alloc (.cells #[.slice none 0 0] 85)).heap.size = w.heap.size + 1 by simp)
  generalize w.alloc (.cells #[.slice none 0 0] 85) = wc at *
  go_wp2_with fail
  have z0 := Z0.out
  have hgM : 1 < w.heap.size := by
    obtain ⟨m, hm⟩ := hMw.out
    exact World.block_lt_of_cell? w _ hm
  obtain ⟨V, hV⟩ : ∃ V, ((wc.alloc (.cells #[.string ⟨s.toArray⟩] 9)).alloc (.cells #[.string ⟨#[32, 111, 114, 32]⟩] 9)).alloc (.cells #[.int .i64 0] 3) = V := ⟨_, rfl⟩
  have bS := Lib.hid (((Boxed.made wc #[.string ⟨s.toArray⟩] 9).alloc (.cells #[.string ⟨#[32, 111, 114, 32]⟩] 9)).alloc (.cells #[.int .i64 0] 3))
  have bP := Lib.hid ((Boxed.made (wc.alloc (.cells #[.string ⟨s.toArray⟩] 9)) #[.string ⟨#[32, 111, 114, 32]⟩] 9).alloc (.cells #[.int .i64 0] 3))
  have bV := Lib.hid (Boxed.made ((wc.alloc (.cells #[.string ⟨s.toArray⟩] 9)).alloc (.cells #[.string ⟨#[32, 111, 114, 32]⟩] 9)) #[.int .i64 0] 3)
  simp only [World.size_alloc] at bP bV
  have wV := Lib.hid (((blw_alloc wc (.cells #[.string ⟨s.toArray⟩] 9)).alloc (by simp) (.cells #[.string ⟨#[32, 111, 114, 32]⟩] 9)).alloc (by simp; omega) (.cells #[.int .i64 0] 3))
  have zV : V.heap.size = wc.heap.size + 3 := by rw [← hV]; simp
  rw [hV] at bS bP bV wV ⊢
  clear hV
  have W9 := Lib.hid (blw_trans W0.out wV.out)
  have A9 := Lib.hid (B0.out.below wV.out)
  clear W0 B0 wV
  refine (wpIn_wide (n := 10)).1 ?_
  refine wpIn_range_out1 (F := Fence.wide) (d := 5) (val := fun x : List UInt8 => Value.string ⟨x.toArray⟩) (n := 10) rfl (by omega) (gf := 121) (lb := #[.pointer (some ⟨wc.heap.size + 1, 0, none⟩), .pointer (some ⟨wc.heap.size, 0, none⟩), .pointer (some ⟨wc.heap.size + 2, 0, none⟩)]) rfl trivial (enters_of Tryz.func121 (by kernel_rfl) rfl)
    (split_iter s [32, 111, 114, 32] (wc.heap.size + 1) wc.heap.size (wc.heap.size + 2) w.heap.size 9 V (by omega) (by simp) (by omega) (by simp) hgM (by omega) (hMw.out.below W9.out) (by omega) (by omega) (by omega) (by omega) (by omega)
      (bP.out.cell 0 _ rfl) (bS.out.cell 0 _ rfl) (bV.out.cell 0 _ rfl) (bS.out.free 0 (by show 0 < 1; omega)))
    (by omega) KpS.trans (KpS.put (by omega) (by omega) (by omega) (by omega))
    (fun pre W => ∃ v ps S, PO w V.heap.size w.heap.size v v ps S pre W)
    (fun pre A C r hs g hr => by
      obtain ⟨v, ps, S, hs⟩ := hs
      exact ⟨v, ps, S, hs.grown g fun k hk => by
        obtain ⟨h1, o, h2, h3⟩ := hr k hk
        exact ⟨by omega, by omega, fun e => (IsC.row hs.row e).not h2 h3, fun e => (hs.own.is k e).not h2 h3⟩⟩)
    (fun pre A C hs g => by
      obtain ⟨v, ps, S, hs⟩ := hs
      exact ⟨v, ps, S, hs.grown g fun k hk => by
        injection hk with hk
        subst hk
        exact ⟨by omega, by omega, fun e => by have := hs.row.lt _ e; omega, fun e => by have := hs.own.ge _ e; omega⟩⟩)
    ⟨.slice none 0 0, [], fun _ => False, A9.out, ⟨rfl, .inl ⟨rfl, rfl⟩⟩, rfl, by simp, ⟨by simp, by simp, by simp⟩, W9.out, Nat.le_refl _⟩
    ?assign ?body ?done
  case assign =>
    clear z0
    intro l pre x W K hi hK
    gi_wp2
    exact hK _ (KeepsFrom.refl _ _) ⟨Below.refl _ _, rfl, rfl, rfl⟩ hi
  case done =>
    rintro D W hD ⟨v, ps, S, hs⟩ hK
    have HL := Lib.hid (show Hid (PO w V.heap.size w.heap.size v v ps S (Lib.split s [32, 111, 114, 32]) W) from Lib.hid hs)
    obtain ⟨a, n, c, rfl⟩ : ∃ a n c, v = .slice a n c := by
      rcases hs.row.2 with ⟨rfl, _⟩ | ⟨g', cap, cur, rfl, _⟩
      · exact ⟨_, _, _, rfl⟩
      · exact ⟨_, _, _, rfl⟩
    have HS := Lib.hid hs
    have hcnt := Rul.count_P s
    have hrs := Rul.rs_P s
    have hli : SlAt 1 PartC W (.slice a n c) (Rul.ruleP s) := hs.lies
    have hpw := hPw.out.below hs.low
    have k4 := hs.box.cell 0 _ rfl
    have hDl := (Array.getElem?_eq_some_iff.1 hK).1
    have HK := Lib.hid hK
    have ends : ∀ w2, Below W.heap.size W w2 → w2.heap[D]? = some (.deferred (some [])) ∧ PO w V.heap.size w.heap.size (.slice a n c) (.slice a n c) ps S (Lib.split s [32, 111, 114, 32]) w2 ∧ PO w V.heap.size w.heap.size (.slice a n c) (.slice a n c) ps S (Lib.split s [32, 111, 114, 32]) (w2.putObj D (.deferred none)) := fun w2 hb => by
      have q := HS.out.grown (grown_below hb) (fun k e => by cases e)
      have hD2 : w2.heap[D]? = some (.deferred (some [])) := (hb.block D hDl).trans HK.out
      exact ⟨hD2, q, q.grown (grownBy_putObj' _ D (.deferred none)) (fun k hk => by
        injection hk with hk
        subst hk
        exact ⟨by omega, by omega, fun e => (IsC.row q.row e).not hD2 rfl, fun e => (q.own.is _ e).not hD2 rfl⟩)⟩
    have EN := Lib.hid ends
    clear ends hs hK HL A9 W9 bS bP bV
    by_cases hE : Rul.ruleE (Rul.ruleP s) = 0
    · have tot := Rul.ok_totals hE (fun l hl x hx => by have := hrs l hl x hx; omega)
      have CT := Lib.hid (rtext_yes (Rul.ruleP s) a n c W hpw hli (by omega) (by omega) (fun l hl x hx => by have := hrs l hl x hx; omega) hE tot.1 tot.2)
      clear tot hrs hli
      by_cases hT : Rul.ruleT (Rul.ruleP s) = s
      · have HO := Lib.hid (Rul.parseOk_iff.2 ⟨hE, hT⟩)
        rw [hT] at CT
        clear hT hE hcnt hpw
        go_wp2_with fail
        refine CT.out.mono ?_
        rintro e w2 ⟨rfl, hb⟩
        obtain ⟨hD2, q, q2⟩ := EN.out w2 hb
        have HD := Lib.hid hD2
        have k4' := q.box.cell 0 _ rfl
        have Q2 := Lib.hid q2
        clear hb CT hD2 q q2 k4 EN
        go_wp2_with fail
        refine ⟨by simp, .inl ⟨_, _, rfl, run_takeDeferred HD.out, ?_⟩⟩
        refine ⟨_, ?res, _, _, rfl, .inl ⟨HO.out, rfl, _, _, _, rfl, Q2.out.lies⟩, Q2.out.low⟩
        case res => simp [results, Tryz.results81, go_sem]
      · have HO := Lib.hid (show Rul.parseOk s = false by
          cases h : Rul.parseOk s with
          | false => rfl
          | true => exact absurd (Rul.parseOk_iff.1 h).2 hT)
        generalize Rul.ruleT (Rul.ruleP s) = T at *
        clear hE hcnt hpw
        have hT' : (T == s) = false := by simpa using hT
        go_wp2_with fail
        refine CT.out.mono ?_
        rintro e w2 ⟨rfl, hb⟩
        obtain ⟨hD2, q, q2⟩ := EN.out w2 hb
        have HD := Lib.hid hD2
        have Q2 := Lib.hid q2
        clear hb CT hD2 q q2 k4 EN
        go_wp2_with fail
        refine ⟨by simp, .inl ⟨_, _, rfl, run_takeDeferred HD.out, ?_⟩⟩
        refine ⟨_, ?res, _, _, rfl, .inr ⟨HO.out, rfl, rfl⟩, Q2.out.low⟩
        case res => simp [results, Tryz.results81, go_sem]
    · have CT := Lib.hid (rtext_no (Rul.ruleP s) a n c W hli (by omega) (by omega) (fun l hl x hx => by have := hrs l hl x hx; omega) hE)
      have HO := Lib.hid (show Rul.parseOk s = false by
        cases h : Rul.parseOk s with
        | false => rfl
        | true => exact absurd (Rul.parseOk_iff.1 h).1 hE)
      generalize Rul.ruleE (Rul.ruleP s) = E at *
      clear hrs hli hE hcnt hpw
      go_wp2_with fail
      refine CT.out.mono ?_
      rintro e w2 ⟨rfl, hb⟩
      obtain ⟨hD2, q, q2⟩ := EN.out w2 hb
      have HD := Lib.hid hD2
      have Q2 := Lib.hid q2
      clear hb CT hD2 q q2 k4 EN
      go_wp2_with fail
      refine ⟨by simp, .inl ⟨_, _, rfl, run_takeDeferred HD.out, ?_⟩⟩
      refine ⟨_, ?res, _, _, rfl, .inr ⟨HO.out, rfl, rfl⟩, Q2.out.low⟩
      case res => simp [results, Tryz.results81, go_sem]
  case body =>
    rintro l pre x W hl ⟨r, hr⟩ ⟨v, ps, S, hs⟩ hpre
    have hxl : x.length ≤ 100000000 := by have := piece_le (hpre.subset (by simp) : x ∈ Lib.split s [32, 111, 114, 32]); omega
    have hpl : pre.length + 1 ≤ 100000001 := by
      have h1 := hpre.length_le
      have h2 := Rul.split_short (s := s) (sub := [32, 111, 114, 32]) (by simp)
      simp at h1
      omega
    have ho := hs.olds (bp := wc.heap.size + 1) (bs := wc.heap.size) (bv := wc.heap.size + 2) (by omega)
    have PT0 := Lib.hid (PT.start (bp := wc.heap.size + 1) (bs := wc.heap.size) (bv := wc.heap.size + 2) hs)
    clear hs hpre A9 W9 bS bP bV
    have hlt : l < W.heap.size := (Array.getElem?_eq_some_iff.1 hr).1
    clear z0
    gi_wp2_with (refine ⟨trivial, ?_⟩; gi_at_call 98; refine (CallsIn.inRound l (callsIn_wide.2 (splitseq_any x [32, 97, 110, 100, 32] _))).mono ?_; rintro e w2 ⟨rfl, rfl⟩; have BD := Lib.hid (Boxed.made W #[.slice none 0 0] 105); have WD := Lib.hid (blw_alloc W (.cells #[.slice none 0 0] 105)); have ZD := Lib.hid (show (W.alloc (.cells #[.slice none 0 0] 105)).heap.size = W.heap.size + 1 by simp); generalize W.alloc (.cells #[.slice none 0 0] 105) = wd at *)
    have z0 := Z0.out
    have zd := ZD.out
    obtain ⟨V2, hV2⟩ : ∃ V2, ((wd.alloc (.cells #[.string ⟨x.toArray⟩] 9)).alloc (.cells #[.string ⟨#[32, 97, 110, 100, 32]⟩] 9)).alloc (.cells #[.int .i64 0] 3) = V2 := ⟨_, rfl⟩
    have bS := Lib.hid (((Boxed.made wd #[.string ⟨x.toArray⟩] 9).alloc (.cells #[.string ⟨#[32, 97, 110, 100, 32]⟩] 9)).alloc (.cells #[.int .i64 0] 3))
    have bP := Lib.hid ((Boxed.made (wd.alloc (.cells #[.string ⟨x.toArray⟩] 9)) #[.string ⟨#[32, 97, 110, 100, 32]⟩] 9).alloc (.cells #[.int .i64 0] 3))
    have bV := Lib.hid (Boxed.made ((wd.alloc (.cells #[.string ⟨x.toArray⟩] 9)).alloc (.cells #[.string ⟨#[32, 97, 110, 100, 32]⟩] 9)) #[.int .i64 0] 3)
    simp only [World.size_alloc] at bP bV
    have wV := Lib.hid (((blw_alloc wd (.cells #[.string ⟨x.toArray⟩] 9)).alloc (by simp) (.cells #[.string ⟨#[32, 97, 110, 100, 32]⟩] 9)).alloc (by simp; omega) (.cells #[.int .i64 0] 3))
    have zV2 : V2.heap.size = wd.heap.size + 3 := by rw [← hV2]; simp
    rw [hV2] at bS bP bV wV ⊢
    clear hV2
    have WV := Lib.hid (blw_trans WD.out wV.out)
    have BV := Lib.hid (BD.out.below wV.out)
    have PV := Lib.hid (PT0.out.below WV.out ho (by omega))
    have lw := PT0.out.po.low.size
    have sz := PT0.out.po.sz
    have FX := Lib.hid (show Fix w V.heap.size w.heap.size (wc.heap.size + 1) wc.heap.size (wc.heap.size + 2) v S W V2.heap.size W.heap.size (wd.heap.size + 1) wd.heap.size (wd.heap.size + 2) from ⟨ho, by omega, by omega, by omega⟩)
    have hl2 : V2.heap[l]? = some (.loop r) := (WV.out.block l hlt).trans hr
    clear WD BD wV PT0 ho
    refine wpIn_range_in1 (F := Fence.wide.inRound l) (d := 7) (val := fun x : List UInt8 => Value.string ⟨x.toArray⟩) rfl hl2 (by omega) (gf := 121) (lb := #[.pointer (some ⟨wd.heap.size + 1, 0, none⟩), .pointer (some ⟨wd.heap.size, 0, none⟩), .pointer (some ⟨wd.heap.size + 2, 0, none⟩)]) rfl trivial (enters_of Tryz.func121 (by kernel_rfl) rfl)
      (ListAt.inRound l (split_iter x [32, 97, 110, 100, 32] (wd.heap.size + 1) wd.heap.size (wd.heap.size + 2) w.heap.size _ V2 (by omega) (by simp) (by omega) (by simp) hgM (by omega) (hMw.out.below PV.out.po.low) (by omega) (by omega) (by omega) (by omega) (by omega)
        (bP.out.cell 0 _ rfl) (bS.out.cell 0 _ rfl) (bV.out.cell 0 _ rfl) (bS.out.free 0 (by show 0 < 1; omega))))
      (by omega) KpS.trans (KpS.put (by omega) (by omega) (by omega) (by omega))
      (fun pre2 Wi => ∃ v2 qs S2, PT w V.heap.size w.heap.size (wc.heap.size + 1) wc.heap.size (wc.heap.size + 2) v ps S pre W Wi ∧ PI V2.heap.size W.heap.size v2 v2 qs S2 pre2 Wi)
      (fun pre2 A C r hs g hr => by
        obtain ⟨v2, qs, S2, h1, h2⟩ := hs
        exact ⟨v2, qs, S2, h1.grown g FX.out.ho FX.out.hw (fun k hk => by have := (hr k hk).1; omega), h2.grown g fun k hk => by
          obtain ⟨e1, o, e2, e3⟩ := hr k hk
          exact ⟨by omega, fun e => (IsC.row h2.row e).not e2 e3, fun e => (h2.own.is k e).not e2 e3⟩⟩)
      (fun pre2 A C hs g => by
        obtain ⟨v2, qs, S2, h1, h2⟩ := hs
        exact ⟨v2, qs, S2, h1.grown g FX.out.ho FX.out.hw (fun k hk => by injection hk with hk; omega), h2.grown g fun k hk => by
          injection hk with hk
          subst hk
          exact ⟨by omega, fun e => by have := h2.row.lt _ e; omega, fun e => by have := h2.own.ge _ e; omega⟩⟩)
      ⟨.slice none 0 0, [], fun _ => False, PV.out, BV.out, ⟨rfl, .inl ⟨rfl, rfl⟩⟩, rfl, by simp, ⟨by simp, by simp, by simp⟩, Nat.le_refl _⟩
      ?assign2 ?body2 ?done2
    case assign2 =>
      clear z0 zd
      intro l2 pre2 y Wi K hi hK
      gi_wp2
      exact hK _ (KeepsFrom.refl _ _) ⟨Below.refl _ _, rfl, rfl, rfl⟩ hi
    case done2 =>
      clear z0 zd
      rintro Wi ⟨v2, qs, S2, h1, h2⟩
      have HQL := Lib.hid h1.po.len
      have P1 := Lib.hid (PQ.start (bp2 := wd.heap.size + 1) (bs2 := wd.heap.size) (bv2 := wd.heap.size + 2) h1 h2)
      obtain ⟨a2, n2, c2, rfl⟩ : ∃ a n c, v2 = .slice a n c := by
        rcases h2.row.2 with ⟨rfl, _⟩ | ⟨g', cap, cur, rfl, _⟩
        · exact ⟨_, _, _, rfl⟩
        · exact ⟨_, _, _, rfl⟩
      obtain ⟨a1, n1, c1, rfl⟩ : ∃ a n c, v = .slice a n c := by
        rcases h1.po.row.2 with ⟨rfl, _⟩ | ⟨g', cap, cur, rfl, _⟩
        · exact ⟨_, _, _, rfl⟩
        · exact ⟨_, _, _, rfl⟩
      clear h1 h2 bS bP bV BV PV
      obtain ⟨iR, hiR, hR0, hR1, hR2⟩ := info_parts infoPart
      have k4 := P1.out.pt.po.box.cell 0 _ rfl
      have k6 := P1.out.pi.box.cell 0 _ rfl
      have P := Lib.hid (P1.out.below (blw_alloc Wi (.cells #[.slice a2 n2 c2] 105)) FX.out)
      have BN := Lib.hid (Boxed.made Wi #[.slice a2 n2 c2] 105)
      clear P1
      gi_wp2_with (refine wpListIn_append_own_at _ rfl _ _ 85 rfl V.heap.size 105 iR _ 1 24 Tryz.underlying85 hiR hR0 hR1 hR2 rfl (by decide) (.slice a1 n1 c1) ps.length (ps.map (·.2)) (by simp [go_sem]) P.out.pt.po.row ⟨Wi.heap.size, 0, none⟩ 1 1 [.slice a2 n2 c2] (by simp [go_sem]) rfl (boxed_add BN.out) (fun u hu => by simp at hu; subst hu; rfl) (by have := HQL.out; unfold maxLen; omega) (by have := HQL.out; omega) P.out.pt.po.sz ?_; intro v' w6 hown hgrow hnil hat; clear hnil; obtain ⟨g', cap', rfl⟩ := row_some hown (by omega); have U := Lib.hid (P.out.close (x := x) FX.out rfl hown hgrow hat); clear hown hgrow hat P BN k4 k6; have k3 := U.out.po.box.cell 0 _ rfl; have z3 := U.out.po.box.free 0 (by show 0 < 1; omega); have hlt3 := U.out.po.box.lt)
      replace U := Lib.hid (U.out.stored (by have := Z0.out; omega) (Nat.le_refl _) (by have := Z0.out; omega) (by have := Z0.out; omega))
      exact ⟨U.out.kf, U.out.kp, _, _, _, U.out.po⟩
    case body2 =>
      clear z0 zd
      rintro l2 pre2 y Wi hl2 ⟨r2, hr2⟩ ⟨v2, qs, S2, h1, h2⟩ hpre2
      have hyl : y.length ≤ 4000000000 := by have := piece_le (hpre2.subset (by simp) : y ∈ Lib.split x [32, 97, 110, 100, 32]); omega
      have HQL := Lib.hid h2.len
      have hqn : pre2.length + 1 ≤ 100000001 := by
        have h1 := hpre2.length_le
        have h2 := Rul.split_short (s := x) (sub := [32, 97, 110, 100, 32]) (by simp)
        simp at h1
        omega
      have CP := Lib.hid fun w hM hN => parsed_any y w hM hN hyl
      obtain ⟨R, hR⟩ : ∃ R, Rul.relP y = R := ⟨_, rfl⟩
      rw [hR] at CP
      have HR := Lib.hid hR
      obtain ⟨a2, n2, c2, rfl⟩ : ∃ a n c, v2 = .slice a n c := by
        rcases h2.row.2 with ⟨rfl, _⟩ | ⟨g', cap, cur, rfl, _⟩
        · exact ⟨_, _, _, rfl⟩
        · exact ⟨_, _, _, rfl⟩
      have P1 := Lib.hid (PQ.start (bp2 := wd.heap.size + 1) (bs2 := wd.heap.size) (bv2 := wd.heap.size + 2) h1 h2)
      clear hR h1 h2 bS bP bV BV PV hpre2
      gi_wp2
      obtain ⟨iR, hiR, hR0, hR1, hR2⟩ := info_parts infoRel
      refine region_round (S := fun _ => True) (by kernel_rfl) (by kernel_rfl) (fun _ _ h => h) trivial (fun hHeld => ?_)
      have P := Lib.hid (P1.out.below (Below.drew (Below.refl _ _)) FX.out)
      clear P1
      generalize World.drew _ = w3 at *
      refine take_run (d := some 17) (v := ?v1) 1 rfl rfl (by kernel_rfl) (by kernel_rfl) (by kernel_rfl) (fun _ _ _ h => h) (by rfl) hHeld ?hy1 ?rs1
      case hy1 => (intro w hSw; (try dsimp only at hSw); go_simp) <;> (try with_reducible rfl)
      (try simp only [Act.put, List.setIfInBounds_toArray, List.set_cons_zero, List.set_cons_succ])
      refine take_two 0 2 rfl rfl (by kernel_rfl) (by rfl) (by rfl) (fun K hK => ?_) (fun K hK => ?_)
      · have k3 := P.out.pi.box.cell 0 _ rfl
        go_simp
        clear k3
        refine hK.out _ _ trivial (fun hHeld => ?_)
        clear hK K
        (try simp only [Act.put, List.setIfInBounds_toArray, List.set_cons_zero, List.set_cons_succ])
        refine take_call 2 rfl (by kernel_rfl) (by rfl) (fun K hK => ?_)
        go_simp
        refine (CP.out _ (hMw.out.below P.out.pt.po.low) (hNw.out.below P.out.pt.po.low)).mono ?_
        rintro e w' ⟨pv, rfl, hsl, hfr, hb⟩
        obtain ⟨pa, pn, pc, rfl⟩ := hsl.isSlice
        have HB := Lib.hid (show ∀ b, (Value.slice pa pn pc).ownBlock = some b → V2.heap.size ≤ b ∧ (Value.slice a2 n2 c2).ownBlock ≠ some b from fun b hb' => ⟨by have := hfr b hb'; have := P.out.pi.sz; omega, fun e => by have := hfr b hb'; have := (P.out.pi.row.lt b e).2; omega⟩)
        have HSL := Lib.hid hsl
        replace P := Lib.hid (P.out.below hb FX.out)
        clear hsl hfr hb
        refine hK.out _ _ trivial (fun hHeld => ?_)
        clear hK K
        (try simp only [Act.put, List.setIfInBounds_toArray, List.set_cons_zero, List.set_cons_succ])
        refine take_call 3 rfl (by kernel_rfl) (by rfl) (fun K hK => ?_)
        go_simp
        refine hK.out _ _ trivial (fun hHeld => ?_)
        clear hK K
        (try simp only [Act.put, List.setIfInBounds_toArray, List.set_cons_zero, List.set_cons_succ])
        replace P := Lib.hid (P.out.below (blw_alloc _ (.cells #[.int .u8 (R.op.toNat : Int), .int .i64 R.mod, .bool R.no, .slice pa pn pc] 108)) FX.out)
        replace HSL := Lib.hid (HSL.out.rngs_below (blw_alloc w' (.cells #[.int .u8 (R.op.toNat : Int), .int .i64 R.mod, .bool R.no, .slice pa pn pc] 108)))
        have BN := Lib.hid (Boxed.made _ #[.int .u8 (R.op.toNat : Int), .int .i64 R.mod, .bool R.no, .slice pa pn pc] 108 : Boxed (World.alloc w' (.cells #[.int .u8 (R.op.toNat : Int), .int .i64 R.mod, .bool R.no, .slice pa pn pc] 108)) w'.heap.size _)
        generalize hq : w'.heap.size = q at *
        generalize World.alloc w' (.cells #[.int .u8 (R.op.toNat : Int), .int .i64 R.mod, .bool R.no, .slice pa pn pc] 108) = w5 at *
        clear hq
        refine take_call 4 rfl (by kernel_rfl) (by rfl) (fun K hK => ?_)
        refine wp_append_own_at _ _ _ 105 rfl V2.heap.size 108 iR _ 4 48 Tryz.underlying105 hiR hR0 hR1 hR2 rfl (by decide) (.slice a2 n2 c2) qs.length (qflat qs) (by simp [go_sem]) P.out.pi.row ⟨q, 0, none⟩ 1 1 [.int .u8 (R.op.toNat : Int), .int .i64 R.mod, .bool R.no, .slice pa pn pc] (by simp [go_sem]) rfl (boxed_add BN.out) (fun u hu => by simp at hu; rcases hu with rfl | rfl | rfl | rfl <;> rfl) (by have := HQL.out; unfold maxLen; omega) (by have := HQL.out; omega) P.out.pi.sz ?_
        intro v' w6 hown hgrow hat
        obtain ⟨g', cap', rfl⟩ := row_some hown (by omega)
        replace P := Lib.hid (P.out.append (x := y) FX.out (by rw [HR.out]; exact hown) hgrow (by simpa using hat) (by rw [HR.out]; exact HSL.out) HB.out)
        clear hown hgrow hat
        refine hK.out _ _ trivial (fun hHeld => ?_)
        clear hK K
        (try simp only [Act.put, List.setIfInBounds_toArray, List.set_cons_zero, List.set_cons_succ])
        refine take_call 5 rfl (by kernel_rfl) (by rfl) (fun K hK => ?_)
        have k3 := P.out.pi.box.cell 0 _ rfl
        have z3 := P.out.pi.box.free 0 (by show 0 < 1; omega)
        have hlt := P.out.pi.box.lt
        go_simp
        clear k3 z3 hlt
        refine hK.out _ _ trivial (fun hHeld => ?_)
        clear hK K
        (try simp only [Act.put, List.setIfInBounds_toArray, List.set_cons_zero, List.set_cons_succ])
        replace P := Lib.hid (P.out.stored FX.out)
        refine wpAnyH_done (by kernel_rfl) ?_ _
        exact ⟨P.out.kf, P.out.kp, _, _, _, P.out.pt, P.out.pi⟩
      · go_simp
        refine (CP.out _ (hMw.out.below P.out.pt.po.low) (hNw.out.below P.out.pt.po.low)).mono ?_
        rintro e w' ⟨pv, rfl, hsl, hfr, hb⟩
        obtain ⟨pa, pn, pc, rfl⟩ := hsl.isSlice
        have HB := Lib.hid (show ∀ b, (Value.slice pa pn pc).ownBlock = some b → V2.heap.size ≤ b ∧ (Value.slice a2 n2 c2).ownBlock ≠ some b from fun b hb' => ⟨by have := hfr b hb'; have := P.out.pi.sz; omega, fun e => by have := hfr b hb'; have := (P.out.pi.row.lt b e).2; omega⟩)
        have HSL := Lib.hid hsl
        replace P := Lib.hid (P.out.below hb FX.out)
        clear hsl hfr hb
        refine hK.out _ _ trivial (fun hHeld => ?_)
        clear hK K
        (try simp only [Act.put, List.setIfInBounds_toArray, List.set_cons_zero, List.set_cons_succ])
        refine take_two 0 3 rfl rfl (by kernel_rfl) (by rfl) (by rfl) (fun K hK => ?_) (fun K hK => ?_)
        · have k3 := P.out.pi.box.cell 0 _ rfl
          go_simp
          clear k3
          refine hK.out _ _ trivial (fun hHeld => ?_)
          clear hK K
          (try simp only [Act.put, List.setIfInBounds_toArray, List.set_cons_zero, List.set_cons_succ])
          refine take_call 3 rfl (by kernel_rfl) (by rfl) (fun K hK => ?_)
          go_simp
          refine hK.out _ _ trivial (fun hHeld => ?_)
          clear hK K
          (try simp only [Act.put, List.setIfInBounds_toArray, List.set_cons_zero, List.set_cons_succ])
          replace P := Lib.hid (P.out.below (blw_alloc _ (.cells #[.int .u8 (R.op.toNat : Int), .int .i64 R.mod, .bool R.no, .slice pa pn pc] 108)) FX.out)
          replace HSL := Lib.hid (HSL.out.rngs_below (blw_alloc w' (.cells #[.int .u8 (R.op.toNat : Int), .int .i64 R.mod, .bool R.no, .slice pa pn pc] 108)))
          have BN := Lib.hid (Boxed.made _ #[.int .u8 (R.op.toNat : Int), .int .i64 R.mod, .bool R.no, .slice pa pn pc] 108 : Boxed (World.alloc w' (.cells #[.int .u8 (R.op.toNat : Int), .int .i64 R.mod, .bool R.no, .slice pa pn pc] 108)) w'.heap.size _)
          generalize hq : w'.heap.size = q at *
          generalize World.alloc w' (.cells #[.int .u8 (R.op.toNat : Int), .int .i64 R.mod, .bool R.no, .slice pa pn pc] 108) = w5 at *
          clear hq
          refine take_call 4 rfl (by kernel_rfl) (by rfl) (fun K hK => ?_)
          refine wp_append_own_at _ _ _ 105 rfl V2.heap.size 108 iR _ 4 48 Tryz.underlying105 hiR hR0 hR1 hR2 rfl (by decide) (.slice a2 n2 c2) qs.length (qflat qs) (by simp [go_sem]) P.out.pi.row ⟨q, 0, none⟩ 1 1 [.int .u8 (R.op.toNat : Int), .int .i64 R.mod, .bool R.no, .slice pa pn pc] (by simp [go_sem]) rfl (boxed_add BN.out) (fun u hu => by simp at hu; rcases hu with rfl | rfl | rfl | rfl <;> rfl) (by have := HQL.out; unfold maxLen; omega) (by have := HQL.out; omega) P.out.pi.sz ?_
          intro v' w6 hown hgrow hat
          obtain ⟨g', cap', rfl⟩ := row_some hown (by omega)
          replace P := Lib.hid (P.out.append (x := y) FX.out (by rw [HR.out]; exact hown) hgrow (by simpa using hat) (by rw [HR.out]; exact HSL.out) HB.out)
          clear hown hgrow hat
          refine hK.out _ _ trivial (fun hHeld => ?_)
          clear hK K
          (try simp only [Act.put, List.setIfInBounds_toArray, List.set_cons_zero, List.set_cons_succ])
          refine take_call 5 rfl (by kernel_rfl) (by rfl) (fun K hK => ?_)
          have k3 := P.out.pi.box.cell 0 _ rfl
          have z3 := P.out.pi.box.free 0 (by show 0 < 1; omega)
          have hlt := P.out.pi.box.lt
          go_simp
          clear k3 z3 hlt
          refine hK.out _ _ trivial (fun hHeld => ?_)
          clear hK K
          (try simp only [Act.put, List.setIfInBounds_toArray, List.set_cons_zero, List.set_cons_succ])
          replace P := Lib.hid (P.out.stored FX.out)
          refine wpAnyH_done (by kernel_rfl) ?_ _
          exact ⟨P.out.kf, P.out.kp, _, _, _, P.out.pt, P.out.pi⟩
        · go_simp
          refine hK.out _ _ trivial (fun hHeld => ?_)
          clear hK K
          (try simp only [Act.put, List.setIfInBounds_toArray, List.set_cons_zero, List.set_cons_succ])
          replace P := Lib.hid (P.out.below (blw_alloc _ (.cells #[.int .u8 (R.op.toNat : Int), .int .i64 R.mod, .bool R.no, .slice pa pn pc] 108)) FX.out)
          replace HSL := Lib.hid (HSL.out.rngs_below (blw_alloc w' (.cells #[.int .u8 (R.op.toNat : Int), .int .i64 R.mod, .bool R.no, .slice pa pn pc] 108)))
          have BN := Lib.hid (Boxed.made _ #[.int .u8 (R.op.toNat : Int), .int .i64 R.mod, .bool R.no, .slice pa pn pc] 108 : Boxed (World.alloc w' (.cells #[.int .u8 (R.op.toNat : Int), .int .i64 R.mod, .bool R.no, .slice pa pn pc] 108)) w'.heap.size _)
          generalize hq : w'.heap.size = q at *
          generalize World.alloc w' (.cells #[.int .u8 (R.op.toNat : Int), .int .i64 R.mod, .bool R.no, .slice pa pn pc] 108) = w5 at *
          clear hq
          refine take_call 0 rfl (by kernel_rfl) (by rfl) (fun K hK => ?_)
          have k3 := P.out.pi.box.cell 0 _ rfl
          go_simp
          clear k3
          refine hK.out _ _ trivial (fun hHeld => ?_)
          clear hK K
          (try simp only [Act.put, List.setIfInBounds_toArray, List.set_cons_zero, List.set_cons_succ])
          refine take_call 4 rfl (by kernel_rfl) (by rfl) (fun K hK => ?_)
          refine wp_append_own_at _ _ _ 105 rfl V2.heap.size 108 iR _ 4 48 Tryz.underlying105 hiR hR0 hR1 hR2 rfl (by decide) (.slice a2 n2 c2) qs.length (qflat qs) (by simp [go_sem]) P.out.pi.row ⟨q, 0, none⟩ 1 1 [.int .u8 (R.op.toNat : Int), .int .i64 R.mod, .bool R.no, .slice pa pn pc] (by simp [go_sem]) rfl (boxed_add BN.out) (fun u hu => by simp at hu; rcases hu with rfl | rfl | rfl | rfl <;> rfl) (by have := HQL.out; unfold maxLen; omega) (by have := HQL.out; omega) P.out.pi.sz ?_
          intro v' w6 hown hgrow hat
          obtain ⟨g', cap', rfl⟩ := row_some hown (by omega)
          replace P := Lib.hid (P.out.append (x := y) FX.out (by rw [HR.out]; exact hown) hgrow (by simpa using hat) (by rw [HR.out]; exact HSL.out) HB.out)
          clear hown hgrow hat
          refine hK.out _ _ trivial (fun hHeld => ?_)
          clear hK K
          (try simp only [Act.put, List.setIfInBounds_toArray, List.set_cons_zero, List.set_cons_succ])
          refine take_call 5 rfl (by kernel_rfl) (by rfl) (fun K hK => ?_)
          have k3 := P.out.pi.box.cell 0 _ rfl
          have z3 := P.out.pi.box.free 0 (by show 0 < 1; omega)
          have hlt := P.out.pi.box.lt
          go_simp
          clear k3 z3 hlt
          refine hK.out _ _ trivial (fun hHeld => ?_)
          clear hK K
          (try simp only [Act.put, List.setIfInBounds_toArray, List.set_cons_zero, List.set_cons_succ])
          replace P := Lib.hid (P.out.stored FX.out)
          refine wpAnyH_done (by kernel_rfl) ?_ _
          exact ⟨P.out.kf, P.out.kp, _, _, _, P.out.pt, P.out.pi⟩
end Go.Proofs.YtainindkndjkbaaGreatDoor
namespace Go.Proofs.YtainindkndjkbaaGreatDoor
open Go.RowKit

/-- what the rules' functions want of the start -/
structure TR (w : World) : Prop where
  p : PowW w
  n : NumW w
  m : MaxW w
theorem TR.below {w w' : World} (h : TR w) (hb : Below w.heap.size w w') : TR w' := ⟨h.p.below hb, h.n.below hb, h.m.below hb⟩
end Go.Proofs.YtainindkndjkbaaGreatDoor
