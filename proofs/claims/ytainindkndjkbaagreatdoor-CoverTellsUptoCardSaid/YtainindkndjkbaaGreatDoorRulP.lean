/- Rules and their texts: what a rule's text is, what is read of a text, there and back. Plain law: no program. -/
import Derived.Test.YtainindkndjkbaaGreatDoorCutP
import Derived.Test.YtainindkndjkbaaGreatDoorDecText
import Derived.Lib.Join
import Derived.Lib.SplitLaws
namespace Rul
open Go Go.Lib

/-- where a text of more signs stands: by one sign of it that stands nowhere ahead -/
theorem idx_sub {c : UInt8} {sub X : List UInt8} (Y : List UInt8) {k : Nat} (hk : sub[k]? = some c) (hno : c ∉ sub.take k) (h : c ∉ X) : index (X ++ sub ++ Y) sub = X.length := by
  refine index_first (by simp) ?_ fun j hj => ?_
  · unfold occAt
    rw [List.append_assoc, List.drop_left]
    exact List.isPrefixOf_iff_prefix.2 (List.prefix_append _ _)
  · cases ho : occAt (X ++ sub ++ Y) sub j with
    | false => rfl
    | true =>
      exfalso
      obtain ⟨T, hT⟩ := List.isPrefixOf_iff_prefix.1 (show sub.isPrefixOf ((X ++ sub ++ Y).drop j) = true from ho)
      have hkl : k < sub.length := (List.getElem?_eq_some_iff.1 hk).1
      have e1 : (X ++ sub ++ Y)[j + k]? = some c := by
        rw [← List.getElem?_drop, ← hT, List.getElem?_append_left hkl, hk]
      by_cases hx : j + k < X.length
      · rw [List.append_assoc, List.getElem?_append_left hx] at e1
        exact h (List.mem_of_getElem? e1)
      · rw [List.append_assoc, List.getElem?_append_right (by omega), List.getElem?_append_left (by omega)] at e1
        refine hno (List.mem_of_getElem? (i := j + k - X.length) ?_)
        rw [List.getElem?_take, if_pos (by omega)]; exact e1
theorem idx_none {c : UInt8} {sub X : List UInt8} (hc : c ∈ sub) (h : c ∉ X) : index X sub = -1 := by
  refine index_none fun j _ => ?_
  cases ho : occAt X sub j with
  | false => rfl
  | true =>
    exfalso
    obtain ⟨T, hT⟩ := List.isPrefixOf_iff_prefix.1 (show sub.isPrefixOf (X.drop j) = true from ho)
    exact h (List.mem_of_mem_drop (hT ▸ List.mem_append_left _ hc))
theorem sub_ne {c : UInt8} {sub : List UInt8} {k : Nat} (hk : sub[k]? = some c) : sub ≠ [] := by
  rintro rfl; simp at hk
theorem split_at {c : UInt8} {sub X : List UInt8} (Y : List UInt8) {k : Nat} (hk : sub[k]? = some c) (hno : c ∉ sub.take k) (h : c ∉ X) : split (X ++ sub ++ Y) sub = X :: split Y sub := by
  rw [Spl.split_hit (sub_ne hk) (idx_sub Y hk hno h)]
  congr 1
  · rw [List.append_assoc, List.take_left]
  · congr 1
    rw [← List.length_append, List.drop_left]
theorem split_none {c : UInt8} {sub X : List UInt8} (hc : c ∈ sub) (h : c ∉ X) : split X sub = [X] := Spl.split_miss (idx_none hc h)
theorem split_join {c : UInt8} {sub : List UInt8} {k : Nat} (hk : sub[k]? = some c) (hno : c ∉ sub.take k) : ∀ {l : List (List UInt8)}, l ≠ [] → (∀ p ∈ l, c ∉ p) → split (join l sub) sub = l
  | [], h, _ => absurd rfl h
  | [x], _, h => by rw [join_one]; exact split_none (List.mem_of_getElem? hk) (h x (by simp))
  | x :: y :: r, _, h => by
    have e : join (x :: y :: r) sub = x ++ sub ++ join (y :: r) sub := by
      rw [join_cons, join_cons]; unfold joinTail; simp
    rw [e, split_at _ hk hno (h x (by simp)), split_join hk hno (by simp) (fun p hp => h p (by simp at hp ⊢; exact .inr hp))]
theorem cut_at {c : UInt8} {sub X : List UInt8} (Y : List UInt8) {k : Nat} (hk : sub[k]? = some c) (hno : c ∉ sub.take k) (h : c ∉ X) : cut (X ++ sub ++ Y) sub = (X, Y, true) := by
  have e := idx_sub Y hk hno h
  unfold cut
  rw [e, if_pos (by omega)]
  congr 1
  · rw [Int.toNat_natCast, List.append_assoc, List.take_left]
  · congr 1
    rw [Int.toNat_natCast, ← List.length_append, List.drop_left]
theorem cut_none {c : UInt8} {sub X : List UInt8} (hc : c ∈ sub) (h : c ∉ X) : cut X sub = (X, [], false) := by
  unfold cut
  rw [idx_none hc h, if_neg (by decide)]

/-- a relation of a rule -/
structure Rl where
  op : UInt8
  mod : Int
  no : Bool
  rs : List (Int × Int)
abbrev Rule := List (List Rl)

/-- the digits of a number from 0 on -/
def dg (v : Int) : List UInt8 := decDigits v.toNat
def rngT (p : Int × Int) : List UInt8 := if p.1 = p.2 then dg p.1 else dg p.1 ++ [46, 46] ++ dg p.2
def eqS : List UInt8 := [32, 61, 32]
def neS : List UInt8 := [32, 33, 61, 32]
def pcS : List UInt8 := [32, 37, 32]
def andS : List UInt8 := [32, 97, 110, 100, 32]
def orS : List UInt8 := [32, 111, 114, 32]
def headT (r : Rl) : List UInt8 := if r.mod = 0 then [r.op] else [r.op] ++ pcS ++ dg r.mod
def relT (r : Rl) : List UInt8 := headT r ++ (if r.no then neS else eqS) ++ join (r.rs.map rngT) [44]
def partT (l : List Rl) : List UInt8 := join (l.map relT) andS
def ruleT (r : Rule) : List UInt8 := join (r.map partT) orS

def num (s : List UInt8) : Int := match atoiAll s with | .ok v => v | _ => -1
def rngP (w : List UInt8) : Int × Int := (num (cut w [46, 46]).1, num (if (cut w [46, 46]).2.2 then (cut w [46, 46]).2.1 else (cut w [46, 46]).1))
def hd (w : List UInt8) : List UInt8 × List UInt8 := if (cut w eqS).2.2 then ((cut w eqS).1, (cut w eqS).2.1) else ((cut w neS).1, (cut w neS).2.1)
def opP (l : List UInt8) : UInt8 := match l with | [c] => c | _ => 0
def relP (w : List UInt8) : Rl :=
  { op := opP (cut (hd w).1 pcS).1, mod := if (cut (hd w).1 pcS).2.2 then num (cut (hd w).1 pcS).2.1 else 0, no := !(cut w eqS).2.2, rs := (split (hd w).2 [44]).map rngP }
def partP (s : List UInt8) : List Rl := (split s andS).map relP
def ruleP (s : List UInt8) : Rule := (split s orS).map partP

def rngOk (p : Int × Int) : Bool := decide (0 ≤ p.1) && decide (p.1 ≤ p.2) && decide (p.2 ≤ 1000000)
def opOk (c : UInt8) : Bool := [110, 105, 118, 119, 102, 116].contains c
def relOk (r : Rl) : Bool := opOk r.op && decide (0 ≤ r.mod) && decide (r.mod ≤ 1000000) && !r.rs.isEmpty && r.rs.all rngOk
def partOk (l : List Rl) : Bool := !l.isEmpty && l.all relOk
def shapeOk (r : Rule) : Bool := !r.isEmpty && r.all partOk
def count (r : Rule) : Nat := (r.map (·.length)).sum
/-- what is wrong with a rule -/
def ruleE (r : Rule) : Int := if shapeOk r then (if 20 < count r then 4 else 0) else 3

theorem dg_dig (v : Int) : Byt.AllDig (dg v) := Byt.digits_all _
theorem dg_no {v : Int} {c : UInt8} (h : c.toNat < 48 ∨ 57 < c.toNat) : c ∉ dg v := fun e => by
  have := dg_dig v c e; omega
theorem num_dg (v : Int) (h0 : 0 ≤ v) (h1 : v ≤ 1000000) : num (dg v) = v := by
  have h := Byt.zdig_atoi 0 v (by omega)
  have e : Byt.sgn v ++ Byt.zdig 0 v.natAbs = dg v := by
    unfold Byt.sgn Byt.zdig dg
    rw [if_neg (by omega), show v.natAbs = v.toNat by omega]
    simp
  rw [e] at h
  unfold num
  rw [h]
theorem rngT_no {p : Int × Int} {c : UInt8} (h : c.toNat < 46 ∨ 57 < c.toNat) : c ∉ rngT p := by
  have d : ∀ v, c ∉ dg v := fun v => dg_no (by omega)
  have n : c ≠ 46 := by rintro rfl; revert h; decide
  unfold rngT
  split
  · exact d _
  · simp [d, n]
theorem rngP_T (p : Int × Int) (h : rngOk p = true) : rngP (rngT p) = p := by
  obtain ⟨a, b⟩ := p
  simp only [rngOk, Bool.and_eq_true, decide_eq_true_eq] at h
  obtain ⟨⟨h0, h1⟩, h2⟩ := h
  have na := num_dg a h0 (by omega)
  have nb := num_dg b (by omega) h2
  unfold rngP rngT
  dsimp only
  split
  · rename_i e
    subst e
    rw [cut_none (c := 46) (by simp) (dg_no (by decide))]
    simp [na]
  · rw [cut_at (c := 46) (k := 0) _ rfl (by simp) (dg_no (by decide))]
    simp [na, nb]
theorem join_no {c : UInt8} {sub : List UInt8} (hs : c ∉ sub) : ∀ {l : List (List UInt8)}, (∀ p ∈ l, c ∉ p) → c ∉ join l sub
  | [], _ => by rw [join_nil]; simp
  | [x], h => by rw [join_one]; exact h x (by simp)
  | x :: y :: r, h => by
    have e : join (x :: y :: r) sub = x ++ sub ++ join (y :: r) sub := by
      rw [join_cons, join_cons]; unfold joinTail; simp
    rw [e]
    have a := h x (by simp)
    have b := join_no hs (l := y :: r) (fun p hp => h p (by simp at hp ⊢; exact .inr hp))
    simp only [List.mem_append, not_or]
    exact ⟨⟨a, hs⟩, b⟩
theorem rngs_no {rs : List (Int × Int)} {c : UInt8} (h : c.toNat < 44 ∨ 57 < c.toNat) : c ∉ join (rs.map rngT) [44] :=
  join_no (by simp; rintro rfl; revert h; decide) fun p hp => by
    obtain ⟨x, _, rfl⟩ := List.mem_map.1 hp
    exact rngT_no (by omega)
theorem op_cases {c : UInt8} (h : opOk c = true) : c = 110 ∨ c = 105 ∨ c = 118 ∨ c = 119 ∨ c = 102 ∨ c = 116 := by
  simpa [opOk] using h
theorem head_no {r : Rl} (h : opOk r.op = true) {c : UInt8} (hc : c = 61 ∨ c = 33 ∨ c = 97 ∨ c = 111 ∨ c = 44) : c ∉ headT r := by
  have n1 : c ≠ r.op := by
    rcases op_cases h with e | e | e | e | e | e <;> rcases hc with rfl | rfl | rfl | rfl | rfl <;> rw [e] <;> decide
  have n2 : c ∉ dg r.mod := dg_no (by rcases hc with rfl | rfl | rfl | rfl | rfl <;> decide)
  have n3 : c ∉ pcS := by rcases hc with rfl | rfl | rfl | rfl | rfl <;> decide
  unfold headT
  split
  · simpa using n1
  · simp [n1, n2, n3]
theorem relT_no {r : Rl} (h : opOk r.op = true) {c : UInt8} (hc : c = 97 ∨ c = 111) : c ∉ relT r := by
  have n1 := head_no h (c := c) (by rcases hc with rfl | rfl <;> simp)
  have n2 : c ∉ join (r.rs.map rngT) [44] := rngs_no (by rcases hc with rfl | rfl <;> decide)
  have n3 : c ∉ (if r.no then neS else eqS) := by rcases hc with rfl | rfl <;> split <;> decide
  unfold relT
  simp [n1, n2, n3]
theorem headP_T (r : Rl) (h : relOk r = true) : opP (cut (headT r) pcS).1 = r.op ∧ (if (cut (headT r) pcS).2.2 then num (cut (headT r) pcS).2.1 else 0) = r.mod := by
  simp only [relOk, Bool.and_eq_true, decide_eq_true_eq] at h
  obtain ⟨⟨⟨⟨h0, h1⟩, h2⟩, _⟩, _⟩ := h
  have n1 : (37 : UInt8) ∉ [r.op] := by
    rcases op_cases h0 with e | e | e | e | e | e <;> rw [e] <;> decide
  unfold headT
  split
  · rename_i e
    rw [cut_none (c := 37) (by decide) n1]
    simp [opP, e]
  · rw [cut_at (c := 37) (k := 1) _ rfl (by decide) n1]
    simp [opP, num_dg r.mod h1 h2]
theorem relP_T (r : Rl) (h : relOk r = true) : relP (relT r) = r := by
  obtain ⟨e1, e2⟩ := headP_T r h
  simp only [relOk, Bool.and_eq_true, decide_eq_true_eq] at h
  obtain ⟨⟨⟨⟨h0, _⟩, _⟩, h3⟩, h4⟩ := h
  have e3 : (split (join (r.rs.map rngT) [44]) [44]).map rngP = r.rs := by
    rw [split_join (c := 44) (k := 0) rfl (by simp) (by simpa using h3) (fun p hp => by obtain ⟨x, _, rfl⟩ := List.mem_map.1 hp; exact rngT_no (by decide)), List.map_map]
    rw [List.map_congr_left (f := rngP ∘ rngT) (g := id) (fun p hp => rngP_T p (List.all_eq_true.1 h4 p hp))]
    simp
  have key : (cut (relT r) eqS).2.2 = !r.no ∧ hd (relT r) = (headT r, join (r.rs.map rngT) [44]) := by
    have nh := head_no h0 (c := 61) (by simp)
    cases hn : r.no with
    | false =>
      have e : relT r = headT r ++ eqS ++ join (r.rs.map rngT) [44] := by unfold relT; rw [hn]; rfl
      have c := cut_at (c := 61) (k := 1) (sub := eqS) (join (r.rs.map rngT) [44]) rfl (by decide) nh
      rw [← e] at c
      unfold hd
      rw [c]
      exact ⟨rfl, rfl⟩
    | true =>
      have e : relT r = headT r ++ neS ++ join (r.rs.map rngT) [44] := by unfold relT; rw [hn]; rfl
      have c := cut_at (c := 33) (k := 1) (sub := neS) (join (r.rs.map rngT) [44]) rfl (by decide) (head_no h0 (by simp))
      rw [← e] at c
      have c2 : cut (relT r) eqS = (relT r, [], false) := by
        unfold cut
        have i : index (relT r) eqS = -1 := by
          refine index_none fun j _ => ?_
          cases ho : occAt (relT r) eqS j with
          | false => rfl
          | true =>
            exfalso
            obtain ⟨T, hT⟩ := List.isPrefixOf_iff_prefix.1 (show eqS.isPrefixOf ((relT r).drop j) = true from ho)
            have g0 : (relT r)[j]? = some 32 := by rw [← Nat.add_zero j, ← List.getElem?_drop, ← hT]; rfl
            have g1 : (relT r)[j + 1]? = some 61 := by rw [← List.getElem?_drop, ← hT]; rfl
            rw [e, List.append_assoc] at g0 g1
            have hj : (headT r).length ≤ j + 1 := by
              rcases Nat.lt_or_ge (j + 1) (headT r).length with hl | hl
              · rw [List.getElem?_append_left hl] at g1; exact absurd (List.mem_of_getElem? g1) nh
              · exact hl
            rw [List.getElem?_append_right hj] at g1
            have hm : ∀ m : Nat, (neS ++ join (r.rs.map rngT) [44])[m]? = some 61 → m = 2 := fun m hm => by
              match m with
              | 0 => exact absurd (show some (32 : UInt8) = some 61 from hm) (by decide)
              | 1 => exact absurd (show some (33 : UInt8) = some 61 from hm) (by decide)
              | 2 => rfl
              | 3 => exact absurd (show some (32 : UInt8) = some 61 from hm) (by decide)
              | m + 4 =>
                have : (join (r.rs.map rngT) [44])[m]? = some 61 := hm
                exact absurd (List.mem_of_getElem? this) (rngs_no (by decide))
            have := hm _ g1
            rw [List.getElem?_append_right (by omega), show j - (headT r).length = 1 by omega] at g0
            exact absurd (show some (33 : UInt8) = some 32 from g0) (by decide)
        rw [i, if_neg (by decide)]
      unfold hd
      rw [c2, c]
      exact ⟨rfl, rfl⟩
  unfold relP
  rw [key.1, key.2]
  dsimp only
  rw [e1, e2, e3, Bool.not_not]
theorem part_parts {l : List Rl} (h : partOk l = true) : l ≠ [] ∧ ∀ x ∈ l, relOk x = true := by
  simp only [partOk, Bool.and_eq_true, Bool.not_eq_true', List.isEmpty_eq_false_iff] at h
  exact ⟨h.1, List.all_eq_true.1 h.2⟩
theorem shape_parts {r : Rule} (h : shapeOk r = true) : r ≠ [] ∧ ∀ x ∈ r, partOk x = true := by
  simp only [shapeOk, Bool.and_eq_true, Bool.not_eq_true', List.isEmpty_eq_false_iff] at h
  exact ⟨h.1, List.all_eq_true.1 h.2⟩
theorem op_of {r : Rl} (h : relOk r = true) : opOk r.op = true := by
  simp only [relOk, Bool.and_eq_true, decide_eq_true_eq] at h
  exact h.1.1.1.1
theorem partP_T (l : List Rl) (h : partOk l = true) : partP (partT l) = l := by
  obtain ⟨h1, h2⟩ := part_parts h
  unfold partP partT
  rw [split_join (c := 97) (k := 1) rfl (by decide) (by simpa using h1) (fun p hp => by obtain ⟨x, hx, rfl⟩ := List.mem_map.1 hp; exact relT_no (op_of (h2 x hx)) (by simp)), List.map_map]
  rw [List.map_congr_left (f := relP ∘ relT) (g := id) (fun p hp => relP_T p (h2 p hp))]
  simp
theorem partT_no {l : List Rl} (h : partOk l = true) : (111 : UInt8) ∉ partT l :=
  join_no (by decide) fun p hp => by
    obtain ⟨x, hx, rfl⟩ := List.mem_map.1 hp
    exact relT_no (op_of ((part_parts h).2 x hx)) (by simp)
/-- there and back -/
theorem ruleP_T (r : Rule) (h : shapeOk r = true) : ruleP (ruleT r) = r := by
  obtain ⟨h1, h2⟩ := shape_parts h
  unfold ruleP ruleT
  rw [split_join (c := 111) (k := 1) rfl (by decide) (by simpa using h1) (fun p hp => by obtain ⟨x, hx, rfl⟩ := List.mem_map.1 hp; exact partT_no (h2 x hx)), List.map_map]
  rw [List.map_congr_left (f := partP ∘ partT) (g := id) (fun p hp => partP_T p (h2 p hp))]
  simp
theorem ruleE_zero {r : Rule} : ruleE r = 0 ↔ shapeOk r = true ∧ count r ≤ 20 := by
  unfold ruleE
  split
  · split <;> constructor <;> intro h
    · omega
    · omega
    · exact ⟨by assumption, by omega⟩
    · rfl
  · constructor
    · intro h; omega
    · intro h; exact absurd h.1 (by assumption)
end Rul
