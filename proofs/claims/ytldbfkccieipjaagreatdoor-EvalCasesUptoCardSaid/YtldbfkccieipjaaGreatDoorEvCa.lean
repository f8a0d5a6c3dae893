/- What the listed variable errors.errorType gives a walk: its handle. After the worked text ToyasProofs. -/
import Derived.Test.YtldbfkccieipjaaGreatDoorEf25
import Derived.Test.YtldbfkccieipjaaGreatDoorEf19
import Derived.Maps.AppendAt
import Derived.Test.YtldbfkccieipjaaGreatDoorEf16
import Derived.Test.YtldbfkccieipjaaGreatDoorEf23
import Derived.Test.YtldbfkccieipjaaGreatDoorEf4
import Derived.Test.YtldbfkccieipjaaGreatDoorProg
import Derived.Test.YtldbfkccieipjaaGreatDoorEf0
import Derived.LaidEql
import Derived.LaidHandle
import Derived.Stop.Asserts
import Derived.RowKitTokens
import Derived.Test.YtldbfkccieipjaaGreatDoorRows
import Derived.Lay
import Derived.LaidMore
import Derived.LaidLaws
namespace Go.Proofs.YtldbfkccieipjaaGreatDoor
open Go.RowKit Ms
theorem infoCase : (Tryz.prog.info? 41).map (fun i => (i.zero, i.size, i.bytes)) = some (some (.agg #[.string ByteArray.empty, .slice none 0 0]), 2, 40) := by kernel_rfl
/-- a case: its key, what it says, the block of that -/
abbrev It := List UInt8 × List UInt8 × Nat
def itV (x : It) : List Value := [.string ⟨x.1.toArray⟩, .slice (some ⟨x.2.2, 0, none⟩) 1 1]
def itF (l : List It) : List Value := l.flatMap itV
def itC (l : List It) : Cs := l.map fun x => (x.1, [.mk 1 x.2.1 0 []])
theorem itF_add (l : List It) (x : It) : itF (l ++ [x]) = itF l ++ itV x := by unfold itF; rw [List.flatMap_append]; simp
theorem itC_add (l : List It) (x : It) : itC (l ++ [x]) = itC l ++ [(x.1, [.mk 1 x.2.1 0 []])] := by unfold itC; rw [List.map_append]; rfl
theorem itF_at : ∀ {l : List It} {j : Nat} {x : It}, l[j]? = some x → (itF l)[j * 2]? = some (.string ⟨x.1.toArray⟩) ∧ (itF l)[j * 2 + 1]? = some (.slice (some ⟨x.2.2, 0, none⟩) 1 1)
  | [], j, x, h => by simp at h
  | y :: l, 0, x, h => by
    obtain rfl : y = x := by simpa using h
    exact ⟨rfl, rfl⟩
  | y :: l, j + 1, x, h => by
    have := itF_at (l := l) (j := j) (x := x) (by simpa using h)
    have e : itF (y :: l) = itV y ++ itF l := by unfold itF; rw [List.flatMap_cons]
    have el : (itV y).length = 2 := rfl
    rw [e, List.getElem?_append_right (by omega), List.getElem?_append_right (by omega), el, show (j + 1) * 2 - 2 = j * 2 by omega, show (j + 1) * 2 + 1 - 2 = j * 2 + 1 by omega]
    exact this
/-- what a case says, in a block of its own -/
abbrev sayB (t : List UInt8) : Obj := .cells #[.int .i64 1, .string ⟨t.toArray⟩, .int .i64 0, .slice none 0 0] 34 (0, 0)
structure CI (B : Nat) (v : Value) (l : List It) (w : World) : Prop where
  row : w.ownsRow B 41 2 v l.length (itF l)
  bod : ∀ x ∈ l, w.heap[x.2.2]? = some (sayB x.2.1)
theorem CI.nil (B : Nat) (w : World) : CI B (.slice none 0 0) [] w := ⟨World.ownsRow_nil _ _ _ _, by simp⟩
theorem CI.below {B : Nat} {v : Value} {l : List It} {w w' : World} (h : CI B v l w) (hb : Below w.heap.size w w') : CI B v l w' :=
  ⟨row_blw h.row hb, fun x hx => (hb.block x.2.2 (Array.getElem?_eq_some_iff.1 (h.bod x hx)).1).trans (h.bod x hx)⟩
/-- the row's block bears cases -/
theorem CI.own {B : Nat} {v : Value} {l : List It} {w : World} (h : CI B v l w) {k : Nat} (e : v.ownBlock = some k) : B ≤ k ∧ k < w.heap.size ∧ ∃ cur, w.heap[k]? = some (.cells cur 41 (0, 0)) := by
  rcases h.row.2 with ⟨rfl, _⟩ | ⟨g, cap, cur, rfl, hB, hg, _⟩
  · simp [Value.ownBlock] at e
  · simp only [Value.ownBlock, Option.some.injEq] at e
    subst e
    exact ⟨hB, (Array.getElem?_eq_some_iff.1 hg).1, cur, hg⟩
theorem CI.node_ne {B : Nat} {v : Value} {l : List It} {w : World} (h : CI B v l w) {k : Nat} {cs : Array Value} (hk : w.heap[k]? = some (.cells cs 34 (0, 0))) : v.ownBlock ≠ some k := by
  intro e
  obtain ⟨_, _, cur, hc⟩ := h.own e
  rw [hk] at hc
  injection hc with hc
  injection hc with _ ht _
  exact absurd ht (by decide)
/-- one case more -/
theorem CI.app {B : Nat} {v v' : Value} {l : List It} {w w2 w' : World} (h : CI B v l w) (x : It) (hb : Below w.heap.size w w2) (hx : w.heap.size ≤ x.2.2) (hn : w2.heap[x.2.2]? = some (sayB x.2.1)) (hown : w'.ownsRow B 41 2 v' (l.length + 1) (itF l ++ itV x)) (hg : w2.grownBy w' v.ownBlock) : CI B v' (l ++ [x]) w' := by
  refine ⟨by rw [List.length_append, itF_add]; exact hown, fun y hy => ?_⟩
  rcases List.mem_append.1 hy with hy | hy
  · have h1 := h.bod y hy
    have hl := (Array.getElem?_eq_some_iff.1 h1).1
    rw [hg.block y.2.2 (Nat.lt_of_lt_of_le hl hb.size) (fun e => h.node_ne h1 e.symm), hb.block _ hl]
    exact h1
  · obtain rfl : y = x := by simpa using hy
    have hl := (Array.getElem?_eq_some_iff.1 hn).1
    rw [hg.block _ hl (fun e => by have := (h.own e.symm).2.1; omega)]
    exact hn
/-- a node that bears them -/
structure SI (w0 : World) (q : Nat) (K : Int) (T : List UInt8) (O : Int) (v : Value) (l : List It) (w : World) : Prop where
  ci : CI w0.heap.size v l w
  bx : w.heap[q]? = some (.cells #[.int .i64 K, .string ⟨T.toArray⟩, .int .i64 O, v] 34 (0, 0))
  ne : ∀ x ∈ l, x.2.2 ≠ q
  lo : w0.heap.size ≤ q
  bel : Below w0.heap.size w0 w
variable {w0 : World} {q : Nat} {K : Int} {T : List UInt8} {O : Int} {v : Value} {l : List It} {w w' : World}
theorem SI.below (h : SI w0 q K T O v l w) (hb : Below w.heap.size w w') : SI w0 q K T O v l w' :=
  ⟨h.ci.below hb, (hb.block q (Array.getElem?_eq_some_iff.1 h.bx).1).trans h.bx, h.ne, h.lo, blw_trans h.bel hb⟩
theorem SI.lt (h : SI w0 q K T O v l w) : q < w.heap.size := (Array.getElem?_eq_some_iff.1 h.bx).1
theorem SI.add {w2 : World} {v' : Value} (h : SI w0 q K T O v l w) (x : It) (hb : Below w.heap.size w w2) (hx : w.heap.size ≤ x.2.2) (hn : w2.heap[x.2.2]? = some (sayB x.2.1)) (hown : w'.ownsRow w0.heap.size 41 2 v' (l.length + 1) (itF l ++ itV x)) (hg : w2.grownBy w' v.ownBlock) : SI w0 q K T O v' (l ++ [x]) (w'.setCell ⟨q, 3, none⟩ v') := by
  have hc := h.ci.app x hb hx hn hown hg
  have hql := h.lt
  have hq2 : w'.heap[q]? = some (.cells #[.int .i64 K, .string ⟨T.toArray⟩, .int .i64 O, v] 34 (0, 0)) := by
    rw [hg.block q (Nat.lt_of_lt_of_le hql hb.size) (fun e => h.ci.node_ne h.bx e.symm), hb.block _ hql]
    exact h.bx
  have hne2 : ∀ y ∈ l ++ [x], y.2.2 ≠ q := by
    intro y hy
    rcases List.mem_append.1 hy with hy | hy
    · exact h.ne y hy
    · obtain rfl : y = x := by simpa using hy
      omega
  refine ⟨⟨?_, fun y hy => ?_⟩, ?_, hne2, h.lo, ?_⟩
  · refine ⟨hc.row.1, ?_⟩
    rcases hc.row.2 with k | ⟨g, cap, cur, k1, k2, k3, k4⟩
    · exact .inl k
    · refine .inr ⟨g, cap, cur, k1, k2, ?_, k4⟩
      rw [Below.heap_setCell _ _ _ _ (fun e => by rw [e, hq2] at k3; injection k3 with k3; injection k3 with _ ht _; exact absurd ht (by decide))]
      exact k3
  · rw [Below.heap_setCell _ _ _ _ (hne2 y hy)]
    exact hc.bod y hy
  · simp [World.setCell, Array.getElem?_modify, hq2]
  · refine Below.setCell (p := ⟨q, 3, none⟩) ?_ h.lo _
    exact (blw_trans h.bel hb).grown hg (Nat.le_trans h.bel.size hb.size) (fun k hk => (h.ci.own hk).1)
/-- they lie in memory as cases -/
theorem CI.cass {B : Nat} (h : CI B v l w) (hk : ∀ x ∈ l, x.1.length ≤ 2000000 ∧ x.2.1.length ≤ 2000000) : CassAt 1 w v (itC l) := by
  have hlen : (itC l).length = l.length := by unfold itC; rw [List.length_map]
  rcases h.row.2 with ⟨rfl, h0⟩ | ⟨g, cap, cur, rfl, _, _, h1, h2, _, _⟩
  · exact .inl ⟨List.length_eq_zero_iff.1 (by rw [hlen]; exact h0), none, 0, rfl⟩
  · by_cases h0 : l.length = 0
    · exact .inl ⟨List.length_eq_zero_iff.1 (by rw [hlen]; exact h0), _, _, by rw [h0]⟩
    · refine .inr ⟨g, 0, cap, by rw [hlen], by rw [hlen]; omega, by rw [hlen]; exact h1, h2, fun j y hy => ?_⟩
      unfold itC at hy
      rw [List.getElem?_map] at hy
      cases hx : l[j]? with
      | none => rw [hx] at hy; cases hy
      | some x =>
        rw [hx] at hy
        obtain rfl : (x.1, [Nd.mk 1 x.2.1 0 []]) = y := by simpa using hy
        obtain ⟨c0, c1⟩ := itF_at hx
        have hm := List.mem_of_getElem? hx
        have hb := h.bod x hm
        rw [Nat.zero_add]
        exact ⟨_, 1, 1, nrow_cells h.row c0, nrow_cells h.row c1, msg_one (nd_plain (by rw [Lib.cell_of_heap hb]; rfl) (by rw [Lib.cell_of_heap hb]; rfl) (by rw [Lib.cell_of_heap hb]; rfl) (by rw [Lib.cell_of_heap hb]; rfl) (hk x hm).2), (hk x hm).1, by simp⟩
end Go.Proofs.YtldbfkccieipjaaGreatDoor
namespace Go.Proofs.YtldbfkccieipjaaGreatDoor
open Go.RowKit
namespace Ms
theorem sum_ones {g : List Nd → Int} : ∀ (L : List (List Nd)), (∀ b ∈ L, g b = 1) → (L.map g).sum = L.length
  | [], _ => rfl
  | b :: r, h => by
    rw [List.map_cons, List.sum_cons, sum_ones r fun c hc => h c (by simp [hc]), h b (by simp), List.length_cons]
    push_cast
    omega
theorem goN_id {F : List Need → List Nd → List Need} : ∀ (L : List (List Nd)) (l : List Need), (∀ b ∈ L, ∀ l, F l b = l) → goN F l L = l
  | [], _, _ => rfl
  | b :: r, l, h => by
    show goN F (F l b) r = l
    rw [h b (by simp)]
    exact goN_id r l fun c hc => h c (by simp [hc])
end Ms
end Go.Proofs.YtldbfkccieipjaaGreatDoor
namespace Go.Proofs.YtldbfkccieipjaaGreatDoor
open Go.RowKit
namespace Ms
/-- cases that say their keys, and other -/
def wC (ks : List (List UInt8)) : Cs := ks.map (fun k => (k, [.mk 1 k 0 []])) ++ [(other, [.mk 1 other 0 []])]
def caM (off : Int) (ks : List (List UInt8)) : List Nd := [.mk 4 [110] off (wC ks)]
def caA (c d : Int) : List Ag := [⟨[110], true, c, d, []⟩]
theorem wC_word {ks : List (List UInt8)} (h : ∀ k ∈ ks, k ≠ []) : ∀ y ∈ wC ks, ∃ c r, y.2 = [.mk 1 (c :: r) 0 []] := by
  intro y hy
  unfold wC at hy
  rcases List.mem_append.1 hy with hm | hm
  · obtain ⟨k, hk, rfl⟩ := List.mem_map.1 hm
    cases k with
    | nil => exact absurd rfl (h [] hk)
    | cons c r => exact ⟨c, r, rfl⟩
  · obtain rfl : y = (other, [.mk 1 other 0 []]) := by simpa using hm
    exact ⟨111, [116, 104, 101, 114], rfl⟩
theorem csE_wC {G : Bool → List Nd → Int} {x : Nd} {mark : Bool} (hG : ∀ c r b, G b [.mk 1 (c :: r) 0 []] = 0) (ho' : keyB x other = true) : ∀ (ks seen : List (List UInt8)), (∀ k ∈ ks, keyB x k = true ∧ k ≠ other ∧ k ≠ []) → (seen ++ ks).Nodup → other ∉ seen → csE G x mark seen (wC ks) = 0
  | [], seen, _, _, ho => by
    show csE G x mark seen [(other, [.mk 1 other 0 []])] = 0
    unfold csE
    have hg : G (mark || decide (x.kind = 4)) [.mk 1 other 0 []] = 0 := hG 111 [116, 104, 101, 114] _
    rw [ho', if_neg (by simp), if_neg (by simpa [List.contains_eq_mem] using ho), hg, if_neg (by simp)]
    unfold csE
    rw [if_pos (by simp [List.contains_eq_mem])]
  | k :: ks, seen, h, hd, ho => by
    have hk := h k (by simp)
    have e : wC (k :: ks) = (k, [.mk 1 k 0 []]) :: wC ks := rfl
    rw [e]
    unfold csE
    have hg : ∀ b, G b [.mk 1 k 0 []] = 0 := by
      cases k with
      | nil => exact absurd rfl hk.2.2
      | cons c r => exact fun b => hG c r b
    have hns : k ∉ seen := by
      intro hm
      rw [List.nodup_append] at hd
      exact hd.2.2 k hm k (by simp) rfl
    rw [hk.1, if_neg (by simp), if_neg (by simpa [List.contains_eq_mem] using hns), hg, if_neg (by simp)]
    refine csE_wC hG ho' ks (seen ++ [k]) (fun z hz => h z (by simp [hz])) (by rw [List.append_assoc]; exact hd) ?_
    intro hm
    rcases List.mem_append.1 hm with hm | hm
    · exact ho hm
    · have e : other = k := by simpa using hm
      exact hk.2.1 e.symm
theorem ca_msg {off : Int} (h0 : 0 ≤ off ∧ off ≤ 9) {ks : List (List UInt8)} (h : ∀ k ∈ ks, keyB (.mk 4 [110] off (wC ks)) k = true ∧ k ≠ other ∧ k ≠ []) (hd : ks.Nodup) (hl : ks.length ≤ 50) : msgE 2 (caM off ks) = 0 := by
  unfold msgE
  have hb : bodies (caM off ks) = (wC ks).map (·.2) := by
    show ((wC ks).map (·.2)) ++ [] = _
    rw [List.append_nil]
  have hlr : ∀ b ∈ bodies (caM off ks), lrg 5 b = (1, false) := by
    rw [hb]
    intro b hm
    obtain ⟨y, hy, rfl⟩ := List.mem_map.1 hm
    obtain ⟨c, r, e⟩ := wC_word (fun k hk => (h k hk).2.2) y hy
    rw [e]
    rfl
  have h1 : (lrg 6 (caM off ks)).2 = false := by
    refine lgo_ok (F := lrg 5) (bodies (caM off ks)) 1 (fun b hm => by rw [hlr b hm]; exact ⟨rfl, by decide⟩) ?_
    rw [sum_ones (g := fun b => (lrg 5 b).1) _ fun b hm => by rw [hlr b hm], hb, List.length_map]
    unfold wC
    rw [List.length_append, List.length_map, List.length_singleton]
    push_cast
    omega
  rw [h1, if_neg (by simp)]
  have hn : nameB [110] = true := by decide +kernel
  refine ms_cons (nd_plural hn h0.1 h0.2 (csE_wC (fun c r b => rfl) ?_ ks [] h (by simpa using hd) (by simp))) rfl
  show (five.contains other || other == other || decide (0 ≤ exV other)) = true
  simp
theorem ca_names (off : Int) {ks : List (List UInt8)} (h : ∀ k ∈ ks, k ≠ []) : allN 2 [] (caM off ks) = [([110], true, false)] := by
  show goN (allN 1) [([110], true, false)] ((wC ks).map (·.2)) = _
  refine goN_id _ _ fun b hm l => ?_
  obtain ⟨y, hy, rfl⟩ := List.mem_map.1 hm
  obtain ⟨c, r, e⟩ := wC_word h y hy
  rw [e]
  rfl
theorem ca_fit {off c d : Int} (h0 : 0 ≤ off ∧ off ≤ 9) {ks : List (List UInt8)} (h : ∀ k ∈ ks, keyB (.mk 4 [110] off (wC ks)) k = true ∧ k ≠ other ∧ k ≠ []) (hd : ks.Nodup) (hl : ks.length ≤ 50) (hok : Dcm.okD c d) : fitE 2 (caM off ks) (caA c d) = 0 := by
  have hn : namE 2 (caM off ks) = 0 := by
    unfold namE
    rw [ca_msg h0 h hd hl, ca_names off fun k hk => (h k hk).2.2]
    rfl
  unfold fitE
  rw [hn, ca_names off fun k hk => (h k hk).2.2]
  have ha : nameB [110] = true := by decide +kernel
  have hb : badA ⟨[110], true, c, d, []⟩ = false := by unfold badA; simp [hok]
  have e0 : argE [] (caA c d) = 0 := by
    show (if (!nameB [110]) = true then (3 : Int) else if (true && badA ⟨[110], true, c, d, []⟩) = true then 1 else if hasA [] [110] = true then 5 else 0) = 0
    rw [ha, hb]
    rfl
  rw [e0]
  rfl
theorem wkey_yes : ∀ {ks : List (List UInt8)} {t : List UInt8}, t ∈ ks → ∃ i, keyI (wC ks) t = some i ∧ (wC ks)[i]? = some (t, [.mk 1 t 0 []])
  | [], t, h => by simp at h
  | k :: ks, t, h => by
    have e : wC (k :: ks) = (k, [.mk 1 k 0 []]) :: wC ks := rfl
    unfold keyI
    rw [e, List.findIdx?_cons]
    by_cases hk : k = t
    · subst hk
      exact ⟨0, by simp, rfl⟩
    · have hm : t ∈ ks := by
        rcases List.mem_cons.1 h with e | e
        · exact absurd e.symm hk
        · exact e
      obtain ⟨i, h1, h2⟩ := wkey_yes hm
      unfold keyI at h1
      have hb : (k == t) = false := beq_eq_false_iff_ne.2 hk
      refine ⟨i + 1, ?_, by simpa using h2⟩
      rw [hb, h1]
      rfl
theorem wkey_no : ∀ {ks : List (List UInt8)} {t : List UInt8}, t ∉ ks → keyI (wC ks) t = if other == t then some ks.length else none
  | [], t, _ => by
    show [(other, [Nd.mk 1 other 0 []])].findIdx? _ = _
    rw [List.findIdx?_cons]
    split <;> rfl
  | k :: ks, t, h => by
    have e : wC (k :: ks) = (k, [.mk 1 k 0 []]) :: wC ks := rfl
    have ih := wkey_no (ks := ks) (t := t) fun hm => h (by simp [hm])
    unfold keyI at *
    have hb : (k == t) = false := beq_eq_false_iff_ne.2 fun e => h (by simp [e])
    rw [e, List.findIdx?_cons, hb, ih, if_neg (by simp)]
    cases other == t <;> rfl
theorem w_last (ks : List (List UInt8)) : (wC ks)[ks.length]? = some (other, [.mk 1 other 0 []]) := by
  unfold wC
  rw [List.getElem?_append_right (by simp)]
  simp
/-- what is said: the key of the case that counts -/
theorem ca_said (E : Ev) {off c d n : Int} {own : List UInt8} {sel : List (List UInt8)} (hown : exV own = n) (hn : 0 ≤ n) (hsel : ∀ k ∈ sel, exV k < 0) (hother : exV other < 0) (hso : other ∉ own :: sel) :
    saidM E (valA (caA c d)) 2 0 0 (caM off (own :: sel)) = match E.less c d off with
      | none => none
      | some l => some (if E.same c d n then own else if (own :: sel).contains (E.kind l.1 l.2) then E.kind l.1 l.2 else other) := by
  have key : ∀ lc ls, bodyI (.mk 4 [110] off (wC (own :: sel))) (cntI E (wC (own :: sel)) c d lc ls) = [.mk 1 (if E.same c d n then own else if (own :: sel).contains (E.kind lc ls) then E.kind lc ls else other) 0 []] := by
    intro lc ls
    have hx : exI E (wC (own :: sel)) c d = if E.same c d n then some 0 else none := by
      have e : wC (own :: sel) = (own, [.mk 1 own 0 []]) :: wC sel := rfl
      unfold exI
      rw [e, List.findIdx?_cons]
      dsimp only
      rw [hown, decide_eq_true hn, Bool.true_and]
      cases E.same c d n with
      | true => rfl
      | false =>
        have h0 : (wC sel).findIdx? (fun y => decide (0 ≤ exV y.1) && E.same c d (exV y.1)) = none := by
          rw [List.findIdx?_eq_none_iff]
          intro y hy
          have hneg : exV y.1 < 0 := by
            unfold wC at hy
            rcases List.mem_append.1 hy with hm | hm
            · obtain ⟨k, hk, rfl⟩ := List.mem_map.1 hm
              exact hsel k hk
            · obtain rfl : y = (other, [.mk 1 other 0 []]) := by simpa using hm
              exact hother
          rw [decide_eq_false (by omega), Bool.false_and]
        rw [h0]
        rfl
    unfold bodyI cntI
    rw [hx]
    cases E.same c d n with
    | true => rfl
    | false =>
      by_cases hm : E.kind lc ls ∈ own :: sel
      · obtain ⟨i, h1, h2⟩ := wkey_yes hm
        have hc : (own :: sel).contains (E.kind lc ls) = true := by rw [List.contains_eq_mem]; exact decide_eq_true hm
        rw [h1, hc]
        show (((wC (own :: sel))[i]?).map (·.2)).getD [] = _
        rw [h2]
        rfl
      · have hc : (own :: sel).contains (E.kind lc ls) = false := by rw [List.contains_eq_mem]; exact decide_eq_false hm
        have hi : ((none : Option Nat).or ((keyI (wC (own :: sel)) (E.kind lc ls)).or (keyI (wC (own :: sel)) other))).getD 0 = (own :: sel).length := by
          rw [wkey_no hm, wkey_no hso]
          split
          · rfl
          · simp
        rw [hc]
        show (((wC (own :: sel))[((none : Option Nat).or ((keyI (wC (own :: sel)) (E.kind lc ls)).or (keyI (wC (own :: sel)) other))).getD 0]?).map (·.2)).getD [] = _
        rw [hi, w_last]
        rfl
  show (match (match E.less c d off with
      | none => none
      | some l => saidM E (valA (caA c d)) 1 l.1 l.2 (bodyI (.mk 4 [110] off (wC (own :: sel))) (cntI E (wC (own :: sel)) c d l.1 l.2))) with
    | none => none
    | some t => some (t ++ [])) = _
  cases E.less c d off with
  | none => rfl
  | some l =>
    show (match saidM E (valA (caA c d)) 1 l.1 l.2 (bodyI (.mk 4 [110] off (wC (own :: sel))) (cntI E (wC (own :: sel)) c d l.1 l.2)) with
      | none => none
      | some t => some (t ++ [])) = _
    rw [key]
    show some ((_ ++ []) ++ []) = _
    rw [List.append_nil, List.append_nil]
    rfl
/-- the key of a number -/
theorem ex_own {n : Nat} (h : n ≤ 999) : exV (61 :: Lib.decDigits n) = n := by
  unfold exV
  have hl : (Lib.decDigits n).length ≤ 3 := by
    rcases Nat.lt_or_ge n 10 with h1 | h1
    · rw [Dtx.dd1 h1]; simp
    · rw [Dtx.dd2 (by omega)]
      rcases Nat.lt_or_ge (n / 10) 10 with h2 | h2
      · rw [Dtx.dd1 h2]; simp
      · rw [Dtx.dd2 (by omega), Dtx.dd1 (by omega)]; simp
  have hp : Lib.hasPrefix (61 :: Lib.decDigits n) [61] = true := by unfold Lib.hasPrefix; simp
  have ht : Lib.trimPrefix (61 :: Lib.decDigits n) [61] = Lib.decDigits n := by unfold Lib.trimPrefix; rw [hp]; rfl
  rw [if_pos ⟨hp, by rw [List.length_cons]; omega⟩, ht]
  exact Byt.numP_dec n (by omega)
theorem ex_five : (∀ k ∈ five, exV k < 0) ∧ exV other < 0 := by decide +kernel
end Ms
end Go.Proofs.YtldbfkccieipjaaGreatDoor
namespace Go.Proofs.YtldbfkccieipjaaGreatDoor
open Go.RowKit Ms
/-- a truth in a cell -/
def BoolC (w : World) (b k : Nat) (x : Bool) : Prop := w.cell? ⟨b, k, none⟩ = some (.bool x)
/-- the first i kinds that are chosen -/
def selK (i : Nat) (ks : List Bool) : List (List UInt8) := (((five.take i).zip (ks.take i)).filter (·.2)).map (·.1)
theorem selK_zero (ks : List Bool) : selK 0 ks = [] := rfl
theorem selK_step {i : Nat} {ks : List Bool} {f : List UInt8} {b : Bool} (hf : five[i]? = some f) (hb : ks[i]? = some b) : selK (i + 1) ks = if b then selK i ks ++ [f] else selK i ks := by
  have hi := (List.getElem?_eq_some_iff.1 hf).1
  have hj := (List.getElem?_eq_some_iff.1 hb).1
  unfold selK
  rw [List.take_add_one, List.take_add_one, hf, hb]
  show ((((five.take i) ++ [f]).zip ((ks.take i) ++ [b])).filter (·.2)).map (·.1) = _
  rw [List.zip_append (by rw [List.length_take, List.length_take]; omega), List.filter_append, List.map_append]
  cases b
  · show _ ++ [] = _
    rw [List.append_nil]
    rfl
  · rfl
theorem selK_sub (i : Nat) (ks : List Bool) : (selK i ks).Sublist five := by
  unfold selK
  have h1 : ((((five.take i).zip (ks.take i)).filter (·.2)).map (·.1)).Sublist (((five.take i).zip (ks.take i)).map (·.1)) := List.Sublist.map _ List.filter_sublist
  refine h1.trans (List.Sublist.trans (l₂ := five.take i) ?_ (List.take_sublist _ _))
  generalize five.take i = A
  generalize ks.take i = C
  induction A generalizing C with
  | nil => simp
  | cons a A ih => cases C with
    | nil => simp
    | cons c C => simpa using ih C
theorem selK_mem {i : Nat} {ks : List Bool} {k : List UInt8} (h : k ∈ selK i ks) : k ∈ five := (selK_sub i ks).subset h
theorem selK_nodup (i : Nat) (ks : List Bool) : (selK i ks).Nodup := (selK_sub i ks).nodup (by decide +kernel)
theorem selK_len (i : Nat) (ks : List Bool) : (selK i ks).length ≤ 5 := (selK_sub i ks).length_le
theorem selK_mono {i j : Nat} {ks : List Bool} {k : List UInt8} (h : k ∈ selK i ks) (hij : i ≤ j) : k ∈ selK j ks := by
  unfold selK at *
  obtain ⟨⟨a, b⟩, hm, rfl⟩ := List.mem_map.1 h
  rw [List.mem_filter] at hm
  refine List.mem_map.2 ⟨(a, b), List.mem_filter.2 ⟨?_, hm.2⟩, rfl⟩
  have e : ∀ n, (five.take n).zip (ks.take n) = (five.zip ks).take n := fun n => by
    show List.zipWith Prod.mk _ _ = (List.zipWith Prod.mk _ _).take n
    exact List.take_zipWith.symm
  rw [e] at hm ⊢
  exact (List.take_sublist_take_left hij).subset hm.1
/-- these keys are cases -/
def KeyW (keys : List (List UInt8)) (l : List It) : Prop := l.map (fun x => (x.1, x.2.1)) = keys.map fun k => (k, k)
theorem KeyW.nil : KeyW [] [] := rfl
theorem KeyW.add {keys : List (List UInt8)} {l : List It} (h : KeyW keys l) (k : List UInt8) (p : Nat) : KeyW (keys ++ [k]) (l ++ [(k, k, p)]) := by
  unfold KeyW at *
  rw [List.map_append, List.map_append, h]
  rfl
theorem KeyW.len {keys : List (List UInt8)} {l : List It} (h : KeyW keys l) : l.length = keys.length := by
  have := congrArg List.length h
  simpa using this
theorem KeyW.mem {keys : List (List UInt8)} {l : List It} (h : KeyW keys l) {x : It} (hx : x ∈ l) : ∃ k ∈ keys, x.1 = k ∧ x.2.1 = k := by
  have h1 : (x.1, x.2.1) ∈ l.map (fun x => (x.1, x.2.1)) := List.mem_map.2 ⟨x, hx, rfl⟩
  rw [h] at h1
  obtain ⟨k, hk, e⟩ := List.mem_map.1 h1
  injection e with e1 e2
  exact ⟨k, hk, e1.symm, e2.symm⟩
theorem KeyW.cases {keys : List (List UInt8)} {l : List It} (h : KeyW keys l) (p : Nat) : itC (l ++ [(other, other, p)]) = wC keys := by
  rw [itC_add]
  unfold wC
  congr 1
  have := congrArg (List.map fun y : List UInt8 × List UInt8 => (y.1, [Nd.mk 1 y.2 0 []])) h
  rw [List.map_map, List.map_map] at this
  exact this
theorem five_fine {k : List UInt8} (h : k ∈ five) : k ≠ other ∧ k ≠ [] ∧ k.length ≤ 4 ∧ k.headD 0 ≠ 61 := by
  revert k
  decide +kernel
theorem key_five {off : Int} {cs : Cs} {k : List UInt8} (h : k ∈ five) : keyB (.mk 4 [110] off cs) k = true := by
  unfold keyB
  rw [if_neg (by show ¬ (4 : Int) = 5; decide), show five.contains k = true from by rw [List.contains_eq_mem]; exact decide_eq_true h]
  rfl
theorem kind_in (t0 t1 t2 t3 t4 : List UInt8) (o : Rul.Op5) : Rul.kindS [t0, t1, t2, t3, t4] o 0 = other ∨ Rul.kindS [t0, t1, t2, t3, t4] o 0 ∈ five := by
  simp only [Rul.kindS]
  repeat' split
  all_goals first | exact .inr (by decide +kernel) | exact .inl rfl
/-- the key of a number, as it is written -/
def ownK (n : Nat) : List UInt8 := 61 :: Lib.decDigits n
theorem own_len {n : Nat} (h : n ≤ 999) : (ownK n).length ≤ 4 := by
  unfold ownK
  rw [List.length_cons]
  have hl : (Lib.decDigits n).length ≤ 3 := by
    rcases Nat.lt_or_ge n 10 with h1 | h1
    · rw [Dtx.dd1 h1]; simp
    · rw [Dtx.dd2 (by omega)]
      rcases Nat.lt_or_ge (n / 10) 10 with h2 | h2
      · rw [Dtx.dd1 h2]; simp
      · rw [Dtx.dd2 (by omega), Dtx.dd1 (by omega)]; simp
  omega
theorem own_not (n : Nat) (o : Rul.Op5) (t0 t1 t2 t3 t4 : List UInt8) : ownK n ≠ Rul.kindS [t0, t1, t2, t3, t4] o 0 := by
  intro e
  rcases kind_in t0 t1 t2 t3 t4 o with h | h
  · rw [h] at e
    unfold ownK other at e
    injection e with e1 _
    exact absurd e1 (by decide)
  · rw [← e] at h
    exact (five_fine h).2.2.2 rfl
/-- the law: a Plural that has a number's own case -/
theorem ec_said (t0 t1 t2 t3 t4 : List UInt8) {o c d : Int} {n i : Nat} (ks : List Bool) (h0 : 0 ≤ o ∧ o ≤ 9) (hn : n ≤ 999) (hd : Dcm.okD c d) :
    let L := [t0, t1, t2, t3, t4]
    let m := caM o (ownK n :: selK i ks)
    (∀ l, (evS L).less c d o = some l → sayE L 2 m (caA c d) = 0 ∧ sayT L 2 m (caA c d) = if Dcm.nrm c d = Dcm.nrm n 0 then ownK n else if (selK i ks).contains (Rul.kindS L (Rul.opsD l.1 l.2) 0) then Rul.kindS L (Rul.opsD l.1 l.2) 0 else other) ∧
    ((evS L).less c d o = none → sayE L 2 m (caA c d) = 1) := by
  intro L m
  have hks : ∀ k ∈ ownK n :: selK i ks, keyB (.mk 4 [110] o (wC (ownK n :: selK i ks))) k = true ∧ k ≠ other ∧ k ≠ [] := by
    intro k hk
    rcases List.mem_cons.1 hk with rfl | hk
    · refine ⟨?_, ?_, by unfold ownK; simp⟩
      · unfold keyB
        rw [if_neg (by show ¬ (4 : Int) = 5; decide), show exV (ownK n) = n from ex_own hn, decide_eq_true (by omega), Bool.or_true]
      · intro e
        unfold ownK other at e
        injection e with e1 _
        exact absurd e1 (by decide)
    · have hf := selK_mem hk
      exact ⟨key_five hf, (five_fine hf).1, (five_fine hf).2.1⟩
  have hnd : (ownK n :: selK i ks).Nodup := List.nodup_cons.2 ⟨fun h => (five_fine (selK_mem h)).2.2.2 rfl, selK_nodup i ks⟩
  have hf : fitE 2 m (caA c d) = 0 := ca_fit h0 hks hnd (by have := selK_len i ks; rw [List.length_cons]; omega) hd
  have hs : sayO L 2 m (caA c d) = _ := ca_said (evS L) (off := o) (c := c) (d := d) (n := n) (own := ownK n) (sel := selK i ks) (ex_own hn) (by omega) (fun k hk => ex_five.1 k (selK_mem hk)) ex_five.2 (fun h => (hks _ h).2.1 rfl)
  unfold sayE sayT
  rw [if_pos hf, if_pos hf]
  constructor
  · intro l hl
    rw [hl] at hs
    rw [hs]
    refine ⟨rfl, ?_⟩
    have e1 : (evS L).same c d n = decide (Dcm.nrm c d = Dcm.nrm n 0) := rfl
    have e2 : (evS L).kind l.1 l.2 = Rul.kindS L (Rul.opsD l.1 l.2) 0 := rfl
    have hno : (ownK n == Rul.kindS L (Rul.opsD l.1 l.2) 0) = false := beq_eq_false_iff_ne.2 (own_not n _ t0 t1 t2 t3 t4)
    show (if (evS L).same c d n = true then ownK n else if (ownK n :: selK i ks).contains ((evS L).kind l.1 l.2) = true then (evS L).kind l.1 l.2 else other) = _
    rw [e1, e2, List.contains_cons, show (Rul.kindS L (Rul.opsD l.1 l.2) 0 == ownK n) = false from beq_eq_false_iff_ne.2 (fun e => own_not n _ t0 t1 t2 t3 t4 e.symm), Bool.false_or]
    by_cases hq : Dcm.nrm c d = Dcm.nrm n 0
    · rw [if_pos (decide_eq_true hq), if_pos hq]
    · rw [if_neg (by simpa using hq), if_neg hq]
  · intro hl
    rw [hl] at hs
    rw [hs]
    rfl
end Go.Proofs.YtldbfkccieipjaaGreatDoor
namespace Go.Proofs.YtldbfkccieipjaaGreatDoor
open Go.RowKit Go.Extern.Stop Go.Stop Go.Extern

/-! ### CLOSED FACTS ON THE MODEL's ENTRIES FOR internal/reflectlite, at this program's types: 25: *p.E · 27: **p.E · 23: error · 45: reflectlite's rtype · 1: how many package-level variables the dump has -/
theorem Tryz.valueOf27 (t : Addr) (w : World) : (ReflectliteValue.unpack (.iface 159 (.pointer (some t)))).run Tryz.prog w
    = .ok (.agg #[.pointer (some ⟨13, 159, none⟩), .pointer (some ⟨w.heap.size, 0, none⟩), .int .u64 150]) (w.alloc (.cells #[.pointer (some t)] 159)) := by kernel_rfl
theorem Tryz.type27 (a : Addr) (w : World) : (ReflectliteValue.methodAny (ReflectliteValue.valueError "reflectlite.Value.Type" 0) (fun t _ _ _ => ReflectliteType.toType t) #[.agg #[.pointer (some ⟨13, 159, none⟩), .pointer (some a), .int .u64 150]]).run Tryz.prog w
    = .ok (.iface 233 (.agg #[.pointer (some ⟨13, 159, none⟩)])) w := by kernel_rfl
theorem Tryz.methodKind (h : Value) (w : World) : (Go.method 441 233 (.agg #[h]) "Kind").run Tryz.prog w = .ok (251, h) w := by kernel_rfl
theorem Tryz.kind27 (w : World) : ((ReflectliteType.abiMethod fun t => Functor.map (fun a : Nat => Value.int IntKind.u8 (a : Int)) (Rtype.kind t)) #[.pointer (some ⟨13, 159, none⟩)]).run Tryz.prog w = .ok (.int .u8 22) w := by kernel_rfl
theorem Tryz.kind25 (w : World) : ((ReflectliteType.abiMethod fun t => Functor.map (fun a : Nat => Value.int IntKind.u8 (a : Int)) (Rtype.kind t)) #[.pointer (some ⟨13, 60, none⟩)]).run Tryz.prog w = .ok (.int .u8 2) w := by kernel_rfl

/-! ### THE ENTRIES THAT READ OR WRITE MEMORY: laws with a premise on the cell (after Derived/Lib/ReflectliteSlice.lean's manner: each unfolding a lemma of its own, by rfl) -/
theorem rlm (z : Sem Value) (f : TypeId → Addr → Nat → Nat → Sem Value) (v : Value) :
    ReflectliteValue.method z f #[v] = (do match ← ReflectliteValue.parts v with | none => z | some (t, a, fl) => f t a fl (fl % 32)) := rfl
theorem Tryz.parts27 (a : Addr) (w : World) : (ReflectliteValue.parts (.agg #[.pointer (some ⟨13, 159, none⟩), .pointer (some a), .int .u64 150])).run Tryz.prog w = .ok (some (159, a, 150)) w := by kernel_rfl
/-- (Value).IsNil at the Value of a **p.E that is not nil. -/
theorem Tryz.isNil27 (a p : Addr) (W : World) (ha : W.cell? a = some (.pointer (some p))) :
    (ReflectliteValue.method (ReflectliteValue.valueError "reflectlite.Value.IsNil" 0) ReflectliteValue.isNil #[.agg #[.pointer (some ⟨13, 159, none⟩), .pointer (some a), .int .u64 150]]).run Tryz.prog W = .ok (.bool false) W := by
  rw [rlm]
  simp only [Sem.run_bind, Tryz.parts27, Result.andThen]
  simp [ReflectliteValue.isNil, loadVar, isAgg, underlying, Tryz.underlying159, ha, Result.andThen]

theorem Tryz.methodElem (h : Value) (w : World) : (Go.method 441 233 (.agg #[h]) "Elem").run Tryz.prog w = .ok (262, .agg #[h]) w := by kernel_rfl
theorem Tryz.methodImplements (h : Value) (w : World) : (Go.method 441 233 (.agg #[h]) "Implements").run Tryz.prog w = .ok (263, .agg #[h]) w := by kernel_rfl
theorem Tryz.methodAssignableTo (h : Value) (w : World) : (Go.method 441 233 (.agg #[h]) "AssignableTo").run Tryz.prog w = .ok (260, .agg #[h]) w := by kernel_rfl
theorem Tryz.elem27 (w : World) : (ReflectliteType.method ReflectliteType.elem #[.agg #[.pointer (some ⟨13, 159, none⟩)]]).run Tryz.prog w = .ok (.iface 233 (.agg #[.pointer (some ⟨13, 60, none⟩)])) w := by kernel_rfl
theorem Tryz.implements25 (w : World) : (ReflectliteType.relation "Implements" ReflectliteType.implements_ #[.agg #[.pointer (some ⟨13, 60, none⟩)], .iface 233 (.agg #[.pointer (some ⟨13, 26, none⟩)])]).run Tryz.prog w = .ok (.bool true) w := by kernel_rfl
theorem Tryz.typeOf25 (v : Value) (w : World) : (ReflectliteType.typeOf #[.iface 60 v]).run Tryz.prog w = .ok (.iface 233 (.agg #[.pointer (some ⟨13, 60, none⟩)])) w := by kernel_rfl
theorem Tryz.assignable25 (w : World) : (ReflectliteType.relation "AssignableTo" ReflectliteType.assignableTo #[.agg #[.pointer (some ⟨13, 60, none⟩)], .iface 233 (.agg #[.pointer (some ⟨13, 60, none⟩)])]).run Tryz.prog w = .ok (.bool true) w := by kernel_rfl
theorem Tryz.valueOf25 (e : Int) (w : World) : (ReflectliteValue.unpack (.iface 60 (.int .i64 e))).run Tryz.prog w
    = .ok (.agg #[.pointer (some ⟨13, 60, none⟩), .pointer (some ⟨w.heap.size, 0, none⟩), .int .u64 130]) (w.alloc (.cells #[.int .i64 e] 60)) := by kernel_rfl

theorem Tryz.elemOf27 (w : World) : (Rtype.elem? 159).run Tryz.prog w = .ok (some 60) w := by kernel_rfl
theorem Tryz.mk25 (p : Addr) (w : World) : (ReflectliteValue.mk 60 p ReflectliteValue.flagAddr).run Tryz.prog w = .ok (.agg #[.pointer (some ⟨13, 60, none⟩), .pointer (some p), .int .u64 386]) w := by kernel_rfl
/-- (Value).Elem at the Value of a **p.E that is not nil: the Value of the *p.E variable that it points to, addressable. -/
theorem Tryz.elemV27 (a p : Addr) (W : World) (ha : W.cell? a = some (.pointer (some p))) :
    (ReflectliteValue.method (ReflectliteValue.valueError "reflectlite.Value.Elem" 0) ReflectliteValue.elem #[.agg #[.pointer (some ⟨13, 159, none⟩), .pointer (some a), .int .u64 150]]).run Tryz.prog W
      = .ok (.agg #[.pointer (some ⟨13, 60, none⟩), .pointer (some p), .int .u64 386]) W := by
  rw [rlm]
  simp only [Sem.run_bind, Tryz.parts27, Result.andThen]
  simp [ReflectliteValue.elem, loadVar, isAgg, underlying, Tryz.underlying159, ha, Result.andThen, Tryz.elemOf27, Tryz.mk25]
theorem rls (v x : Value) : ReflectliteValue.set #[v, x] = (do
    let (some (dst, a, fl), some (src, b, _)) := (← ReflectliteValue.parts v, ← ReflectliteValue.parts x)
      | unsupported (.noEntry "extern/(internal/reflectlite.Value).Set.zeroValue")
    if fl / ReflectliteValue.flagAddr % 2 == 0 then unsupported (.noEntry "extern/(internal/reflectlite.Value).Set.unaddressable")
    let val ← loadVar src b
    if ← Rtype.directlyAssignable dst src then storeVar dst a val
    else if ← Rtype.implements dst src then
      if (← Rtype.kind src) == 20 then
        match val with
        | .nilIface => unsupported (.noEntry "extern/reflectlite: a nil value of one interface type handed on as a value of another")
        | _ => storeVar dst a val
      else storeVar dst a (.iface src val)
    else panicString ("reflectlite.Set: value of type " ++ (← Rtype.spelt src) ++ " is not assignable to type " ++ (← Rtype.spelt dst))
    pure (.tuple #[])) := rfl
theorem Tryz.parts25a (a : Addr) (w : World) : (ReflectliteValue.parts (.agg #[.pointer (some ⟨13, 60, none⟩), .pointer (some a), .int .u64 386])).run Tryz.prog w = .ok (some (60, a, 386)) w := by kernel_rfl
theorem Tryz.parts25 (a : Addr) (w : World) : (ReflectliteValue.parts (.agg #[.pointer (some ⟨13, 60, none⟩), .pointer (some a), .int .u64 130])).run Tryz.prog w = .ok (some (60, a, 130)) w := by kernel_rfl
theorem Tryz.direct25 (w : World) : (Rtype.directlyAssignable 60 60).run Tryz.prog w = .ok true w := by kernel_rfl
/-- (Value).Set: the *p.E variable at 'ta' gets what the Value's own variable 'b' holds. -/
theorem Tryz.set25 (ta b : Addr) (e : Int) (old : Value) (W : World) (hb : W.cell? b = some (.int .i64 e)) (ht : W.cell? ta = some old) (hf : W.frozen? ta = false) :
    (ReflectliteValue.set #[.agg #[.pointer (some ⟨13, 60, none⟩), .pointer (some ta), .int .u64 386], .agg #[.pointer (some ⟨13, 60, none⟩), .pointer (some b), .int .u64 130]]).run Tryz.prog W
      = .ok (.tuple #[]) (W.setCell ta (.int .i64 e)) := by
  rw [rls]
  simp only [Sem.run_bind, Tryz.parts25a, Tryz.parts25, Result.andThen]
  simp [ReflectliteValue.flagAddr, loadVar, isAgg, underlying, Tryz.underlying60, hb, Result.andThen, Tryz.direct25, storeVar, Value.cells, storeCells, Addr.add]
  rw [run_store Tryz.prog W ta _ _ (by rfl)]
  simp [ht, hf]

set_option maxHeartbeats 4000000 in
theorem as_hit (e : Int) (t : Addr) (old : Value) (w : World) (hg : w.cell? ⟨1, 0, none⟩ = some (.iface 233 (.agg #[.pointer (some ⟨13, 26, none⟩)]))) (ht0 : w.cell? t = some old) (hf0 : w.frozen? t = false) :
    Calls Tryz.prog 83 #[.iface 60 (.int .i64 e), .iface 159 (.pointer (some t))] w fun ev w' => ev = .returned (.bool true) ∧ w' = ((((w.alloc (.cells #[.pointer (some t)] 159)).alloc (.cells #[.pointer (some ⟨13, 159, none⟩), .pointer (some ⟨w.heap.size, 0, none⟩), .int .u64 150] 190)).alloc (.cells #[.pointer (some ⟨13, 159, none⟩), .pointer (some ⟨w.heap.size, 0, none⟩), .int .u64 150] 190)).alloc (.cells #[.int .i64 e] 60)).setCell t (.int .i64 e) := by
  have h6 := @run_callFunc_extern Tryz.prog 112 _ (fun args => ReflectliteValue.unpack (args.getD 0 (.tuple #[]))) Tryz.func112 (by kernel_rfl) (by kernel_rfl) (by kernel_rfl) (by kernel_rfl)
  have h7 := @run_callFunc_extern Tryz.prog 113 _ (ReflectliteValue.methodAny (ReflectliteValue.valueError "reflectlite.Value.Type" 0) (fun t _ _ _ => ReflectliteType.toType t)) Tryz.func113 (by kernel_rfl) (by kernel_rfl) (by kernel_rfl) (by kernel_rfl)
  have h8 := @run_callFunc_extern Tryz.prog 114 _ (ReflectliteValue.method (ReflectliteValue.valueError "reflectlite.Value.IsNil" 0) ReflectliteValue.isNil) Tryz.func114 (by kernel_rfl) (by kernel_rfl) (by kernel_rfl) (by kernel_rfl)
  have h27 := @run_callFunc_extern Tryz.prog 251 _ (ReflectliteType.abiMethod fun t => do pure (.int .u8 (← Rtype.kind t))) Tryz.func251 (by kernel_rfl) (by kernel_rfl) (by kernel_rfl) (by kernel_rfl)
  have h37 := @run_callFunc_extern Tryz.prog 262 _ (ReflectliteType.method ReflectliteType.elem) Tryz.func262 (by kernel_rfl) (by kernel_rfl) (by kernel_rfl) (by kernel_rfl)
  have h38 := @run_callFunc_extern Tryz.prog 263 _ (ReflectliteType.relation "Implements" ReflectliteType.implements_) Tryz.func263 (by kernel_rfl) (by kernel_rfl) (by kernel_rfl) (by kernel_rfl)
  have h10 := @run_callFunc_extern Tryz.prog 155 _ ReflectliteType.typeOf Tryz.func155 (by kernel_rfl) (by kernel_rfl) (by kernel_rfl) (by kernel_rfl)
  have h35 := @run_callFunc_extern Tryz.prog 260 _ (ReflectliteType.relation "AssignableTo" ReflectliteType.assignableTo) Tryz.func260 (by kernel_rfl) (by kernel_rfl) (by kernel_rfl) (by kernel_rfl)
  have h11 := @run_callFunc_extern Tryz.prog 156 _ (ReflectliteValue.method (ReflectliteValue.valueError "reflectlite.Value.Elem" 0) ReflectliteValue.elem) Tryz.func156 (by kernel_rfl) (by kernel_rfl) (by kernel_rfl) (by kernel_rfl)
  have h12 := @run_callFunc_extern Tryz.prog 157 _ ReflectliteValue.set Tryz.func157 (by kernel_rfl) (by kernel_rfl) (by kernel_rfl) (by kernel_rfl)
  have tO := Tryz.typeOf25
  have mA := Tryz.methodAssignableTo
  have a25 := Tryz.assignable25
  have v25 := Tryz.valueOf25
  have f6 := Tryz.valueOf27
  have f7 := Tryz.type27
  have mK := Tryz.methodKind
  have mE := Tryz.methodElem
  have mI := Tryz.methodImplements
  have k27 := Tryz.kind27
  have k25 := Tryz.kind25
  have e27 := Tryz.elem27
  have i25 := Tryz.implements25
  have n8 := Tryz.isNil27 ⟨w.heap.size, 0, none⟩ t ((w.alloc (.cells #[.pointer (some t)] 159)).alloc (.cells #[.pointer (some ⟨13, 159, none⟩), .pointer (some ⟨w.heap.size, 0, none⟩), .int .u64 150] 190)) (by simp)
  have hlt : 1 < w.heap.size := World.block_lt_of_cell? w _ hg
  have hg2 : ((w.alloc (.cells #[.pointer (some t)] 159)).alloc (.cells #[.pointer (some ⟨13, 159, none⟩), .pointer (some ⟨w.heap.size, 0, none⟩), .int .u64 150] 190)).cell? ⟨1, 0, none⟩ = some (.iface 233 (.agg #[.pointer (some ⟨13, 26, none⟩)])) := by
    rw [World.cell?_alloc_lt _ _ ⟨1, 0, none⟩ (by first | (simp; done) | (simp; omega)), World.cell?_alloc_lt _ _ ⟨1, 0, none⟩ hlt]; exact hg
  have htl : t.block < w.heap.size := by
    rcases Nat.lt_or_ge t.block w.heap.size with h | h
    · exact h
    · simp [World.cell?, Array.getElem?_eq_none h] at ht0
  have el := Tryz.elemV27 ⟨w.heap.size, 0, none⟩ t (((w.alloc (.cells #[.pointer (some t)] 159)).alloc (.cells #[.pointer (some ⟨13, 159, none⟩), .pointer (some ⟨w.heap.size, 0, none⟩), .int .u64 150] 190)).alloc (.cells #[.pointer (some ⟨13, 159, none⟩), .pointer (some ⟨w.heap.size, 0, none⟩), .int .u64 150] 190)) (by rw [World.cell?_alloc_lt _ _ ⟨w.heap.size, 0, none⟩ (by simp; omega)]; simp)
  have st := Tryz.set25 t ⟨w.heap.size + 1 + 1 + 1, 0, none⟩ e old ((((w.alloc (.cells #[.pointer (some t)] 159)).alloc (.cells #[.pointer (some ⟨13, 159, none⟩), .pointer (some ⟨w.heap.size, 0, none⟩), .int .u64 150] 190)).alloc (.cells #[.pointer (some ⟨13, 159, none⟩), .pointer (some ⟨w.heap.size, 0, none⟩), .int .u64 150] 190)).alloc (.cells #[.int .i64 e] 60))
    (by rw [World.cell?_alloc_at _ _ _ _ (by simp)]; rfl)
    (by rw [World.cell?_alloc_lt _ _ t (by simp; omega), World.cell?_alloc_lt _ _ t (by simp; omega), World.cell?_alloc_lt _ _ t (by simp; omega), World.cell?_alloc_lt _ _ t htl]; exact ht0)
    (by rw [World.frozen?_alloc_old _ _ t (by simp; omega), World.frozen?_alloc_old _ _ t (by simp; omega), World.frozen?_alloc_old _ _ t (by simp; omega), World.frozen?_alloc_old _ _ t (Nat.ne_of_lt htl)]; exact hf0)
  go_enter Tryz.func83, Tryz.ntmps83
  go_wp2
  refine wp_loop_rounds 1 ?_
  rw [rounds_succ]
  go_wp2
  go_ret
  exact ⟨rfl, rfl⟩

/-- errors.errorType holds its handle -/
def HanW (w : World) : Prop := w.cell? ⟨1, 0, none⟩ = some (.iface 233 (.agg #[.pointer (some ⟨13, 26, none⟩)]))
theorem HanW.below {w w' : World} (h : HanW w) (hb : Below w.heap.size w w') : HanW w' := cell_keep h hb
theorem HanW.alloc {w : World} (h : HanW w) (o : Obj) : HanW (w.alloc o) := h.below (blw_alloc w o)
theorem HanW.drewN {w : World} (h : HanW w) (n : Nat) : HanW (w.drewN n) := h

set_option maxRecDepth 100000 in
set_option maxHeartbeats 1000000 in
theorem told_nil (w : World) : Calls Tryz.prog 54 #[.nilIface] w fun e w' => e = .returned (.int .i64 0) ∧ Below w.heap.size w w' := by
  go_enter Tryz.func54, Tryz.ntmps54
  go_wp2
  go_ret
  exact ⟨rfl, by repeat (first | exact Below.refl _ _ | exact blw_alloc _ _)⟩
set_option maxRecDepth 100000 in
set_option maxHeartbeats 1000000 in
theorem told_errno (n : Int) (w : World) (hg : HanW w) : Calls Tryz.prog 54 #[.iface 60 (.int .i64 n)] w fun e w' => e = .returned (.int .i64 n) ∧ Below w.heap.size w w' := by
  have hlt := World.block_lt_of_cell? w _ hg
  have C := Lib.hid (as_hit n ⟨w.heap.size, 0, none⟩ (.int .i64 0) (w.alloc (.cells #[.int .i64 0] 60)) (cell_keep hg (blw_alloc _ _)) (by simp) (by simp))
  go_enter Tryz.func54, Tryz.ntmps54
  go_wp2_with fail
  refine (C.out).mono ?_
  rintro e w' ⟨rfl, rfl⟩
  go_wp2
  go_ret
  refine ⟨rfl, ?_⟩
  exact blw_trans (blw_trans (blw_trans (blw_trans (blw_alloc w _) (blw_alloc _ _)) (blw_alloc _ _)) (blw_alloc _ _)) (blw_alloc _ _)

/-- the number of an error: of nil 0 -/
inductive ErrNo : Value → Int → Prop
  | nil : ErrNo .nilIface 0
  | no (n : Int) : ErrNo (.iface 60 (.int .i64 n)) n
theorem told_any {v : Value} {n : Int} (h : ErrNo v n) (w : World) (hg : HanW w) : Calls Tryz.prog 54 #[v] w fun e w' => e = .returned (.int .i64 n) ∧ Below w.heap.size w w' := by
  cases h
  · exact told_nil w
  · exact told_errno n w hg
set_option maxRecDepth 100000 in
set_option maxHeartbeats 1000000 in
theorem sameErr_any {v : Value} {n : Int} (m : Int) (h : ErrNo v n) (w : World) (hg : HanW w) : Calls Tryz.prog 24 #[v, .int .i64 m] w fun e w' => e = .returned (.bool (n == m)) ∧ Below w.heap.size w w' := by
  have C := Lib.hid fun w hg => told_any h w hg
  clear h
  go_enter Tryz.func24, Tryz.ntmps24
  go_wp2_with fail
  refine (C.out _ (by exact hg)).mono ?_
  rintro e w' ⟨rfl, hb⟩
  go_wp2
  go_ret
  exact ⟨rfl, hb⟩
theorem sameErr_yes {v : Value} {n : Int} (h : ErrNo v n) (w : World) (hg : HanW w) : Calls Tryz.prog 24 #[v, .int .i64 n] w fun e w' => e = .returned (.bool true) ∧ Below w.heap.size w w' := by
  have c := sameErr_any n h w hg
  simpa using c
end Go.Proofs.YtldbfkccieipjaaGreatDoor
namespace Go.Proofs.YtldbfkccieipjaaGreatDoor
theorem laidMet_over {P : Program} {W : World} {L : List (String × DataW Unit)} (args : Array Value) (hf : W.layFits P L [] = true) (hi : W.layIfaces P L (W.layVars P L) = true) :
    laidMet P L ((W.layVars P L).forCall (fun _ _ => 0) ⟨#[], args, []⟩).memory := by
  have e1 : (L.filter fun x => (L.map (·.1)).contains x.1) = L := List.filter_eq_self.2 fun x hx => List.contains_iff_mem.2 (List.mem_map.2 ⟨x, hx, rfl⟩)
  have e2 : (L.filter fun x => !(L.map (·.1)).contains x.1) = [] := List.filter_eq_nil_iff.2 fun x hx => by rw [List.contains_iff_mem.2 (List.mem_map.2 ⟨x, hx, rfl⟩)]; simp
  have h : laidMet P L (W.layVars P L) := laidMet_layVars (w0 := W) (L.map (·.1)) [] (by rw [e1]) (by rw [e1]; exact hf) (by rw [e1]; exact hi) (by rw [e2]; exact LaidIn.none)
  exact h.of_heap (by simp [World.memory, World.forCall, Input.heap])
end Go.Proofs.YtldbfkccieipjaaGreatDoor
namespace Go.Proofs.YtldbfkccieipjaaGreatDoor
open Go.RowKit

theorem hanEt : Tryz.prog.globalNamed "errors.errorType" = some 1 := by kernel_rfl
theorem hanRt : (Tryz.prog.cutTypes.find? (·.1 == "internal/reflectlite.rtype")).map (·.2) = some 233 := by kernel_rfl
theorem hanOne : ((List.range 341).filter fun t => Tryz.prog.rowNamed t [101, 114, 114, 111, 114]) = [26] := by kernel_rfl
theorem hanSize : Tryz.prog.types.size = 341 := by kernel_rfl
theorem hanW_of {L : List (String × DataW Unit)} {W : World} (hm : ("errors.errorType", Rows.laid_errors_errorType) ∈ L) (h : laidMetH Tryz.prog L W) : HanW W := by
  have hf : ("errors.errorType", Rows.laid_errors_errorType) ∈ L.filter (fun x => x.snd.handleName?.isSome) := List.mem_filter.2 ⟨hm, rfl⟩
  unfold laidMetH at h
  split at h
  · rename_i hE; rw [hE] at hf; cases hf
  rename_i hE
  rw [hE] at hf
  obtain ⟨name, u, ty, e1, e2, e3, e4, e5⟩ := h.2 _ hf
  have en : name = [101, 114, 114, 111, 114] := (Option.some.inj e1).symm
  subst en
  obtain rfl := Option.some.inj (hanRt.symm.trans e2)
  have hm : ty ∈ (List.range 341).filter fun t => Tryz.prog.rowNamed t [101, 114, 114, 111, 114] := List.mem_filter.2 ⟨List.mem_range.2 (by rw [← hanSize]; exact e3), e4⟩
  rw [hanOne] at hm
  obtain rfl := List.mem_singleton.1 hm
  have hh : typeHandle Tryz.prog 26 = .pointer (some ⟨13, 26, none⟩) := by kernel_rfl
  rw [hh] at e5
  simpa [HanW] using World.var?_cell hanEt e5 0
end Go.Proofs.YtldbfkccieipjaaGreatDoor
