/- The walks of cover.check, cover.Missing and cover.Idle. Conditions: what the walks of messages and rules lean on is there; the message is one, of lists of at most 2000000; the rules' texts are short. -/
import Derived.Test.YtldbfkccieipjaaGreatDoorEf6
import Derived.Test.YtldbfkccieipjaaGreatDoorEf13
import Derived.Test.YtldbfkccieipjaaGreatDoorEf5
import Derived.Test.YtldbfkccieipjaaGreatDoorEf4
import Derived.Test.YtldbfkccieipjaaGreatDoorEf25
import Derived.Test.YtldbfkccieipjaaGreatDoorEf19
import Derived.Maps.AppendAt
import Derived.Test.YtldbfkccieipjaaGreatDoorEf16
import Derived.Test.YtldbfkccieipjaaGreatDoorEf23
import Derived.Test.YtldbfkccieipjaaGreatDoorEf8
import Derived.Test.YtldbfkccieipjaaGreatDoorEf0
import Derived.Laws.StructEq
import Derived.Test.YtldbfkccieipjaaGreatDoorEf20
import Derived.Deep.DeepCutAuto
import Derived.Deep.CutRange
import Derived.Test.YtldbfkccieipjaaGreatDoorEf22
import Derived.Test.YtldbfkccieipjaaGreatDoorEf11
namespace Go.Proofs.YtldbfkccieipjaaGreatDoor
open Go.RowKit
open Go.RowKit Go.Lib Ms
open Ms
theorem nrow_mono {w : World} {base base' n k : Nat} {e : TypeId} {v : Value} {xs : List Value} (h : w.ownsRow base e k v n xs) (hb : base' ≤ base) : w.ownsRow base' e k v n xs := by
  refine ⟨h.1, ?_⟩
  rcases h.2 with h | ⟨g, cap, cur, e1, e2, e3⟩
  · exact .inl h
  · exact .inr ⟨g, cap, cur, e1, Nat.le_trans hb e2, e3⟩
/-- where the first one lies -/
def fstC (l : List (List UInt8 × List Nd)) (p : (List UInt8 × List Nd) → Bool) : Int := if l.findIdx p < l.length then (l.findIdx p : Int) else -1

set_option maxRecDepth 100000 in
set_option maxHeartbeats 1000000 in
theorem idx_case {f : Nat} (l : List (List UInt8 × List Nd)) (p : (List UInt8 × List Nd) → Bool) (g : Nat) (lb : Array Value) (eg : ∀ args w, (callFunc g args).run Tryz.prog w = .ok (.enter g args) w) (v : Value) (w : World) (hl : CassAt f w v l)
    (CP : Hid (∀ x ∈ l, ∀ a n c wx, Below w.heap.size w wx → Calls Tryz.prog g (#[.agg #[.string ⟨x.1.toArray⟩, .slice a n c]] ++ lb) wx fun e w' => e = .returned (.bool (p x)) ∧ Below wx.heap.size wx w')) :
    Calls Tryz.prog 66 #[v, .func (.func g) #[] lb] w fun e w' => e = .returned (.int .i64 (fstC l p)) ∧ Below w.heap.size w w' := by
  have HLB := Lib.hid (show ∀ wx, Below w.heap.size w wx → CassAt f wx v l from fun wx hb => cass_below hl hb)
  obtain ⟨A, cap, rfl, hm, _⟩ := hl.spread
  unfold maxLen at hm
  clear hl
  have HF := Lib.hid (show fstC l p = if l.findIdx p < l.length then (l.findIdx p : Int) else -1 from rfl)
  generalize fstC l p = R at *
  go_enter Tryz.func66, Tryz.ntmps66
  go_wp2_with fail
  go_loopw [5, 8] (fun _ i wr => ∃ k : Nat, i = .int .i64 k ∧ k ≤ l.length ∧ Hid ((l.take k).any p = false) ∧ Hid (Below w.heap.size w wr)) (fun _ i _ => l.length - (RowKit.intOf i).toNat)
  case atStart => exact ⟨0, rfl, Nat.zero_le _, Lib.hid rfl, Lib.hid (Below.refl _ _)⟩
  case round =>
    obtain ⟨k, rfl, hk, HA, HB⟩ := hrel
    by_cases hlt : k < l.length
    · obtain ⟨x, hx⟩ : ∃ x, l[k]? = some x := ⟨l[k], List.getElem?_eq_getElem hlt⟩
      have HX := Lib.hid (any_take' (p := p) hx)
      have hxm := List.mem_of_getElem? hx
      obtain ⟨A', cap', eA, _, hsp⟩ := (HLB.out wr HB.out).spread
      injection eA with e1 e2 e3
      subst e1
      obtain ⟨b, off, rfl, hxc⟩ := hsp k x hx
      clear hsp e2 e3
      obtain ⟨a9, n9, c9, x0, x1, _⟩ := hxc
      have CX := Lib.hid (CP.out x hxm a9 n9 c9 _ HB.out)
      cases hq : p x with
      | true =>
        rw [hq] at CX
        have hi := idx_first hx HA.out hq
        have HT := Lib.hid (show R = (k : Int) by rw [HF.out, hi, if_pos hlt])
        clear hq hx hxm hi
        go_wp2_with (go_at_fn g; refine CX.out.mono ?_; rintro e w' ⟨rfl, hb⟩; have HB2 := Lib.hid (blw_trans HB.out hb); clear hb)
        go_ret
        exact ⟨ret_int HT.out.symm, HB2.out⟩
      | false =>
        rw [hq] at CX
        have HT := Lib.hid (show (l.take (k + 1)).any p = false by rw [HX.out, hq, HA.out]; rfl)
        clear hq hx hxm
        go_wp2_with (go_at_fn g; refine CX.out.mono ?_; rintro e w' ⟨rfl, hb⟩; have HB2 := Lib.hid (blw_trans HB.out hb); clear hb)
        go_roundw
        case rel => exact ⟨k + 1, by go_num, by omega, HT, HB2⟩
        case measure => simp [RowKit.intOf]; omega
    · have HT := Lib.hid (show R = -1 by
        have h0 : l.any p = false := by rw [← List.take_of_length_le (l := l) (i := k) (by omega)]; exact HA.out
        rw [HF.out, idx_none h0, if_neg (Nat.lt_irrefl _)])
      go_wp2_with fail
      go_ret
      exact ⟨ret_int HT.out.symm, HB.out⟩

set_option maxRecDepth 100000 in
set_option maxHeartbeats 1000000 in
theorem has_case {f : Nat} (l : List (List UInt8 × List Nd)) (p : (List UInt8 × List Nd) → Bool) (g : Nat) (lb : Array Value) (eg : ∀ args w, (callFunc g args).run Tryz.prog w = .ok (.enter g args) w) (v : Value) (w : World) (hl : CassAt f w v l)
    (CP : Hid (∀ x ∈ l, ∀ a n c wx, Below w.heap.size w wx → Calls Tryz.prog g (#[.agg #[.string ⟨x.1.toArray⟩, .slice a n c]] ++ lb) wx fun e w' => e = .returned (.bool (p x)) ∧ Below wx.heap.size wx w')) :
    Calls Tryz.prog 39 #[v, .func (.func g) #[] lb] w fun e w' => e = .returned (.bool (l.any p)) ∧ Below w.heap.size w w' := by
  have CI := Lib.hid (idx_case l p g lb eg v w hl CP)
  obtain ⟨za, zn, zc, rfl⟩ := hl.isSlice
  have HF := Lib.hid (show l.any p = decide (0 ≤ fstC l p) by
    rw [any_idx]
    unfold fstC
    by_cases h : l.findIdx p < l.length
    · rw [if_pos h, decide_eq_true h]; exact (decide_eq_true (by omega)).symm
    · rw [if_neg h, decide_eq_false h]; rfl)
  generalize fstC l p = R at *
  generalize l.any p = Z at *
  clear hl CP eg
  go_enter Tryz.func39, Tryz.ntmps39
  go_wp2_with fail
  refine CI.out.mono ?_
  rintro e w1 ⟨rfl, hb⟩
  have W1 := Lib.hid hb
  clear hb
  go_wp2_with fail
  go_ret
  exact ⟨ret_bool (by rw [HF.out]), W1.out⟩

set_option maxRecDepth 100000 in
set_option maxHeartbeats 1000000 in
theorem miss11_any (x : List UInt8 × List Nd) (a : Option Addr) (n c q : Nat) (t : List UInt8) (w : World) (hq : w.cell? ⟨q, 0, none⟩ = some (.string ⟨t.toArray⟩)) :
    Calls Tryz.prog 40 (#[.agg #[.string ⟨x.1.toArray⟩, .slice a n c]] ++ #[.pointer (some ⟨q, 0, none⟩)]) w fun e w' => e = .returned (.bool (x.1 == t)) ∧ Below w.heap.size w w' := by
  obtain ⟨k, b⟩ := x
  dsimp only
  show Calls _ _ #[_, _] _ _
  have hlt := World.block_lt_of_cell? _ _ hq
  have hne : q ≠ w.heap.size := by dsimp only at hlt; omega
  go_enter Tryz.func40, Tryz.ntmps40
  go_wp2_with fail
  go_ret
  exact ⟨rfl, blw_alloc _ _⟩
theorem miss11_at (args : Array Value) (w : World) : (callFunc 40 args).run Tryz.prog w = .ok (.enter 40 args) w := enters_of Tryz.func40 (by kernel_rfl) rfl args w
end Go.Proofs.YtldbfkccieipjaaGreatDoor
namespace Go.Proofs.YtldbfkccieipjaaGreatDoor
open Go.RowKit Ms
theorem infoCase : (Tryz.prog.info? 41).map (fun i => (i.zero, i.size, i.bytes)) = some (some (.agg #[.string ByteArray.empty, .slice none 0 0]), 2, 40) := by kernel_rfl
/-- a case: its key, what it says, the block of that -/
abbrev It := List UInt8 × List UInt8 × Nat
def itV (x : It) : List Value := [.string ⟨x.1.toArray⟩, .slice (some ⟨x.2.2, 0, none⟩) 1 1]
def itF (l : List It) : List Value := l.flatMap itV
def itC (l : List It) : Cs := l.map fun x => (x.1, [.mk 1 x.2.1 0 []])
theorem itF_add (l : List It) (x : It) : itF (l ++ [x]) = itF l ++ itV x := by unfold itF; rw [List.flatMap_append]; simp
theorem itC_add (l : List It) (x : It) : itC (l ++ [x]) = itC l ++ [(x.1, [.mk 1 x.2.1 0 []])] := by unfold itC; rw [List.map_append]; rfl
theorem itF_at : ∀ {l : List It} {j : Nat} {x : It}, l[j]? = some x → (itF l)[j * 2]? = some (.string ⟨x.1.toArray⟩) ∧ (itF l)[j * 2 + 1]? = some (.slice (some ⟨x.2.2, 0, none⟩) 1 1)
  | [], j, x, h => by simp at h
  | y :: l, 0, x, h => by
    obtain rfl : y = x := by simpa using h
    exact ⟨rfl, rfl⟩
  | y :: l, j + 1, x, h => by
    have := itF_at (l := l) (j := j) (x := x) (by simpa using h)
    have e : itF (y :: l) = itV y ++ itF l := by unfold itF; rw [List.flatMap_cons]
    have el : (itV y).length = 2 := rfl
    rw [e, List.getElem?_append_right (by omega), List.getElem?_append_right (by omega), el, show (j + 1) * 2 - 2 = j * 2 by omega, show (j + 1) * 2 + 1 - 2 = j * 2 + 1 by omega]
    exact this
/-- what a case says, in a block of its own -/
abbrev sayB (t : List UInt8) : Obj := .cells #[.int .i64 1, .string ⟨t.toArray⟩, .int .i64 0, .slice none 0 0] 34 (0, 0)
structure CI (B : Nat) (v : Value) (l : List It) (w : World) : Prop where
  row : w.ownsRow B 41 2 v l.length (itF l)
  bod : ∀ x ∈ l, w.heap[x.2.2]? = some (sayB x.2.1)
theorem CI.nil (B : Nat) (w : World) : CI B (.slice none 0 0) [] w := ⟨World.ownsRow_nil _ _ _ _, by simp⟩
theorem CI.below {B : Nat} {v : Value} {l : List It} {w w' : World} (h : CI B v l w) (hb : Below w.heap.size w w') : CI B v l w' :=
  ⟨row_blw h.row hb, fun x hx => (hb.block x.2.2 (Array.getElem?_eq_some_iff.1 (h.bod x hx)).1).trans (h.bod x hx)⟩
/-- the row's block bears cases -/
theorem CI.own {B : Nat} {v : Value} {l : List It} {w : World} (h : CI B v l w) {k : Nat} (e : v.ownBlock = some k) : B ≤ k ∧ k < w.heap.size ∧ ∃ cur, w.heap[k]? = some (.cells cur 41 (0, 0)) := by
  rcases h.row.2 with ⟨rfl, _⟩ | ⟨g, cap, cur, rfl, hB, hg, _⟩
  · simp [Value.ownBlock] at e
  · simp only [Value.ownBlock, Option.some.injEq] at e
    subst e
    exact ⟨hB, (Array.getElem?_eq_some_iff.1 hg).1, cur, hg⟩
theorem CI.node_ne {B : Nat} {v : Value} {l : List It} {w : World} (h : CI B v l w) {k : Nat} {cs : Array Value} (hk : w.heap[k]? = some (.cells cs 34 (0, 0))) : v.ownBlock ≠ some k := by
  intro e
  obtain ⟨_, _, cur, hc⟩ := h.own e
  rw [hk] at hc
  injection hc with hc
  injection hc with _ ht _
  exact absurd ht (by decide)
/-- one case more -/
theorem CI.app {B : Nat} {v v' : Value} {l : List It} {w w2 w' : World} (h : CI B v l w) (x : It) (hb : Below w.heap.size w w2) (hx : w.heap.size ≤ x.2.2) (hn : w2.heap[x.2.2]? = some (sayB x.2.1)) (hown : w'.ownsRow B 41 2 v' (l.length + 1) (itF l ++ itV x)) (hg : w2.grownBy w' v.ownBlock) : CI B v' (l ++ [x]) w' := by
  refine ⟨by rw [List.length_append, itF_add]; exact hown, fun y hy => ?_⟩
  rcases List.mem_append.1 hy with hy | hy
  · have h1 := h.bod y hy
    have hl := (Array.getElem?_eq_some_iff.1 h1).1
    rw [hg.block y.2.2 (Nat.lt_of_lt_of_le hl hb.size) (fun e => h.node_ne h1 e.symm), hb.block _ hl]
    exact h1
  · obtain rfl : y = x := by simpa using hy
    have hl := (Array.getElem?_eq_some_iff.1 hn).1
    rw [hg.block _ hl (fun e => by have := (h.own e.symm).2.1; omega)]
    exact hn
/-- a node that bears them -/
structure SI (w0 : World) (q : Nat) (K : Int) (T : List UInt8) (O : Int) (v : Value) (l : List It) (w : World) : Prop where
  ci : CI w0.heap.size v l w
  bx : w.heap[q]? = some (.cells #[.int .i64 K, .string ⟨T.toArray⟩, .int .i64 O, v] 34 (0, 0))
  ne : ∀ x ∈ l, x.2.2 ≠ q
  lo : w0.heap.size ≤ q
  bel : Below w0.heap.size w0 w
variable {w0 : World} {q : Nat} {K : Int} {T : List UInt8} {O : Int} {v : Value} {l : List It} {w w' : World}
theorem SI.below (h : SI w0 q K T O v l w) (hb : Below w.heap.size w w') : SI w0 q K T O v l w' :=
  ⟨h.ci.below hb, (hb.block q (Array.getElem?_eq_some_iff.1 h.bx).1).trans h.bx, h.ne, h.lo, blw_trans h.bel hb⟩
theorem SI.lt (h : SI w0 q K T O v l w) : q < w.heap.size := (Array.getElem?_eq_some_iff.1 h.bx).1
theorem SI.add {w2 : World} {v' : Value} (h : SI w0 q K T O v l w) (x : It) (hb : Below w.heap.size w w2) (hx : w.heap.size ≤ x.2.2) (hn : w2.heap[x.2.2]? = some (sayB x.2.1)) (hown : w'.ownsRow w0.heap.size 41 2 v' (l.length + 1) (itF l ++ itV x)) (hg : w2.grownBy w' v.ownBlock) : SI w0 q K T O v' (l ++ [x]) (w'.setCell ⟨q, 3, none⟩ v') := by
  have hc := h.ci.app x hb hx hn hown hg
  have hql := h.lt
  have hq2 : w'.heap[q]? = some (.cells #[.int .i64 K, .string ⟨T.toArray⟩, .int .i64 O, v] 34 (0, 0)) := by
    rw [hg.block q (Nat.lt_of_lt_of_le hql hb.size) (fun e => h.ci.node_ne h.bx e.symm), hb.block _ hql]
    exact h.bx
  have hne2 : ∀ y ∈ l ++ [x], y.2.2 ≠ q := by
    intro y hy
    rcases List.mem_append.1 hy with hy | hy
    · exact h.ne y hy
    · obtain rfl : y = x := by simpa using hy
      omega
  refine ⟨⟨?_, fun y hy => ?_⟩, ?_, hne2, h.lo, ?_⟩
  · refine ⟨hc.row.1, ?_⟩
    rcases hc.row.2 with k | ⟨g, cap, cur, k1, k2, k3, k4⟩
    · exact .inl k
    · refine .inr ⟨g, cap, cur, k1, k2, ?_, k4⟩
      rw [Below.heap_setCell _ _ _ _ (fun e => by rw [e, hq2] at k3; injection k3 with k3; injection k3 with _ ht _; exact absurd ht (by decide))]
      exact k3
  · rw [Below.heap_setCell _ _ _ _ (hne2 y hy)]
    exact hc.bod y hy
  · simp [World.setCell, Array.getElem?_modify, hq2]
  · refine Below.setCell (p := ⟨q, 3, none⟩) ?_ h.lo _
    exact (blw_trans h.bel hb).grown hg (Nat.le_trans h.bel.size hb.size) (fun k hk => (h.ci.own hk).1)
/-- they lie in memory as cases -/
theorem CI.cass {B : Nat} (h : CI B v l w) (hk : ∀ x ∈ l, x.1.length ≤ 2000000 ∧ x.2.1.length ≤ 2000000) : CassAt 1 w v (itC l) := by
  have hlen : (itC l).length = l.length := by unfold itC; rw [List.length_map]
  rcases h.row.2 with ⟨rfl, h0⟩ | ⟨g, cap, cur, rfl, _, _, h1, h2, _, _⟩
  · exact .inl ⟨List.length_eq_zero_iff.1 (by rw [hlen]; exact h0), none, 0, rfl⟩
  · by_cases h0 : l.length = 0
    · exact .inl ⟨List.length_eq_zero_iff.1 (by rw [hlen]; exact h0), _, _, by rw [h0]⟩
    · refine .inr ⟨g, 0, cap, by rw [hlen], by rw [hlen]; omega, by rw [hlen]; exact h1, h2, fun j y hy => ?_⟩
      unfold itC at hy
      rw [List.getElem?_map] at hy
      cases hx : l[j]? with
      | none => rw [hx] at hy; cases hy
      | some x =>
        rw [hx] at hy
        obtain rfl : (x.1, [Nd.mk 1 x.2.1 0 []]) = y := by simpa using hy
        obtain ⟨c0, c1⟩ := itF_at hx
        have hm := List.mem_of_getElem? hx
        have hb := h.bod x hm
        rw [Nat.zero_add]
        exact ⟨_, 1, 1, nrow_cells h.row c0, nrow_cells h.row c1, msg_one (nd_plain (by rw [Lib.cell_of_heap hb]; rfl) (by rw [Lib.cell_of_heap hb]; rfl) (by rw [Lib.cell_of_heap hb]; rfl) (by rw [Lib.cell_of_heap hb]; rfl) (hk x hm).2), (hk x hm).1, by simp⟩
end Go.Proofs.YtldbfkccieipjaaGreatDoor
namespace Go.Proofs.YtldbfkccieipjaaGreatDoor
open Go.RowKit
namespace Ms
theorem sum_ones {g : List Nd → Int} : ∀ (L : List (List Nd)), (∀ b ∈ L, g b = 1) → (L.map g).sum = L.length
  | [], _ => rfl
  | b :: r, h => by
    rw [List.map_cons, List.sum_cons, sum_ones r fun c hc => h c (by simp [hc]), h b (by simp), List.length_cons]
    push_cast
    omega
theorem goN_id {F : List Need → List Nd → List Need} : ∀ (L : List (List Nd)) (l : List Need), (∀ b ∈ L, ∀ l, F l b = l) → goN F l L = l
  | [], _, _ => rfl
  | b :: r, l, h => by
    show goN F (F l b) r = l
    rw [h b (by simp)]
    exact goN_id r l fun c hc => h c (by simp [hc])
end Ms
end Go.Proofs.YtldbfkccieipjaaGreatDoor
namespace Go.Proofs.YtldbfkccieipjaaGreatDoor
open Go.RowKit
namespace Ms
/-- cases that say their keys, and other -/
def wC (ks : List (List UInt8)) : Cs := ks.map (fun k => (k, [.mk 1 k 0 []])) ++ [(other, [.mk 1 other 0 []])]
def caM (off : Int) (ks : List (List UInt8)) : List Nd := [.mk 4 [110] off (wC ks)]
def caA (c d : Int) : List Ag := [⟨[110], true, c, d, []⟩]
theorem wC_word {ks : List (List UInt8)} (h : ∀ k ∈ ks, k ≠ []) : ∀ y ∈ wC ks, ∃ c r, y.2 = [.mk 1 (c :: r) 0 []] := by
  intro y hy
  unfold wC at hy
  rcases List.mem_append.1 hy with hm | hm
  · obtain ⟨k, hk, rfl⟩ := List.mem_map.1 hm
    cases k with
    | nil => exact absurd rfl (h [] hk)
    | cons c r => exact ⟨c, r, rfl⟩
  · obtain rfl : y = (other, [.mk 1 other 0 []]) := by simpa using hm
    exact ⟨111, [116, 104, 101, 114], rfl⟩
theorem csE_wC {G : Bool → List Nd → Int} {x : Nd} {mark : Bool} (hG : ∀ c r b, G b [.mk 1 (c :: r) 0 []] = 0) (ho' : keyB x other = true) : ∀ (ks seen : List (List UInt8)), (∀ k ∈ ks, keyB x k = true ∧ k ≠ other ∧ k ≠ []) → (seen ++ ks).Nodup → other ∉ seen → csE G x mark seen (wC ks) = 0
  | [], seen, _, _, ho => by
    show csE G x mark seen [(other, [.mk 1 other 0 []])] = 0
    unfold csE
    have hg : G (mark || decide (x.kind = 4)) [.mk 1 other 0 []] = 0 := hG 111 [116, 104, 101, 114] _
    rw [ho', if_neg (by simp), if_neg (by simpa [List.contains_eq_mem] using ho), hg, if_neg (by simp)]
    unfold csE
    rw [if_pos (by simp [List.contains_eq_mem])]
  | k :: ks, seen, h, hd, ho => by
    have hk := h k (by simp)
    have e : wC (k :: ks) = (k, [.mk 1 k 0 []]) :: wC ks := rfl
    rw [e]
    unfold csE
    have hg : ∀ b, G b [.mk 1 k 0 []] = 0 := by
      cases k with
      | nil => exact absurd rfl hk.2.2
      | cons c r => exact fun b => hG c r b
    have hns : k ∉ seen := by
      intro hm
      rw [List.nodup_append] at hd
      exact hd.2.2 k hm k (by simp) rfl
    rw [hk.1, if_neg (by simp), if_neg (by simpa [List.contains_eq_mem] using hns), hg, if_neg (by simp)]
    refine csE_wC hG ho' ks (seen ++ [k]) (fun z hz => h z (by simp [hz])) (by rw [List.append_assoc]; exact hd) ?_
    intro hm
    rcases List.mem_append.1 hm with hm | hm
    · exact ho hm
    · have e : other = k := by simpa using hm
      exact hk.2.1 e.symm
theorem ca_msg {off : Int} (h0 : 0 ≤ off ∧ off ≤ 9) {ks : List (List UInt8)} (h : ∀ k ∈ ks, keyB (.mk 4 [110] off (wC ks)) k = true ∧ k ≠ other ∧ k ≠ []) (hd : ks.Nodup) (hl : ks.length ≤ 50) : msgE 2 (caM off ks) = 0 := by
  unfold msgE
  have hb : bodies (caM off ks) = (wC ks).map (·.2) := by
    show ((wC ks).map (·.2)) ++ [] = _
    rw [List.append_nil]
  have hlr : ∀ b ∈ bodies (caM off ks), lrg 5 b = (1, false) := by
    rw [hb]
    intro b hm
    obtain ⟨y, hy, rfl⟩ := List.mem_map.1 hm
    obtain ⟨c, r, e⟩ := wC_word (fun k hk => (h k hk).2.2) y hy
    rw [e]
    rfl
  have h1 : (lrg 6 (caM off ks)).2 = false := by
    refine lgo_ok (F := lrg 5) (bodies (caM off ks)) 1 (fun b hm => by rw [hlr b hm]; exact ⟨rfl, by decide⟩) ?_
    rw [sum_ones (g := fun b => (lrg 5 b).1) _ fun b hm => by rw [hlr b hm], hb, List.length_map]
    unfold wC
    rw [List.length_append, List.length_map, List.length_singleton]
    push_cast
    omega
  rw [h1, if_neg (by simp)]
  have hn : nameB [110] = true := by decide +kernel
  refine ms_cons (nd_plural hn h0.1 h0.2 (csE_wC (fun c r b => rfl) ?_ ks [] h (by simpa using hd) (by simp))) rfl
  show (five.contains other || other == other || decide (0 ≤ exV other)) = true
  simp
theorem ca_names (off : Int) {ks : List (List UInt8)} (h : ∀ k ∈ ks, k ≠ []) : allN 2 [] (caM off ks) = [([110], true, false)] := by
  show goN (allN 1) [([110], true, false)] ((wC ks).map (·.2)) = _
  refine goN_id _ _ fun b hm l => ?_
  obtain ⟨y, hy, rfl⟩ := List.mem_map.1 hm
  obtain ⟨c, r, e⟩ := wC_word h y hy
  rw [e]
  rfl
theorem ca_fit {off c d : Int} (h0 : 0 ≤ off ∧ off ≤ 9) {ks : List (List UInt8)} (h : ∀ k ∈ ks, keyB (.mk 4 [110] off (wC ks)) k = true ∧ k ≠ other ∧ k ≠ []) (hd : ks.Nodup) (hl : ks.length ≤ 50) (hok : Dcm.okD c d) : fitE 2 (caM off ks) (caA c d) = 0 := by
  have hn : namE 2 (caM off ks) = 0 := by
    unfold namE
    rw [ca_msg h0 h hd hl, ca_names off fun k hk => (h k hk).2.2]
    rfl
  unfold fitE
  rw [hn, ca_names off fun k hk => (h k hk).2.2]
  have ha : nameB [110] = true := by decide +kernel
  have hb : badA ⟨[110], true, c, d, []⟩ = false := by unfold badA; simp [hok]
  have e0 : argE [] (caA c d) = 0 := by
    show (if (!nameB [110]) = true then (3 : Int) else if (true && badA ⟨[110], true, c, d, []⟩) = true then 1 else if hasA [] [110] = true then 5 else 0) = 0
    rw [ha, hb]
    rfl
  rw [e0]
  rfl
theorem wkey_yes : ∀ {ks : List (List UInt8)} {t : List UInt8}, t ∈ ks → ∃ i, keyI (wC ks) t = some i ∧ (wC ks)[i]? = some (t, [.mk 1 t 0 []])
  | [], t, h => by simp at h
  | k :: ks, t, h => by
    have e : wC (k :: ks) = (k, [.mk 1 k 0 []]) :: wC ks := rfl
    unfold keyI
    rw [e, List.findIdx?_cons]
    by_cases hk : k = t
    · subst hk
      exact ⟨0, by simp, rfl⟩
    · have hm : t ∈ ks := by
        rcases List.mem_cons.1 h with e | e
        · exact absurd e.symm hk
        · exact e
      obtain ⟨i, h1, h2⟩ := wkey_yes hm
      unfold keyI at h1
      have hb : (k == t) = false := beq_eq_false_iff_ne.2 hk
      refine ⟨i + 1, ?_, by simpa using h2⟩
      rw [hb, h1]
      rfl
theorem wkey_no : ∀ {ks : List (List UInt8)} {t : List UInt8}, t ∉ ks → keyI (wC ks) t = if other == t then some ks.length else none
  | [], t, _ => by
    show [(other, [Nd.mk 1 other 0 []])].findIdx? _ = _
    rw [List.findIdx?_cons]
    split <;> rfl
  | k :: ks, t, h => by
    have e : wC (k :: ks) = (k, [.mk 1 k 0 []]) :: wC ks := rfl
    have ih := wkey_no (ks := ks) (t := t) fun hm => h (by simp [hm])
    unfold keyI at *
    have hb : (k == t) = false := beq_eq_false_iff_ne.2 fun e => h (by simp [e])
    rw [e, List.findIdx?_cons, hb, ih, if_neg (by simp)]
    cases other == t <;> rfl
theorem w_last (ks : List (List UInt8)) : (wC ks)[ks.length]? = some (other, [.mk 1 other 0 []]) := by
  unfold wC
  rw [List.getElem?_append_right (by simp)]
  simp
theorem ex_five : (∀ k ∈ five, exV k < 0) ∧ exV other < 0 := by decide +kernel
end Ms
end Go.Proofs.YtldbfkccieipjaaGreatDoor
namespace Go.Proofs.YtldbfkccieipjaaGreatDoor
open Go.RowKit Ms
/-- a truth in a cell -/
def BoolC (w : World) (b k : Nat) (x : Bool) : Prop := w.cell? ⟨b, k, none⟩ = some (.bool x)
/-- the first i kinds that are chosen -/
def selK (i : Nat) (ks : List Bool) : List (List UInt8) := (((five.take i).zip (ks.take i)).filter (·.2)).map (·.1)
theorem selK_step {i : Nat} {ks : List Bool} {f : List UInt8} {b : Bool} (hf : five[i]? = some f) (hb : ks[i]? = some b) : selK (i + 1) ks = if b then selK i ks ++ [f] else selK i ks := by
  have hi := (List.getElem?_eq_some_iff.1 hf).1
  have hj := (List.getElem?_eq_some_iff.1 hb).1
  unfold selK
  rw [List.take_add_one, List.take_add_one, hf, hb]
  show ((((five.take i) ++ [f]).zip ((ks.take i) ++ [b])).filter (·.2)).map (·.1) = _
  rw [List.zip_append (by rw [List.length_take, List.length_take]; omega), List.filter_append, List.map_append]
  cases b
  · show _ ++ [] = _
    rw [List.append_nil]
    rfl
  · rfl
theorem selK_sub (i : Nat) (ks : List Bool) : (selK i ks).Sublist five := by
  unfold selK
  have h1 : ((((five.take i).zip (ks.take i)).filter (·.2)).map (·.1)).Sublist (((five.take i).zip (ks.take i)).map (·.1)) := List.Sublist.map _ List.filter_sublist
  refine h1.trans (List.Sublist.trans (l₂ := five.take i) ?_ (List.take_sublist _ _))
  generalize five.take i = A
  generalize ks.take i = C
  induction A generalizing C with
  | nil => simp
  | cons a A ih => cases C with
    | nil => simp
    | cons c C => simpa using ih C
theorem selK_mem {i : Nat} {ks : List Bool} {k : List UInt8} (h : k ∈ selK i ks) : k ∈ five := (selK_sub i ks).subset h
theorem selK_nodup (i : Nat) (ks : List Bool) : (selK i ks).Nodup := (selK_sub i ks).nodup (by decide +kernel)
theorem selK_len (i : Nat) (ks : List Bool) : (selK i ks).length ≤ 5 := (selK_sub i ks).length_le
/-- these keys are cases -/
def KeyW (keys : List (List UInt8)) (l : List It) : Prop := l.map (fun x => (x.1, x.2.1)) = keys.map fun k => (k, k)
theorem KeyW.nil : KeyW [] [] := rfl
theorem KeyW.add {keys : List (List UInt8)} {l : List It} (h : KeyW keys l) (k : List UInt8) (p : Nat) : KeyW (keys ++ [k]) (l ++ [(k, k, p)]) := by
  unfold KeyW at *
  rw [List.map_append, List.map_append, h]
  rfl
theorem KeyW.len {keys : List (List UInt8)} {l : List It} (h : KeyW keys l) : l.length = keys.length := by
  have := congrArg List.length h
  simpa using this
theorem KeyW.mem {keys : List (List UInt8)} {l : List It} (h : KeyW keys l) {x : It} (hx : x ∈ l) : ∃ k ∈ keys, x.1 = k ∧ x.2.1 = k := by
  have h1 : (x.1, x.2.1) ∈ l.map (fun x => (x.1, x.2.1)) := List.mem_map.2 ⟨x, hx, rfl⟩
  rw [h] at h1
  obtain ⟨k, hk, e⟩ := List.mem_map.1 h1
  injection e with e1 e2
  exact ⟨k, hk, e1.symm, e2.symm⟩
theorem KeyW.cases {keys : List (List UInt8)} {l : List It} (h : KeyW keys l) (p : Nat) : itC (l ++ [(other, other, p)]) = wC keys := by
  rw [itC_add]
  unfold wC
  congr 1
  have := congrArg (List.map fun y : List UInt8 × List UInt8 => (y.1, [Nd.mk 1 y.2 0 []])) h
  rw [List.map_map, List.map_map] at this
  exact this
theorem five_fine {k : List UInt8} (h : k ∈ five) : k ≠ other ∧ k ≠ [] ∧ k.length ≤ 4 ∧ k.headD 0 ≠ 61 := by
  revert k
  decide +kernel
theorem key_five {off : Int} {cs : Cs} {k : List UInt8} (h : k ∈ five) : keyB (.mk 4 [110] off cs) k = true := by
  unfold keyB
  rw [if_neg (by show ¬ (4 : Int) = 5; decide), show five.contains k = true from by rw [List.contains_eq_mem]; exact decide_eq_true h]
  rfl
theorem kind_in (t0 t1 t2 t3 t4 : List UInt8) (o : Rul.Op5) : Rul.kindS [t0, t1, t2, t3, t4] o 0 = other ∨ Rul.kindS [t0, t1, t2, t3, t4] o 0 ∈ five := by
  simp only [Rul.kindS]
  repeat' split
  all_goals first | exact .inr (by decide +kernel) | exact .inl rfl
end Go.Proofs.YtldbfkccieipjaaGreatDoor
namespace Go.Proofs.YtldbfkccieipjaaGreatDoor
open Go.RowKit
namespace Ms
def dot (t k : List UInt8) : List UInt8 := t ++ [46] ++ k
/-- the kinds: is the rule there? -/
def kS (S : List (List UInt8)) : List (List UInt8 × Bool) := (five.zip S).map fun p => (p.1, !p.2.isEmpty)
def missK (x : Nd) (L : List (List UInt8 × Bool)) : List (List UInt8) := (L.filter fun p => p.2 && !(x.cases.any fun y => y.1 == p.1)).map fun p => dot x.text p.1
def missN (S : List (List UInt8)) (x : Nd) : List (List UInt8) := missK x (kS S)
def idleN (S : List (List UInt8)) (x : Nd) (k : List UInt8) : List (List UInt8) := if (kS S).contains (k, false) then [dot x.text k] else []
/-- each Plural, and each case of it -/
def eachM (N : Nd → List (List UInt8)) (O : Nd → List UInt8 → List (List UInt8)) : Nat → List Nd → List (List UInt8)
  | 0, _ => []
  | f + 1, m => m.flatMap fun x => (if x.kind = 4 then N x else []) ++ (casesOf x).flatMap fun y => (if x.kind = 4 then O x y.1 else []) ++ eachM N O f y.2
theorem each_step {N : Nd → List (List UInt8)} {O : Nd → List UInt8 → List (List UInt8)} (f : Nat) {m : List Nd} {i : Nat} {x : Nd} (h : m[i]? = some x) : eachM N O (f + 1) (m.drop i) = (if x.kind = 4 then N x else []) ++ (((casesOf x).flatMap fun y => (if x.kind = 4 then O x y.1 else []) ++ eachM N O f y.2) ++ eachM N O (f + 1) (m.drop (i + 1))) := by
  obtain ⟨hi, e⟩ := List.getElem?_eq_some_iff.1 h
  rw [List.drop_eq_getElem_cons hi, e, ← List.append_assoc]
  rfl
theorem flat_step {α β : Type} {l : List α} {k : Nat} {y : α} (h : l[k]? = some y) (g : α → List β) : (l.drop k).flatMap g = g y ++ (l.drop (k + 1)).flatMap g := by
  obtain ⟨hi, e⟩ := List.getElem?_eq_some_iff.1 h
  rw [List.drop_eq_getElem_cons hi, e]
  rfl
theorem filt_step {l : List (List UInt8 × Bool)} {k : Nat} {y : List UInt8 × Bool} (h : l[k]? = some y) (x : Nd) : missK x (l.drop k) = (if y.2 && !(x.cases.any fun z => z.1 == y.1) then [dot x.text y.1] else []) ++ missK x (l.drop (k + 1)) := by
  obtain ⟨hi, e⟩ := List.getElem?_eq_some_iff.1 h
  unfold missK
  rw [List.drop_eq_getElem_cons hi, e, List.filter_cons]
  split <;> rfl
theorem missK_len (x : Nd) (L : List (List UInt8 × Bool)) : (missK x L).length ≤ L.length := by
  unfold missK
  rw [List.length_map]
  exact List.length_filter_le _ _
theorem idleN_len (S : List (List UInt8)) (x : Nd) (k : List UInt8) : (idleN S x k).length ≤ 1 := by
  unfold idleN
  split <;> simp
end Ms
end Go.Proofs.YtldbfkccieipjaaGreatDoor
namespace Go.Proofs.YtldbfkccieipjaaGreatDoor
open Go.RowKit
namespace Ms
/-- what is said where no key is a number -/
theorem ca_said0 (E : Ev) {off c d : Int} {sel : List (List UInt8)} (hsel : ∀ k ∈ sel, exV k < 0) (hother : exV other < 0) (hso : other ∉ sel) :
    saidM E (valA (caA c d)) 2 0 0 (caM off sel) = match E.less c d off with
      | none => none
      | some l => some (if sel.contains (E.kind l.1 l.2) then E.kind l.1 l.2 else other) := by
  have key : ∀ lc ls, bodyI (.mk 4 [110] off (wC sel)) (cntI E (wC sel) c d lc ls) = [.mk 1 (if sel.contains (E.kind lc ls) then E.kind lc ls else other) 0 []] := by
    intro lc ls
    have hx : exI E (wC sel) c d = none := by
      unfold exI
      rw [List.findIdx?_eq_none_iff]
      intro y hy
      have hneg : exV y.1 < 0 := by
        unfold wC at hy
        rcases List.mem_append.1 hy with hm | hm
        · obtain ⟨k, hk, rfl⟩ := List.mem_map.1 hm
          exact hsel k hk
        · obtain rfl : y = (other, [.mk 1 other 0 []]) := by simpa using hm
          exact hother
      rw [decide_eq_false (by omega), Bool.false_and]
    unfold bodyI cntI
    rw [hx]
    by_cases hm : E.kind lc ls ∈ sel
    · obtain ⟨i, h1, h2⟩ := wkey_yes hm
      have hc : sel.contains (E.kind lc ls) = true := by rw [List.contains_eq_mem]; exact decide_eq_true hm
      rw [h1, hc]
      show (((wC sel)[i]?).map (·.2)).getD [] = _
      rw [h2]
      rfl
    · have hc : sel.contains (E.kind lc ls) = false := by rw [List.contains_eq_mem]; exact decide_eq_false hm
      have hi : ((none : Option Nat).or ((keyI (wC sel) (E.kind lc ls)).or (keyI (wC sel) other))).getD 0 = sel.length := by
        rw [wkey_no hm, wkey_no hso]
        split
        · rfl
        · simp
      rw [hc]
      show (((wC sel)[((none : Option Nat).or ((keyI (wC sel) (E.kind lc ls)).or (keyI (wC sel) other))).getD 0]?).map (·.2)).getD [] = _
      rw [hi, w_last]
      rfl
  show (match (match E.less c d off with
      | none => none
      | some l => saidM E (valA (caA c d)) 1 l.1 l.2 (bodyI (.mk 4 [110] off (wC sel)) (cntI E (wC sel) c d l.1 l.2))) with
    | none => none
    | some t => some (t ++ [])) = _
  cases E.less c d off with
  | none => rfl
  | some l =>
    show (match saidM E (valA (caA c d)) 1 l.1 l.2 (bodyI (.mk 4 [110] off (wC sel)) (cntI E (wC sel) c d l.1 l.2)) with
      | none => none
      | some t => some (t ++ [])) = _
    rw [key]
    show some ((_ ++ []) ++ []) = _
    rw [List.append_nil, List.append_nil]
    rfl
theorem each_one (N : Nd → List (List UInt8)) (O : Nd → List UInt8 → List (List UInt8)) (off : Int) {ks : List (List UInt8)} (h : ∀ k ∈ ks, k ≠ []) : eachM N O 2 (caM off ks) = N (.mk 4 [110] off (wC ks)) ++ (wC ks).flatMap fun y => O (.mk 4 [110] off (wC ks)) y.1 := by
  show (N (.mk 4 [110] off (wC ks)) ++ ((wC ks).flatMap fun y => O (.mk 4 [110] off (wC ks)) y.1 ++ eachM N O 1 y.2)) ++ [] = _
  rw [List.append_nil]
  congr 1
  have key : ∀ l : Cs, (∀ y ∈ l, ∃ c r, y.2 = [.mk 1 (c :: r) 0 []]) → (l.flatMap fun y => O (.mk 4 [110] off (wC ks)) y.1 ++ eachM N O 1 y.2) = l.flatMap fun y => O (.mk 4 [110] off (wC ks)) y.1 := by
    intro l
    induction l with
    | nil => intro _; rfl
    | cons y l ih =>
      intro hl
      obtain ⟨c, r, e⟩ := hl y (by simp)
      have e1 : eachM N O 1 y.2 = [] := by rw [e]; rfl
      rw [List.flatMap_cons, List.flatMap_cons, e1, List.append_nil, ih fun z hz => hl z (by simp [hz])]
  exact key _ (wC_word h)
/-- a kind has a rule, or is other -/
theorem kind_rule (t0 t1 t2 t3 t4 : List UInt8) (o : Rul.Op5) : Rul.kindS [t0, t1, t2, t3, t4] o 0 = other ∨ (Rul.kindS [t0, t1, t2, t3, t4] o 0, true) ∈ kS [t0, t1, t2, t3, t4] := by
  have hh : ∀ t, Rul.hits o t = true → (!t.isEmpty) = true := fun t h => by unfold Rul.hits at h; rw [Bool.and_eq_true] at h; exact h.1
  have e5 : kS [t0, t1, t2, t3, t4] = [([122, 101, 114, 111], !t0.isEmpty), ([111, 110, 101], !t1.isEmpty), ([116, 119, 111], !t2.isEmpty), ([102, 101, 119], !t3.isEmpty), ([109, 97, 110, 121], !t4.isEmpty)] := rfl
  rw [e5]
  simp only [Rul.kindS]
  cases h0 : Rul.hits o t0 with
  | true => rw [hh t0 h0]; exact .inr (by simp [Rul.kindAt, Rul.kindL])
  | false =>
    cases h1 : Rul.hits o t1 with
    | true => rw [hh t1 h1]; exact .inr (by simp [Rul.kindAt, Rul.kindL])
    | false =>
      cases h2 : Rul.hits o t2 with
      | true => rw [hh t2 h2]; exact .inr (by simp [Rul.kindAt, Rul.kindL])
      | false =>
        cases h3 : Rul.hits o t3 with
        | true => rw [hh t3 h3]; exact .inr (by simp [Rul.kindAt, Rul.kindL])
        | false =>
          cases h4 : Rul.hits o t4 with
          | true => rw [hh t4 h4]; exact .inr (by simp [Rul.kindAt, Rul.kindL])
          | false => exact .inl rfl
theorem kS_names (t0 t1 t2 t3 t4 : List UInt8) : (kS [t0, t1, t2, t3, t4]).map (·.1) = five := rfl
/-- the law of CoverSays -/
theorem cover_law (t0 t1 t2 t3 t4 : List UInt8) (o : Rul.Op5) {sel : List (List UInt8)} (_ : ∀ k ∈ sel, k ≠ []) :
    (missN [t0, t1, t2, t3, t4] (.mk 4 [110] 0 (wC sel)) = [] → (if sel.contains (Rul.kindS [t0, t1, t2, t3, t4] o 0) then Rul.kindS [t0, t1, t2, t3, t4] o 0 else other) = Rul.kindS [t0, t1, t2, t3, t4] o 0) ∧
      dot [110] (if sel.contains (Rul.kindS [t0, t1, t2, t3, t4] o 0) then Rul.kindS [t0, t1, t2, t3, t4] o 0 else other) ∉ (wC sel).flatMap fun y => idleN [t0, t1, t2, t3, t4] (.mk 4 [110] 0 (wC sel)) y.1 := by
  have hr := kind_rule t0 t1 t2 t3 t4 o
  generalize Rul.kindS [t0, t1, t2, t3, t4] o 0 = k at *
  constructor
  · intro hm
    cases hc : sel.contains k with
    | true => rfl
    | false =>
      rcases hr with e | e
      · rw [e]; rfl
      · exfalso
        have hany : ((wC sel).any fun y => y.1 == k) = false := by
          rw [List.any_eq_false]
          intro y hy hyk
          have hyk' : y.1 = k := by simpa using hyk
          unfold wC at hy
          rcases List.mem_append.1 hy with h | h
          · obtain ⟨z, hz, rfl⟩ := List.mem_map.1 h
            have : sel.contains k = true := by rw [List.contains_eq_mem]; exact decide_eq_true (by rw [← hyk']; exact hz)
            rw [hc] at this; cases this
          · obtain rfl : y = (other, [.mk 1 other 0 []]) := by simpa using h
            have hf : k ∈ (kS [t0, t1, t2, t3, t4]).map (·.1) := List.mem_map.2 ⟨_, e, rfl⟩
            rw [kS_names, ← hyk'] at hf
            exact absurd hf (by decide)
        have : dot [110] k ∈ missN [t0, t1, t2, t3, t4] (.mk 4 [110] 0 (wC sel)) := by
          unfold missN missK
          refine List.mem_map.2 ⟨(k, true), List.mem_filter.2 ⟨e, ?_⟩, rfl⟩
          show (true && !((wC sel).any fun y => y.1 == k)) = true
          rw [hany]; rfl
        rw [hm] at this
        cases this
  · intro hm
    obtain ⟨y, _, hy⟩ := List.mem_flatMap.1 hm
    unfold idleN at hy
    split at hy
    · rename_i hc
      have hc' : (y.1, false) ∈ kS [t0, t1, t2, t3, t4] := by simpa [List.contains_eq_mem] using hc
      have ek : (if sel.contains k then k else other) = y.1 := by
        have e : dot [110] (if sel.contains k then k else other) = dot [110] y.1 := List.mem_singleton.1 hy
        unfold dot at e
        exact List.append_cancel_left e
      have hin : y.1 ∈ five := by rw [← kS_names t0 t1 t2 t3 t4]; exact List.mem_map.2 ⟨_, hc', rfl⟩
      cases hcs : sel.contains k with
      | false =>
        rw [hcs] at ek
        have : other ∈ five := by rw [show other = y.1 from ek]; exact hin
        exact absurd this (by decide)
      | true =>
        rw [hcs] at ek
        have ek : k = y.1 := ek
        rcases hr with e | e
        · rw [← ek, e] at hin
          exact absurd hin (by decide)
        · rw [← ek] at hc'
          have hnd : (kS [t0, t1, t2, t3, t4]).Pairwise fun a b => a.1 ≠ b.1 := by
            have h : ((kS [t0, t1, t2, t3, t4]).map (·.1)).Nodup := by rw [kS_names]; decide
            rw [List.nodup_iff_pairwise_ne, List.pairwise_map] at h
            exact h
          generalize kS [t0, t1, t2, t3, t4] = L at *
          clear hm hy hc hin
          induction L with
          | nil => cases e
          | cons z L ih =>
            rw [List.pairwise_cons] at hnd
            rcases List.mem_cons.1 e with e1 | e1
            · rcases List.mem_cons.1 hc' with e2 | e2
              · rw [← e1] at e2; injection e2 with _ e2; cases e2
              · exact hnd.1 _ e2 (by rw [← e1])
            · rcases List.mem_cons.1 hc' with e2 | e2
              · exact hnd.1 _ e1 (by rw [← e2])
              · exact ih e2 e1 hnd.2
    · simp at hy
end Ms
end Go.Proofs.YtldbfkccieipjaaGreatDoor
namespace Go.Proofs.YtldbfkccieipjaaGreatDoor
open Go.RowKit
abbrev stV (t : List UInt8) : Value := txtV t
/-- the list lies in a row behind block p; block q holds the set -/
structure OutI (B p q : Nat) (us : Array Value) (s : List (List UInt8)) (v : Value) (w : World) : Prop where
  box : Boxed w p #[v]
  row : w.ownsRow B 9 1 v s.length (s.map stV)
  ne : v.ownBlock ≠ some p
  ge : B ≤ p
  set : Boxed w q us
  qp : q ≠ p
  qv : v.ownBlock ≠ some q
/-- nothing old has turned but block p and the row -/
structure Turn (p : Nat) (v : Value) (w : World) (v' : Value) (w' : World) : Prop where
  os : w'.os = w.os
  tape : w'.tape = w.tape
  output : w'.output = w.output
  size : w.heap.size ≤ w'.heap.size
  block : ∀ k, k < w.heap.size → k ≠ p → v.ownBlock ≠ some k → w'.heap[k]? = w.heap[k]?
  at' : v'.ownBlock = v.ownBlock ∨ ∃ k, v'.ownBlock = some k ∧ w.heap.size ≤ k
section
variable {B p q : Nat} {us : Array Value} {s : List (List UInt8)} {v v1 v2 : Value} {w w1 w2 : World}
theorem Turn.below (h : Below w.heap.size w w1) : Turn p v w v w1 := ⟨h.os, h.tape, h.output, h.size, fun k hk _ _ => h.block k hk, .inl rfl⟩
theorem Turn.trans (h : Turn p v w v1 w1) (g : Turn p v1 w1 v2 w2) : Turn p v w v2 w2 := by
  refine ⟨g.os.trans h.os, g.tape.trans h.tape, g.output.trans h.output, Nat.le_trans h.size g.size, fun k hk hp hv => ?_, ?_⟩
  · refine (g.block k (Nat.lt_of_lt_of_le hk h.size) hp (fun e => ?_)).trans (h.block k hk hp hv)
    rcases h.at' with e1 | ⟨j, e1, hj⟩
    · rw [e1] at e; exact hv e
    · rw [e1] at e; injection e with e; omega
  · rcases g.at' with e | ⟨j, e, hj⟩
    · rcases h.at' with e1 | ⟨i, e1, hi⟩
      · exact .inl (e.trans e1)
      · exact .inr ⟨i, e.trans e1, hi⟩
    · exact .inr ⟨j, e, Nat.le_trans h.size hj⟩
theorem Turn.boxed {k : Nat} {vs : Array Value} (h : Turn p v w v1 w1) (hb : Boxed w k vs) (hp : k ≠ p) (hv : v.ownBlock ≠ some k) : Boxed w1 k vs := by
  have e := h.block k hb.lt hp hv
  exact ⟨Nat.lt_of_lt_of_le hb.lt h.size, fun j x hx => (World.cell?_of_block e).trans (hb.cell j x hx), fun j hj => (World.frozen?_of_block e).trans (hb.free j hj)⟩
theorem Turn.keep {k : Nat} {vs : Array Value} (h : Turn p v w v1 w1) (hb : Boxed w k vs ∧ v.ownBlock ≠ some k) (hp : k ≠ p) : Boxed w1 k vs ∧ v1.ownBlock ≠ some k := by
  refine ⟨h.boxed hb.1 hp hb.2, fun e => ?_⟩
  rcases h.at' with e1 | ⟨j, e1, hj⟩
  · rw [e1] at e; exact hb.2 e
  · rw [e1] at e; injection e with e; have := hb.1.lt; omega
theorem Turn.base {W0 : World} (h : Turn p v w v1 w1) (hb : Below B W0 w) (hp : B ≤ p) (hv : ∀ k, v.ownBlock = some k → B ≤ k) (hB : B ≤ w.heap.size) : Below B W0 w1 :=
  ⟨h.os.trans hb.os, h.tape.trans hb.tape, h.output.trans hb.output, Nat.le_trans hb.size h.size, fun k hk => (h.block k (by omega) (by omega) (fun e => by have := hv k e; omega)).trans (hb.block k hk)⟩
theorem OutI.below (h : OutI B p q us s v w) (hb : Below w.heap.size w w1) : OutI B p q us s v w1 :=
  ⟨h.box.below hb, h.row.kept (row := none) ⟨hb.os, hb.tape, hb.output, hb.size, fun k hk _ => hb.block k hk⟩ (by cases v.ownBlock <;> simp), h.ne, h.ge, h.set.below hb, h.qp, h.qv⟩
theorem OutI.base {W0 : World} (h : OutI B p q us s v w) (t : Turn p v w v1 w1) (hb : Below B W0 w) : Below B W0 w1 :=
  t.base hb h.ge (fun k e => (h.row.lt k e).1) (Nat.le_trans h.ge (Nat.le_of_lt h.box.lt))
theorem OutI.isSlice (h : OutI B p q us s v w) : ∃ a c, v = .slice a s.length c := by
  rcases h.row.2 with ⟨rfl, h0⟩ | ⟨g, cap, cur, rfl, _⟩
  · exact ⟨none, 0, by rw [h0]⟩
  · exact ⟨_, _, rfl⟩
/-- the row has grown to w2, and is stored -/
theorem OutI.pushed {t : List UInt8} (h : OutI B p q us s v w) (hb : Below w.heap.size w w1) (ho : w2.ownsRow B 9 1 v1 (s.length + 1) (s.map stV ++ [stV t])) (hg : w1.grownBy w2 v.ownBlock) (hat : v1.ownBlock = v.ownBlock ∨ v1.ownBlock = some w1.heap.size) :
    OutI B p q us (s ++ [t]) v1 (w2.setCell ⟨p, 0, none⟩ v1) ∧ Turn p v w v1 (w2.setCell ⟨p, 0, none⟩ v1) := by
  have h1 := h.below hb
  have hbx := nboxed_grown h1.box hg (fun e => h.ne e.symm)
  have hqx := nboxed_grown h1.set hg (fun e => h.qv e.symm)
  have hne : v1.ownBlock ≠ some p := by
    rcases hat with e | e
    · rw [e]; exact h.ne
    · rw [e]; intro g; injection g with g; have := h1.box.lt; omega
  have hnq : v1.ownBlock ≠ some q := by
    rcases hat with e | e
    · rw [e]; exact h.qv
    · rw [e]; intro g; injection g with g; have := h1.set.lt; omega
  refine ⟨⟨by exact hbx.set 0 v1 (by simp), ?_, hne, h.ge, hqx.far (Ne.symm h.qp) 0 v1, h.qp, hnq⟩, ?_⟩
  · rw [List.length_append, List.map_append]
    refine ho.kept (row := some p) ⟨rfl, rfl, rfl, by simp, fun k _ hk => ?_⟩ (.inr hne)
    exact heap_setCell_other w2 ⟨p, 0, none⟩ k v1 (fun e => hk (by simp [e]))
  · refine ⟨hg.os.trans hb.os, hg.tape.trans hb.tape, hg.output.trans hb.output, ?_, fun k hk hp hv => ?_, ?_⟩
    · have := hb.size; have := hg.size; simp; omega
    · rw [heap_setCell_other w2 ⟨p, 0, none⟩ k v1 hp, hg.block k (Nat.lt_of_lt_of_le hk hb.size) (fun e => hv e.symm)]
      exact hb.block k hk
    · rcases hat with e | e
      · exact .inl e
      · exact .inr ⟨_, e, hb.size⟩
end
end Go.Proofs.YtldbfkccieipjaaGreatDoor
namespace Go.Proofs.YtldbfkccieipjaaGreatDoor
open Go.RowKit Ms
/-- kinds as cells -/
def kC (L : List (List UInt8 × Bool)) : Array Value := (L.flatMap fun p => [stV p.1, Value.bool p.2]).toArray
theorem kC_at : ∀ {L : List (List UInt8 × Bool)} {k : Nat} {y : List UInt8 × Bool}, L[k]? = some y → (kC L)[k * 2]? = some (stV y.1) ∧ (kC L)[k * 2 + 1]? = some (.bool y.2) := by
  have key : ∀ (L : List (List UInt8 × Bool)) (k : Nat) (y : List UInt8 × Bool), L[k]? = some y → (L.flatMap fun p => [stV p.1, Value.bool p.2])[k * 2]? = some (stV y.1) ∧ (L.flatMap fun p => [stV p.1, Value.bool p.2])[k * 2 + 1]? = some (.bool y.2) := by
    intro L
    induction L with
    | nil => intro k y h; simp at h
    | cons a L ih =>
      intro k y h
      cases k with
      | zero => simp at h; subst h; exact ⟨rfl, rfl⟩
      | succ k =>
        have h' := ih k y (by simpa using h)
        have e : (k + 1) * 2 = k * 2 + 1 + 1 := by omega
        rw [e]
        exact h'
  intro L k y h
  unfold kC
  simpa using key L k y h
theorem boxed_top {W : World} {p : Nat} (vs : Array Value) (t : TypeId) (h : p = W.heap.size) : Boxed (W.alloc (.cells vs t)) p vs := by subst h; exact Boxed.made W vs t

set_option maxRecDepth 100000 in
set_option maxHeartbeats 1000000 in
theorem ckinds_any (t0 t1 t2 t3 t4 : List UInt8) (w : World) :
    Calls Tryz.prog 38 #[.agg #[.string ⟨t0.toArray⟩, .string ⟨t1.toArray⟩, .string ⟨t2.toArray⟩, .string ⟨t3.toArray⟩, .string ⟨t4.toArray⟩]] w fun e w' => ∃ b, e = .returned (.slice (some ⟨b, 0, none⟩) 5 5) ∧ Boxed w' b (kC (kS [t0, t1, t2, t3, t4])) ∧ w.heap.size ≤ b ∧ Below w.heap.size w w' := by
  have e5 : kS [t0, t1, t2, t3, t4] = [([122, 101, 114, 111], !t0.isEmpty), ([111, 110, 101], !t1.isEmpty), ([116, 119, 111], !t2.isEmpty), ([102, 101, 119], !t3.isEmpty), ([109, 97, 110, 121], !t4.isEmpty)] := rfl
  rw [e5]
  go_enter Tryz.func38, Tryz.ntmps38
  go_wp2_with fail
  go_ret
  refine ⟨_, rfl, ?_, ?_, ?_⟩
  · exact boxed_top _ _ (by simp)
  · simp
  · exact (blw_alloc w _).alloc (by simp) _

theorem eq_kind (a b : List UInt8) (x y : Bool) (w : World) : (Op.equalIn 10000 92 (.agg #[.string ⟨a.toArray⟩, .bool x]) (.agg #[.string ⟨b.toArray⟩, .bool y])).run Tryz.prog w = .ok (a == b && x == y) w := by
  have u9 := Tryz.underlying9
  have u4 := Tryz.underlying4
  have a9 := Tryz.isAgg9
  have z9 := Tryz.sizeOf9
  have a4 := Tryz.isAgg4
  have z4 := Tryz.sizeOf4
  have e : ((⟨a.toArray⟩ : ByteArray).toList == (⟨b.toArray⟩ : ByteArray).toList) = (a == b) := by
    rw [← beq_toListBytes]
    show (a.toArray == b.toArray) = _
    simp
  cases h : a == b <;> rw [h] at e <;> cases x <;> cases y <;> go_simp

set_option maxRecDepth 100000 in
set_option maxHeartbeats 1000000 in
theorem kidx_any (L : List (List UInt8 × Bool)) (t : List UInt8) (z : Bool) (b : Nat) (w : World) (h : Boxed w b (kC L)) (hl : L.length ≤ 1000) :
    Calls Tryz.prog 67 #[.slice (some ⟨b, 0, none⟩) L.length L.length, .agg #[.string ⟨t.toArray⟩, .bool z]] w fun e w' => ∃ i : Int, e = .returned (.int .i64 i) ∧ decide (0 ≤ i) = L.contains (t, z) ∧ Below w.heap.size w w' := by
  have HX := Lib.hid fun (k : Nat) (y : List UInt8 × Bool) (hy : L[k]? = some y) => (show w.cell? ⟨b, k * 2, none⟩ = some (stV y.1) ∧ w.cell? ⟨b, k * 2 + 1, none⟩ = some (.bool y.2) by
    exact ⟨h.cell _ _ (kC_at hy).1, h.cell _ _ (kC_at hy).2⟩)
  have BX := Lib.hid (Boxed.made w #[.string ⟨t.toArray⟩, .bool z] 92)
  have W0 := Lib.hid (blw_alloc w (.cells #[.string ⟨t.toArray⟩, .bool z] 92))
  have hq := h.lt
  clear h
  generalize hN : L.length = N at *
  go_enter Tryz.func67, Tryz.ntmps67
  go_wp2_with fail
  generalize w.alloc (.cells #[.string ⟨t.toArray⟩, .bool z] 92) = w1 at *
  generalize hqq : w.heap.size = q at *
  go_loopw [5, 8] (fun _ vi wr => ∃ k : Nat, vi = .int .i64 (k : Int) ∧ k ≤ N ∧ Hid ((L.take k).contains (t, z) = false) ∧ Hid (Below w1.heap.size w1 wr)) (fun _ vi _ => N - (RowKit.intOf vi).toNat)
  case atStart => exact ⟨0, rfl, Nat.zero_le _, Lib.hid rfl, Lib.hid (Below.refl _ _)⟩
  case round =>
    obtain ⟨k, rfl, hk, HA, HB⟩ := hrel
    have WB := Lib.hid (show Below q w wr from by rw [← hqq] at W0 ⊢; exact blw_trans W0.out HB.out)
    by_cases hlt : k < N
    · have hk' : (k : Int) < (N : Int) := by omega
      have hk0 : (0 : Int) ≤ (k : Int) := by omega
      obtain ⟨y, hy⟩ : ∃ y, L[k]? = some y := ⟨L[k]'(by omega), List.getElem?_eq_getElem (by omega)⟩
      obtain ⟨p0, p1⟩ := HX.out k y hy
      have g0 := cell_keep p0 (show Below w.heap.size w wr by rw [hqq]; exact WB.out)
      have g1 := cell_keep p1 (show Below w.heap.size w wr by rw [hqq]; exact WB.out)
      have BXr := Lib.hid (BX.out.below HB.out)
      have x0 := BXr.out.cell 0 _ rfl
      have x1 := BXr.out.cell 1 _ rfl
      have HT := Lib.hid (show (L.take (k + 1)).contains (t, z) = ((t == y.1 && z == y.2)) by
        rw [List.take_add_one, hy]
        have := HA.out
        simp only [List.contains_eq_mem, List.mem_append, decide_eq_false_iff_not] at this ⊢
        rw [Bool.eq_iff_iff]
        simp [this, Prod.ext_iff])
      have HC := Lib.hid fun (h : (t == y.1 && z == y.2) = true) => (show L.contains (t, z) = true by
        simp at h
        have e : (t, z) = y := Prod.ext h.1 h.2
        rw [List.contains_eq_mem, e]
        exact decide_eq_true (List.mem_of_getElem? hy))
      have wk : IntKind.i64.wrap ((k : Int) + 1) = (k : Int) + 1 := IntWalk.i64_in _ (by omega)
      obtain ⟨T, Y⟩ := y
      have EQ := fun w => eq_kind t T z Y w
      unfold stV txtV at g0
      clear p0 p1 hy HX HA
      cases hE : (t == T && z == Y) with
      | true =>
        have hc := HC.out hE
        rw [hE] at EQ
        clear hE HC HT
        go_wp2_with fail
        go_region
        go_wp2_with fail
        go_ret
        exact ⟨_, rfl, by rw [hc]; exact decide_eq_true hk0, by rw [hqq]; exact blw_drewN WB.out 1⟩
      | false =>
        have ht := Lib.hid (HT.out.trans hE)
        rw [hE] at EQ
        clear hE HC HT
        go_wp2_with fail
        go_region
        go_wp2_with fail
        go_roundw
        case rel => exact ⟨k + 1, by go_num, by omega, ht, Lib.hid (blw_drewN HB.out _)⟩
        case measure => simp [RowKit.intOf]; omega
    · have hk' : ¬ (k : Int) < (N : Int) := by omega
      have hA := HA.out
      rw [List.take_of_length_le (by omega)] at hA
      go_wp2_with fail
      go_ret
      have hA' : ¬ (t, z) ∈ L := by simpa [List.contains_eq_mem] using hA
      exact ⟨_, rfl, by first | (rw [hA]; rfl) | exact ⟨fun h => by omega, fun h => absurd h hA'⟩, by first | exact WB.out | (rw [hqq]; exact WB.out)⟩
set_option maxRecDepth 100000 in
set_option maxHeartbeats 1000000 in
theorem khas_any (L : List (List UInt8 × Bool)) (t : List UInt8) (z : Bool) (b : Nat) (w : World) (h : Boxed w b (kC L)) (hl : L.length ≤ 1000) :
    Calls Tryz.prog 45 #[.slice (some ⟨b, 0, none⟩) L.length L.length, .agg #[.string ⟨t.toArray⟩, .bool z]] w fun e w' => e = .returned (.bool (L.contains (t, z))) ∧ Below w.heap.size w w' := by
  have CI := Lib.hid (kidx_any L t z b (w.alloc (.cells #[.string ⟨t.toArray⟩, .bool z] 92)) (h.alloc _) hl)
  have W0 := Lib.hid (blw_alloc w (.cells #[.string ⟨t.toArray⟩, .bool z] 92))
  generalize L.contains (t, z) = C at *
  clear h hl
  generalize L.length = N at *
  go_enter Tryz.func45, Tryz.ntmps45
  go_wp2_with fail
  refine CI.out.mono ?_
  rintro e w1 ⟨i, rfl, hi, hb⟩
  have W1 := Lib.hid (blw_trans W0.out hb)
  clear hb
  go_wp2_with fail
  go_ret
  exact ⟨rfl, W1.out⟩
end Go.Proofs.YtldbfkccieipjaaGreatDoor
namespace Go.Proofs.YtldbfkccieipjaaGreatDoor
open Go.RowKit Ms

theorem kS_short (S : List (List UInt8)) : ∀ y ∈ kS S, y.1.length ≤ 10 := by
  intro y hy
  obtain ⟨p, hp, rfl⟩ := List.mem_map.1 hy
  have h := (List.of_mem_zip hp).1
  have : ∀ z ∈ five, z.length ≤ 10 := by decide
  exact this _ h
set_option maxRecDepth 100000 in
set_option maxHeartbeats 400000 in
theorem miss2_any (x : Nd) (a : Option Addr) (n c : Nat) (k : List UInt8) (w : World) :
    Calls Tryz.prog 41 (#[.agg #[.int .i64 x.kind, .string ⟨x.text.toArray⟩, .int .i64 x.off, .slice a n c], .string ⟨k.toArray⟩] ++ #[]) w fun e w' => e = .returned (.tuple #[]) ∧ Below w.heap.size w w' := by
  show Calls _ _ #[_, _] _ _
  go_enter Tryz.func41, Tryz.ntmps41
  go_wp2_with fail
  go_end0
  exact ⟨rfl, blw_alloc _ _⟩
set_option maxRecDepth 100000 in
set_option maxHeartbeats 400000 in
theorem idle1_any (x : Nd) (a : Option Addr) (n c : Nat) (w : World) :
    Calls Tryz.prog 43 (#[.agg #[.int .i64 x.kind, .string ⟨x.text.toArray⟩, .int .i64 x.off, .slice a n c]] ++ #[]) w fun e w' => e = .returned (.tuple #[]) ∧ Below w.heap.size w w' := by
  show Calls _ _ #[_] _ _
  go_enter Tryz.func43, Tryz.ntmps43
  go_wp2_with fail
  go_end0
  exact ⟨rfl, blw_alloc _ _⟩

set_option maxRecDepth 100000 in
set_option maxHeartbeats 4000000 in
theorem miss1_any {f : Nat} (x : Nd) (a : Option Addr) (n c : Nat) (W0 w : World) (p q : Nat) (t0 t1 t2 t3 t4 : List UInt8) (s : List (List UInt8)) (v : Value) (h : OutI W0.heap.size p q #[.string ⟨t0.toArray⟩, .string ⟨t1.toArray⟩, .string ⟨t2.toArray⟩, .string ⟨t3.toArray⟩, .string ⟨t4.toArray⟩] s v w)
    (hb : Below W0.heap.size W0 w) (hc : CassAt f W0 (.slice a n c) x.cases) (hs : s.length ≤ 1000000000) (ht : x.text.length ≤ 2000000) :
    Calls Tryz.prog 37 (#[.agg #[.int .i64 x.kind, .string ⟨x.text.toArray⟩, .int .i64 x.off, .slice a n c]] ++ #[.pointer (some ⟨q, 0, none⟩), .pointer (some ⟨p, 0, none⟩)]) w fun e w' => e = .returned (.tuple #[]) ∧
      ∃ v', OutI W0.heap.size p q #[.string ⟨t0.toArray⟩, .string ⟨t1.toArray⟩, .string ⟨t2.toArray⟩, .string ⟨t3.toArray⟩, .string ⟨t4.toArray⟩] (s ++ missN [t0, t1, t2, t3, t4] x) v' w' ∧ Turn p v w v' w' := by
  obtain ⟨i0, hi, hz0, hz1, hz2⟩ := info_parts infoStrM
  have HKS := Lib.hid (kS_short [t0, t1, t2, t3, t4])
  have CK := Lib.hid fun w => ckinds_any t0 t1 t2 t3 t4 w
  have u0 := h.set.cell 0 _ rfl
  have u1 := h.set.cell 1 _ rfl
  have u2 := h.set.cell 2 _ rfl
  have u3 := h.set.cell 3 _ rfl
  have u4 := h.set.cell 4 _ rfl
  have hql := h.set.lt
  have hpl := h.box.lt
  have HV := Lib.hid fun k (e : v.ownBlock = some k) => (h.row.lt k e).2
  have H0 := Lib.hid h
  have HB0 := Lib.hid hb
  have HC := Lib.hid hc
  clear h hb hc
  obtain ⟨RES, hRES⟩ : ∃ RES, RES = s ++ missN [t0, t1, t2, t3, t4] x := ⟨_, rfl⟩
  rw [← hRES]
  have hL5 : (kS [t0, t1, t2, t3, t4]).length = 5 := rfl
  unfold missN at hRES
  generalize kS [t0, t1, t2, t3, t4] = L at *
  have HRES := Lib.hid (show s ++ missK x (L.drop 0) = RES by rw [List.drop_zero, hRES])
  clear hRES
  generalize hT : x.text = T at *
  generalize x.kind = K at *
  generalize x.off = O at *
  show Calls _ _ #[_, _, _] _ _
  have BX := Lib.hid (Boxed.made w #[.int .i64 K, .string ⟨T.toArray⟩, .int .i64 O, .slice a n c] 34)
  have W1 := Lib.hid (blw_alloc w (.cells #[.int .i64 K, .string ⟨T.toArray⟩, .int .i64 O, .slice a n c] 34))
  go_enter Tryz.func37, Tryz.ntmps37
  go_wp2_with fail
  refine (CK.out _).mono ?_
  rintro e w2 ⟨b, rfl, hk, hbb, hb2⟩
  have W2 := Lib.hid (blw_trans W1.out hb2)
  have BX2 := Lib.hid (BX.out.below hb2)
  have KB2 := Lib.hid hk
  have O2 := Lib.hid (H0.out.below W2.out)
  have hbb : w.heap.size + 1 ≤ b := by simpa using hbb
  have TW := Lib.hid (Turn.below (p := p) (v := v) W2.out)
  have W02 := Lib.hid (HB0.out.trans (W2.out.mono HB0.out.size))
  clear hk hb2 BX W1 CK HB0 u0 u1 u2 u3 u4 H0
  generalize hkk : w.heap.size = k0 at *
  go_wp2_with fail
  go_loopw [9] (fun vi wr => ∃ (i : Nat) (s' : List (List UInt8)) (v' : Value), vi = .int .i64 (i : Int) ∧ i ≤ 5 ∧ s'.length ≤ s.length + i ∧ Hid (OutI W0.heap.size p q #[.string ⟨t0.toArray⟩, .string ⟨t1.toArray⟩, .string ⟨t2.toArray⟩, .string ⟨t3.toArray⟩, .string ⟨t4.toArray⟩] s' v' wr) ∧ Hid (s' ++ missK x (L.drop i) = RES) ∧ Hid (Turn p v w2 v' wr)) (fun vi _ => 5 - (RowKit.intOf vi).toNat)
  case atStart => exact ⟨0, s, v, rfl, by omega, by omega, O2, HRES, Lib.hid (Turn.below (Below.refl _ _))⟩
  case round =>
    obtain ⟨i, s', v', rfl, hi5, hsl, HO, HS, HT⟩ := hrel
    clear HRES
    obtain ⟨va', vc', rfl⟩ := HO.out.isSlice
    by_cases hlt : i < 5
    · have hi' : (i : Int) < 5 := by omega
      obtain ⟨y, hy⟩ : ∃ y, L[i]? = some y := ⟨L[i]'(by omega), List.getElem?_eq_getElem (by omega)⟩
      have hnm := HKS.out y (List.mem_of_getElem? hy)
      have BK := Lib.hid (HT.out.boxed KB2.out (by omega) (fun e => by have := HV.out _ e; omega))
      have BXr := Lib.hid (HT.out.boxed BX2.out (by omega) (fun e => by have := HV.out _ e; omega))
      have WBr := Lib.hid (O2.out.base HT.out W02.out)
      have CC := Lib.hid (cass_below HC.out WBr.out)
      have g0 := BK.out.cell (i * 2) _ (kC_at hy).1
      have g1 := BK.out.cell (i * 2 + 1) _ (kC_at hy).2
      have gl := BK.out.lt
      have x1 := BXr.out.cell 1 _ rfl
      have x3 := BXr.out.cell 3 _ rfl
      have xl := BXr.out.lt
      have hst := HS.out
      rw [filt_step hy] at hst
      obtain ⟨nm, is⟩ := y
      unfold stV txtV at g0
      have wi : IntKind.i64.wrap ((i : Int) + 1) = (i : Int) + 1 := IntWalk.i64_in _ (by omega)
      have BJ := Lib.hid (Boxed.made wr #[.string ⟨nm.toArray⟩, .bool is] 92)
      have Oa := Lib.hid (HO.out.below (blw_alloc wr (.cells #[.string ⟨nm.toArray⟩, .bool is] 92)))
      have Ta := Lib.hid (HT.out.trans (Turn.below (blw_alloc wr (.cells #[.string ⟨nm.toArray⟩, .bool is] 92))))
      have Ca := Lib.hid (cass_below CC.out (blw_alloc wr (.cells #[.string ⟨nm.toArray⟩, .bool is] 92)))
      have Xa := Lib.hid (BXr.out.alloc (.cells #[.string ⟨nm.toArray⟩, .bool is] 92))
      have hnl : nm.length ≤ 10 := hnm
      clear HO HS HT BK BXr WBr CC hy hnm
      cases is with
      | false =>
        have HS2 := Lib.hid (show s' ++ missK x (L.drop (i + 1)) = RES by simpa using hst)
        clear hst
        go_wp2_with fail
        go_roundw
        case rel => exact ⟨i + 1, s', _, by go_num, by omega, by omega, Oa, HS2, Ta⟩
        case measure => simp [RowKit.intOf]; omega
      | true =>
        have CH := Lib.hid (has_case x.cases (fun z => z.1 == nm) 40 #[.pointer (some ⟨wr.heap.size, 0, none⟩)] miss11_at (.slice a n c) _ Ca.out (Lib.hid fun z _ a9 n9 c9 wx hb => miss11_any z a9 n9 c9 wr.heap.size nm wx (cell_keep (BJ.out.cell 0 _ rfl) hb)))
        generalize (x.cases.any fun z => z.1 == nm) = Z at *
        have HST := Lib.hid hst
        clear hst
        go_wp2_with fail
        refine CH.out.mono ?_
        rintro e w3 ⟨rfl, hb⟩
        have O3 := Lib.hid (Oa.out.below hb)
        have T3 := Lib.hid (Ta.out.trans (Turn.below hb))
        have BJ3 := Lib.hid (BJ.out.below hb)
        have X3 := Lib.hid (Xa.out.below hb)
        clear hb CH Oa Ta Ca BJ Xa g0 g1 gl x1 x3 xl
        generalize wr.heap.size = j at *
        cases Z with
        | true =>
          have HS2 := Lib.hid (show s' ++ missK x (L.drop (i + 1)) = RES by simpa using HST.out)
          clear HST
          go_wp2_with fail
          go_roundw
          case rel => exact ⟨i + 1, s', _, by go_num, by omega, by omega, O3, HS2, T3⟩
          case measure => simp [RowKit.intOf]; omega
        | false =>
          obtain ⟨X1, hX1⟩ : ∃ X1, X1 = T ++ [46] := ⟨_, rfl⟩
          obtain ⟨X2, hX2⟩ : ∃ X2, X2 = X1 ++ nm := ⟨_, rfl⟩
          have HS2 := Lib.hid (show (s' ++ [X2]) ++ missK x (L.drop (i + 1)) = RES by
            have := HST.out
            rw [hX2, hX1, List.append_assoc]
            unfold dot at this
            rw [hT] at this
            exact this)
          have l1 : X1.length ≤ 3000000 := by rw [hX1]; simp; omega
          have A1 : ∀ w, (Op.stringOp .add ⟨T.toArray⟩ ⟨#[46]⟩).run Tryz.prog w = .ok (.string ⟨X1.toArray⟩) w := fun w => by rw [hX1]; exact add_str (P := Tryz.prog) T [46] (by simp; omega) w
          have A2 : ∀ w, (Op.stringOp .add ⟨X1.toArray⟩ ⟨nm.toArray⟩).run Tryz.prog w = .ok (.string ⟨X2.toArray⟩) w := fun w => by rw [hX2]; exact add_str (P := Tryz.prog) X1 nm (by omega) w
          have o0 := O3.out.box.cell 0 _ rfl
          have ol := O3.out.box.lt
          have x1 := X3.out.cell 1 _ rfl
          have j0 := BJ3.out.cell 0 _ rfl
          clear HST hX1 hX2 X3 BJ3
          go_wp2_with (at_builtin; refine wpList_append_own_at _ rfl _ _ 45 rfl W0.heap.size 9 i0 (.string ByteArray.empty) 1 16 Tryz.underlying45 hi hz0 hz1 hz2 rfl (by decide) _ s'.length (s'.map stV) rfl (O3.out.row.alloc _) ⟨w3.heap.size, 0, none⟩ 1 1 [stV X2] rfl rfl (cell_one_new _ _ _) (fun u hu => by simp at hu; subst hu; rfl) (by unfold maxLen; omega) (by omega) (by simp; have := O3.out.ge; have := O3.out.box.lt; omega) ?_; intro v5 w5 hown hgrow _ hat; have PP := Lib.hid (O3.out.pushed (t := X2) (blw_alloc w3 _) hown hgrow hat); have hbx := nboxed_grown (O3.out.box.alloc _) hgrow (fun e => O3.out.ne e.symm); have c5 := hbx.cell 0 _ rfl; have f5 := hbx.free 0 (by simp); have l5 := hbx.lt; obtain ⟨va5, vc5, rfl⟩ := mrow_slice hown; clear hown hgrow hat hbx)
          go_roundw
          case rel => exact ⟨i + 1, s' ++ [X2], _, by go_num, by omega, by simp; omega, Lib.hid PP.out.1, HS2, Lib.hid (T3.out.trans PP.out.2)⟩
          case measure => simp [RowKit.intOf]; omega
    · have hi' : ¬ (i : Int) < 5 := by omega
      have hst := HS.out
      rw [List.drop_of_length_le (by omega)] at hst
      have e0 : missK x [] = [] := rfl
      rw [e0, List.append_nil] at hst
      subst hst
      go_wp2_with fail
      go_end0
      exact ⟨rfl, _, HO.out, TW.out.trans HT.out⟩
set_option maxRecDepth 100000 in
set_option maxHeartbeats 4000000 in
theorem idle2_any (x : Nd) (a : Option Addr) (n c : Nat) (key : List UInt8) (W0 w : World) (p q : Nat) (t0 t1 t2 t3 t4 : List UInt8) (s : List (List UInt8)) (v : Value) (h : OutI W0.heap.size p q #[.string ⟨t0.toArray⟩, .string ⟨t1.toArray⟩, .string ⟨t2.toArray⟩, .string ⟨t3.toArray⟩, .string ⟨t4.toArray⟩] s v w)
    (hs : s.length ≤ 1000000000) (ht : x.text.length ≤ 2000000) (hk : key.length ≤ 2000000) :
    Calls Tryz.prog 44 (#[.agg #[.int .i64 x.kind, .string ⟨x.text.toArray⟩, .int .i64 x.off, .slice a n c], .string ⟨key.toArray⟩] ++ #[.pointer (some ⟨q, 0, none⟩), .pointer (some ⟨p, 0, none⟩)]) w fun e w' => e = .returned (.tuple #[]) ∧
      ∃ v', OutI W0.heap.size p q #[.string ⟨t0.toArray⟩, .string ⟨t1.toArray⟩, .string ⟨t2.toArray⟩, .string ⟨t3.toArray⟩, .string ⟨t4.toArray⟩] (s ++ idleN [t0, t1, t2, t3, t4] x key) v' w' ∧ Turn p v w v' w' := by
  obtain ⟨i0, hi, hz0, hz1, hz2⟩ := info_parts infoStrM
  have CK := Lib.hid fun w => ckinds_any t0 t1 t2 t3 t4 w
  have CH := Lib.hid fun b w (h : Boxed w b (kC (kS [t0, t1, t2, t3, t4]))) => khas_any (kS [t0, t1, t2, t3, t4]) key false b w h (by show 5 ≤ _; omega)
  have u0 := h.set.cell 0 _ rfl
  have u1 := h.set.cell 1 _ rfl
  have u2 := h.set.cell 2 _ rfl
  have u3 := h.set.cell 3 _ rfl
  have u4 := h.set.cell 4 _ rfl
  have hql := h.set.lt
  have hpl := h.box.lt
  have H0 := Lib.hid h
  clear h
  obtain ⟨va', vc', rfl⟩ := H0.out.isSlice
  have HE := Lib.hid (show idleN [t0, t1, t2, t3, t4] x key = if (kS [t0, t1, t2, t3, t4]).contains (key, false) then [dot x.text key] else [] from rfl)
  generalize idleN [t0, t1, t2, t3, t4] x key = RES at *
  have hL5 : (kS [t0, t1, t2, t3, t4]).length = 5 := rfl
  rw [hL5] at CH
  generalize kS [t0, t1, t2, t3, t4] = L at *
  generalize hZ : L.contains (key, false) = Z at *
  clear hZ
  generalize hT : x.text = T at *
  generalize x.kind = K at *
  generalize x.off = O at *
  show Calls _ _ #[_, _, _, _] _ _
  have BX := Lib.hid (Boxed.made w #[.int .i64 K, .string ⟨T.toArray⟩, .int .i64 O, .slice a n c] 34)
  have W1 := Lib.hid (blw_alloc w (.cells #[.int .i64 K, .string ⟨T.toArray⟩, .int .i64 O, .slice a n c] 34))
  go_enter Tryz.func44, Tryz.ntmps44
  go_wp2_with fail
  refine (CK.out _).mono ?_
  rintro e w2 ⟨b, rfl, hkb, _, hb2⟩
  have W2 := Lib.hid (blw_trans W1.out hb2)
  have BX2 := Lib.hid (BX.out.below hb2)
  have CHb := Lib.hid (CH.out b w2 hkb)
  clear hkb hb2 BX W1 CK CH u0 u1 u2 u3 u4
  go_wp2_with fail
  refine CHb.out.mono ?_
  rintro e w3 ⟨rfl, hb⟩
  have W3 := Lib.hid (blw_trans W2.out hb)
  have X3 := Lib.hid (BX2.out.below hb)
  have O3 := Lib.hid (H0.out.below W3.out)
  have T3 := Lib.hid (Turn.below (p := p) (v := .slice va' s.length vc') W3.out)
  clear hb CHb BX2 W2 H0
  generalize w.heap.size = k0 at *
  cases Z with
  | false =>
    obtain rfl : RES = [] := HE.out
    have O4 := Lib.hid (show OutI W0.heap.size p q #[.string ⟨t0.toArray⟩, .string ⟨t1.toArray⟩, .string ⟨t2.toArray⟩, .string ⟨t3.toArray⟩, .string ⟨t4.toArray⟩] (s ++ []) (.slice va' s.length vc') w3 by rw [List.append_nil]; exact O3.out)
    go_wp2_with fail
    go_end0
    exact ⟨rfl, _, O4.out, T3.out⟩
  | true =>
    obtain ⟨X1, hX1⟩ : ∃ X1, X1 = T ++ [46] := ⟨_, rfl⟩
    obtain ⟨X2, hX2⟩ : ∃ X2, X2 = X1 ++ key := ⟨_, rfl⟩
    obtain rfl : RES = [X2] := by rw [HE.out, hX2, hX1]; rfl
    have l1 : X1.length ≤ 3000000 := by rw [hX1]; simp; omega
    have A1 : ∀ w, (Op.stringOp .add ⟨T.toArray⟩ ⟨#[46]⟩).run Tryz.prog w = .ok (.string ⟨X1.toArray⟩) w := fun w => by rw [hX1]; exact add_str (P := Tryz.prog) T [46] (by simp; omega) w
    have A2 : ∀ w, (Op.stringOp .add ⟨X1.toArray⟩ ⟨key.toArray⟩).run Tryz.prog w = .ok (.string ⟨X2.toArray⟩) w := fun w => by rw [hX2]; exact add_str (P := Tryz.prog) X1 key (by omega) w
    have o0 := O3.out.box.cell 0 _ rfl
    have ol := O3.out.box.lt
    have x1 := X3.out.cell 1 _ rfl
    clear HE hX1 hX2 X3
    go_wp2_with (at_builtin; refine wpList_append_own_at _ rfl _ _ 45 rfl W0.heap.size 9 i0 (.string ByteArray.empty) 1 16 Tryz.underlying45 hi hz0 hz1 hz2 rfl (by decide) _ s.length (s.map stV) rfl (O3.out.row.alloc _) ⟨w3.heap.size, 0, none⟩ 1 1 [stV X2] rfl rfl (cell_one_new _ _ _) (fun u hu => by simp at hu; subst hu; rfl) (by unfold maxLen; omega) (by omega) (by simp; have := O3.out.ge; have := O3.out.box.lt; omega) ?_; intro v5 w5 hown hgrow _ hat; have PP := Lib.hid (O3.out.pushed (t := X2) (blw_alloc w3 _) hown hgrow hat); have hbx := nboxed_grown (O3.out.box.alloc _) hgrow (fun e => O3.out.ne e.symm); have c5 := hbx.cell 0 _ rfl; have f5 := hbx.free 0 (by simp); have l5 := hbx.lt; obtain ⟨va5, vc5, rfl⟩ := mrow_slice hown; clear hown hgrow hat hbx)
    go_end0
    exact ⟨rfl, _, PP.out.1, T3.out.trans PP.out.2⟩
end Go.Proofs.YtldbfkccieipjaaGreatDoor
namespace Go.Proofs.YtldbfkccieipjaaGreatDoor
open Go.RowKit Ms
/-- what is done at a Plural -/
def VisN (W0 : World) (p q : Nat) (us : Array Value) (N : Nd → List (List UInt8)) (g : Nat) (lb : Array Value) : Prop :=
  ∀ (f : Nat) (x : Nd) (a : Option Addr) (n c : Nat) (w : World) (s : List (List UInt8)) (v : Value), OutI W0.heap.size p q us s v w → Below W0.heap.size W0 w → CassAt f W0 (.slice a n c) x.cases → s.length ≤ 1000000000 → x.text.length ≤ 2000000 →
    Calls Tryz.prog g (#[.agg #[.int .i64 x.kind, .string ⟨x.text.toArray⟩, .int .i64 x.off, .slice a n c]] ++ lb) w fun e w' => e = .returned (.tuple #[]) ∧ ∃ v', OutI W0.heap.size p q us (s ++ N x) v' w' ∧ Turn p v w v' w'
/-- what is done at a case of it -/
def VisO (W0 : World) (p q : Nat) (us : Array Value) (O : Nd → List UInt8 → List (List UInt8)) (g : Nat) (lb : Array Value) : Prop :=
  ∀ (x : Nd) (a : Option Addr) (n c : Nat) (k : List UInt8) (w : World) (s : List (List UInt8)) (v : Value), OutI W0.heap.size p q us s v w → s.length ≤ 1000000000 → x.text.length ≤ 2000000 → k.length ≤ 2000000 →
    Calls Tryz.prog g (#[.agg #[.int .i64 x.kind, .string ⟨x.text.toArray⟩, .int .i64 x.off, .slice a n c], .string ⟨k.toArray⟩] ++ lb) w fun e w' => e = .returned (.tuple #[]) ∧ ∃ v', OutI W0.heap.size p q us (s ++ O x k) v' w' ∧ Turn p v w v' w'

set_option maxRecDepth 100000 in
set_option maxHeartbeats 4000000 in
theorem each_any {N : Nd → List (List UInt8)} {O : Nd → List UInt8 → List (List UInt8)} {gN gO : Nat} {lN lO : Array Value} (eN : ∀ args w, (callFunc gN args).run Tryz.prog w = .ok (.enter gN args) w) (eO : ∀ args w, (callFunc gO args).run Tryz.prog w = .ok (.enter gO args) w)
    (hNl : ∀ x, (N x).length ≤ 5) (hOl : ∀ x k, (O x k).length ≤ 1) (W0 : World) (p q : Nat) (us : Array Value) (VN : VisN W0 p q us N gN lN) (VO : VisO W0 p q us O gO lO) (f : Nat) :
    ∀ (v : Value) (m : List Nd) (w : World) (s : List (List UInt8)) (u : Value), MsgAt f W0 v m → m.length ≤ 2000000 → OutI W0.heap.size p q us s u w → Below W0.heap.size W0 w → s.length + cnt f m * 2000005 ≤ 1000000000 →
    Calls Tryz.prog 36 #[v, .func (.func gN) #[] lN, .func (.func gO) #[] lO] w fun e w' => e = .returned (.tuple #[]) ∧ ∃ u', OutI W0.heap.size p q us (s ++ eachM N O f m) u' w' ∧ Turn p u w u' w' ∧ (s ++ eachM N O f m).length ≤ s.length + cnt f m * 2000005 := by
  induction f with
  | zero =>
    intro v m w s u h hl hO hb hc
    rcases h with ⟨rfl, A, cap, rfl⟩ | ⟨b, off, cap, _, hpos, _, _, hx⟩
    · rw [show s ++ eachM N O 0 [] = s from List.append_nil s]
      go_enter Tryz.func36, Tryz.ntmps36
      go_wp2_with fail
      go_loopw [12] (fun vi wr => vi = .int .i64 0 ∧ w = wr) (fun _ _ => 0)
      case atStart => exact ⟨rfl, rfl⟩
      case round =>
        obtain ⟨rfl, rfl⟩ := hrel
        go_wp2_with fail
        go_end0
        exact ⟨rfl, _, hO, Turn.below (Below.refl _ _), Nat.le_add_right _ _⟩
    · exact absurd (hx 0 _ (List.getElem?_eq_getElem hpos)) (by simp [NdC])
  | succ f ih =>
    intro v m w s u h hl hO hb hc
    have IH := Lib.hid ih
    have HN := Lib.hid VN
    have HOO := Lib.hid VO
    obtain ⟨RES, hRES⟩ : ∃ RES, RES = s ++ eachM N O (f + 1) m := ⟨_, rfl⟩
    obtain ⟨TT, hTT⟩ : ∃ TT, TT = s.length + cnt (f + 1) m * 2000005 := ⟨_, rfl⟩
    rw [← hRES, ← hTT]
    have hT9 : TT ≤ 1000000000 := by omega
    have HRES := Lib.hid (show s ++ eachM N O (f + 1) (m.drop 0) = RES by rw [List.drop_zero, hRES])
    have HCN := Lib.hid (show s.length + cnt (f + 1) (m.drop 0) * 2000005 ≤ TT by rw [List.drop_zero, hTT]; exact Nat.le_refl _)
    clear hRES ih hc hTT VN VO
    obtain ⟨A, cap, rfl, _, hel⟩ := h.spread
    have hcap : m.length ≤ cap ∨ m.length = 0 := by
      rcases h with ⟨e, _⟩ | ⟨_, _, _, e, _, q, _, _⟩
      · exact .inr (by rw [e]; rfl)
      · injection e with _ _ e; exact .inl (by omega)
    have HX := Lib.hid hel
    clear hel h
    have HO0 := Lib.hid hO
    have HB0 := Lib.hid hb
    clear hO hb
    generalize hlm : m.length = L at *
    go_enter Tryz.func36, Tryz.ntmps36
    go_wp2_with fail
    go_loopw [12] (fun vi wr => ∃ (i : Nat) (s1 : List (List UInt8)) (u1 : Value), vi = .int .i64 (i : Int) ∧ i ≤ L ∧ Hid (OutI W0.heap.size p q us s1 u1 wr) ∧ Hid (s1 ++ eachM N O (f + 1) (m.drop i) = RES) ∧ Hid (s1.length + cnt (f + 1) (m.drop i) * 2000005 ≤ TT) ∧ Hid (Turn p u w u1 wr)) (fun vi _ => L - (RowKit.intOf vi).toNat)
    case atStart => exact ⟨0, s, u, rfl, Nat.zero_le _, HO0, HRES, HCN, Lib.hid (Turn.below (Below.refl _ _))⟩
    case round =>
      obtain ⟨i, s1, u1, rfl, hi, HP, HL, HC, HT⟩ := hrel
      clear HRES HCN
      by_cases hlt : i < L
      · have hi' : (i : Int) < (L : Int) := by omega
        have hcc : L ≤ cap := by omega
        have HBr := Lib.hid (HO0.out.base HT.out HB0.out)
        obtain ⟨x, hxi⟩ : ∃ x, m[i]? = some x := ⟨m[i]'(by omega), List.getElem?_eq_getElem (by omega)⟩
        obtain ⟨b, off, rfl, hnd⟩ := HX.out i x hxi
        obtain ⟨a0, n0, c0, p0, p1, p2, p3, p4, p5, p6⟩ := hnd
        have g0 := cell_keep p0 HBr.out
        have g1 := cell_keep p1 HBr.out
        have g2 := cell_keep p2 HBr.out
        have g3 := cell_keep p3 HBr.out
        have lb := World.block_lt_of_cell? _ _ g0
        have wi : IntKind.i64.wrap ((i : Int) + 1) = (i : Int) + 1 := IntWalk.i64_in _ (by omega)
        have h4 : CassAt f W0 (.slice a0 n0 c0) x.cases := p4
        have H4 := Lib.hid h4
        have lcs : (casesOf x).length ≤ 2000000 := by
          unfold casesOf; split
          · exact p6
          · simp
        have hst := HL.out
        rw [each_step f hxi] at hst
        have hct := HC.out
        rw [cnt_step f hxi] at hct
        have hNx := hNl x
        obtain ⟨Z, hZ⟩ : ∃ Z, Z = (x.kind == 4) := ⟨_, rfl⟩
        have HZ := Lib.hid hZ
        have XBX := Lib.hid (Boxed.made wr #[.int .i64 x.kind, .string ⟨x.text.toArray⟩, .int .i64 x.off, .slice a0 n0 c0] 34)
        have XO := Lib.hid (HP.out.below (blw_alloc wr (.cells #[.int .i64 x.kind, .string ⟨x.text.toArray⟩, .int .i64 x.off, .slice a0 n0 c0] 34)))
        have XT := Lib.hid (HT.out.trans (Turn.below (blw_alloc wr (.cells #[.int .i64 x.kind, .string ⟨x.text.toArray⟩, .int .i64 x.off, .slice a0 n0 c0] 34))))
        have XQ := Lib.hid (show wr.heap.size ≠ p ∧ ∀ k, u1.ownBlock = some k → k < wr.heap.size from ⟨fun e => by have := HP.out.box.lt; omega, fun k e => (HP.out.row.lt k e).2⟩)
        have CNh := Lib.hid fun w1 (hb : Below W0.heap.size W0 w1) (ho : OutI W0.heap.size p q us s1 u1 w1) => HN.out f x a0 n0 c0 w1 s1 u1 ho hb h4 (by omega) p5
        have HBa := Lib.hid (HBr.out.alloc HBr.out.size (.cells #[.int .i64 x.kind, .string ⟨x.text.toArray⟩, .int .i64 x.off, .slice a0 n0 c0] 34))
        clear HL HC HP HT HBr p0 p1 p2 p3 p4 h4 hxi hZ
        go_upto_if 18 with fail
        have hz18 : (x.kind == 4) = Z := HZ.out.symm
        rw [hz18]
        clear hz18
        generalize World.alloc wr (.cells #[.int .i64 x.kind, .string ⟨x.text.toArray⟩, .int .i64 x.off, .slice a0 n0 c0] 34) = w1 at *
        generalize wr.heap.size = q0 at *
        have hq0 : q0 ≠ p := XQ.out.1
        have XK := Lib.hid (show Boxed w1 q0 #[.int .i64 x.kind, .string ⟨x.text.toArray⟩, .int .i64 x.off, .slice a0 n0 c0] ∧ u1.ownBlock ≠ some q0 from ⟨XBX.out, fun e => by have := XQ.out.2 _ e; omega⟩)
        clear XBX XQ g0 g1 g2 g3 lb
        go_cut [12] from 18 to 21 (fun s12 wx => s12 = .int .i64 (i : Int) ∧ ∃ s2 u2, Hid (OutI W0.heap.size p q us s2 u2 wx) ∧ Hid (s2 = s1 ++ (if x.kind = 4 then N x else [])) ∧ Hid (Boxed wx q0 #[.int .i64 x.kind, .string ⟨x.text.toArray⟩, .int .i64 x.off, .slice a0 n0 c0] ∧ u2.ownBlock ≠ some q0) ∧ Hid (Below W0.heap.size W0 wx) ∧ Hid (Turn p u w u2 wx))
        case first =>
          have x0 := XK.out.1.cell 0 _ rfl
          have x1 := XK.out.1.cell 1 _ rfl
          have x2 := XK.out.1.cell 2 _ rfl
          have x3 := XK.out.1.cell 3 _ rfl
          have xl := XK.out.1.lt
          cases Z with
          | true =>
            have k4 : x.kind = 4 := by have := HZ.out; simpa using this.symm
            have CNi := Lib.hid (CNh.out w1 HBa.out XO.out)
            have HI := Lib.hid (show (if x.kind = 4 then N x else []) = N x from if_pos k4)
            clear k4 CNh HZ
            go_wp2_with (go_at_fn gN; refine CNi.out.mono ?_; rintro e w2 ⟨rfl, u2, ho, ht⟩; have PO := Lib.hid ho; have PT := Lib.hid ht; have PK := Lib.hid (ht.keep XK.out hq0); have PB := Lib.hid (XO.out.base ht HBa.out); clear ho ht)
            go_meet
            exact ⟨rfl, _, _, PO, by rw [HI.out]; exact Lib.hid rfl, PK, PB, Lib.hid (XT.out.trans PT.out)⟩
          | false =>
            have k4 : ¬ x.kind = 4 := by have := HZ.out; simpa using this.symm
            have HI := Lib.hid (show (if x.kind = 4 then N x else []) = [] from if_neg k4)
            clear k4 CNh HZ
            go_wp2_with fail
            go_meet
            exact ⟨rfl, _, _, XO, by rw [HI.out, List.append_nil]; exact Lib.hid rfl, XK, HBa, XT⟩
        case rest =>
        obtain ⟨rfl, s2, u2, PO, HE, PK, PB, PT⟩ := hcut
        have hs2 : s2.length ≤ s1.length + 5 := by
          rw [HE.out]
          split <;> simp <;> omega
        have HL2 := Lib.hid (show s2 ++ (((casesOf x).flatMap fun y => (if x.kind = 4 then O x y.1 else []) ++ eachM N O f y.2) ++ eachM N O (f + 1) (m.drop (i + 1))) = RES by rw [HE.out, List.append_assoc]; exact hst)
        clear HE hst CNh XK XO XT HBa hNx
        have x0 := PK.out.1.cell 0 _ rfl
        have x1 := PK.out.1.cell 1 _ rfl
        have x2 := PK.out.1.cell 2 _ rfl
        have x3 := PK.out.1.cell 3 _ rfl
        have xl := PK.out.1.lt
        have CC := Lib.hid (mcases_to (f := f) x wc (cass_below H4.out PB.out))
        go_wp2_with fail
        refine CC.out.mono ?_
        rintro e w3 ⟨A1, C1, rfl, hto, hb⟩
        have O3 := Lib.hid (PO.out.below hb)
        have K3 := Lib.hid ((Turn.below (p := p) (v := u2) hb).keep PK.out hq0)
        have T3 := Lib.hid (PT.out.trans (Turn.below hb))
        have B3 := Lib.hid (PO.out.base (Turn.below hb) PB.out)
        have HCS := hto W0 H4.out
        clear hto hb CC PO PK PT PB H4 x0 x1 x2 x3 xl
        have HGF := Lib.hid (rfl : (fun y : List UInt8 × List Nd => (if x.kind = 4 then O x y.1 else []) ++ eachM N O f y.2) = fun y => (if x.kind = 4 then O x y.1 else []) ++ eachM N O f y.2)
        generalize casesOf x = cs at *
        obtain ⟨A2, C2, e2, _, hel⟩ := HCS.spread
        injection e2 with e3 e4 e5
        subst e3 e5
        have hcapc : cs.length ≤ C1 ∨ cs.length = 0 := by
          rcases HCS with ⟨e, _⟩ | ⟨_, _, _, e, _, q, _, _⟩
          · exact .inr (by rw [e]; rfl)
          · injection e with _ _ e; exact .inl (by omega)
        have HEL := Lib.hid hel
        clear hel HCS HGF
        have HL3 := Lib.hid (show s2 ++ (((cs.drop 0).flatMap fun y => (if x.kind = 4 then O x y.1 else []) ++ eachM N O f y.2) ++ eachM N O (f + 1) (m.drop (i + 1))) = RES by rw [List.drop_zero]; exact HL2.out)
        have HC3 := Lib.hid (show s2.length + (cs.length - 0) + ((((cs.drop 0).map (·.2)).map (cnt f)).sum + cnt (f + 1) (m.drop (i + 1))) * 2000005 ≤ TT by rw [List.drop_zero]; omega)
        clear HL2 hct hs2
        generalize hlc : cs.length = LC at *
        go_wp2_with fail
        go_loopw [25] (fun vk wx => ∃ (k : Nat) (s4 : List (List UInt8)) (u4 : Value), vk = .int .i64 (k : Int) ∧ k ≤ LC ∧ Hid (OutI W0.heap.size p q us s4 u4 wx) ∧ Hid (s4 ++ (((cs.drop k).flatMap fun y => (if x.kind = 4 then O x y.1 else []) ++ eachM N O f y.2) ++ eachM N O (f + 1) (m.drop (i + 1))) = RES) ∧ Hid (s4.length + (LC - k) + ((((cs.drop k).map (·.2)).map (cnt f)).sum + cnt (f + 1) (m.drop (i + 1))) * 2000005 ≤ TT) ∧ Hid (Boxed wx q0 #[.int .i64 x.kind, .string ⟨x.text.toArray⟩, .int .i64 x.off, .slice a0 n0 c0] ∧ u4.ownBlock ≠ some q0) ∧ Hid (Below W0.heap.size W0 wx) ∧ Hid (Turn p u w u4 wx)) (fun vk _ => LC - (RowKit.intOf vk).toNat)
        case atStart => exact ⟨0, s2, u2, rfl, Nat.zero_le _, O3, HL3, HC3, K3, B3, T3⟩
        case round =>
          obtain ⟨k, s4, u4, rfl, hk, HP, HL, HC, HK, HB, HT⟩ := hrel
          clear HL3 HC3 O3 K3 B3 T3
          by_cases hltk : k < LC
          · have hk' : (k : Int) < (LC : Int) := by omega
            have hccc : LC ≤ C1 := by omega
            obtain ⟨y, hyk⟩ : ∃ y, cs[k]? = some y := ⟨cs[k]'(by omega), List.getElem?_eq_getElem (by omega)⟩
            obtain ⟨bb, oo, rfl, a9, n9, c9, q0', q1, q2, q3, q4⟩ := HEL.out k y hyk
            have j0 := cell_keep q0' HB.out
            have j1 := cell_keep q1 HB.out
            have lb := World.block_lt_of_cell? _ _ j0
            have hst := HL.out
            have hct := HC.out
            rw [flat_step hyk] at hst
            rw [cases_step hyk, List.map_cons, List.sum_cons] at hct
            have wk : IntKind.i64.wrap ((k : Int) + 1) = (k : Int) + 1 := IntWalk.i64_in _ (by omega)
            have x0 := HK.out.1.cell 0 _ rfl
            have x1 := HK.out.1.cell 1 _ rfl
            have x2 := HK.out.1.cell 2 _ rfl
            have x3 := HK.out.1.cell 3 _ rfl
            have xl := HK.out.1.lt
            have XBX := Lib.hid (Boxed.made wr #[.string ⟨y.1.toArray⟩, .slice a9 n9 c9] 41)
            have XO := Lib.hid (HP.out.below (blw_alloc wr (.cells #[.string ⟨y.1.toArray⟩, .slice a9 n9 c9] 41)))
            have XT := Lib.hid (HT.out.trans (Turn.below (blw_alloc wr (.cells #[.string ⟨y.1.toArray⟩, .slice a9 n9 c9] 41))))
            have XK := Lib.hid ((Turn.below (p := p) (v := u4) (blw_alloc wr (.cells #[.string ⟨y.1.toArray⟩, .slice a9 n9 c9] 41))).keep HK.out hq0)
            have XB := Lib.hid (HB.out.alloc HB.out.size (.cells #[.string ⟨y.1.toArray⟩, .slice a9 n9 c9] 41))
            have XQ := Lib.hid (show wr.heap.size ≠ p ∧ u4.ownBlock ≠ some wr.heap.size from ⟨fun e => by have := HP.out.box.lt; omega, fun e => by have := (HP.out.row.lt _ e).2; omega⟩)
            have COh := Lib.hid fun w1 (ho : OutI W0.heap.size p q us s4 u4 w1) => HOO.out x a0 n0 c0 y.1 w1 s4 u4 ho (by omega) p5 q3
            have hOx := hOl x y.1
            have Q2 := Lib.hid q2
            clear HL HC HP HT HK HB q0' q1 q2 hyk
            go_upto_if 31 with fail
            have hz31 : (x.kind == 4) = Z := HZ.out.symm
            rw [hz31]
            clear hz31
            generalize World.alloc wr (.cells #[.string ⟨y.1.toArray⟩, .slice a9 n9 c9] 41) = w1 at *
            generalize wr.heap.size = r0 at *
            have hr0 : r0 ≠ p := XQ.out.1
            have YK := Lib.hid (show Boxed w1 r0 #[.string ⟨y.1.toArray⟩, .slice a9 n9 c9] ∧ u4.ownBlock ≠ some r0 from ⟨XBX.out, XQ.out.2⟩)
            clear XBX XQ j0 j1 lb x0 x1 x2 x3 xl
            go_cut [25] from 31 to 36 (fun s25 wx => s25 = .int .i64 (k : Int) ∧ ∃ s5 u5, Hid (OutI W0.heap.size p q us s5 u5 wx) ∧ Hid (s5 = s4 ++ (if x.kind = 4 then O x y.1 else [])) ∧ Hid (Boxed wx q0 #[.int .i64 x.kind, .string ⟨x.text.toArray⟩, .int .i64 x.off, .slice a0 n0 c0] ∧ u5.ownBlock ≠ some q0) ∧ Hid (Boxed wx r0 #[.string ⟨y.1.toArray⟩, .slice a9 n9 c9] ∧ u5.ownBlock ≠ some r0) ∧ Hid (Below W0.heap.size W0 wx) ∧ Hid (Turn p u w u5 wx))
            case first =>
              have x0 := XK.out.1.cell 0 _ rfl
              have x1 := XK.out.1.cell 1 _ rfl
              have x2 := XK.out.1.cell 2 _ rfl
              have x3 := XK.out.1.cell 3 _ rfl
              have xl := XK.out.1.lt
              have j0 := YK.out.1.cell 0 _ rfl
              cases Z with
              | true =>
                have k4 : x.kind = 4 := by have := HZ.out; simpa using this.symm
                have COi := Lib.hid (COh.out w1 XO.out)
                have HI := Lib.hid (show (if x.kind = 4 then O x y.1 else []) = O x y.1 from if_pos k4)
                clear k4 COh HZ
                go_wp2_with (go_at_fn gO; refine COi.out.mono ?_; rintro e w2 ⟨rfl, u5, ho, ht⟩; have PO := Lib.hid ho; have PT := Lib.hid ht; have PK := Lib.hid (ht.keep XK.out hq0); have PY := Lib.hid (ht.keep YK.out hr0); have PB := Lib.hid (XO.out.base ht XB.out); clear ho ht)
                go_meet
                exact ⟨rfl, _, _, PO, by rw [HI.out]; exact Lib.hid rfl, PK, PY, PB, Lib.hid (XT.out.trans PT.out)⟩
              | false =>
                have k4 : ¬ x.kind = 4 := by have := HZ.out; simpa using this.symm
                have HI := Lib.hid (show (if x.kind = 4 then O x y.1 else []) = [] from if_neg k4)
                clear k4 COh HZ
                go_wp2_with fail
                go_meet
                exact ⟨rfl, _, _, XO, by rw [HI.out, List.append_nil]; exact Lib.hid rfl, XK, YK, XB, XT⟩
            case rest =>
            obtain ⟨rfl, s5, u5, PO, HE, PK, PY, PB, PT⟩ := hcut
            have hs5 : s5.length ≤ s4.length + 1 := by
              rw [HE.out]
              split <;> simp <;> omega
            have HL5 := Lib.hid (show s5 ++ eachM N O f y.2 ++ (((cs.drop (k + 1)).flatMap fun y => (if x.kind = 4 then O x y.1 else []) ++ eachM N O f y.2) ++ eachM N O (f + 1) (m.drop (i + 1))) = RES by rw [← hst, HE.out]; simp only [List.append_assoc])
            clear HE hst COh XK YK XO XT XB hOx
            have j1 := PY.out.1.cell 1 _ rfl
            have jl := PY.out.1.lt
            have CR := Lib.hid (IH.out (.slice a9 n9 c9) y.2 wc s5 u5 Q2.out q4 PO.out PB.out (by omega))
            generalize hR : s5 ++ eachM N O f y.2 = s6 at *
            go_wp2_with fail
            refine CR.out.mono ?_
            rintro e w4 ⟨rfl, u6, ho, ht, hln⟩
            have O4 := Lib.hid ho
            have K4 := Lib.hid (ht.keep PK.out hq0)
            have T4 := Lib.hid (PT.out.trans ht)
            have B4 := Lib.hid (PO.out.base ht PB.out)
            have HC5 := Lib.hid (show s6.length + (LC - (k + 1)) + ((((cs.drop (k + 1)).map (·.2)).map (cnt f)).sum + cnt (f + 1) (m.drop (i + 1))) * 2000005 ≤ TT by omega)
            clear ho ht hln CR PO PK PT PB PY j1 jl hR hct hs5 Q2
            go_wp2_with fail
            go_roundw
            case rel => exact ⟨k + 1, s6, u6, by go_num, by omega, O4, HL5, HC5, K4, B4, T4⟩
            case measure => simp [RowKit.intOf]; omega
          · have hk' : ¬ (k : Int) < (LC : Int) := by omega
            have hst := HL.out
            have hct := HC.out
            rw [List.drop_of_length_le (by omega)] at hst hct
            have HL4 := Lib.hid (show s4 ++ eachM N O (f + 1) (m.drop (i + 1)) = RES from hst)
            have HC4 := Lib.hid (show s4.length + cnt (f + 1) (m.drop (i + 1)) * 2000005 ≤ TT by
              have e : (([] : List (List UInt8 × List Nd)).map (·.2)).map (cnt f) = [] := rfl
              rw [e, List.sum_nil] at hct
              omega)
            clear hst hct HL HC
            go_wp2_with fail
            go_roundw
            case rel => exact ⟨i + 1, s4, u4, by go_num, by omega, HP, HL4, HC4, HT⟩
            case measure => simp [RowKit.intOf]; omega
      · have hi' : ¬ (i : Int) < (L : Int) := by omega
        have hst := HL.out
        have hct := HC.out
        rw [List.drop_of_length_le (by omega)] at hst hct
        have hst' : s1 = RES := by rw [← hst]; exact (List.append_nil s1).symm
        subst hst'
        clear hst
        go_wp2_with fail
        go_end0
        exact ⟨rfl, _, HP.out, HT.out, by omega⟩
end Go.Proofs.YtldbfkccieipjaaGreatDoor
namespace Go.Proofs.YtldbfkccieipjaaGreatDoor
open Go.RowKit Ms
namespace Ms
/-- what is wrong with a message, or with rules -/
def covE (f : Nat) (m : List Nd) (S : List (List UInt8)) : Int := if msgE f m ≠ 0 then msgE f m else if Rul.setOk S = true then 0 else 3
def missL (f : Nat) (m : List Nd) (S : List (List UInt8)) : List (List UInt8) := if covE f m S = 0 then eachM (missN S) (fun _ _ => []) f m else []
def idleL (f : Nat) (m : List Nd) (S : List (List UInt8)) : List (List UInt8) := if covE f m S = 0 then eachM (fun _ => []) (idleN S) f m else []
theorem covE_zero {f : Nat} {m : List Nd} {S : List (List UInt8)} (h : covE f m S = 0) : msgE f m = 0 := by
  unfold covE at h
  split at h
  · rename_i h1; exact absurd h h1
  · rename_i h1; exact Decidable.not_not.1 h1
end Ms
set_option maxRecDepth 100000 in
set_option maxHeartbeats 1000000 in
theorem ccheck_any {f : Nat} {v : Value} {m : List Nd} (t0 t1 t2 t3 t4 : List UInt8) (w : World) (hw : MW w) (hT : TR w) (h : MsgAt f w v m) (hl : m.length ≤ 2000000) (ht : ∀ t ∈ [t0, t1, t2, t3, t4], t.length ≤ 100000000) :
    Calls Tryz.prog 35 #[v, .agg #[.string ⟨t0.toArray⟩, .string ⟨t1.toArray⟩, .string ⟨t2.toArray⟩, .string ⟨t3.toArray⟩, .string ⟨t4.toArray⟩]] w fun e w' => e = .returned (errN (covE f m [t0, t1, t2, t3, t4])) ∧ Below w.heap.size w w' := by
  have CM := Lib.hid fun wx (hb : Below w.heap.size w wx) => mwhole_any wx (hw.below hb) (msg_below h hb) hl
  have CP := Lib.hid fun wx (hb : Below w.heap.size w wx) => pcheck_any t0 t1 t2 t3 t4 wx (hT.below hb) ht
  have HE := Lib.hid (show covE f m [t0, t1, t2, t3, t4] = if msgE f m ≠ 0 then msgE f m else if Rul.setOk [t0, t1, t2, t3, t4] = true then 0 else 3 from rfl)
  obtain ⟨a, n, c, rfl⟩ := h.isSlice
  clear h hl hw hT ht
  generalize covE f m [t0, t1, t2, t3, t4] = R at *
  generalize msgE f m = ME at *
  generalize Rul.setOk [t0, t1, t2, t3, t4] = Z at *
  have B0 := Lib.hid (Boxed.made w #[.string ⟨t0.toArray⟩, .string ⟨t1.toArray⟩, .string ⟨t2.toArray⟩, .string ⟨t3.toArray⟩, .string ⟨t4.toArray⟩] 54)
  have W0 := Lib.hid (blw_alloc w (.cells #[.string ⟨t0.toArray⟩, .string ⟨t1.toArray⟩, .string ⟨t2.toArray⟩, .string ⟨t3.toArray⟩, .string ⟨t4.toArray⟩] 54))
  go_enter Tryz.func35, Tryz.ntmps35
  go_wp2_with fail
  refine (CM.out _ W0.out).mono ?_
  rintro e w1 ⟨rfl, hb⟩
  have W1 := Lib.hid (blw_trans W0.out hb)
  have B1 := Lib.hid (B0.out.below hb)
  clear hb CM W0 B0
  by_cases h0 : ME = 0
  case neg =>
    obtain rfl : R = ME := by rw [HE.out, if_pos h0]
    have HV := Lib.hid (show errN R = errV R from if_neg h0)
    rw [HV.out]
    clear h0 HE CP
    go_wp2_with fail
    go_ret
    exact ⟨by first | (rw [HV.out]; done) | (rw [HV.out]; rfl) | rfl, W1.out⟩
  subst h0
  rw [show errN 0 = .nilIface from rfl]
  have u0 := B1.out.cell 0 _ rfl
  have u1 := B1.out.cell 1 _ rfl
  have u2 := B1.out.cell 2 _ rfl
  have u3 := B1.out.cell 3 _ rfl
  have u4 := B1.out.cell 4 _ rfl
  have ul := B1.out.lt
  go_wp2_with fail
  refine (CP.out _ W1.out).mono ?_
  rintro e w2 ⟨rfl, hb⟩
  have W2 := Lib.hid (blw_trans W1.out hb)
  clear hb CP
  cases Z with
  | true =>
    obtain rfl : R = 0 := HE.out
    go_wp2_with fail
    go_ret
    exact ⟨rfl, W2.out⟩
  | false =>
    obtain rfl : R = 3 := HE.out
    go_wp2_with fail
    go_ret
    exact ⟨rfl, W2.out⟩

theorem miss1_at (args : Array Value) (w : World) : (callFunc 37 args).run Tryz.prog w = .ok (.enter 37 args) w := enters_of Tryz.func37 (by kernel_rfl) rfl args w
theorem miss2_at (args : Array Value) (w : World) : (callFunc 41 args).run Tryz.prog w = .ok (.enter 41 args) w := enters_of Tryz.func41 (by kernel_rfl) rfl args w
theorem idle1_at (args : Array Value) (w : World) : (callFunc 43 args).run Tryz.prog w = .ok (.enter 43 args) w := enters_of Tryz.func43 (by kernel_rfl) rfl args w
theorem idle2_at (args : Array Value) (w : World) : (callFunc 44 args).run Tryz.prog w = .ok (.enter 44 args) w := enters_of Tryz.func44 (by kernel_rfl) rfl args w
theorem missN_len (S : List (List UInt8)) (x : Nd) (hS : S.length ≤ 5) : (missN S x).length ≤ 5 := by
  refine Nat.le_trans (missK_len x (kS S)) ?_
  unfold kS
  rw [List.length_map, List.length_zip]
  omega

set_option maxRecDepth 100000 in
set_option maxHeartbeats 2000000 in
theorem miss_any {f : Nat} {v : Value} {m : List Nd} (t0 t1 t2 t3 t4 : List UInt8) (w : World) (hw : MW w) (hT : TR w) (h : MsgAt f w v m) (hl : m.length ≤ 2000000) (ht : ∀ t ∈ [t0, t1, t2, t3, t4], t.length ≤ 100000000) :
    Calls Tryz.prog 17 #[v, .agg #[.string ⟨t0.toArray⟩, .string ⟨t1.toArray⟩, .string ⟨t2.toArray⟩, .string ⟨t3.toArray⟩, .string ⟨t4.toArray⟩]] w fun e w' => ∃ u, e = .returned (.tuple #[u, errN (covE f m [t0, t1, t2, t3, t4])]) ∧ w'.ownsRow w.heap.size 9 1 u (missL f m [t0, t1, t2, t3, t4]).length ((missL f m [t0, t1, t2, t3, t4]).map stV) ∧ Below w.heap.size w w' := by
  have CK := Lib.hid (ccheck_any t0 t1 t2 t3 t4 (w.alloc (.cells #[.string ⟨t0.toArray⟩, .string ⟨t1.toArray⟩, .string ⟨t2.toArray⟩, .string ⟨t3.toArray⟩, .string ⟨t4.toArray⟩] 54)) (hw.below (blw_alloc _ _)) (hT.below (blw_alloc _ _)) (msg_below h (blw_alloc _ _)) hl ht)
  have HL := Lib.hid (show missL f m [t0, t1, t2, t3, t4] = if covE f m [t0, t1, t2, t3, t4] = 0 then eachM (missN [t0, t1, t2, t3, t4]) (fun _ _ => []) f m else [] from rfl)
  have HC := Lib.hid fun (h0 : covE f m [t0, t1, t2, t3, t4] = 0) => cnt_small (covE_zero h0)
  have CE := Lib.hid fun (W0 : World) (p q : Nat) (w1 : World) (u : Value) (hm : MsgAt f W0 v m) (ho : OutI W0.heap.size p q #[.string ⟨t0.toArray⟩, .string ⟨t1.toArray⟩, .string ⟨t2.toArray⟩, .string ⟨t3.toArray⟩, .string ⟨t4.toArray⟩] [] u w1) (hb : Below W0.heap.size W0 w1) (hc : cnt f m ≤ 60) => each_any (N := (missN [t0, t1, t2, t3, t4])) (O := (fun _ _ => [])) (gN := 37) (gO := 41) (lN := #[.pointer (some ⟨q, 0, none⟩), .pointer (some ⟨p, 0, none⟩)]) (lO := #[]) miss1_at miss2_at (fun x => missN_len _ x (by show 5 ≤ 5; omega)) (fun _ _ => by simp) W0 p q #[.string ⟨t0.toArray⟩, .string ⟨t1.toArray⟩, .string ⟨t2.toArray⟩, .string ⟨t3.toArray⟩, .string ⟨t4.toArray⟩] (fun f x a n c w s v ho hb hc hs ht => miss1_any x a n c W0 w p q t0 t1 t2 t3 t4 s v ho hb hc hs ht) (fun x a n c k w s v ho hs ht hk => (miss2_any x a n c k w).mono fun e w' h => ⟨h.1, v, by rw [List.append_nil]; exact ho.below h.2, Turn.below h.2⟩) f v m w1 [] u hm hl ho hb (by show 0 + _ ≤ _; omega)
  have HM := Lib.hid fun wx (hb : Below w.heap.size w wx) => msg_below h hb
  obtain ⟨a, n, c, rfl⟩ := h.isSlice
  clear h hl hw hT ht
  generalize missL f m [t0, t1, t2, t3, t4] = LS at *
  generalize covE f m [t0, t1, t2, t3, t4] = NE at *
  generalize eachM (missN [t0, t1, t2, t3, t4]) (fun _ _ => []) f m = AL at *
  have B0 := Lib.hid (Boxed.made w #[.string ⟨t0.toArray⟩, .string ⟨t1.toArray⟩, .string ⟨t2.toArray⟩, .string ⟨t3.toArray⟩, .string ⟨t4.toArray⟩] 54)
  have W0 := Lib.hid (blw_alloc w (.cells #[.string ⟨t0.toArray⟩, .string ⟨t1.toArray⟩, .string ⟨t2.toArray⟩, .string ⟨t3.toArray⟩, .string ⟨t4.toArray⟩] 54))
  go_enter Tryz.func17, Tryz.ntmps17
  go_wp2_with fail
  refine CK.out.mono ?_
  rintro e w1 ⟨rfl, hb⟩
  have W1 := Lib.hid (blw_trans W0.out hb)
  have B1 := Lib.hid (B0.out.below hb)
  have hsz := W1.out.size
  clear hb CK W0 B0
  by_cases h0 : NE = 0
  case neg =>
    obtain rfl : LS = [] := by rw [HL.out, if_neg h0]
    have HV := Lib.hid (show errN NE = errV NE from if_neg h0)
    rw [HV.out]
    clear h0 HL HC CE
    go_wp2_with fail
    go_ret2
    exact ⟨_, by first | rfl | (rw [HV.out]; rfl), ⟨rfl, .inl ⟨rfl, rfl⟩⟩, W1.out⟩
  subst h0
  obtain rfl : LS = AL := HL.out
  rw [show errN 0 = .nilIface from rfl]
  have hcn := HC.out (by trivial)
  have P1 := Lib.hid (show OutI w1.heap.size w1.heap.size w.heap.size #[.string ⟨t0.toArray⟩, .string ⟨t1.toArray⟩, .string ⟨t2.toArray⟩, .string ⟨t3.toArray⟩, .string ⟨t4.toArray⟩] [] (.slice none 0 0) (w1.alloc (.cells #[.slice none 0 0] 45)) from ⟨Boxed.made _ _ _, World.ownsRow_nil _ _ _ _, by simp [Value.ownBlock], Nat.le_refl _, B1.out.alloc _, fun e => by have := B1.out.lt; omega, by simp [Value.ownBlock]⟩)
  have CEh := Lib.hid (CE.out w1 w1.heap.size w.heap.size _ _ (HM.out w1 W1.out) P1.out (blw_alloc _ _) hcn)
  clear CE HM HC HL
  go_wp2_with fail
  refine CEh.out.mono ?_
  rintro e w2 ⟨rfl, u2, ho, ht, _⟩
  have W2 := Lib.hid (blw_trans W1.out (P1.out.base ht (blw_alloc _ _)))
  rw [List.nil_append] at ho
  obtain ⟨ua, uc, rfl⟩ := ho.isSlice
  have c0 := ho.box.cell 0 _ rfl
  have HR := Lib.hid ho.row
  clear ho ht CEh P1 B1
  generalize w1.heap.size = p at *
  go_wp2_with fail
  go_ret2
  exact ⟨_, rfl, nrow_mono HR.out hsz, W2.out⟩

set_option maxRecDepth 100000 in
set_option maxHeartbeats 2000000 in
theorem idle_any {f : Nat} {v : Value} {m : List Nd} (t0 t1 t2 t3 t4 : List UInt8) (w : World) (hw : MW w) (hT : TR w) (h : MsgAt f w v m) (hl : m.length ≤ 2000000) (ht : ∀ t ∈ [t0, t1, t2, t3, t4], t.length ≤ 100000000) :
    Calls Tryz.prog 21 #[v, .agg #[.string ⟨t0.toArray⟩, .string ⟨t1.toArray⟩, .string ⟨t2.toArray⟩, .string ⟨t3.toArray⟩, .string ⟨t4.toArray⟩]] w fun e w' => ∃ u, e = .returned (.tuple #[u, errN (covE f m [t0, t1, t2, t3, t4])]) ∧ w'.ownsRow w.heap.size 9 1 u (idleL f m [t0, t1, t2, t3, t4]).length ((idleL f m [t0, t1, t2, t3, t4]).map stV) ∧ Below w.heap.size w w' := by
  have CK := Lib.hid (ccheck_any t0 t1 t2 t3 t4 (w.alloc (.cells #[.string ⟨t0.toArray⟩, .string ⟨t1.toArray⟩, .string ⟨t2.toArray⟩, .string ⟨t3.toArray⟩, .string ⟨t4.toArray⟩] 54)) (hw.below (blw_alloc _ _)) (hT.below (blw_alloc _ _)) (msg_below h (blw_alloc _ _)) hl ht)
  have HL := Lib.hid (show idleL f m [t0, t1, t2, t3, t4] = if covE f m [t0, t1, t2, t3, t4] = 0 then eachM (fun _ => []) (idleN [t0, t1, t2, t3, t4]) f m else [] from rfl)
  have HC := Lib.hid fun (h0 : covE f m [t0, t1, t2, t3, t4] = 0) => cnt_small (covE_zero h0)
  have CE := Lib.hid fun (W0 : World) (p q : Nat) (w1 : World) (u : Value) (hm : MsgAt f W0 v m) (ho : OutI W0.heap.size p q #[.string ⟨t0.toArray⟩, .string ⟨t1.toArray⟩, .string ⟨t2.toArray⟩, .string ⟨t3.toArray⟩, .string ⟨t4.toArray⟩] [] u w1) (hb : Below W0.heap.size W0 w1) (hc : cnt f m ≤ 60) => each_any (N := (fun _ => [])) (O := (idleN [t0, t1, t2, t3, t4])) (gN := 43) (gO := 44) (lN := #[]) (lO := #[.pointer (some ⟨q, 0, none⟩), .pointer (some ⟨p, 0, none⟩)]) idle1_at idle2_at (fun _ => by simp) (fun x k => idleN_len _ x k) W0 p q #[.string ⟨t0.toArray⟩, .string ⟨t1.toArray⟩, .string ⟨t2.toArray⟩, .string ⟨t3.toArray⟩, .string ⟨t4.toArray⟩] (fun f x a n c w s v ho hb hc hs ht => (idle1_any x a n c w).mono fun e w' h => ⟨h.1, v, by rw [List.append_nil]; exact ho.below h.2, Turn.below h.2⟩) (fun x a n c k w s v ho hs ht hk => idle2_any x a n c k W0 w p q t0 t1 t2 t3 t4 s v ho hs ht hk) f v m w1 [] u hm hl ho hb (by show 0 + _ ≤ _; omega)
  have HM := Lib.hid fun wx (hb : Below w.heap.size w wx) => msg_below h hb
  obtain ⟨a, n, c, rfl⟩ := h.isSlice
  clear h hl hw hT ht
  generalize idleL f m [t0, t1, t2, t3, t4] = LS at *
  generalize covE f m [t0, t1, t2, t3, t4] = NE at *
  generalize eachM (fun _ => []) (idleN [t0, t1, t2, t3, t4]) f m = AL at *
  have B0 := Lib.hid (Boxed.made w #[.string ⟨t0.toArray⟩, .string ⟨t1.toArray⟩, .string ⟨t2.toArray⟩, .string ⟨t3.toArray⟩, .string ⟨t4.toArray⟩] 54)
  have W0 := Lib.hid (blw_alloc w (.cells #[.string ⟨t0.toArray⟩, .string ⟨t1.toArray⟩, .string ⟨t2.toArray⟩, .string ⟨t3.toArray⟩, .string ⟨t4.toArray⟩] 54))
  go_enter Tryz.func21, Tryz.ntmps21
  go_wp2_with fail
  refine CK.out.mono ?_
  rintro e w1 ⟨rfl, hb⟩
  have W1 := Lib.hid (blw_trans W0.out hb)
  have B1 := Lib.hid (B0.out.below hb)
  have hsz := W1.out.size
  clear hb CK W0 B0
  by_cases h0 : NE = 0
  case neg =>
    obtain rfl : LS = [] := by rw [HL.out, if_neg h0]
    have HV := Lib.hid (show errN NE = errV NE from if_neg h0)
    rw [HV.out]
    clear h0 HL HC CE
    go_wp2_with fail
    go_ret2
    exact ⟨_, by first | rfl | (rw [HV.out]; rfl), ⟨rfl, .inl ⟨rfl, rfl⟩⟩, W1.out⟩
  subst h0
  obtain rfl : LS = AL := HL.out
  rw [show errN 0 = .nilIface from rfl]
  have hcn := HC.out (by trivial)
  have P1 := Lib.hid (show OutI w1.heap.size w1.heap.size w.heap.size #[.string ⟨t0.toArray⟩, .string ⟨t1.toArray⟩, .string ⟨t2.toArray⟩, .string ⟨t3.toArray⟩, .string ⟨t4.toArray⟩] [] (.slice none 0 0) (w1.alloc (.cells #[.slice none 0 0] 45)) from ⟨Boxed.made _ _ _, World.ownsRow_nil _ _ _ _, by simp [Value.ownBlock], Nat.le_refl _, B1.out.alloc _, fun e => by have := B1.out.lt; omega, by simp [Value.ownBlock]⟩)
  have CEh := Lib.hid (CE.out w1 w1.heap.size w.heap.size _ _ (HM.out w1 W1.out) P1.out (blw_alloc _ _) hcn)
  clear CE HM HC HL
  go_wp2_with fail
  refine CEh.out.mono ?_
  rintro e w2 ⟨rfl, u2, ho, ht, _⟩
  have W2 := Lib.hid (blw_trans W1.out (P1.out.base ht (blw_alloc _ _)))
  rw [List.nil_append] at ho
  obtain ⟨ua, uc, rfl⟩ := ho.isSlice
  have c0 := ho.box.cell 0 _ rfl
  have HR := Lib.hid ho.row
  clear ho ht CEh P1 B1
  generalize w1.heap.size = p at *
  go_wp2_with fail
  go_ret2
  exact ⟨_, rfl, nrow_mono HR.out hsz, W2.out⟩
end Go.Proofs.YtldbfkccieipjaaGreatDoor
