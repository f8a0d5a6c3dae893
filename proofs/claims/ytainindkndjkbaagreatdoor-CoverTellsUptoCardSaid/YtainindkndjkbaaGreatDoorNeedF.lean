/- The walks of slices.IndexFunc and slices.ContainsFunc at needs, and of the two closures. Condition: what is handed over tells a truth of each element, and turns nothing old. -/
import Derived.Test.YtainindkndjkbaaGreatDoorNeedA
import Derived.Test.YtainindkndjkbaaGreatDoorProg
import Derived.LoopTactic
import Derived.Lib.Walk
import Derived.WalkKit
import Derived.WalkSpells
import Derived.Shelf.Abstract
import Derived.Deep.LoopGhost
import Derived.Deep.Draws
namespace Go.Proofs.YtainindkndjkbaaGreatDoor
open Go.RowKit Go.Lib Ms

theorem idx_first {α : Type} {l : List α} {p : α → Bool} {k : Nat} {x : α} (hx : l[k]? = some x) (h0 : (l.take k).any p = false) (h1 : p x = true) : l.findIdx p = k := by
  obtain ⟨hk, e⟩ := List.getElem?_eq_some_iff.1 hx
  refine (List.findIdx_eq hk).2 ⟨by rw [e]; exact h1, fun j hj => ?_⟩
  have hj2 : j < l.length := by omega
  have hm : l[j] ∈ l.take k := by
    rw [List.mem_take_iff_getElem]
    exact ⟨j, by omega, rfl⟩
  cases hp : p l[j] with
  | false => rfl
  | true => rw [List.any_eq_true.2 ⟨_, hm, hp⟩] at h0; cases h0
theorem idx_none {α : Type} {l : List α} {p : α → Bool} (h0 : l.any p = false) : l.findIdx p = l.length := by
  rw [List.findIdx_eq_length]
  intro x hx
  cases hp : p x with
  | false => rfl
  | true => rw [List.any_eq_true.2 ⟨_, hx, hp⟩] at h0; cases h0
theorem any_idx {α : Type} {l : List α} {p : α → Bool} : l.any p = decide (l.findIdx p < l.length) := by
  cases h : l.any p with
  | false => rw [idx_none h]; simp
  | true =>
    obtain ⟨x, hx, hp⟩ := List.any_eq_true.1 h
    exact (decide_eq_true (List.findIdx_lt_length_of_exists ⟨x, hx, hp⟩)).symm
/-- where the first one lies -/
def fstV (l : List Need) (p : Need → Bool) : Int := if l.findIdx p < l.length then (l.findIdx p : Int) else -1

set_option maxRecDepth 100000 in
set_option maxHeartbeats 1000000 in
theorem idx_need (l : List Need) (p : Need → Bool) (g : Nat) (lb : Array Value) (eg : ∀ args w, (callFunc g args).run Tryz.prog w = .ok (.enter g args) w) (v : Value) (w : World) (hl : NeedsAt w v l)
    (CP : Hid (∀ x ∈ l, ∀ wx, Below w.heap.size w wx → Calls Tryz.prog g (#[.agg #[.string ⟨x.1.toArray⟩, .bool x.2.1, .bool x.2.2]] ++ lb) wx fun e w' => e = .returned (.bool (p x)) ∧ Below wx.heap.size wx w')) :
    Calls Tryz.prog 67 #[v, .func (.func g) #[] lb] w fun e w' => e = .returned (.int .i64 (fstV l p)) ∧ Below w.heap.size w w' := by
  have HLB := Lib.hid (show ∀ wx, Below w.heap.size w wx → NeedsAt wx v l from fun wx hb => needs_below hl hb)
  obtain ⟨A, cap, rfl, hm, _⟩ := hl.spread
  unfold maxLen at hm
  clear hl
  have HF := Lib.hid (show fstV l p = if l.findIdx p < l.length then (l.findIdx p : Int) else -1 from rfl)
  generalize fstV l p = R at *
  go_enter Tryz.func67, Tryz.ntmps67
  go_wp2_with fail
  go_loopw [5, 8] (fun _ i wr => ∃ k : Nat, i = .int .i64 k ∧ k ≤ l.length ∧ Hid ((l.take k).any p = false) ∧ Hid (Below w.heap.size w wr)) (fun _ i _ => l.length - (RowKit.intOf i).toNat)
  case atStart => exact ⟨0, rfl, Nat.zero_le _, Lib.hid rfl, Lib.hid (Below.refl _ _)⟩
  case round =>
    obtain ⟨k, rfl, hk, HA, HB⟩ := hrel
    by_cases hlt : k < l.length
    · obtain ⟨x, hx⟩ : ∃ x, l[k]? = some x := ⟨l[k], List.getElem?_eq_getElem hlt⟩
      have HX := Lib.hid (any_take' (p := p) hx)
      have hxm := List.mem_of_getElem? hx
      obtain ⟨A', cap', eA, _, hsp⟩ := (HLB.out wr HB.out).spread
      injection eA with e1 e2 e3
      subst e1
      obtain ⟨b, off, rfl, hxc⟩ := hsp k x hx
      clear hsp e2 e3
      obtain ⟨x0, x1, x2⟩ := hxc
      have CX := Lib.hid (CP.out x hxm _ HB.out)
      cases hq : p x with
      | true =>
        rw [hq] at CX
        have hi := idx_first hx HA.out hq
        have HT := Lib.hid (show R = (k : Int) by rw [HF.out, hi, if_pos hlt])
        clear hq hx hxm hi
        go_wp2_with (go_at_fn g; refine CX.out.mono ?_; rintro e w' ⟨rfl, hb⟩; have HB2 := Lib.hid (blw_trans HB.out hb); clear hb)
        go_ret
        exact ⟨ret_int HT.out.symm, HB2.out⟩
      | false =>
        rw [hq] at CX
        have HT := Lib.hid (show (l.take (k + 1)).any p = false by rw [HX.out, hq, HA.out]; rfl)
        clear hq hx hxm
        go_wp2_with (go_at_fn g; refine CX.out.mono ?_; rintro e w' ⟨rfl, hb⟩; have HB2 := Lib.hid (blw_trans HB.out hb); clear hb)
        go_roundw
        case rel => exact ⟨k + 1, by go_num, by omega, HT, HB2⟩
        case measure => simp [RowKit.intOf]; omega
    · have HT := Lib.hid (show R = -1 by
        have h0 : l.any p = false := by rw [← List.take_of_length_le (l := l) (i := k) (by omega)]; exact HA.out
        rw [HF.out, idx_none h0, if_neg (Nat.lt_irrefl _)])
      go_wp2_with fail
      go_ret
      exact ⟨ret_int HT.out.symm, HB.out⟩

set_option maxRecDepth 100000 in
set_option maxHeartbeats 1000000 in
theorem has_need (l : List Need) (p : Need → Bool) (g : Nat) (lb : Array Value) (eg : ∀ args w, (callFunc g args).run Tryz.prog w = .ok (.enter g args) w) (v : Value) (w : World) (hl : NeedsAt w v l)
    (CP : Hid (∀ x ∈ l, ∀ wx, Below w.heap.size w wx → Calls Tryz.prog g (#[.agg #[.string ⟨x.1.toArray⟩, .bool x.2.1, .bool x.2.2]] ++ lb) wx fun e w' => e = .returned (.bool (p x)) ∧ Below wx.heap.size wx w')) :
    Calls Tryz.prog 48 #[v, .func (.func g) #[] lb] w fun e w' => e = .returned (.bool (l.any p)) ∧ Below w.heap.size w w' := by
  have CI := Lib.hid (idx_need l p g lb eg v w hl CP)
  obtain ⟨za, zn, zc, rfl⟩ := hl.isSlice
  have HF := Lib.hid (show l.any p = decide (0 ≤ fstV l p) by
    rw [any_idx]
    unfold fstV
    by_cases h : l.findIdx p < l.length
    · rw [if_pos h, decide_eq_true h]; exact (decide_eq_true (by omega)).symm
    · rw [if_neg h, decide_eq_false h]; rfl)
  generalize fstV l p = R at *
  generalize l.any p = Z at *
  clear hl CP eg
  go_enter Tryz.func48, Tryz.ntmps48
  go_wp2_with fail
  refine CI.out.mono ?_
  rintro e w1 ⟨rfl, hb⟩
  have W1 := Lib.hid hb
  clear hb
  go_wp2_with fail
  go_ret
  exact ⟨ret_bool (by rw [HF.out]), W1.out⟩

set_option maxRecDepth 100000 in
set_option maxHeartbeats 1000000 in
theorem add1_any (x : Need) (q : Nat) (t : List UInt8) (w : World) (hq : w.cell? ⟨q, 1, none⟩ = some (.string ⟨t.toArray⟩)) :
    Calls Tryz.prog 89 (#[.agg #[.string ⟨x.1.toArray⟩, .bool x.2.1, .bool x.2.2]] ++ #[.pointer (some ⟨q, 0, none⟩)]) w fun e w' => e = .returned (.bool (x.1 == t)) ∧ Below w.heap.size w w' := by
  obtain ⟨a, n, c⟩ := x
  dsimp only
  show Calls _ _ #[_, _] _ _
  have hlt := World.block_lt_of_cell? _ _ hq
  have hne : q ≠ w.heap.size := by dsimp only at hlt; omega
  go_enter Tryz.func89, Tryz.ntmps89
  go_wp2_with fail
  go_ret
  exact ⟨rfl, blw_alloc _ _⟩

set_option maxRecDepth 100000 in
set_option maxHeartbeats 1000000 in
theorem of1_any (x : Need) (w : World) :
    Calls Tryz.prog 49 (#[.agg #[.string ⟨x.1.toArray⟩, .bool x.2.1, .bool x.2.2]] ++ #[]) w fun e w' => e = .returned (.bool (x.2.1 && x.2.2)) ∧ Below w.heap.size w w' := by
  obtain ⟨a, n, c⟩ := x
  dsimp only
  show Calls _ _ #[_] _ _
  cases n with
  | false =>
    go_enter Tryz.func49, Tryz.ntmps49
    go_wp2_with fail
    go_ret
    exact ⟨rfl, blw_alloc _ _⟩
  | true =>
    go_enter Tryz.func49, Tryz.ntmps49
    go_wp2_with fail
    go_ret
    exact ⟨ret_bool (by simp), blw_alloc _ _⟩
theorem add1_at (args : Array Value) (w : World) : (callFunc 89 args).run Tryz.prog w = .ok (.enter 89 args) w := enters_of Tryz.func89 (by kernel_rfl) rfl args w
theorem of1_at (args : Array Value) (w : World) : (callFunc 49 args).run Tryz.prog w = .ok (.enter 49 args) w := enters_of Tryz.func49 (by kernel_rfl) rfl args w
end Go.Proofs.YtainindkndjkbaaGreatDoor
