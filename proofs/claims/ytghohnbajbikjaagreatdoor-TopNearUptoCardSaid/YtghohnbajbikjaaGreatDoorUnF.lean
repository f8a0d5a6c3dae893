/- The walks of slices.IndexFunc and slices.ContainsFunc at bundles. Condition: the function that is handed over tells a truth of each element, and turns nothing old. -/
import Derived.Test.YtghohnbajbikjaaGreatDoorUnP
import Derived.Test.YtghohnbajbikjaaGreatDoorProg
import Derived.OwnWalk
import Derived.LoopTactic
import Derived.Lib.Walk
import Derived.WalkKit
import Derived.Shelf.Abstract
import Derived.Deep.LoopGhost
import Derived.Deep.Draws
namespace Go.Proofs.YtghohnbajbikjaaGreatDoor
open Go.RowKit Go.Lib
namespace Tn
set_option maxRecDepth 100000 in
set_option maxHeartbeats 1000000 in
theorem idx_bd (l : List Bd) (p : Bd → Bool) (g : Nat) (lb : Array Value) (eg : ∀ args w, (callFunc g args).run Tryz.prog w = .ok (.enter g args) w) (v : Value) (w : World) (hl : SlAt 2 BdC w v l)
    (CP : Hid (∀ x ∈ l, ∀ za zn zc, ∀ wx, Below w.heap.size w wx → Calls Tryz.prog g (#[.agg #[.string ⟨x.tag.toArray⟩, .slice za zn zc]] ++ lb) wx fun e w' => e = .returned (.bool (p x)) ∧ Below wx.heap.size wx w')) :
    Calls Tryz.prog 30 #[v, .func (.func g) #[] lb] w fun e w' => ∃ i : Int, e = .returned (.int .i64 i) ∧ decide (0 ≤ i) = l.any p ∧ Below w.heap.size w w' := by
  have HLB := Lib.hid (show ∀ wx, Below w.heap.size w wx → SlAt 2 BdC wx v l from fun wx hb => bds_below hl hb)
  obtain ⟨A, cap, rfl, hm, _⟩ := hl.spread
  unfold maxLen at hm
  clear hl
  go_enter Tryz.func30, Tryz.ntmps30
  go_wp2_with fail
  go_loopw [5, 8] (fun _ i wr => ∃ k : Nat, i = .int .i64 k ∧ k ≤ l.length ∧ Hid ((l.take k).any p = false) ∧ Hid (Below w.heap.size w wr)) (fun _ i _ => l.length - (RowKit.intOf i).toNat)
  case atStart => exact ⟨0, rfl, Nat.zero_le _, Lib.hid rfl, Lib.hid (Below.refl _ _)⟩
  case round =>
    obtain ⟨k, rfl, hk, HA, HB⟩ := hrel
    by_cases hlt : k < l.length
    · obtain ⟨x, hx⟩ : ∃ x, l[k]? = some x := ⟨l[k], List.getElem?_eq_getElem hlt⟩
      have HX := Lib.hid (any_take' (p := p) hx)
      have hxm := List.mem_of_getElem? hx
      obtain ⟨A', cap', eA, _, hsp⟩ := (HLB.out wr HB.out).spread
      injection eA with e1 e2 e3
      subst e1
      obtain ⟨b, off, rfl, hxc⟩ := hsp k x hx
      clear hsp e2 e3
      obtain ⟨za, zn, zc, x0, x1, _⟩ := hxc
      have CX := Lib.hid (CP.out x hxm za zn zc _ HB.out)
      clear hx hxm
      cases hq : p x with
      | true =>
        rw [hq] at CX
        have HT := Lib.hid (show l.any p = true by
          have h1 : (l.take (k + 1)).any p = true := by rw [HX.out, hq]; simp
          obtain ⟨y, hy, e⟩ := List.any_eq_true.1 h1
          exact List.any_eq_true.2 ⟨y, List.mem_of_mem_take hy, e⟩)
        clear hq
        go_wp2_with (go_at_fn g; refine CX.out.mono ?_; rintro e w' ⟨rfl, hb⟩; have HB2 := Lib.hid (blw_trans HB.out hb); clear hb)
        go_ret
        exact ⟨_, rfl, by rw [HT.out]; exact decide_eq_true (by omega), HB2.out⟩
      | false =>
        rw [hq] at CX
        have HT := Lib.hid (show (l.take (k + 1)).any p = false by rw [HX.out, hq, HA.out]; rfl)
        clear hq
        go_wp2_with (go_at_fn g; refine CX.out.mono ?_; rintro e w' ⟨rfl, hb⟩; have HB2 := Lib.hid (blw_trans HB.out hb); clear hb)
        go_roundw
        case rel => exact ⟨k + 1, by go_num, by omega, HT, HB2⟩
        case measure => simp [RowKit.intOf]; omega
    · have HT := Lib.hid (show l.any p = false by rw [← List.take_of_length_le (l := l) (i := k) (by omega)]; exact HA.out)
      go_wp2_with fail
      go_ret
      exact ⟨_, rfl, by rw [HT.out]; rfl, HB.out⟩

theorem retb {b : Bool} {i : Int} (h : decide (0 ≤ i) = b) : Ending.returned (Value.bool (decide (0 ≤ i))) = .returned (.bool b) := by rw [h]
set_option maxRecDepth 100000 in
set_option maxHeartbeats 1000000 in
theorem has_bd (l : List Bd) (p : Bd → Bool) (g : Nat) (lb : Array Value) (eg : ∀ args w, (callFunc g args).run Tryz.prog w = .ok (.enter g args) w) (v : Value) (w : World) (hl : SlAt 2 BdC w v l)
    (CP : Hid (∀ x ∈ l, ∀ za zn zc, ∀ wx, Below w.heap.size w wx → Calls Tryz.prog g (#[.agg #[.string ⟨x.tag.toArray⟩, .slice za zn zc]] ++ lb) wx fun e w' => e = .returned (.bool (p x)) ∧ Below wx.heap.size wx w')) :
    Calls Tryz.prog 10 #[v, .func (.func g) #[] lb] w fun e w' => e = .returned (.bool (l.any p)) ∧ Below w.heap.size w w' := by
  have CI := Lib.hid (idx_bd l p g lb eg v w hl CP)
  obtain ⟨za, zn, zc, rfl⟩ := hl.isSlice
  clear hl CP eg
  go_enter Tryz.func10, Tryz.ntmps10
  go_wp2_with fail
  refine CI.out.mono ?_
  rintro e w1 ⟨i, rfl, hi, hb⟩
  have HI := Lib.hid hi
  clear hi
  go_wp2_with fail
  go_ret
  exact ⟨ret_bool HI.out, hb⟩
end Tn
end Go.Proofs.YtghohnbajbikjaaGreatDoor
