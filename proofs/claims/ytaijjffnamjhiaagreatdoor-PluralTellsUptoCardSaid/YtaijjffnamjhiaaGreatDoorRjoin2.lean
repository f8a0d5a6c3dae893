/- The walks of rule.joined at relations and at parts: the texts of a list's elements, joined. Conditions: the list lies in memory as it says; the texts are short. -/
import Derived.Test.YtaijjffnamjhiaaGreatDoorRjoin
namespace Go.Proofs.YtaijjffnamjhiaaGreatDoor
open Go.RowKit

set_option maxRecDepth 100000 in
set_option maxHeartbeats 1000000 in
theorem joined_rel (l : List Rul.Rl) (f : Rul.Rl → List UInt8) (g : Nat) (eg : ∀ args w, (callFunc g args).run Tryz.prog w = .ok (.enter g args) w) (v : Value) (sep : List UInt8) (w : World) (hl : SlAt 4 RelC w v l) (hm : l.length ≤ 4000000001)
    (ht : Lst.total (l.map f) sep ≤ 2000000000000)
    (CP : Hid (∀ x ∈ l, ∀ a n c wx, Below w.heap.size w wx → SlAt 2 RngC wx (.slice a n c) x.rs → Calls Tryz.prog g #[.agg #[.int .u8 (x.op.toNat : Int), .int .i64 x.mod, .bool x.no, .slice a n c]] wx fun e w' => e = .returned (.string ⟨(f x).toArray⟩) ∧ Below wx.heap.size wx w')) :
    Calls Tryz.prog 56 #[v, .string ⟨sep.toArray⟩, .func (.func g) #[] #[]] w fun e w' => e = .returned (.string ⟨(Lib.join (l.map f) sep).toArray⟩) ∧ Below w.heap.size w w' := by
  obtain ⟨i0, hi, hz0, hz1, hz2⟩ := info_parts infoStrJ
  obtain ⟨za, zn, zc, rfl⟩ := hl.isSlice
  have HLB := Lib.hid fun (wr : World) (hb : Below w.heap.size w wr) => hl.rels_below hb
  have hn : zn = l.length := by
    obtain ⟨A, cap, e, _⟩ := hl.spread
    injection e
  subst hn
  have CJ := Lib.hid fun (v : Value) (w : World) (h : StrsAt w v (l.map f)) => sjoin_any (l.map f) v sep w h (by rw [List.length_map]; omega) ht
  clear hl ht
  go_enter Tryz.func56, Tryz.ntmps56
  go_wp2_with fail
  go_loopw [7, 12] (fun o i wr => ∃ k : Nat, i = .int .i64 (k : Int) ∧ k ≤ l.length ∧ Hid (wr.ownsRow w.heap.size 9 1 o k (((l.map f).take k).map txtV)) ∧ Hid (Below w.heap.size w wr)) (fun _ i _ => l.length - (RowKit.intOf i).toNat)
  case atStart => exact ⟨0, rfl, Nat.zero_le _, Lib.hid ⟨rfl, .inl ⟨rfl, rfl⟩⟩, Lib.hid (Below.refl _ _)⟩
  case round =>
    obtain ⟨k, rfl, hk, HO, HB⟩ := hrel
    by_cases hlt : k < l.length
    · obtain ⟨x, hx⟩ : ∃ x, l[k]? = some x := ⟨l[k], List.getElem?_eq_getElem hlt⟩
      obtain ⟨A', cap', eA, _, hsp⟩ := (HLB.out wr HB.out).spread
      injection eA with e1 e2 e3
      subst e1
      obtain ⟨b, off, rfl, hxc⟩ := hsp k x hx
      clear hsp e2 e3
      obtain ⟨a4, n4, c4, x0, x1, x2, x3, xs⟩ := hxc
      have HXS := Lib.hid fun wx (hb : Below wr.heap.size wr wx) => xs.rngs_below hb
      clear xs
      have CX := Lib.hid fun wx hb h => CP.out x (List.mem_of_getElem? hx) a4 n4 c4 wx hb h
      have HT := Lib.hid (show ((l.map f).take (k + 1)).map txtV = ((l.map f).take k).map txtV ++ [txtV (f x)] by
        rw [List.take_add_one, List.getElem?_map, hx]; simp)
      clear hx
      generalize f x = fx at *
      go_wp2_with fail
      refine (CX.out _ (blw_trans HB.out (blw_alloc _ _)) (HXS.out _ (blw_alloc _ _))).mono ?_
      rintro e w2 ⟨rfl, hb⟩
      have hb' := blw_trans (blw_alloc wr _) hb
      have HB2 := Lib.hid (blw_trans HB.out hb')
      have hown := HO.out.kept (row := none) ⟨hb'.os, hb'.tape, hb'.output, hb'.size, fun k hk _ => hb'.block k hk⟩ (by cases u7.ownBlock <;> simp)
      have hbs := HB2.out.size
      clear hb hb' CX HO HB HXS x0 x1 x2 x3
      go_wp2_with (at_builtin; refine wpList_append_own _ rfl _ _ 107 rfl w.heap.size 9 i0 (.string ByteArray.empty) 1 16 Tryz.underlying107 hi hz0 hz1 hz2 rfl (by decide) _ _ _ rfl (hown.alloc _) ⟨w2.heap.size, 0, none⟩ 1 1 [txtV fx] rfl rfl (cell_one_new _ _ _) (fun x hx => by simp at hx; subst hx; rfl) (by unfold maxLen; omega) (by omega) (by simp; omega) ?_; intro v' w1 hown' hgrow _)
      have HO' := Lib.hid (show w1.ownsRow w.heap.size 9 1 v' (k + 1) (((l.map f).take (k + 1)).map txtV) by rw [HT.out]; exact hown')
      have HB' := Lib.hid (show Below w.heap.size w w1 from (HB2.out.alloc hbs _).grown hgrow (by simp; omega) (fun k hk => (hown.lt k hk).1))
      clear hown hown' hgrow hbs HB2
      go_wp2_with fail
      go_roundw
      case rel => exact ⟨k + 1, by go_num, by omega, HO', HB'⟩
      case measure => simp [RowKit.intOf]; omega
    · obtain rfl : k = l.length := by omega
      have HS := Lib.hid (show StrsAt wr u7 (l.map f) from StrsAt.of_row (n := l.length) (by have h := HO.out; rw [List.take_of_length_le (by rw [List.length_map]; omega)] at h; exact h))
      go_wp2_with fail
      refine (CJ.out _ _ HS.out).mono ?_
      rintro e w2 ⟨rfl, hb⟩
      have HB2 := Lib.hid (blw_trans HB.out hb)
      clear hb
      go_wp2_with fail
      go_ret
      exact ⟨rfl, HB2.out⟩

set_option maxRecDepth 100000 in
set_option maxHeartbeats 1000000 in
theorem joined_part (l : List (List Rul.Rl)) (f : List Rul.Rl → List UInt8) (g : Nat) (eg : ∀ args w, (callFunc g args).run Tryz.prog w = .ok (.enter g args) w) (v : Value) (sep : List UInt8) (w : World) (hl : SlAt 1 PartC w v l) (hm : l.length ≤ 4000000001)
    (ht : Lst.total (l.map f) sep ≤ 2000000000000)
    (CP : Hid (∀ x ∈ l, ∀ a n c wx, Below w.heap.size w wx → SlAt 4 RelC wx (.slice a n c) x → Calls Tryz.prog g #[.slice a n c] wx fun e w' => e = .returned (.string ⟨(f x).toArray⟩) ∧ Below wx.heap.size wx w')) :
    Calls Tryz.prog 54 #[v, .string ⟨sep.toArray⟩, .func (.func g) #[] #[]] w fun e w' => e = .returned (.string ⟨(Lib.join (l.map f) sep).toArray⟩) ∧ Below w.heap.size w w' := by
  obtain ⟨i0, hi, hz0, hz1, hz2⟩ := info_parts infoStrJ
  obtain ⟨za, zn, zc, rfl⟩ := hl.isSlice
  have HLB := Lib.hid fun (wr : World) (hb : Below w.heap.size w wr) => hl.rule_below hb
  have hn : zn = l.length := by
    obtain ⟨A, cap, e, _⟩ := hl.spread
    injection e
  subst hn
  have CJ := Lib.hid fun (v : Value) (w : World) (h : StrsAt w v (l.map f)) => sjoin_any (l.map f) v sep w h (by rw [List.length_map]; omega) ht
  clear hl ht
  go_enter Tryz.func54, Tryz.ntmps54
  go_wp2_with fail
  go_loopw [7, 12] (fun o i wr => ∃ k : Nat, i = .int .i64 (k : Int) ∧ k ≤ l.length ∧ Hid (wr.ownsRow w.heap.size 9 1 o k (((l.map f).take k).map txtV)) ∧ Hid (Below w.heap.size w wr)) (fun _ i _ => l.length - (RowKit.intOf i).toNat)
  case atStart => exact ⟨0, rfl, Nat.zero_le _, Lib.hid ⟨rfl, .inl ⟨rfl, rfl⟩⟩, Lib.hid (Below.refl _ _)⟩
  case round =>
    obtain ⟨k, rfl, hk, HO, HB⟩ := hrel
    by_cases hlt : k < l.length
    · obtain ⟨x, hx⟩ : ∃ x, l[k]? = some x := ⟨l[k], List.getElem?_eq_getElem hlt⟩
      obtain ⟨A', cap', eA, _, hsp⟩ := (HLB.out wr HB.out).spread
      injection eA with e1 e2 e3
      subst e1
      obtain ⟨b, off, rfl, hxc⟩ := hsp k x hx
      clear hsp e2 e3
      obtain ⟨a4, n4, c4, x0, xs⟩ := hxc
      rw [Nat.mul_one] at x0
      have HXS := Lib.hid xs
      clear xs
      have CX := Lib.hid fun wx hb h => CP.out x (List.mem_of_getElem? hx) a4 n4 c4 wx hb h
      have HT := Lib.hid (show ((l.map f).take (k + 1)).map txtV = ((l.map f).take k).map txtV ++ [txtV (f x)] by
        rw [List.take_add_one, List.getElem?_map, hx]; simp)
      clear hx
      generalize f x = fx at *
      go_wp2_with fail
      refine (CX.out _ HB.out HXS.out).mono ?_
      rintro e w2 ⟨rfl, hb⟩
      have hb' := hb
      have HB2 := Lib.hid (blw_trans HB.out hb')
      have hown := HO.out.kept (row := none) ⟨hb'.os, hb'.tape, hb'.output, hb'.size, fun k hk _ => hb'.block k hk⟩ (by cases u7.ownBlock <;> simp)
      have hbs := HB2.out.size
      clear hb hb' CX HO HB HXS x0
      go_wp2_with (at_builtin; refine wpList_append_own _ rfl _ _ 107 rfl w.heap.size 9 i0 (.string ByteArray.empty) 1 16 Tryz.underlying107 hi hz0 hz1 hz2 rfl (by decide) _ _ _ rfl (hown.alloc _) ⟨w2.heap.size, 0, none⟩ 1 1 [txtV fx] rfl rfl (cell_one_new _ _ _) (fun x hx => by simp at hx; subst hx; rfl) (by unfold maxLen; omega) (by omega) (by simp; omega) ?_; intro v' w1 hown' hgrow _)
      have HO' := Lib.hid (show w1.ownsRow w.heap.size 9 1 v' (k + 1) (((l.map f).take (k + 1)).map txtV) by rw [HT.out]; exact hown')
      have HB' := Lib.hid (show Below w.heap.size w w1 from (HB2.out.alloc hbs _).grown hgrow (by simp; omega) (fun k hk => (hown.lt k hk).1))
      clear hown hown' hgrow hbs HB2
      go_wp2_with fail
      go_roundw
      case rel => exact ⟨k + 1, by go_num, by omega, HO', HB'⟩
      case measure => simp [RowKit.intOf]; omega
    · obtain rfl : k = l.length := by omega
      have HS := Lib.hid (show StrsAt wr u7 (l.map f) from StrsAt.of_row (n := l.length) (by have h := HO.out; rw [List.take_of_length_le (by rw [List.length_map]; omega)] at h; exact h))
      go_wp2_with fail
      refine (CJ.out _ _ HS.out).mono ?_
      rintro e w2 ⟨rfl, hb⟩
      have HB2 := Lib.hid (blw_trans HB.out hb)
      clear hb
      go_wp2_with fail
      go_ret
      exact ⟨rfl, HB2.out⟩
end Go.Proofs.YtaijjffnamjhiaaGreatDoor
