/- The walk of slices.Concat at two slices of texts. -/
import Derived.Test.YtlhleojigcnjeaaDoorTextLib
import Derived.Test.YtlhleojigcnjeaaDoorRparts
namespace Go.Proofs.YtlhleojigcnjeaaDoor
open Go.RowKit

set_option maxRecDepth 100000 in
set_option maxHeartbeats 2000000 in
theorem concat_nil (la : List (List UInt8)) (q : Nat) (aa : Addr) (ca : Nat)  (w : World) (h0 : 0 < la.length) (hl : la.length + 0 ≤ 1000000000)
    (q0 : w.cell? ⟨q, 0, none⟩ = some (.slice (some aa) la.length ca)) (q1 : w.cell? ⟨q, 1, none⟩ = some (.slice none 0 0))
    (ha : ∀ (j : Nat) u, (la.map txtV)[j]? = some u → w.cell? (aa.add j) = some u) :
    Calls Tryd.prog 46 #[.slice (some ⟨q, 0, none⟩) 2 2] w fun e w' => ∃ v, e = .returned v ∧ w'.ownsRow w.heap.size 9 1 v (la ++ ([] : List (List UInt8))).length ((la ++ ([] : List (List UInt8))).map txtV) ∧ Below w.heap.size w w' := by
  obtain ⟨i0, hi, hz0, hz1, hz2⟩ := info_parts infoStr
  have HA := Lib.hid ha
  have HQ0 := Lib.hid q0
  have HQ1 := Lib.hid q1
  clear ha
  obtain ⟨N, hN⟩ : ∃ N, N = la.length + 0 := ⟨_, rfl⟩
  have n1 : la.length + 0 ≤ N := by omega
  have n2 : N ≤ la.length + 0 := by omega
  have CG := Lib.hid fun w => grow_any N w (by omega) (by omega)
  clear hN
  go_enter Tryd.func46, Tryd.ntmps46
  go_wp2_with fail
  go_loop [3, 5, 11] (fun z _ i => (i = .int .i64 0 ∧ z = .int .i64 0) ∨ (i = .int .i64 1 ∧ z = .int .i64 la.length) ∨ (i = .int .i64 2 ∧ z = .int .i64 N)) (fun _ _ i => 2 - (RowKit.intOf i).toNat)
  case atStart => exact .inl ⟨rfl, rfl⟩
  case round =>
    rcases hrel with ⟨rfl, rfl⟩ | ⟨rfl, rfl⟩ | ⟨rfl, rfl⟩
    · go_wp2_with fail
      first | (go_round; case rel => exact .inr (.inl ⟨rfl, congrArg (Value.int .i64) (by omega)⟩); case measure => simp [RowKit.intOf]) | exact ⟨.inr (.inl ⟨rfl, congrArg (Value.int .i64) (by omega)⟩), by simp [RowKit.intOf]⟩
    · go_wp2_with fail
      first | (go_round; case rel => exact .inr (.inr ⟨rfl, congrArg (Value.int .i64) (by omega)⟩); case measure => simp [RowKit.intOf]) | exact ⟨.inr (.inr ⟨rfl, congrArg (Value.int .i64) (by omega)⟩), by simp [RowKit.intOf]⟩
    · go_wp2_with fail
      refine (CG.out _).mono ?_
      rintro e w1 ⟨v, rfl, ho, hb⟩
      have HO := Lib.hid ho
      have HB := Lib.hid hb
      clear ho hb q0 q1 CG
      go_wp2_with fail
      go_loopw [6, 8, 27] (fun v _ i wr => Hid (Below w.heap.size w wr) ∧ ((i = .int .i64 0 ∧ Hid (wr.ownsRow w.heap.size 9 1 v 0 [])) ∨ (i = .int .i64 1 ∧ Hid (wr.ownsRow w.heap.size 9 1 v la.length (la.map txtV))) ∨ (i = .int .i64 2 ∧ Hid (wr.ownsRow w.heap.size 9 1 v (la ++ ([] : List (List UInt8))).length ((la ++ ([] : List (List UInt8))).map txtV))))) (fun _ _ i _ => 2 - (RowKit.intOf i).toNat)
      case atStart => exact ⟨HB, .inl ⟨rfl, HO⟩⟩
      case round =>
        clear HO HB
        obtain ⟨HB, hr⟩ := hrel
        have q0 := cell_keep HQ0.out HB.out
        have q1 := cell_keep HQ1.out HB.out
        have hbs := HB.out.size
        rcases hr with ⟨rfl, HO⟩ | ⟨rfl, HO⟩ | ⟨rfl, HO⟩
        · have hown := HO.out
          have HNEW : ∀ (j : Nat) u, (la.map txtV)[j]? = some u → wr.cell? (aa.add j) = some u := fun j u hu => cell_keep (HA.out j u hu) HB.out
          go_wp2_with (at_builtin; refine wpList_append_own _ rfl _ _ 22 rfl w.heap.size 9 i0 (.string ByteArray.empty) 1 16 Tryd.underlying22 hi hz0 hz1 hz2 rfl (by decide) _ _ _ rfl hown aa la.length ca (la.map txtV) rfl (by simp) HNEW (fun x hx => by simp at hx; obtain ⟨y, _, rfl⟩ := hx; rfl) (by unfold maxLen; omega) (by omega) hbs ?_; intro v' w2 hown' hgrow _)
          have HO' := Lib.hid (show w2.ownsRow w.heap.size 9 1 v' la.length (la.map txtV) by simpa using hown')
          have HB' := Lib.hid (show Below w.heap.size w w2 from HB.out.grown hgrow hbs (fun k hk => (hown.lt k hk).1))
          clear hown hown' hgrow hbs HO HB HNEW
          go_wp2_with fail
          go_roundw
          case rel => exact ⟨HB', .inr (.inl ⟨rfl, HO'⟩)⟩
          case measure => simp [RowKit.intOf]
        · have hown := HO.out
          go_wp2_with (at_builtin; refine wpList_append_own_none rfl _ _ 22 rfl w.heap.size 9 i0 1 Tryd.underlying22 hi _ _ _ rfl hown rfl ?_)
          have HO' := Lib.hid (show wr.ownsRow w.heap.size 9 1 _ (la ++ ([] : List (List UInt8))).length ((la ++ ([] : List (List UInt8))).map txtV) by simpa using hown)
          clear hown hbs HO
          go_wp2_with fail
          go_roundw
          case rel => exact ⟨HB, .inr (.inr ⟨rfl, HO'⟩)⟩
          case measure => simp [RowKit.intOf]
        · go_wp2_with fail
          go_ret
          exact ⟨_, rfl, HO.out, HB.out⟩

set_option maxRecDepth 100000 in
set_option maxHeartbeats 2000000 in
theorem concat_some (la lv : List (List UInt8)) (q : Nat) (aa : Addr) (ca cv : Nat) (ad : Addr) (w : World) (h0 : 0 < la.length) (hl : la.length + lv.length ≤ 1000000000)
    (q0 : w.cell? ⟨q, 0, none⟩ = some (.slice (some aa) la.length ca)) (q1 : w.cell? ⟨q, 1, none⟩ = some (.slice (some ad) lv.length cv))
    (ha : ∀ (j : Nat) u, (la.map txtV)[j]? = some u → w.cell? (aa.add j) = some u)
    (hv : ∀ (j : Nat) u, (lv.map txtV)[j]? = some u → w.cell? (ad.add j) = some u) :
    Calls Tryd.prog 46 #[.slice (some ⟨q, 0, none⟩) 2 2] w fun e w' => ∃ v, e = .returned v ∧ w'.ownsRow w.heap.size 9 1 v (la ++ lv).length ((la ++ lv).map txtV) ∧ Below w.heap.size w w' := by
  obtain ⟨i0, hi, hz0, hz1, hz2⟩ := info_parts infoStr
  have HA := Lib.hid ha
  have HV := Lib.hid hv
  have HQ0 := Lib.hid q0
  have HQ1 := Lib.hid q1
  clear ha hv
  obtain ⟨N, hN⟩ : ∃ N, N = la.length + lv.length := ⟨_, rfl⟩
  have n1 : la.length + lv.length ≤ N := by omega
  have n2 : N ≤ la.length + lv.length := by omega
  have CG := Lib.hid fun w => grow_any N w (by omega) (by omega)
  clear hN
  go_enter Tryd.func46, Tryd.ntmps46
  go_wp2_with fail
  go_loop [3, 5, 11] (fun z _ i => (i = .int .i64 0 ∧ z = .int .i64 0) ∨ (i = .int .i64 1 ∧ z = .int .i64 la.length) ∨ (i = .int .i64 2 ∧ z = .int .i64 N)) (fun _ _ i => 2 - (RowKit.intOf i).toNat)
  case atStart => exact .inl ⟨rfl, rfl⟩
  case round =>
    rcases hrel with ⟨rfl, rfl⟩ | ⟨rfl, rfl⟩ | ⟨rfl, rfl⟩
    · go_wp2_with fail
      first | (go_round; case rel => exact .inr (.inl ⟨rfl, congrArg (Value.int .i64) (by omega)⟩); case measure => simp [RowKit.intOf]) | exact ⟨.inr (.inl ⟨rfl, congrArg (Value.int .i64) (by omega)⟩), by simp [RowKit.intOf]⟩
    · go_wp2_with fail
      first | (go_round; case rel => exact .inr (.inr ⟨rfl, congrArg (Value.int .i64) (by omega)⟩); case measure => simp [RowKit.intOf]) | exact ⟨.inr (.inr ⟨rfl, congrArg (Value.int .i64) (by omega)⟩), by simp [RowKit.intOf]⟩
    · go_wp2_with fail
      refine (CG.out _).mono ?_
      rintro e w1 ⟨v, rfl, ho, hb⟩
      have HO := Lib.hid ho
      have HB := Lib.hid hb
      clear ho hb q0 q1 CG
      go_wp2_with fail
      go_loopw [6, 8, 27] (fun v _ i wr => Hid (Below w.heap.size w wr) ∧ ((i = .int .i64 0 ∧ Hid (wr.ownsRow w.heap.size 9 1 v 0 [])) ∨ (i = .int .i64 1 ∧ Hid (wr.ownsRow w.heap.size 9 1 v la.length (la.map txtV))) ∨ (i = .int .i64 2 ∧ Hid (wr.ownsRow w.heap.size 9 1 v (la ++ lv).length ((la ++ lv).map txtV))))) (fun _ _ i _ => 2 - (RowKit.intOf i).toNat)
      case atStart => exact ⟨HB, .inl ⟨rfl, HO⟩⟩
      case round =>
        clear HO HB
        obtain ⟨HB, hr⟩ := hrel
        have q0 := cell_keep HQ0.out HB.out
        have q1 := cell_keep HQ1.out HB.out
        have hbs := HB.out.size
        rcases hr with ⟨rfl, HO⟩ | ⟨rfl, HO⟩ | ⟨rfl, HO⟩
        · have hown := HO.out
          have HNEW : ∀ (j : Nat) u, (la.map txtV)[j]? = some u → wr.cell? (aa.add j) = some u := fun j u hu => cell_keep (HA.out j u hu) HB.out
          go_wp2_with (at_builtin; refine wpList_append_own _ rfl _ _ 22 rfl w.heap.size 9 i0 (.string ByteArray.empty) 1 16 Tryd.underlying22 hi hz0 hz1 hz2 rfl (by decide) _ _ _ rfl hown aa la.length ca (la.map txtV) rfl (by simp) HNEW (fun x hx => by simp at hx; obtain ⟨y, _, rfl⟩ := hx; rfl) (by unfold maxLen; omega) (by omega) hbs ?_; intro v' w2 hown' hgrow _)
          have HO' := Lib.hid (show w2.ownsRow w.heap.size 9 1 v' la.length (la.map txtV) by simpa using hown')
          have HB' := Lib.hid (show Below w.heap.size w w2 from HB.out.grown hgrow hbs (fun k hk => (hown.lt k hk).1))
          clear hown hown' hgrow hbs HO HB HNEW
          go_wp2_with fail
          go_roundw
          case rel => exact ⟨HB', .inr (.inl ⟨rfl, HO'⟩)⟩
          case measure => simp [RowKit.intOf]
        · have hown := HO.out
          have HNEW : ∀ (j : Nat) u, (lv.map txtV)[j]? = some u → wr.cell? (ad.add j) = some u := fun j u hu => cell_keep (HV.out j u hu) HB.out
          go_wp2_with (at_builtin; refine wpList_append_own _ rfl _ _ 22 rfl w.heap.size 9 i0 (.string ByteArray.empty) 1 16 Tryd.underlying22 hi hz0 hz1 hz2 rfl (by decide) _ _ _ rfl hown ad lv.length cv (lv.map txtV) rfl (by simp) HNEW (fun x hx => by simp at hx; obtain ⟨y, _, rfl⟩ := hx; rfl) (by unfold maxLen; omega) (by omega) hbs ?_; intro v' w2 hown' hgrow _)
          have HO' := Lib.hid (show w2.ownsRow w.heap.size 9 1 v' (la ++ lv).length ((la ++ lv).map txtV) by simpa using hown')
          have HB' := Lib.hid (show Below w.heap.size w w2 from HB.out.grown hgrow hbs (fun k hk => (hown.lt k hk).1))
          clear hown hown' hgrow hbs HO HB HNEW
          go_wp2_with fail
          go_roundw
          case rel => exact ⟨HB', .inr (.inr ⟨rfl, HO'⟩)⟩
          case measure => simp [RowKit.intOf]
        · go_wp2_with fail
          go_ret
          exact ⟨_, rfl, HO.out, HB.out⟩
end Go.Proofs.YtlhleojigcnjeaaDoor
