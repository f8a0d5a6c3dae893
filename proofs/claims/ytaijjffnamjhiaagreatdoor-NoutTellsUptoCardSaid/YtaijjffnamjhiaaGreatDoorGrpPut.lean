/- The walk of group.Put. Conditions: the text is of at most 4000000000 bytes. -/
import Derived.Test.YtaijjffnamjhiaaGreatDoorGrp
import Derived.Test.YtaijjffnamjhiaaGreatDoorGrpP
import Derived.Test.YtaijjffnamjhiaaGreatDoorSjoin
import Derived.Test.YtaijjffnamjhiaaGreatDoorOwn
import Derived.Lib.OwnBridge
import Derived.OwnWalk
import Derived.LoopTactic
namespace Go.Proofs.YtaijjffnamjhiaaGreatDoor
open Go.RowKit

theorem infoStrG : (Tryz.prog.info? 9).map (fun i => (i.zero, i.size, i.bytes)) = some (some (.string ByteArray.empty), 1, 16) := by kernel_rfl
abbrev byV (c : UInt8) : Value := .int .u8 (c.toNat : Int)

set_option maxRecDepth 100000 in
set_option maxHeartbeats 1000000 in
theorem put_bad (s : List UInt8) (g g2 c : Int) (w : World) (hs : s.length ≤ 4000000000) (h : digB s = false) :
    Calls Tryz.prog 80 #[.string ⟨s.toArray⟩, .int .i64 g, .int .i64 g2, .int .u8 c] w fun e w' => e = .returned (.tuple #[.string ⟨#[]⟩, errV 3]) ∧ Below w.heap.size w w' := by
  have C := Lib.hid fun w => gdigits_any s w hs
  rw [h] at C
  clear h
  go_enter Tryz.func80, Tryz.ntmps80
  go_wp2_with fail
  refine (C.out _).mono ?_
  rintro e w1 ⟨rfl, hb⟩
  have W1 := Lib.hid hb
  clear hb
  go_wp2_with fail
  go_ret2
  exact ⟨rfl, W1.out⟩
set_option maxRecDepth 100000 in
set_option maxHeartbeats 1000000 in
theorem put_err (s : List UInt8) (g g2 c n : Int) (w : World) (hs : s.length ≤ 4000000000) (h : digB s = true) (CK : Hid (∀ w : World, Calls Tryz.prog 132 #[.int .i64 g, .int .i64 g2, .int .u8 c] w fun e w' => e = .returned (errV n) ∧ w = w')) :
    Calls Tryz.prog 80 #[.string ⟨s.toArray⟩, .int .i64 g, .int .i64 g2, .int .u8 c] w fun e w' => e = .returned (.tuple #[.string ⟨#[]⟩, errV n]) ∧ Below w.heap.size w w' := by
  have C := Lib.hid fun w => gdigits_any s w hs
  rw [h] at C
  clear h
  go_enter Tryz.func80, Tryz.ntmps80
  go_wp2_with fail
  refine (C.out _).mono ?_
  rintro e w1 ⟨rfl, hb⟩
  have W1 := Lib.hid hb
  clear hb
  go_wp2_with fail
  refine (CK.out _).mono ?_
  rintro e w' ⟨rfl, rfl⟩
  go_wp2_with fail
  go_ret2
  exact ⟨rfl, W1.out⟩
set_option maxRecDepth 100000 in
set_option maxHeartbeats 1000000 in
theorem put_zero (s : List UInt8) (g2 c : Int) (w : World) (hs : s.length ≤ 4000000000) (h : digB s = true) (hc : ¬ (48 ≤ c ∧ c ≤ 57)) (hg : rightG 0 g2) :
    Calls Tryz.prog 80 #[.string ⟨s.toArray⟩, .int .i64 0, .int .i64 g2, .int .u8 c] w fun e w' => e = .returned (.tuple #[.string ⟨s.toArray⟩, .nilIface]) ∧ Below w.heap.size w w' := by
  have C := Lib.hid fun w => gdigits_any s w hs
  have CK := Lib.hid fun w => gcheck_ok 0 g2 c w hc hg
  rw [h] at C
  clear h hc hg
  go_enter Tryz.func80, Tryz.ntmps80
  go_wp2_with fail
  refine (C.out _).mono ?_
  rintro e w1 ⟨rfl, hb⟩
  have W1 := Lib.hid hb
  clear hb
  go_wp2_with fail
  refine (CK.out _).mono ?_
  rintro e w' ⟨rfl, rfl⟩
  go_wp2_with fail
  go_ret2
  exact ⟨rfl, W1.out⟩
theorem slice_toI {P : Program} (t : TypeId) (h : P.underlying t = some .string) (L : List UInt8) (j : Int) (a : Nat) (hj : j = a) (ha : a ≤ L.length) (w : World) :
    (Instr.slice t (.string ⟨L.toArray⟩) none (some (.int .i64 j)) none).run P w = .ok (.string ⟨(L.take a).toArray⟩) w := by
  subst hj; exact slice_to t h L .i64 a ha w
theorem slice_fromI {P : Program} (t : TypeId) (h : P.underlying t = some .string) (L : List UInt8) (j : Int) (a : Nat) (hj : j = a) (ha : a ≤ L.length) (w : World) :
    (Instr.slice t (.string ⟨L.toArray⟩) (some (.int .i64 j)) none none).run P w = .ok (.string ⟨(L.drop a).toArray⟩) w := by
  subst hj; exact slice_from t h L .i64 a ha w

set_option maxRecDepth 100000 in
set_option maxHeartbeats 2000000 in
theorem put_some0 (s : List UInt8) (g : Nat) (c : UInt8) (w : World) (hs : s.length ≤ 1000000000) (h : digB s = true) (hc : ¬ (48 ≤ (c.toNat : Int) ∧ (c.toNat : Int) ≤ 57)) (g1 : 0 < g) (g4 : g ≤ 4) :
    Calls Tryz.prog 80 #[.string ⟨s.toArray⟩, .int .i64 g, .int .i64 0, byV c] w fun e w' => e = .returned (.tuple #[.string ⟨(Grp.grouped g g s c).toArray⟩, .nilIface]) ∧ Below w.heap.size w w' := by
  obtain ⟨i0, hi, hz0, hz1, hz2⟩ := info_parts infoStrG
  have C := Lib.hid fun w => gdigits_any s w (by omega)
  have CK := Lib.hid fun w => gcheck_ok g 0 (c.toNat : Int) w hc ⟨by omega, by omega, by omega, by omega⟩
  rw [h] at C
  have cb := c.toNat_lt
  have CV : ∀ w : World, (convert 140 9 (.slice (some ⟨w.heap.size, 0, none⟩) 1 1)).run Tryz.prog (w.alloc (.cells #[byV c] 5)) = .ok (.string ⟨[c].toArray⟩) (w.alloc (.cells #[byV c] 5)) := fun w => by
    have q := conv_one (P := Tryz.prog) 140 9 5 Tryz.underlying140 Tryz.underlying5 Tryz.underlying9 (c.toNat : Int) w (by omega) (by omega)
    rw [show UInt8.ofNat (c.toNat : Int).toNat = c by simp] at q
    exact q
  have b1 : ((g : Int) == 0) = false := beq_no (by omega)
  have HL := Lib.hid (Grp.grouped_len s.length g g s c (Nat.le_refl _))
  have HG := Lib.hid (show Grp.grouped g g s c = Lib.join (Grp.pieces g g s) [c] from rfl)
  clear h hc
  generalize Grp.grouped g g s c = RES at *
  go_enter Tryz.func80, Tryz.ntmps80
  go_wp2_with fail
  refine (C.out _).mono ?_
  rintro e w1 ⟨rfl, hb⟩
  have W1 := Lib.hid hb
  clear hb
  go_wp2_with fail
  refine (CK.out _).mono ?_
  rintro e w' ⟨rfl, rfl⟩
  go_wp2_with fail
  go_loopw [0, 11, 12] (fun u o z wr => ∃ (U : List UInt8) (R : List (List UInt8)) (k : Nat), u = .string ⟨U.toArray⟩ ∧ z = .int .i64 k ∧ 0 < k ∧ k ≤ 4 ∧ U.length ≤ s.length ∧ R.length + U.length ≤ s.length ∧ Hid (wr.ownsRow w.heap.size 9 1 o R.length (R.map txtV)) ∧ Hid (Below w.heap.size w wr) ∧ Hid (Grp.pieces g g s = Grp.pieces k g U ++ R.reverse)) (fun u _ _ _ => strLen u)
  case atStart => exact ⟨s, [], g, rfl, rfl, g1, g4, Nat.le_refl _, by simp, Lib.hid ⟨rfl, .inl ⟨rfl, rfl⟩⟩, W1, Lib.hid (by simp)⟩
  case round =>
    obtain ⟨U, R, k, rfl, rfl, k1, k4, hU, hR, HO, HB, HI⟩ := hrel
    clear W1
    have hsz := size_mkl U
    by_cases hlt : k < U.length
    · have IH := Lib.hid (show Grp.pieces g g s = Grp.pieces g g (U.take (U.length - k)) ++ (R ++ [U.drop (U.length - k)]).reverse by
        rw [HI.out, Grp.pieces_cut k1 hlt]; simp)
      have S1 := fun w => slice_fromI (P := Tryz.prog) 9 Tryz.underlying9 U ((U.length : Int) - (k : Int)) (U.length - k) (by omega) (by omega) w
      have S2 := fun w => slice_toI (P := Tryz.prog) 9 Tryz.underlying9 U ((U.length : Int) - (k : Int)) (U.length - k) (by omega) (by omega) w
      have hlen : (U.take (U.length - k)).length + k = U.length := by simp; omega
      clear HI
      generalize U.take (U.length - k) = U' at *
      generalize U.drop (U.length - k) = x at *
      have hown := HO.out
      have hbs := HB.out.size
      go_wp2_with (at_builtin; refine wpList_append_own _ rfl _ _ 107 rfl w.heap.size 9 i0 (.string ByteArray.empty) 1 16 Tryz.underlying107 hi hz0 hz1 hz2 rfl (by decide) _ _ _ rfl (hown.alloc _) ⟨wr.heap.size, 0, none⟩ 1 1 [txtV x] rfl rfl (cell_one_new _ _ _) (fun x hx => by simp at hx; subst hx; rfl) (by unfold maxLen; omega) (by omega) (by simp; omega) ?_; intro v' w2 hown' hgrow _)
      have HO' := Lib.hid (show w2.ownsRow w.heap.size 9 1 v' (R ++ [x]).length ((R ++ [x]).map txtV) by simpa using hown')
      have HB' := Lib.hid (show Below w.heap.size w w2 from (HB.out.alloc hbs _).grown hgrow (by simp; omega) (fun k hk => (hown.lt k hk).1))
      clear hown hown' hgrow hbs HO HB S1
      go_wp2_with fail
      go_roundw
      case rel => exact ⟨U', R ++ [x], g, rfl, rfl, by omega, by omega, by omega, by simp; omega, HO', HB', IH⟩
      case measure => rw [strLen_mk, strLen_mk]; omega
    · have IE := Lib.hid (show Grp.pieces g g s = (R ++ [U]).reverse by rw [HI.out, Grp.pieces_one (by omega)]; simp)
      clear HI
      have hown := HO.out
      have hbs := HB.out.size
      go_wp2_with (at_builtin; refine wpList_append_own _ rfl _ _ 107 rfl w.heap.size 9 i0 (.string ByteArray.empty) 1 16 Tryz.underlying107 hi hz0 hz1 hz2 rfl (by decide) _ _ _ rfl (hown.alloc _) ⟨wr.heap.size, 0, none⟩ 1 1 [txtV U] rfl rfl (cell_one_new _ _ _) (fun x hx => by simp at hx; subst hx; rfl) (by unfold maxLen; omega) (by omega) (by simp; omega) ?_; intro v' w2 hown' hgrow _)
      have HO' := Lib.hid (show w2.ownsRow w.heap.size 9 1 v' (R ++ [U]).length ((R ++ [U]).map txtV) by simpa using hown')
      have HB' := Lib.hid (show Below w.heap.size w w2 from (HB.out.alloc hbs _).grown hgrow (by simp; omega) (fun k hk => (hown.lt k hk).1))
      clear hown hown' hgrow hbs HO HB
      have hZ : 0 < (R ++ [U]).length := by simp
      have hZl : (R ++ [U]).length ≤ 1000000001 := by simp; omega
      generalize R ++ [U] = Z at *
      obtain ⟨b, cap, rfl, hb1, hb2, hn, hm, hzl, hH⟩ := Lib.holds_of_ownsRow (enc := encStr) (zs := Z) HO'.out (own_ne HO'.out hZ)
      have CR := Lib.hid (Tryz.slices_Reverse_string b 0 cap Z w2 hH (by omega))
      have HS : Hid (∀ q, StrsAt (Sort.putRow encStr (Sort.ahead w2 q) b 0 Z.reverse.toArray) (.slice (some ⟨b, 0, none⟩) Z.length cap) Z.reverse) := Lib.hid (fun q => by
        have t := StrsAt.of_row (Lib.ownsRow_putRow (q := q) (k := Z.length) (ys := Z.reverse) HO'.out (by simp) (Nat.le_refl _))
        rw [List.take_of_length_le (by simp)] at t
        exact t)
      have HB2 := Lib.hid (fun q => Lib.below_putRow (enc := encStr) (q := q) (d := Z.reverse.toArray) HB'.out hb1)
      clear hH HO' HB' hzl hZ
      go_wp2_with fail
      refine CR.out.mono ?_
      rintro e w3 ⟨rfl, q, hw3⟩
      have HS3 := Lib.hid (hw3 ▸ HS.out q)
      have HB3 := Lib.hid (hw3 ▸ HB2.out q)
      clear hw3 HS HB2 CR hb2
      have HR2 := Lib.hid (show RES = Lib.join Z.reverse [c] by rw [HG.out, IE.out])
      have hjl : Lst.total Z.reverse [c] ≤ 2000000000000 := by
        have a := HL.out.1
        rw [HR2.out] at a
        have b := lens_le_join Z.reverse [c]
        unfold Lst.total
        simp only [List.length_cons, List.length_nil, List.length_reverse]
        omega
      have CJ := Lib.hid fun w h => sjoin_any Z.reverse (.slice (some ⟨b, 0, none⟩) Z.length cap) [c] w h (by simp; omega) hjl
      rw [← HR2.out] at CJ
      clear hjl HG HL IE HR2
      go_wp2_with fail
      refine (CJ.out _ (HS3.out.alloc _)).mono ?_
      rintro e w4 ⟨rfl, hb⟩
      have HB4 := Lib.hid (HB3.out.alloc HB3.out.size _ |>.trans (hb.mono (by simp; exact Nat.le_succ_of_le HB3.out.size)))
      clear hb
      go_wp2_with fail
      go_ret2
      exact ⟨rfl, HB4.out⟩

set_option maxRecDepth 100000 in
set_option maxHeartbeats 2000000 in
theorem put_some (s : List UInt8) (g g2 : Nat) (c : UInt8) (w : World) (hs : s.length ≤ 1000000000) (h : digB s = true) (hc : ¬ (48 ≤ (c.toNat : Int) ∧ (c.toNat : Int) ≤ 57)) (g1 : 0 < g) (g4 : g ≤ 4) (h1 : 0 < g2) (h4 : g2 ≤ 4) :
    Calls Tryz.prog 80 #[.string ⟨s.toArray⟩, .int .i64 g, .int .i64 g2, byV c] w fun e w' => e = .returned (.tuple #[.string ⟨(Grp.grouped g g2 s c).toArray⟩, .nilIface]) ∧ Below w.heap.size w w' := by
  obtain ⟨i0, hi, hz0, hz1, hz2⟩ := info_parts infoStrG
  have C := Lib.hid fun w => gdigits_any s w (by omega)
  have CK := Lib.hid fun w => gcheck_ok g g2 (c.toNat : Int) w hc ⟨by omega, by omega, by omega, by omega⟩
  rw [h] at C
  have cb := c.toNat_lt
  have CV : ∀ w : World, (convert 140 9 (.slice (some ⟨w.heap.size, 0, none⟩) 1 1)).run Tryz.prog (w.alloc (.cells #[byV c] 5)) = .ok (.string ⟨[c].toArray⟩) (w.alloc (.cells #[byV c] 5)) := fun w => by
    have q := conv_one (P := Tryz.prog) 140 9 5 Tryz.underlying140 Tryz.underlying5 Tryz.underlying9 (c.toNat : Int) w (by omega) (by omega)
    rw [show UInt8.ofNat (c.toNat : Int).toNat = c by simp] at q
    exact q
  have b1 : ((g : Int) == 0) = false := beq_no (by omega)
  have b2 : ((g2 : Int) == 0) = false := beq_no (by omega)
  have HL := Lib.hid (Grp.grouped_len s.length g g2 s c (Nat.le_refl _))
  have HG := Lib.hid (show Grp.grouped g g2 s c = Lib.join (Grp.pieces g g2 s) [c] from rfl)
  clear h hc
  generalize Grp.grouped g g2 s c = RES at *
  go_enter Tryz.func80, Tryz.ntmps80
  go_wp2_with fail
  refine (C.out _).mono ?_
  rintro e w1 ⟨rfl, hb⟩
  have W1 := Lib.hid hb
  clear hb
  go_wp2_with fail
  refine (CK.out _).mono ?_
  rintro e w' ⟨rfl, rfl⟩
  go_wp2_with fail
  go_loopw [0, 11, 12] (fun u o z wr => ∃ (U : List UInt8) (R : List (List UInt8)) (k : Nat), u = .string ⟨U.toArray⟩ ∧ z = .int .i64 k ∧ 0 < k ∧ k ≤ 4 ∧ U.length ≤ s.length ∧ R.length + U.length ≤ s.length ∧ Hid (wr.ownsRow w.heap.size 9 1 o R.length (R.map txtV)) ∧ Hid (Below w.heap.size w wr) ∧ Hid (Grp.pieces g g2 s = Grp.pieces k g2 U ++ R.reverse)) (fun u _ _ _ => strLen u)
  case atStart => exact ⟨s, [], g, rfl, rfl, g1, g4, Nat.le_refl _, by simp, Lib.hid ⟨rfl, .inl ⟨rfl, rfl⟩⟩, W1, Lib.hid (by simp)⟩
  case round =>
    obtain ⟨U, R, k, rfl, rfl, k1, k4, hU, hR, HO, HB, HI⟩ := hrel
    clear W1
    have hsz := size_mkl U
    by_cases hlt : k < U.length
    · have IH := Lib.hid (show Grp.pieces g g2 s = Grp.pieces g2 g2 (U.take (U.length - k)) ++ (R ++ [U.drop (U.length - k)]).reverse by
        rw [HI.out, Grp.pieces_cut k1 hlt]; simp)
      have S1 := fun w => slice_fromI (P := Tryz.prog) 9 Tryz.underlying9 U ((U.length : Int) - (k : Int)) (U.length - k) (by omega) (by omega) w
      have S2 := fun w => slice_toI (P := Tryz.prog) 9 Tryz.underlying9 U ((U.length : Int) - (k : Int)) (U.length - k) (by omega) (by omega) w
      have hlen : (U.take (U.length - k)).length + k = U.length := by simp; omega
      clear HI
      generalize U.take (U.length - k) = U' at *
      generalize U.drop (U.length - k) = x at *
      have hown := HO.out
      have hbs := HB.out.size
      go_wp2_with (at_builtin; refine wpList_append_own _ rfl _ _ 107 rfl w.heap.size 9 i0 (.string ByteArray.empty) 1 16 Tryz.underlying107 hi hz0 hz1 hz2 rfl (by decide) _ _ _ rfl (hown.alloc _) ⟨wr.heap.size, 0, none⟩ 1 1 [txtV x] rfl rfl (cell_one_new _ _ _) (fun x hx => by simp at hx; subst hx; rfl) (by unfold maxLen; omega) (by omega) (by simp; omega) ?_; intro v' w2 hown' hgrow _)
      have HO' := Lib.hid (show w2.ownsRow w.heap.size 9 1 v' (R ++ [x]).length ((R ++ [x]).map txtV) by simpa using hown')
      have HB' := Lib.hid (show Below w.heap.size w w2 from (HB.out.alloc hbs _).grown hgrow (by simp; omega) (fun k hk => (hown.lt k hk).1))
      clear hown hown' hgrow hbs HO HB S1
      go_wp2_with fail
      go_roundw
      case rel => exact ⟨U', R ++ [x], g2, rfl, rfl, by omega, by omega, by omega, by simp; omega, HO', HB', IH⟩
      case measure => rw [strLen_mk, strLen_mk]; omega
    · have IE := Lib.hid (show Grp.pieces g g2 s = (R ++ [U]).reverse by rw [HI.out, Grp.pieces_one (by omega)]; simp)
      clear HI
      have hown := HO.out
      have hbs := HB.out.size
      go_wp2_with (at_builtin; refine wpList_append_own _ rfl _ _ 107 rfl w.heap.size 9 i0 (.string ByteArray.empty) 1 16 Tryz.underlying107 hi hz0 hz1 hz2 rfl (by decide) _ _ _ rfl (hown.alloc _) ⟨wr.heap.size, 0, none⟩ 1 1 [txtV U] rfl rfl (cell_one_new _ _ _) (fun x hx => by simp at hx; subst hx; rfl) (by unfold maxLen; omega) (by omega) (by simp; omega) ?_; intro v' w2 hown' hgrow _)
      have HO' := Lib.hid (show w2.ownsRow w.heap.size 9 1 v' (R ++ [U]).length ((R ++ [U]).map txtV) by simpa using hown')
      have HB' := Lib.hid (show Below w.heap.size w w2 from (HB.out.alloc hbs _).grown hgrow (by simp; omega) (fun k hk => (hown.lt k hk).1))
      clear hown hown' hgrow hbs HO HB
      have hZ : 0 < (R ++ [U]).length := by simp
      have hZl : (R ++ [U]).length ≤ 1000000001 := by simp; omega
      generalize R ++ [U] = Z at *
      obtain ⟨b, cap, rfl, hb1, hb2, hn, hm, hzl, hH⟩ := Lib.holds_of_ownsRow (enc := encStr) (zs := Z) HO'.out (own_ne HO'.out hZ)
      have CR := Lib.hid (Tryz.slices_Reverse_string b 0 cap Z w2 hH (by omega))
      have HS : Hid (∀ q, StrsAt (Sort.putRow encStr (Sort.ahead w2 q) b 0 Z.reverse.toArray) (.slice (some ⟨b, 0, none⟩) Z.length cap) Z.reverse) := Lib.hid (fun q => by
        have t := StrsAt.of_row (Lib.ownsRow_putRow (q := q) (k := Z.length) (ys := Z.reverse) HO'.out (by simp) (Nat.le_refl _))
        rw [List.take_of_length_le (by simp)] at t
        exact t)
      have HB2 := Lib.hid (fun q => Lib.below_putRow (enc := encStr) (q := q) (d := Z.reverse.toArray) HB'.out hb1)
      clear hH HO' HB' hzl hZ
      go_wp2_with fail
      refine CR.out.mono ?_
      rintro e w3 ⟨rfl, q, hw3⟩
      have HS3 := Lib.hid (hw3 ▸ HS.out q)
      have HB3 := Lib.hid (hw3 ▸ HB2.out q)
      clear hw3 HS HB2 CR hb2
      have HR2 := Lib.hid (show RES = Lib.join Z.reverse [c] by rw [HG.out, IE.out])
      have hjl : Lst.total Z.reverse [c] ≤ 2000000000000 := by
        have a := HL.out.1
        rw [HR2.out] at a
        have b := lens_le_join Z.reverse [c]
        unfold Lst.total
        simp only [List.length_cons, List.length_nil, List.length_reverse]
        omega
      have CJ := Lib.hid fun w h => sjoin_any Z.reverse (.slice (some ⟨b, 0, none⟩) Z.length cap) [c] w h (by simp; omega) hjl
      rw [← HR2.out] at CJ
      clear hjl HG HL IE HR2
      go_wp2_with fail
      refine (CJ.out _ (HS3.out.alloc _)).mono ?_
      rintro e w4 ⟨rfl, hb⟩
      have HB4 := Lib.hid (HB3.out.alloc HB3.out.size _ |>.trans (hb.mono (by simp; exact Nat.le_succ_of_le HB3.out.size)))
      clear hb
      go_wp2_with fail
      go_ret2
      exact ⟨rfl, HB4.out⟩
end Go.Proofs.YtaijjffnamjhiaaGreatDoor
