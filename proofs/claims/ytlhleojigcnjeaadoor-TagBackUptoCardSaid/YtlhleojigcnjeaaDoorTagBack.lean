/- The walk of the law TagBack. Conditions: the library's variable MaxLen holds a number; the tag is of bulk at most 1048576, the text of at most 10000000 bytes. -/
import Derived.Test.YtlhleojigcnjeaaDoorTagTells
namespace Go.Proofs.YtlhleojigcnjeaaDoor
open Go.RowKit

theorem read_bulk (s : List UInt8) : (readT s).l.length + (readT s).s.length + (readT s).r.length + Lib.lens (readT s).vs + (readT s).vs.length ≤ s.length := by
  unfold readT readTag
  cases e : Lib.split (s.map lowC) [45] with
  | nil => simp [noTag, Lib.lens]
  | cons a T =>
    have h := split_small (s.map lowC) e
    have h1 := cutS_small PS1 T
    have h2 := cutR_small PR1 (cutS PS1 T).2
    rw [List.length_map] at h
    dsimp only
    split
    · dsimp only [Option.getD]; omega
    · simp [noTag, Lib.lens]
theorem read_txt {s : List UInt8} (h : readOk s = true) : (tagText (readT s).l (readT s).s (readT s).r (readT s).vs).map lowC = s.map lowC := by
  unfold readOk at h
  obtain ⟨t, ht⟩ := Option.isSome_iff_exists.1 h
  have e : readT s = t := by unfold readT; rw [ht]; rfl
  rw [e]
  unfold readTag at ht
  cases hs : Lib.split (s.map lowC) [45] with
  | nil => rw [hs] at ht; cases ht
  | cons a T =>
    rw [hs] at ht
    dsimp only at ht
    split at ht
    · next hk =>
      obtain rfl := Option.some.inj ht
      unfold okT at hk
      rw [Bool.and_eq_true] at hk
      simpa using hk.2
    · cases ht
theorem read_back {l s r : List UInt8} {vs : List (List UInt8)} (h : tagFault l s r vs = 0) (Y : List UInt8) (hY : Y.map lowC = (tagText l s r vs).map lowC) : readT Y = ⟨l, s, r, vs⟩ ∧ readOk Y = true := by
  have e : readTag PS1 PR1 Y = some ⟨l, s, r, vs⟩ := by
    obtain ⟨T, e, e1, e2, e3⟩ := back h
    unfold readTag
    rw [hY, e]
    dsimp only
    rw [e1, e2, e3, if_pos (by unfold okT; rw [h]; simp)]
  unfold readT readOk
  rw [e]
  exact ⟨rfl, rfl⟩

set_option maxRecDepth 100000 in
set_option maxHeartbeats 2000000 in
theorem tagback_yy (l s r q xl xs xr X Y Z Z1 Z2 : List UInt8) (vs xv : List (List UInt8)) (a : Option Addr) (n c : Nat) (w : World) (hT : MaxW w) (hV : StrsAt w (.slice a n c) vs) (h0 : Nil0 (.slice a n c))
    (bt : l.length + s.length + r.length + Lib.lens vs + vs.length ≤ 100000000) (F : Int) (hF : tagFault l s r vs = F) (hF0 : F = 0)
    (CP : Hid (∀ w : World, MaxW w → Calls Tryd.prog 13 #[.string ⟨q.toArray⟩] w fun e w' => ∃ a n c, e = .returned (.tuple #[.agg #[.string ⟨xl.toArray⟩, .string ⟨xs.toArray⟩, .string ⟨xr.toArray⟩, .slice a n c], .nilIface]) ∧ StrsAt w' (.slice a n c) xv ∧ Nil0 (.slice a n c) ∧ Below w.heap.size w w'))
    (hX : tagText xl xs xr xv = X) (bx : xl.length + xs.length + xr.length + Lib.lens xv + xv.length ≤ 100000000)
    (CL1 : Hid (∀ w : World, Calls Tryd.prog 14 #[.string ⟨X.toArray⟩] w fun e w' => e = .returned (.string ⟨Y.toArray⟩) ∧ Below w.heap.size w w'))
    (CL2 : Hid (∀ w : World, Calls Tryd.prog 14 #[.string ⟨q.toArray⟩] w fun e w' => e = .returned (.string ⟨Y.toArray⟩) ∧ Below w.heap.size w w'))
    (hZ : tagText l s r vs = Z)
    (CA : Hid (∀ w : World, MaxW w → Calls Tryd.prog 13 #[.string ⟨Z.toArray⟩] w fun e w' => ∃ a n c, e = .returned (.tuple #[.agg #[.string ⟨l.toArray⟩, .string ⟨s.toArray⟩, .string ⟨r.toArray⟩, .slice a n c], .nilIface]) ∧ StrsAt w' (.slice a n c) vs ∧ Nil0 (.slice a n c) ∧ Below w.heap.size w w'))
    (CB : Hid (∀ w : World, Calls Tryd.prog 14 #[.string ⟨Z.toArray⟩] w fun e w' => e = .returned (.string ⟨Z1.toArray⟩) ∧ Below w.heap.size w w'))
    (CC : Hid (∀ w : World, MaxW w → Calls Tryd.prog 13 #[.string ⟨Z1.toArray⟩] w fun e w' => ∃ a n c, e = .returned (.tuple #[.agg #[.string ⟨l.toArray⟩, .string ⟨s.toArray⟩, .string ⟨r.toArray⟩, .slice a n c], .nilIface]) ∧ StrsAt w' (.slice a n c) vs ∧ Nil0 (.slice a n c) ∧ Below w.heap.size w w'))
    (CD : Hid (∀ w : World, Calls Tryd.prog 17 #[.string ⟨Z.toArray⟩] w fun e w' => e = .returned (.string ⟨Z2.toArray⟩) ∧ Below w.heap.size w w'))
    (CE : Hid (∀ w : World, MaxW w → Calls Tryd.prog 13 #[.string ⟨Z2.toArray⟩] w fun e w' => ∃ a n c, e = .returned (.tuple #[.agg #[.string ⟨l.toArray⟩, .string ⟨s.toArray⟩, .string ⟨r.toArray⟩, .slice a n c], .nilIface]) ∧ StrsAt w' (.slice a n c) vs ∧ Nil0 (.slice a n c) ∧ Below w.heap.size w w')) :
    Calls Tryd.prog 3 #[.agg #[.string ⟨l.toArray⟩, .string ⟨s.toArray⟩, .string ⟨r.toArray⟩, .slice a n c], .string ⟨q.toArray⟩] w fun e w' => e = .returned (.bool true) ∧ Below w.heap.size w w' := by
  have CK := Lib.hid fun wx (h : Below w.heap.size w wx) => check_any l s r vs (.slice a n c) wx (hV.below h) (by omega) (fun x hx => by have := lens_mem hx; omega)
  rw [hF] at CK
  have CX := Lib.hid fun V wx hv h0 => text_any xl xs xr xv V wx hv h0 bx
  rw [hX] at CX
  clear hX bx
  have CT := Lib.hid fun wx (h : Below w.heap.size w wx) => text_any l s r vs (.slice a n c) wx (hV.below h) h0 bt
  rw [hZ] at CT
  have CS := Lib.hid fun a' n' c' wx hx (h : Below w.heap.size w wx) => sameTag_any l s r l s r vs vs (.slice a' n' c') (.slice a n c) wx hx (hV.below h) (by unfold maxLen; omega) (by unfold maxLen; omega)
  rw [show (decide (vs = vs) && (l == l) && (s == s) && (r == r)) = true by simp] at CS
  subst hF0
  rw [errE_nil rfl] at CK
  clear hZ
  clear hV hF h0 bt
  go_enter Tryd.func3, Tryd.ntmps3
  go_wp2_with fail
  refine (tagged_any _ (hT.below (by repeat (first | exact (Below.refl _ _) | refine blw_drewN ?_ _ | refine Below.setCell ?_ (by first | (simp; done) | omega | (simp; omega)) _ | refine Below.alloc ?_ (by first | (simp; done) | omega | (simp; omega)) _)))).mono ?_
  rintro e w1 ⟨rfl, hb⟩
  have W1 := Lib.hid (blw_trans (show Below w.heap.size w _ by repeat (first | exact (Below.refl _ _) | refine blw_drewN ?_ _ | refine Below.setCell ?_ (by first | (simp; done) | omega | (simp; omega)) _ | refine Below.alloc ?_ (by first | (simp; done) | omega | (simp; omega)) _)) hb)
  have n1 := hb.size
  try simp at n1
  have k1_t0 := cell_keep (a := ⟨w.heap.size, 0, none⟩) (v := .string ⟨l.toArray⟩) (by first | (go_keep; done) | (simp [go_sem, *]; done)) hb
  have k1_t1 := cell_keep (a := ⟨w.heap.size, 1, none⟩) (v := .string ⟨s.toArray⟩) (by first | (go_keep; done) | (simp [go_sem, *]; done)) hb
  have k1_t2 := cell_keep (a := ⟨w.heap.size, 2, none⟩) (v := .string ⟨r.toArray⟩) (by first | (go_keep; done) | (simp [go_sem, *]; done)) hb
  have k1_t3 := cell_keep (a := ⟨w.heap.size, 3, none⟩) (v := .slice a n c) (by first | (go_keep; done) | (simp [go_sem, *]; done)) hb
  have l1_t := World.block_lt_of_cell? _ _ k1_t0
  try simp only at l1_t
  clear hb
  go_wp2_with fail
  refine (CP.out _ (hT.below (by repeat (first | exact W1.out | refine blw_drewN ?_ _ | refine Below.setCell ?_ (by first | (simp; done) | omega | (simp; omega)) _ | refine Below.alloc ?_ (by first | (simp; done) | omega | (simp; omega)) _)))).mono ?_
  rintro e w2 ⟨za1, zn1, zc1, rfl, hv1, hz1, hb⟩
  have W2 := Lib.hid (blw_trans (show Below w.heap.size w _ by repeat (first | exact W1.out | refine blw_drewN ?_ _ | refine Below.setCell ?_ (by first | (simp; done) | omega | (simp; omega)) _ | refine Below.alloc ?_ (by first | (simp; done) | omega | (simp; omega)) _)) hb)
  have n2 := hb.size
  try simp at n2
  have k2_t0 := cell_keep (a := ⟨w.heap.size, 0, none⟩) (v := .string ⟨l.toArray⟩) (by first | (go_keep; done) | (simp [go_sem, *]; done)) hb
  have k2_t1 := cell_keep (a := ⟨w.heap.size, 1, none⟩) (v := .string ⟨s.toArray⟩) (by first | (go_keep; done) | (simp [go_sem, *]; done)) hb
  have k2_t2 := cell_keep (a := ⟨w.heap.size, 2, none⟩) (v := .string ⟨r.toArray⟩) (by first | (go_keep; done) | (simp [go_sem, *]; done)) hb
  have k2_t3 := cell_keep (a := ⟨w.heap.size, 3, none⟩) (v := .slice a n c) (by first | (go_keep; done) | (simp [go_sem, *]; done)) hb
  have l2_t := World.block_lt_of_cell? _ _ k2_t0
  try simp only at l2_t
  clear hb k1_t0 k1_t1 k1_t2 k1_t3 l1_t W1
  have HV1 := Lib.hid hv1
  have HZ1 := Lib.hid hz1
  clear hv1 hz1
  go_wp2_with fail
  refine (CX.out _ _ (show StrsAt _ (.slice za1 zn1 zc1) xv by repeat (first | exact HV1.out | refine StrsAt.alloc ?_ _ | refine StrsAt.drewN ?_ _)) HZ1.out).mono ?_
  rintro e w3 ⟨rfl, hb⟩
  have W3 := Lib.hid (blw_trans (show Below w.heap.size w _ by repeat (first | exact W2.out | refine blw_drewN ?_ _ | refine Below.setCell ?_ (by first | (simp; done) | omega | (simp; omega)) _ | refine Below.alloc ?_ (by first | (simp; done) | omega | (simp; omega)) _)) hb)
  have n3 := hb.size
  try simp at n3
  have k3_t0 := cell_keep (a := ⟨w.heap.size, 0, none⟩) (v := .string ⟨l.toArray⟩) (by first | (go_keep; done) | (simp [go_sem, *]; done)) hb
  have k3_t1 := cell_keep (a := ⟨w.heap.size, 1, none⟩) (v := .string ⟨s.toArray⟩) (by first | (go_keep; done) | (simp [go_sem, *]; done)) hb
  have k3_t2 := cell_keep (a := ⟨w.heap.size, 2, none⟩) (v := .string ⟨r.toArray⟩) (by first | (go_keep; done) | (simp [go_sem, *]; done)) hb
  have k3_t3 := cell_keep (a := ⟨w.heap.size, 3, none⟩) (v := .slice a n c) (by first | (go_keep; done) | (simp [go_sem, *]; done)) hb
  have l3_t := World.block_lt_of_cell? _ _ k3_t0
  try simp only at l3_t
  have H3_x := Lib.hid (StrsAt.below (show StrsAt _ (.slice za1 zn1 zc1) xv by repeat (first | exact HV1.out | refine StrsAt.alloc ?_ _ | refine StrsAt.drewN ?_ _)) hb)
  clear hb HV1 k2_t0 k2_t1 k2_t2 k2_t3 l2_t W2
  clear H3_x
  go_wp2_with fail
  refine (CL1.out _).mono ?_
  rintro e w4 ⟨rfl, hb⟩
  have W4 := Lib.hid (blw_trans (show Below w.heap.size w _ by repeat (first | exact W3.out | refine blw_drewN ?_ _ | refine Below.setCell ?_ (by first | (simp; done) | omega | (simp; omega)) _ | refine Below.alloc ?_ (by first | (simp; done) | omega | (simp; omega)) _)) hb)
  have n4 := hb.size
  try simp at n4
  have k4_t0 := cell_keep (a := ⟨w.heap.size, 0, none⟩) (v := .string ⟨l.toArray⟩) (by first | (go_keep; done) | (simp [go_sem, *]; done)) hb
  have k4_t1 := cell_keep (a := ⟨w.heap.size, 1, none⟩) (v := .string ⟨s.toArray⟩) (by first | (go_keep; done) | (simp [go_sem, *]; done)) hb
  have k4_t2 := cell_keep (a := ⟨w.heap.size, 2, none⟩) (v := .string ⟨r.toArray⟩) (by first | (go_keep; done) | (simp [go_sem, *]; done)) hb
  have k4_t3 := cell_keep (a := ⟨w.heap.size, 3, none⟩) (v := .slice a n c) (by first | (go_keep; done) | (simp [go_sem, *]; done)) hb
  have l4_t := World.block_lt_of_cell? _ _ k4_t0
  try simp only at l4_t
  clear hb k3_t0 k3_t1 k3_t2 k3_t3 l3_t W3
  go_wp2_with fail
  refine (CL2.out _).mono ?_
  rintro e w5 ⟨rfl, hb⟩
  have W5 := Lib.hid (blw_trans (show Below w.heap.size w _ by repeat (first | exact W4.out | refine blw_drewN ?_ _ | refine Below.setCell ?_ (by first | (simp; done) | omega | (simp; omega)) _ | refine Below.alloc ?_ (by first | (simp; done) | omega | (simp; omega)) _)) hb)
  have n5 := hb.size
  try simp at n5
  have k5_t0 := cell_keep (a := ⟨w.heap.size, 0, none⟩) (v := .string ⟨l.toArray⟩) (by first | (go_keep; done) | (simp [go_sem, *]; done)) hb
  have k5_t1 := cell_keep (a := ⟨w.heap.size, 1, none⟩) (v := .string ⟨s.toArray⟩) (by first | (go_keep; done) | (simp [go_sem, *]; done)) hb
  have k5_t2 := cell_keep (a := ⟨w.heap.size, 2, none⟩) (v := .string ⟨r.toArray⟩) (by first | (go_keep; done) | (simp [go_sem, *]; done)) hb
  have k5_t3 := cell_keep (a := ⟨w.heap.size, 3, none⟩) (v := .slice a n c) (by first | (go_keep; done) | (simp [go_sem, *]; done)) hb
  have l5_t := World.block_lt_of_cell? _ _ k5_t0
  try simp only at l5_t
  clear hb k4_t0 k4_t1 k4_t2 k4_t3 l4_t W4
  go_wp2_with fail
  refine (CK.out _ (by repeat (first | exact W5.out | refine blw_drewN ?_ _ | refine Below.setCell ?_ (by first | (simp; done) | omega | (simp; omega)) _ | refine Below.alloc ?_ (by first | (simp; done) | omega | (simp; omega)) _))).mono ?_
  rintro e w6 ⟨rfl, hb⟩
  have W6 := Lib.hid (blw_trans (show Below w.heap.size w _ by repeat (first | exact W5.out | refine blw_drewN ?_ _ | refine Below.setCell ?_ (by first | (simp; done) | omega | (simp; omega)) _ | refine Below.alloc ?_ (by first | (simp; done) | omega | (simp; omega)) _)) hb)
  have n6 := hb.size
  try simp at n6
  have k6_t0 := cell_keep (a := ⟨w.heap.size, 0, none⟩) (v := .string ⟨l.toArray⟩) (by first | (go_keep; done) | (simp [go_sem, *]; done)) hb
  have k6_t1 := cell_keep (a := ⟨w.heap.size, 1, none⟩) (v := .string ⟨s.toArray⟩) (by first | (go_keep; done) | (simp [go_sem, *]; done)) hb
  have k6_t2 := cell_keep (a := ⟨w.heap.size, 2, none⟩) (v := .string ⟨r.toArray⟩) (by first | (go_keep; done) | (simp [go_sem, *]; done)) hb
  have k6_t3 := cell_keep (a := ⟨w.heap.size, 3, none⟩) (v := .slice a n c) (by first | (go_keep; done) | (simp [go_sem, *]; done)) hb
  have l6_t := World.block_lt_of_cell? _ _ k6_t0
  try simp only at l6_t
  clear hb k5_t0 k5_t1 k5_t2 k5_t3 l5_t W5
  go_wp2_with fail
  refine (CT.out _ (by repeat (first | exact W6.out | refine blw_drewN ?_ _ | refine Below.setCell ?_ (by first | (simp; done) | omega | (simp; omega)) _ | refine Below.alloc ?_ (by first | (simp; done) | omega | (simp; omega)) _))).mono ?_
  rintro e w7 ⟨rfl, hb⟩
  have W7 := Lib.hid (blw_trans (show Below w.heap.size w _ by repeat (first | exact W6.out | refine blw_drewN ?_ _ | refine Below.setCell ?_ (by first | (simp; done) | omega | (simp; omega)) _ | refine Below.alloc ?_ (by first | (simp; done) | omega | (simp; omega)) _)) hb)
  have n7 := hb.size
  try simp at n7
  have k7_t0 := cell_keep (a := ⟨w.heap.size, 0, none⟩) (v := .string ⟨l.toArray⟩) (by first | (go_keep; done) | (simp [go_sem, *]; done)) hb
  have k7_t1 := cell_keep (a := ⟨w.heap.size, 1, none⟩) (v := .string ⟨s.toArray⟩) (by first | (go_keep; done) | (simp [go_sem, *]; done)) hb
  have k7_t2 := cell_keep (a := ⟨w.heap.size, 2, none⟩) (v := .string ⟨r.toArray⟩) (by first | (go_keep; done) | (simp [go_sem, *]; done)) hb
  have k7_t3 := cell_keep (a := ⟨w.heap.size, 3, none⟩) (v := .slice a n c) (by first | (go_keep; done) | (simp [go_sem, *]; done)) hb
  have l7_t := World.block_lt_of_cell? _ _ k7_t0
  try simp only at l7_t
  clear hb k6_t0 k6_t1 k6_t2 k6_t3 l6_t W6
  go_wp2_with fail
  refine (CA.out _ (hT.below (by repeat (first | exact W7.out | refine blw_drewN ?_ _ | refine Below.setCell ?_ (by first | (simp; done) | omega | (simp; omega)) _ | refine Below.alloc ?_ (by first | (simp; done) | omega | (simp; omega)) _)))).mono ?_
  rintro e w8 ⟨zyaa, zyan, zyac, rfl, hv1, _, hb⟩
  have W8 := Lib.hid (blw_trans (show Below w.heap.size w _ by repeat (first | exact W7.out | refine blw_drewN ?_ _ | refine Below.setCell ?_ (by first | (simp; done) | omega | (simp; omega)) _ | refine Below.alloc ?_ (by first | (simp; done) | omega | (simp; omega)) _)) hb)
  have n8 := hb.size
  try simp at n8
  have k8_t0 := cell_keep (a := ⟨w.heap.size, 0, none⟩) (v := .string ⟨l.toArray⟩) (by first | (go_keep; done) | (simp [go_sem, *]; done)) hb
  have k8_t1 := cell_keep (a := ⟨w.heap.size, 1, none⟩) (v := .string ⟨s.toArray⟩) (by first | (go_keep; done) | (simp [go_sem, *]; done)) hb
  have k8_t2 := cell_keep (a := ⟨w.heap.size, 2, none⟩) (v := .string ⟨r.toArray⟩) (by first | (go_keep; done) | (simp [go_sem, *]; done)) hb
  have k8_t3 := cell_keep (a := ⟨w.heap.size, 3, none⟩) (v := .slice a n c) (by first | (go_keep; done) | (simp [go_sem, *]; done)) hb
  have l8_t := World.block_lt_of_cell? _ _ k8_t0
  try simp only at l8_t
  clear hb k7_t0 k7_t1 k7_t2 k7_t3 l7_t W7
  have HVya := Lib.hid hv1
  clear hv1
  go_wp2_with fail
  refine (CT.out _ (by repeat (first | exact W8.out | refine blw_drewN ?_ _ | refine Below.setCell ?_ (by first | (simp; done) | omega | (simp; omega)) _ | refine Below.alloc ?_ (by first | (simp; done) | omega | (simp; omega)) _))).mono ?_
  rintro e w9 ⟨rfl, hb⟩
  have W9 := Lib.hid (blw_trans (show Below w.heap.size w _ by repeat (first | exact W8.out | refine blw_drewN ?_ _ | refine Below.setCell ?_ (by first | (simp; done) | omega | (simp; omega)) _ | refine Below.alloc ?_ (by first | (simp; done) | omega | (simp; omega)) _)) hb)
  have n9 := hb.size
  try simp at n9
  have k9_t0 := cell_keep (a := ⟨w.heap.size, 0, none⟩) (v := .string ⟨l.toArray⟩) (by first | (go_keep; done) | (simp [go_sem, *]; done)) hb
  have k9_t1 := cell_keep (a := ⟨w.heap.size, 1, none⟩) (v := .string ⟨s.toArray⟩) (by first | (go_keep; done) | (simp [go_sem, *]; done)) hb
  have k9_t2 := cell_keep (a := ⟨w.heap.size, 2, none⟩) (v := .string ⟨r.toArray⟩) (by first | (go_keep; done) | (simp [go_sem, *]; done)) hb
  have k9_t3 := cell_keep (a := ⟨w.heap.size, 3, none⟩) (v := .slice a n c) (by first | (go_keep; done) | (simp [go_sem, *]; done)) hb
  have l9_t := World.block_lt_of_cell? _ _ k9_t0
  try simp only at l9_t
  have k9_ya0 := cell_keep (a := ⟨w8.heap.size, 0, none⟩) (v := .string ⟨l.toArray⟩) (by first | (go_keep; done) | (simp [go_sem, *]; done)) hb
  have k9_ya1 := cell_keep (a := ⟨w8.heap.size, 1, none⟩) (v := .string ⟨s.toArray⟩) (by first | (go_keep; done) | (simp [go_sem, *]; done)) hb
  have k9_ya2 := cell_keep (a := ⟨w8.heap.size, 2, none⟩) (v := .string ⟨r.toArray⟩) (by first | (go_keep; done) | (simp [go_sem, *]; done)) hb
  have k9_ya3 := cell_keep (a := ⟨w8.heap.size, 3, none⟩) (v := .slice zyaa zyan zyac) (by first | (go_keep; done) | (simp [go_sem, *]; done)) hb
  have l9_ya := World.block_lt_of_cell? _ _ k9_ya0
  try simp only at l9_ya
  have H9_ya := Lib.hid (StrsAt.below (show StrsAt _ (.slice zyaa zyan zyac) vs by repeat (first | exact HVya.out | refine StrsAt.alloc ?_ _ | refine StrsAt.drewN ?_ _)) hb)
  clear hb HVya k8_t0 k8_t1 k8_t2 k8_t3 l8_t W8
  go_wp2_with fail
  refine (CB.out _).mono ?_
  rintro e w10 ⟨rfl, hb⟩
  have W10 := Lib.hid (blw_trans (show Below w.heap.size w _ by repeat (first | exact W9.out | refine blw_drewN ?_ _ | refine Below.setCell ?_ (by first | (simp; done) | omega | (simp; omega)) _ | refine Below.alloc ?_ (by first | (simp; done) | omega | (simp; omega)) _)) hb)
  have n10 := hb.size
  try simp at n10
  have k10_t0 := cell_keep (a := ⟨w.heap.size, 0, none⟩) (v := .string ⟨l.toArray⟩) (by first | (go_keep; done) | (simp [go_sem, *]; done)) hb
  have k10_t1 := cell_keep (a := ⟨w.heap.size, 1, none⟩) (v := .string ⟨s.toArray⟩) (by first | (go_keep; done) | (simp [go_sem, *]; done)) hb
  have k10_t2 := cell_keep (a := ⟨w.heap.size, 2, none⟩) (v := .string ⟨r.toArray⟩) (by first | (go_keep; done) | (simp [go_sem, *]; done)) hb
  have k10_t3 := cell_keep (a := ⟨w.heap.size, 3, none⟩) (v := .slice a n c) (by first | (go_keep; done) | (simp [go_sem, *]; done)) hb
  have l10_t := World.block_lt_of_cell? _ _ k10_t0
  try simp only at l10_t
  have k10_ya0 := cell_keep (a := ⟨w8.heap.size, 0, none⟩) (v := .string ⟨l.toArray⟩) (by first | (go_keep; done) | (simp [go_sem, *]; done)) hb
  have k10_ya1 := cell_keep (a := ⟨w8.heap.size, 1, none⟩) (v := .string ⟨s.toArray⟩) (by first | (go_keep; done) | (simp [go_sem, *]; done)) hb
  have k10_ya2 := cell_keep (a := ⟨w8.heap.size, 2, none⟩) (v := .string ⟨r.toArray⟩) (by first | (go_keep; done) | (simp [go_sem, *]; done)) hb
  have k10_ya3 := cell_keep (a := ⟨w8.heap.size, 3, none⟩) (v := .slice zyaa zyan zyac) (by first | (go_keep; done) | (simp [go_sem, *]; done)) hb
  have l10_ya := World.block_lt_of_cell? _ _ k10_ya0
  try simp only at l10_ya
  have H10_ya := Lib.hid (StrsAt.below (show StrsAt _ (.slice zyaa zyan zyac) vs by repeat (first | exact H9_ya.out | refine StrsAt.alloc ?_ _ | refine StrsAt.drewN ?_ _)) hb)
  clear hb H9_ya k9_t0 k9_t1 k9_t2 k9_t3 l9_t k9_ya0 k9_ya1 k9_ya2 k9_ya3 l9_ya W9
  go_wp2_with fail
  refine (CC.out _ (hT.below (by repeat (first | exact W10.out | refine blw_drewN ?_ _ | refine Below.setCell ?_ (by first | (simp; done) | omega | (simp; omega)) _ | refine Below.alloc ?_ (by first | (simp; done) | omega | (simp; omega)) _)))).mono ?_
  rintro e w11 ⟨zyba, zybn, zybc, rfl, hv1, _, hb⟩
  have W11 := Lib.hid (blw_trans (show Below w.heap.size w _ by repeat (first | exact W10.out | refine blw_drewN ?_ _ | refine Below.setCell ?_ (by first | (simp; done) | omega | (simp; omega)) _ | refine Below.alloc ?_ (by first | (simp; done) | omega | (simp; omega)) _)) hb)
  have n11 := hb.size
  try simp at n11
  have k11_t0 := cell_keep (a := ⟨w.heap.size, 0, none⟩) (v := .string ⟨l.toArray⟩) (by first | (go_keep; done) | (simp [go_sem, *]; done)) hb
  have k11_t1 := cell_keep (a := ⟨w.heap.size, 1, none⟩) (v := .string ⟨s.toArray⟩) (by first | (go_keep; done) | (simp [go_sem, *]; done)) hb
  have k11_t2 := cell_keep (a := ⟨w.heap.size, 2, none⟩) (v := .string ⟨r.toArray⟩) (by first | (go_keep; done) | (simp [go_sem, *]; done)) hb
  have k11_t3 := cell_keep (a := ⟨w.heap.size, 3, none⟩) (v := .slice a n c) (by first | (go_keep; done) | (simp [go_sem, *]; done)) hb
  have l11_t := World.block_lt_of_cell? _ _ k11_t0
  try simp only at l11_t
  have k11_ya0 := cell_keep (a := ⟨w8.heap.size, 0, none⟩) (v := .string ⟨l.toArray⟩) (by first | (go_keep; done) | (simp [go_sem, *]; done)) hb
  have k11_ya1 := cell_keep (a := ⟨w8.heap.size, 1, none⟩) (v := .string ⟨s.toArray⟩) (by first | (go_keep; done) | (simp [go_sem, *]; done)) hb
  have k11_ya2 := cell_keep (a := ⟨w8.heap.size, 2, none⟩) (v := .string ⟨r.toArray⟩) (by first | (go_keep; done) | (simp [go_sem, *]; done)) hb
  have k11_ya3 := cell_keep (a := ⟨w8.heap.size, 3, none⟩) (v := .slice zyaa zyan zyac) (by first | (go_keep; done) | (simp [go_sem, *]; done)) hb
  have l11_ya := World.block_lt_of_cell? _ _ k11_ya0
  try simp only at l11_ya
  have H11_ya := Lib.hid (StrsAt.below (show StrsAt _ (.slice zyaa zyan zyac) vs by repeat (first | exact H10_ya.out | refine StrsAt.alloc ?_ _ | refine StrsAt.drewN ?_ _)) hb)
  clear hb H10_ya k10_t0 k10_t1 k10_t2 k10_t3 l10_t k10_ya0 k10_ya1 k10_ya2 k10_ya3 l10_ya W10
  have HVyb := Lib.hid hv1
  clear hv1
  go_wp2_with fail
  refine (CT.out _ (by repeat (first | exact W11.out | refine blw_drewN ?_ _ | refine Below.setCell ?_ (by first | (simp; done) | omega | (simp; omega)) _ | refine Below.alloc ?_ (by first | (simp; done) | omega | (simp; omega)) _))).mono ?_
  rintro e w12 ⟨rfl, hb⟩
  have W12 := Lib.hid (blw_trans (show Below w.heap.size w _ by repeat (first | exact W11.out | refine blw_drewN ?_ _ | refine Below.setCell ?_ (by first | (simp; done) | omega | (simp; omega)) _ | refine Below.alloc ?_ (by first | (simp; done) | omega | (simp; omega)) _)) hb)
  have n12 := hb.size
  try simp at n12
  have k12_t0 := cell_keep (a := ⟨w.heap.size, 0, none⟩) (v := .string ⟨l.toArray⟩) (by first | (go_keep; done) | (simp [go_sem, *]; done)) hb
  have k12_t1 := cell_keep (a := ⟨w.heap.size, 1, none⟩) (v := .string ⟨s.toArray⟩) (by first | (go_keep; done) | (simp [go_sem, *]; done)) hb
  have k12_t2 := cell_keep (a := ⟨w.heap.size, 2, none⟩) (v := .string ⟨r.toArray⟩) (by first | (go_keep; done) | (simp [go_sem, *]; done)) hb
  have k12_t3 := cell_keep (a := ⟨w.heap.size, 3, none⟩) (v := .slice a n c) (by first | (go_keep; done) | (simp [go_sem, *]; done)) hb
  have l12_t := World.block_lt_of_cell? _ _ k12_t0
  try simp only at l12_t
  have k12_ya0 := cell_keep (a := ⟨w8.heap.size, 0, none⟩) (v := .string ⟨l.toArray⟩) (by first | (go_keep; done) | (simp [go_sem, *]; done)) hb
  have k12_ya1 := cell_keep (a := ⟨w8.heap.size, 1, none⟩) (v := .string ⟨s.toArray⟩) (by first | (go_keep; done) | (simp [go_sem, *]; done)) hb
  have k12_ya2 := cell_keep (a := ⟨w8.heap.size, 2, none⟩) (v := .string ⟨r.toArray⟩) (by first | (go_keep; done) | (simp [go_sem, *]; done)) hb
  have k12_ya3 := cell_keep (a := ⟨w8.heap.size, 3, none⟩) (v := .slice zyaa zyan zyac) (by first | (go_keep; done) | (simp [go_sem, *]; done)) hb
  have l12_ya := World.block_lt_of_cell? _ _ k12_ya0
  try simp only at l12_ya
  have k12_yb0 := cell_keep (a := ⟨w11.heap.size, 0, none⟩) (v := .string ⟨l.toArray⟩) (by first | (go_keep; done) | (simp [go_sem, *]; done)) hb
  have k12_yb1 := cell_keep (a := ⟨w11.heap.size, 1, none⟩) (v := .string ⟨s.toArray⟩) (by first | (go_keep; done) | (simp [go_sem, *]; done)) hb
  have k12_yb2 := cell_keep (a := ⟨w11.heap.size, 2, none⟩) (v := .string ⟨r.toArray⟩) (by first | (go_keep; done) | (simp [go_sem, *]; done)) hb
  have k12_yb3 := cell_keep (a := ⟨w11.heap.size, 3, none⟩) (v := .slice zyba zybn zybc) (by first | (go_keep; done) | (simp [go_sem, *]; done)) hb
  have l12_yb := World.block_lt_of_cell? _ _ k12_yb0
  try simp only at l12_yb
  have H12_ya := Lib.hid (StrsAt.below (show StrsAt _ (.slice zyaa zyan zyac) vs by repeat (first | exact H11_ya.out | refine StrsAt.alloc ?_ _ | refine StrsAt.drewN ?_ _)) hb)
  have H12_yb := Lib.hid (StrsAt.below (show StrsAt _ (.slice zyba zybn zybc) vs by repeat (first | exact HVyb.out | refine StrsAt.alloc ?_ _ | refine StrsAt.drewN ?_ _)) hb)
  clear hb H11_ya HVyb k11_t0 k11_t1 k11_t2 k11_t3 l11_t k11_ya0 k11_ya1 k11_ya2 k11_ya3 l11_ya W11
  go_wp2_with fail
  refine (CD.out _).mono ?_
  rintro e w13 ⟨rfl, hb⟩
  have W13 := Lib.hid (blw_trans (show Below w.heap.size w _ by repeat (first | exact W12.out | refine blw_drewN ?_ _ | refine Below.setCell ?_ (by first | (simp; done) | omega | (simp; omega)) _ | refine Below.alloc ?_ (by first | (simp; done) | omega | (simp; omega)) _)) hb)
  have n13 := hb.size
  try simp at n13
  have k13_t0 := cell_keep (a := ⟨w.heap.size, 0, none⟩) (v := .string ⟨l.toArray⟩) (by first | (go_keep; done) | (simp [go_sem, *]; done)) hb
  have k13_t1 := cell_keep (a := ⟨w.heap.size, 1, none⟩) (v := .string ⟨s.toArray⟩) (by first | (go_keep; done) | (simp [go_sem, *]; done)) hb
  have k13_t2 := cell_keep (a := ⟨w.heap.size, 2, none⟩) (v := .string ⟨r.toArray⟩) (by first | (go_keep; done) | (simp [go_sem, *]; done)) hb
  have k13_t3 := cell_keep (a := ⟨w.heap.size, 3, none⟩) (v := .slice a n c) (by first | (go_keep; done) | (simp [go_sem, *]; done)) hb
  have l13_t := World.block_lt_of_cell? _ _ k13_t0
  try simp only at l13_t
  have k13_ya0 := cell_keep (a := ⟨w8.heap.size, 0, none⟩) (v := .string ⟨l.toArray⟩) (by first | (go_keep; done) | (simp [go_sem, *]; done)) hb
  have k13_ya1 := cell_keep (a := ⟨w8.heap.size, 1, none⟩) (v := .string ⟨s.toArray⟩) (by first | (go_keep; done) | (simp [go_sem, *]; done)) hb
  have k13_ya2 := cell_keep (a := ⟨w8.heap.size, 2, none⟩) (v := .string ⟨r.toArray⟩) (by first | (go_keep; done) | (simp [go_sem, *]; done)) hb
  have k13_ya3 := cell_keep (a := ⟨w8.heap.size, 3, none⟩) (v := .slice zyaa zyan zyac) (by first | (go_keep; done) | (simp [go_sem, *]; done)) hb
  have l13_ya := World.block_lt_of_cell? _ _ k13_ya0
  try simp only at l13_ya
  have k13_yb0 := cell_keep (a := ⟨w11.heap.size, 0, none⟩) (v := .string ⟨l.toArray⟩) (by first | (go_keep; done) | (simp [go_sem, *]; done)) hb
  have k13_yb1 := cell_keep (a := ⟨w11.heap.size, 1, none⟩) (v := .string ⟨s.toArray⟩) (by first | (go_keep; done) | (simp [go_sem, *]; done)) hb
  have k13_yb2 := cell_keep (a := ⟨w11.heap.size, 2, none⟩) (v := .string ⟨r.toArray⟩) (by first | (go_keep; done) | (simp [go_sem, *]; done)) hb
  have k13_yb3 := cell_keep (a := ⟨w11.heap.size, 3, none⟩) (v := .slice zyba zybn zybc) (by first | (go_keep; done) | (simp [go_sem, *]; done)) hb
  have l13_yb := World.block_lt_of_cell? _ _ k13_yb0
  try simp only at l13_yb
  have H13_ya := Lib.hid (StrsAt.below (show StrsAt _ (.slice zyaa zyan zyac) vs by repeat (first | exact H12_ya.out | refine StrsAt.alloc ?_ _ | refine StrsAt.drewN ?_ _)) hb)
  have H13_yb := Lib.hid (StrsAt.below (show StrsAt _ (.slice zyba zybn zybc) vs by repeat (first | exact H12_yb.out | refine StrsAt.alloc ?_ _ | refine StrsAt.drewN ?_ _)) hb)
  clear hb H12_ya H12_yb k12_t0 k12_t1 k12_t2 k12_t3 l12_t k12_ya0 k12_ya1 k12_ya2 k12_ya3 l12_ya k12_yb0 k12_yb1 k12_yb2 k12_yb3 l12_yb W12
  go_wp2_with fail
  refine (CE.out _ (hT.below (by repeat (first | exact W13.out | refine blw_drewN ?_ _ | refine Below.setCell ?_ (by first | (simp; done) | omega | (simp; omega)) _ | refine Below.alloc ?_ (by first | (simp; done) | omega | (simp; omega)) _)))).mono ?_
  rintro e w14 ⟨zyca, zycn, zycc, rfl, hv1, _, hb⟩
  have W14 := Lib.hid (blw_trans (show Below w.heap.size w _ by repeat (first | exact W13.out | refine blw_drewN ?_ _ | refine Below.setCell ?_ (by first | (simp; done) | omega | (simp; omega)) _ | refine Below.alloc ?_ (by first | (simp; done) | omega | (simp; omega)) _)) hb)
  have n14 := hb.size
  try simp at n14
  have k14_t0 := cell_keep (a := ⟨w.heap.size, 0, none⟩) (v := .string ⟨l.toArray⟩) (by first | (go_keep; done) | (simp [go_sem, *]; done)) hb
  have k14_t1 := cell_keep (a := ⟨w.heap.size, 1, none⟩) (v := .string ⟨s.toArray⟩) (by first | (go_keep; done) | (simp [go_sem, *]; done)) hb
  have k14_t2 := cell_keep (a := ⟨w.heap.size, 2, none⟩) (v := .string ⟨r.toArray⟩) (by first | (go_keep; done) | (simp [go_sem, *]; done)) hb
  have k14_t3 := cell_keep (a := ⟨w.heap.size, 3, none⟩) (v := .slice a n c) (by first | (go_keep; done) | (simp [go_sem, *]; done)) hb
  have l14_t := World.block_lt_of_cell? _ _ k14_t0
  try simp only at l14_t
  have k14_ya0 := cell_keep (a := ⟨w8.heap.size, 0, none⟩) (v := .string ⟨l.toArray⟩) (by first | (go_keep; done) | (simp [go_sem, *]; done)) hb
  have k14_ya1 := cell_keep (a := ⟨w8.heap.size, 1, none⟩) (v := .string ⟨s.toArray⟩) (by first | (go_keep; done) | (simp [go_sem, *]; done)) hb
  have k14_ya2 := cell_keep (a := ⟨w8.heap.size, 2, none⟩) (v := .string ⟨r.toArray⟩) (by first | (go_keep; done) | (simp [go_sem, *]; done)) hb
  have k14_ya3 := cell_keep (a := ⟨w8.heap.size, 3, none⟩) (v := .slice zyaa zyan zyac) (by first | (go_keep; done) | (simp [go_sem, *]; done)) hb
  have l14_ya := World.block_lt_of_cell? _ _ k14_ya0
  try simp only at l14_ya
  have k14_yb0 := cell_keep (a := ⟨w11.heap.size, 0, none⟩) (v := .string ⟨l.toArray⟩) (by first | (go_keep; done) | (simp [go_sem, *]; done)) hb
  have k14_yb1 := cell_keep (a := ⟨w11.heap.size, 1, none⟩) (v := .string ⟨s.toArray⟩) (by first | (go_keep; done) | (simp [go_sem, *]; done)) hb
  have k14_yb2 := cell_keep (a := ⟨w11.heap.size, 2, none⟩) (v := .string ⟨r.toArray⟩) (by first | (go_keep; done) | (simp [go_sem, *]; done)) hb
  have k14_yb3 := cell_keep (a := ⟨w11.heap.size, 3, none⟩) (v := .slice zyba zybn zybc) (by first | (go_keep; done) | (simp [go_sem, *]; done)) hb
  have l14_yb := World.block_lt_of_cell? _ _ k14_yb0
  try simp only at l14_yb
  have H14_ya := Lib.hid (StrsAt.below (show StrsAt _ (.slice zyaa zyan zyac) vs by repeat (first | exact H13_ya.out | refine StrsAt.alloc ?_ _ | refine StrsAt.drewN ?_ _)) hb)
  have H14_yb := Lib.hid (StrsAt.below (show StrsAt _ (.slice zyba zybn zybc) vs by repeat (first | exact H13_yb.out | refine StrsAt.alloc ?_ _ | refine StrsAt.drewN ?_ _)) hb)
  clear hb H13_ya H13_yb k13_t0 k13_t1 k13_t2 k13_t3 l13_t k13_ya0 k13_ya1 k13_ya2 k13_ya3 l13_ya k13_yb0 k13_yb1 k13_yb2 k13_yb3 l13_yb W13
  have HVyc := Lib.hid hv1
  clear hv1
  go_wp2_with fail
  refine (CS.out _ _ _ _ (show StrsAt _ (.slice zyaa zyan zyac) vs by repeat (first | exact H14_ya.out | refine StrsAt.alloc ?_ _ | refine StrsAt.drewN ?_ _)) (by repeat (first | exact W14.out | refine blw_drewN ?_ _ | refine Below.setCell ?_ (by first | (simp; done) | omega | (simp; omega)) _ | refine Below.alloc ?_ (by first | (simp; done) | omega | (simp; omega)) _))).mono ?_
  rintro e w15 ⟨rfl, hb⟩
  have W15 := Lib.hid (blw_trans (show Below w.heap.size w _ by repeat (first | exact W14.out | refine blw_drewN ?_ _ | refine Below.setCell ?_ (by first | (simp; done) | omega | (simp; omega)) _ | refine Below.alloc ?_ (by first | (simp; done) | omega | (simp; omega)) _)) hb)
  have n15 := hb.size
  try simp at n15
  have k15_t0 := cell_keep (a := ⟨w.heap.size, 0, none⟩) (v := .string ⟨l.toArray⟩) (by first | (go_keep; done) | (simp [go_sem, *]; done)) hb
  have k15_t1 := cell_keep (a := ⟨w.heap.size, 1, none⟩) (v := .string ⟨s.toArray⟩) (by first | (go_keep; done) | (simp [go_sem, *]; done)) hb
  have k15_t2 := cell_keep (a := ⟨w.heap.size, 2, none⟩) (v := .string ⟨r.toArray⟩) (by first | (go_keep; done) | (simp [go_sem, *]; done)) hb
  have k15_t3 := cell_keep (a := ⟨w.heap.size, 3, none⟩) (v := .slice a n c) (by first | (go_keep; done) | (simp [go_sem, *]; done)) hb
  have l15_t := World.block_lt_of_cell? _ _ k15_t0
  try simp only at l15_t
  have k15_ya0 := cell_keep (a := ⟨w8.heap.size, 0, none⟩) (v := .string ⟨l.toArray⟩) (by first | (go_keep; done) | (simp [go_sem, *]; done)) hb
  have k15_ya1 := cell_keep (a := ⟨w8.heap.size, 1, none⟩) (v := .string ⟨s.toArray⟩) (by first | (go_keep; done) | (simp [go_sem, *]; done)) hb
  have k15_ya2 := cell_keep (a := ⟨w8.heap.size, 2, none⟩) (v := .string ⟨r.toArray⟩) (by first | (go_keep; done) | (simp [go_sem, *]; done)) hb
  have k15_ya3 := cell_keep (a := ⟨w8.heap.size, 3, none⟩) (v := .slice zyaa zyan zyac) (by first | (go_keep; done) | (simp [go_sem, *]; done)) hb
  have l15_ya := World.block_lt_of_cell? _ _ k15_ya0
  try simp only at l15_ya
  have k15_yb0 := cell_keep (a := ⟨w11.heap.size, 0, none⟩) (v := .string ⟨l.toArray⟩) (by first | (go_keep; done) | (simp [go_sem, *]; done)) hb
  have k15_yb1 := cell_keep (a := ⟨w11.heap.size, 1, none⟩) (v := .string ⟨s.toArray⟩) (by first | (go_keep; done) | (simp [go_sem, *]; done)) hb
  have k15_yb2 := cell_keep (a := ⟨w11.heap.size, 2, none⟩) (v := .string ⟨r.toArray⟩) (by first | (go_keep; done) | (simp [go_sem, *]; done)) hb
  have k15_yb3 := cell_keep (a := ⟨w11.heap.size, 3, none⟩) (v := .slice zyba zybn zybc) (by first | (go_keep; done) | (simp [go_sem, *]; done)) hb
  have l15_yb := World.block_lt_of_cell? _ _ k15_yb0
  try simp only at l15_yb
  have k15_yc0 := cell_keep (a := ⟨w14.heap.size, 0, none⟩) (v := .string ⟨l.toArray⟩) (by first | (go_keep; done) | (simp [go_sem, *]; done)) hb
  have k15_yc1 := cell_keep (a := ⟨w14.heap.size, 1, none⟩) (v := .string ⟨s.toArray⟩) (by first | (go_keep; done) | (simp [go_sem, *]; done)) hb
  have k15_yc2 := cell_keep (a := ⟨w14.heap.size, 2, none⟩) (v := .string ⟨r.toArray⟩) (by first | (go_keep; done) | (simp [go_sem, *]; done)) hb
  have k15_yc3 := cell_keep (a := ⟨w14.heap.size, 3, none⟩) (v := .slice zyca zycn zycc) (by first | (go_keep; done) | (simp [go_sem, *]; done)) hb
  have l15_yc := World.block_lt_of_cell? _ _ k15_yc0
  try simp only at l15_yc
  have H15_ya := Lib.hid (StrsAt.below (show StrsAt _ (.slice zyaa zyan zyac) vs by repeat (first | exact H14_ya.out | refine StrsAt.alloc ?_ _ | refine StrsAt.drewN ?_ _)) hb)
  have H15_yb := Lib.hid (StrsAt.below (show StrsAt _ (.slice zyba zybn zybc) vs by repeat (first | exact H14_yb.out | refine StrsAt.alloc ?_ _ | refine StrsAt.drewN ?_ _)) hb)
  have H15_yc := Lib.hid (StrsAt.below (show StrsAt _ (.slice zyca zycn zycc) vs by repeat (first | exact HVyc.out | refine StrsAt.alloc ?_ _ | refine StrsAt.drewN ?_ _)) hb)
  clear hb H14_ya H14_yb HVyc k14_t0 k14_t1 k14_t2 k14_t3 l14_t k14_ya0 k14_ya1 k14_ya2 k14_ya3 l14_ya k14_yb0 k14_yb1 k14_yb2 k14_yb3 l14_yb W14
  go_wp2_with fail
  refine (CS.out _ _ _ _ (show StrsAt _ (.slice zyba zybn zybc) vs by repeat (first | exact H15_yb.out | refine StrsAt.alloc ?_ _ | refine StrsAt.drewN ?_ _)) (by repeat (first | exact W15.out | refine blw_drewN ?_ _ | refine Below.setCell ?_ (by first | (simp; done) | omega | (simp; omega)) _ | refine Below.alloc ?_ (by first | (simp; done) | omega | (simp; omega)) _))).mono ?_
  rintro e w16 ⟨rfl, hb⟩
  have W16 := Lib.hid (blw_trans (show Below w.heap.size w _ by repeat (first | exact W15.out | refine blw_drewN ?_ _ | refine Below.setCell ?_ (by first | (simp; done) | omega | (simp; omega)) _ | refine Below.alloc ?_ (by first | (simp; done) | omega | (simp; omega)) _)) hb)
  have n16 := hb.size
  try simp at n16
  have k16_t0 := cell_keep (a := ⟨w.heap.size, 0, none⟩) (v := .string ⟨l.toArray⟩) (by first | (go_keep; done) | (simp [go_sem, *]; done)) hb
  have k16_t1 := cell_keep (a := ⟨w.heap.size, 1, none⟩) (v := .string ⟨s.toArray⟩) (by first | (go_keep; done) | (simp [go_sem, *]; done)) hb
  have k16_t2 := cell_keep (a := ⟨w.heap.size, 2, none⟩) (v := .string ⟨r.toArray⟩) (by first | (go_keep; done) | (simp [go_sem, *]; done)) hb
  have k16_t3 := cell_keep (a := ⟨w.heap.size, 3, none⟩) (v := .slice a n c) (by first | (go_keep; done) | (simp [go_sem, *]; done)) hb
  have l16_t := World.block_lt_of_cell? _ _ k16_t0
  try simp only at l16_t
  have k16_ya0 := cell_keep (a := ⟨w8.heap.size, 0, none⟩) (v := .string ⟨l.toArray⟩) (by first | (go_keep; done) | (simp [go_sem, *]; done)) hb
  have k16_ya1 := cell_keep (a := ⟨w8.heap.size, 1, none⟩) (v := .string ⟨s.toArray⟩) (by first | (go_keep; done) | (simp [go_sem, *]; done)) hb
  have k16_ya2 := cell_keep (a := ⟨w8.heap.size, 2, none⟩) (v := .string ⟨r.toArray⟩) (by first | (go_keep; done) | (simp [go_sem, *]; done)) hb
  have k16_ya3 := cell_keep (a := ⟨w8.heap.size, 3, none⟩) (v := .slice zyaa zyan zyac) (by first | (go_keep; done) | (simp [go_sem, *]; done)) hb
  have l16_ya := World.block_lt_of_cell? _ _ k16_ya0
  try simp only at l16_ya
  have k16_yb0 := cell_keep (a := ⟨w11.heap.size, 0, none⟩) (v := .string ⟨l.toArray⟩) (by first | (go_keep; done) | (simp [go_sem, *]; done)) hb
  have k16_yb1 := cell_keep (a := ⟨w11.heap.size, 1, none⟩) (v := .string ⟨s.toArray⟩) (by first | (go_keep; done) | (simp [go_sem, *]; done)) hb
  have k16_yb2 := cell_keep (a := ⟨w11.heap.size, 2, none⟩) (v := .string ⟨r.toArray⟩) (by first | (go_keep; done) | (simp [go_sem, *]; done)) hb
  have k16_yb3 := cell_keep (a := ⟨w11.heap.size, 3, none⟩) (v := .slice zyba zybn zybc) (by first | (go_keep; done) | (simp [go_sem, *]; done)) hb
  have l16_yb := World.block_lt_of_cell? _ _ k16_yb0
  try simp only at l16_yb
  have k16_yc0 := cell_keep (a := ⟨w14.heap.size, 0, none⟩) (v := .string ⟨l.toArray⟩) (by first | (go_keep; done) | (simp [go_sem, *]; done)) hb
  have k16_yc1 := cell_keep (a := ⟨w14.heap.size, 1, none⟩) (v := .string ⟨s.toArray⟩) (by first | (go_keep; done) | (simp [go_sem, *]; done)) hb
  have k16_yc2 := cell_keep (a := ⟨w14.heap.size, 2, none⟩) (v := .string ⟨r.toArray⟩) (by first | (go_keep; done) | (simp [go_sem, *]; done)) hb
  have k16_yc3 := cell_keep (a := ⟨w14.heap.size, 3, none⟩) (v := .slice zyca zycn zycc) (by first | (go_keep; done) | (simp [go_sem, *]; done)) hb
  have l16_yc := World.block_lt_of_cell? _ _ k16_yc0
  try simp only at l16_yc
  have H16_ya := Lib.hid (StrsAt.below (show StrsAt _ (.slice zyaa zyan zyac) vs by repeat (first | exact H15_ya.out | refine StrsAt.alloc ?_ _ | refine StrsAt.drewN ?_ _)) hb)
  have H16_yb := Lib.hid (StrsAt.below (show StrsAt _ (.slice zyba zybn zybc) vs by repeat (first | exact H15_yb.out | refine StrsAt.alloc ?_ _ | refine StrsAt.drewN ?_ _)) hb)
  have H16_yc := Lib.hid (StrsAt.below (show StrsAt _ (.slice zyca zycn zycc) vs by repeat (first | exact H15_yc.out | refine StrsAt.alloc ?_ _ | refine StrsAt.drewN ?_ _)) hb)
  clear hb H15_ya H15_yb H15_yc k15_t0 k15_t1 k15_t2 k15_t3 l15_t k15_ya0 k15_ya1 k15_ya2 k15_ya3 l15_ya k15_yb0 k15_yb1 k15_yb2 k15_yb3 l15_yb k15_yc0 k15_yc1 k15_yc2 k15_yc3 l15_yc W15
  go_wp2_with fail
  refine (CS.out _ _ _ _ (show StrsAt _ (.slice zyca zycn zycc) vs by repeat (first | exact H16_yc.out | refine StrsAt.alloc ?_ _ | refine StrsAt.drewN ?_ _)) (by repeat (first | exact W16.out | refine blw_drewN ?_ _ | refine Below.setCell ?_ (by first | (simp; done) | omega | (simp; omega)) _ | refine Below.alloc ?_ (by first | (simp; done) | omega | (simp; omega)) _))).mono ?_
  rintro e w17 ⟨rfl, hb⟩
  have W17 := Lib.hid (blw_trans (show Below w.heap.size w _ by repeat (first | exact W16.out | refine blw_drewN ?_ _ | refine Below.setCell ?_ (by first | (simp; done) | omega | (simp; omega)) _ | refine Below.alloc ?_ (by first | (simp; done) | omega | (simp; omega)) _)) hb)
  have n17 := hb.size
  try simp at n17
  have k17_t0 := cell_keep (a := ⟨w.heap.size, 0, none⟩) (v := .string ⟨l.toArray⟩) (by first | (go_keep; done) | (simp [go_sem, *]; done)) hb
  have k17_t1 := cell_keep (a := ⟨w.heap.size, 1, none⟩) (v := .string ⟨s.toArray⟩) (by first | (go_keep; done) | (simp [go_sem, *]; done)) hb
  have k17_t2 := cell_keep (a := ⟨w.heap.size, 2, none⟩) (v := .string ⟨r.toArray⟩) (by first | (go_keep; done) | (simp [go_sem, *]; done)) hb
  have k17_t3 := cell_keep (a := ⟨w.heap.size, 3, none⟩) (v := .slice a n c) (by first | (go_keep; done) | (simp [go_sem, *]; done)) hb
  have l17_t := World.block_lt_of_cell? _ _ k17_t0
  try simp only at l17_t
  have k17_ya0 := cell_keep (a := ⟨w8.heap.size, 0, none⟩) (v := .string ⟨l.toArray⟩) (by first | (go_keep; done) | (simp [go_sem, *]; done)) hb
  have k17_ya1 := cell_keep (a := ⟨w8.heap.size, 1, none⟩) (v := .string ⟨s.toArray⟩) (by first | (go_keep; done) | (simp [go_sem, *]; done)) hb
  have k17_ya2 := cell_keep (a := ⟨w8.heap.size, 2, none⟩) (v := .string ⟨r.toArray⟩) (by first | (go_keep; done) | (simp [go_sem, *]; done)) hb
  have k17_ya3 := cell_keep (a := ⟨w8.heap.size, 3, none⟩) (v := .slice zyaa zyan zyac) (by first | (go_keep; done) | (simp [go_sem, *]; done)) hb
  have l17_ya := World.block_lt_of_cell? _ _ k17_ya0
  try simp only at l17_ya
  have k17_yb0 := cell_keep (a := ⟨w11.heap.size, 0, none⟩) (v := .string ⟨l.toArray⟩) (by first | (go_keep; done) | (simp [go_sem, *]; done)) hb
  have k17_yb1 := cell_keep (a := ⟨w11.heap.size, 1, none⟩) (v := .string ⟨s.toArray⟩) (by first | (go_keep; done) | (simp [go_sem, *]; done)) hb
  have k17_yb2 := cell_keep (a := ⟨w11.heap.size, 2, none⟩) (v := .string ⟨r.toArray⟩) (by first | (go_keep; done) | (simp [go_sem, *]; done)) hb
  have k17_yb3 := cell_keep (a := ⟨w11.heap.size, 3, none⟩) (v := .slice zyba zybn zybc) (by first | (go_keep; done) | (simp [go_sem, *]; done)) hb
  have l17_yb := World.block_lt_of_cell? _ _ k17_yb0
  try simp only at l17_yb
  have k17_yc0 := cell_keep (a := ⟨w14.heap.size, 0, none⟩) (v := .string ⟨l.toArray⟩) (by first | (go_keep; done) | (simp [go_sem, *]; done)) hb
  have k17_yc1 := cell_keep (a := ⟨w14.heap.size, 1, none⟩) (v := .string ⟨s.toArray⟩) (by first | (go_keep; done) | (simp [go_sem, *]; done)) hb
  have k17_yc2 := cell_keep (a := ⟨w14.heap.size, 2, none⟩) (v := .string ⟨r.toArray⟩) (by first | (go_keep; done) | (simp [go_sem, *]; done)) hb
  have k17_yc3 := cell_keep (a := ⟨w14.heap.size, 3, none⟩) (v := .slice zyca zycn zycc) (by first | (go_keep; done) | (simp [go_sem, *]; done)) hb
  have l17_yc := World.block_lt_of_cell? _ _ k17_yc0
  try simp only at l17_yc
  have H17_ya := Lib.hid (StrsAt.below (show StrsAt _ (.slice zyaa zyan zyac) vs by repeat (first | exact H16_ya.out | refine StrsAt.alloc ?_ _ | refine StrsAt.drewN ?_ _)) hb)
  have H17_yb := Lib.hid (StrsAt.below (show StrsAt _ (.slice zyba zybn zybc) vs by repeat (first | exact H16_yb.out | refine StrsAt.alloc ?_ _ | refine StrsAt.drewN ?_ _)) hb)
  have H17_yc := Lib.hid (StrsAt.below (show StrsAt _ (.slice zyca zycn zycc) vs by repeat (first | exact H16_yc.out | refine StrsAt.alloc ?_ _ | refine StrsAt.drewN ?_ _)) hb)
  clear hb H16_ya H16_yb H16_yc k16_t0 k16_t1 k16_t2 k16_t3 l16_t k16_ya0 k16_ya1 k16_ya2 k16_ya3 l16_ya k16_yb0 k16_yb1 k16_yb2 k16_yb3 l16_yb k16_yc0 k16_yc1 k16_yc2 k16_yc3 l16_yc W16
  go_wp2_with fail
  go_ret
  exact ⟨ret_bool (by first | rfl | (simp; done)), by repeat (first | exact W17.out | refine blw_drewN ?_ _ | refine Below.setCell ?_ (by first | (simp; done) | omega | (simp; omega)) _ | refine Below.alloc ?_ (by first | (simp; done) | omega | (simp; omega)) _)⟩

set_option maxRecDepth 100000 in
set_option maxHeartbeats 2000000 in
theorem tagback_yn (l s r q xl xs xr X Y : List UInt8) (vs xv : List (List UInt8)) (a : Option Addr) (n c : Nat) (w : World) (hT : MaxW w) (hV : StrsAt w (.slice a n c) vs) (_ : Nil0 (.slice a n c))
    (bt : l.length + s.length + r.length + Lib.lens vs + vs.length ≤ 100000000) (F : Int) (hF : tagFault l s r vs = F) (hF0 : ¬ F = 0)
    (CP : Hid (∀ w : World, MaxW w → Calls Tryd.prog 13 #[.string ⟨q.toArray⟩] w fun e w' => ∃ a n c, e = .returned (.tuple #[.agg #[.string ⟨xl.toArray⟩, .string ⟨xs.toArray⟩, .string ⟨xr.toArray⟩, .slice a n c], .nilIface]) ∧ StrsAt w' (.slice a n c) xv ∧ Nil0 (.slice a n c) ∧ Below w.heap.size w w'))
    (hX : tagText xl xs xr xv = X) (bx : xl.length + xs.length + xr.length + Lib.lens xv + xv.length ≤ 100000000)
    (CL1 : Hid (∀ w : World, Calls Tryd.prog 14 #[.string ⟨X.toArray⟩] w fun e w' => e = .returned (.string ⟨Y.toArray⟩) ∧ Below w.heap.size w w'))
    (CL2 : Hid (∀ w : World, Calls Tryd.prog 14 #[.string ⟨q.toArray⟩] w fun e w' => e = .returned (.string ⟨Y.toArray⟩) ∧ Below w.heap.size w w')) :
    Calls Tryd.prog 3 #[.agg #[.string ⟨l.toArray⟩, .string ⟨s.toArray⟩, .string ⟨r.toArray⟩, .slice a n c], .string ⟨q.toArray⟩] w fun e w' => e = .returned (.bool true) ∧ Below w.heap.size w w' := by
  have CK := Lib.hid fun wx (h : Below w.heap.size w wx) => check_any l s r vs (.slice a n c) wx (hV.below h) (by omega) (fun x hx => by have := lens_mem hx; omega)
  rw [hF] at CK
  have CX := Lib.hid fun V wx hv h0 => text_any xl xs xr xv V wx hv h0 bx
  rw [hX] at CX
  clear hX bx
  rw [errE_some hF0] at CK
  clear hV hF  bt
  go_enter Tryd.func3, Tryd.ntmps3
  go_wp2_with fail
  refine (tagged_any _ (hT.below (by repeat (first | exact (Below.refl _ _) | refine blw_drewN ?_ _ | refine Below.setCell ?_ (by first | (simp; done) | omega | (simp; omega)) _ | refine Below.alloc ?_ (by first | (simp; done) | omega | (simp; omega)) _)))).mono ?_
  rintro e w1 ⟨rfl, hb⟩
  have W1 := Lib.hid (blw_trans (show Below w.heap.size w _ by repeat (first | exact (Below.refl _ _) | refine blw_drewN ?_ _ | refine Below.setCell ?_ (by first | (simp; done) | omega | (simp; omega)) _ | refine Below.alloc ?_ (by first | (simp; done) | omega | (simp; omega)) _)) hb)
  have n1 := hb.size
  try simp at n1
  have k1_t0 := cell_keep (a := ⟨w.heap.size, 0, none⟩) (v := .string ⟨l.toArray⟩) (by first | (go_keep; done) | (simp [go_sem, *]; done)) hb
  have k1_t1 := cell_keep (a := ⟨w.heap.size, 1, none⟩) (v := .string ⟨s.toArray⟩) (by first | (go_keep; done) | (simp [go_sem, *]; done)) hb
  have k1_t2 := cell_keep (a := ⟨w.heap.size, 2, none⟩) (v := .string ⟨r.toArray⟩) (by first | (go_keep; done) | (simp [go_sem, *]; done)) hb
  have k1_t3 := cell_keep (a := ⟨w.heap.size, 3, none⟩) (v := .slice a n c) (by first | (go_keep; done) | (simp [go_sem, *]; done)) hb
  have l1_t := World.block_lt_of_cell? _ _ k1_t0
  try simp only at l1_t
  clear hb
  go_wp2_with fail
  refine (CP.out _ (hT.below (by repeat (first | exact W1.out | refine blw_drewN ?_ _ | refine Below.setCell ?_ (by first | (simp; done) | omega | (simp; omega)) _ | refine Below.alloc ?_ (by first | (simp; done) | omega | (simp; omega)) _)))).mono ?_
  rintro e w2 ⟨za1, zn1, zc1, rfl, hv1, hz1, hb⟩
  have W2 := Lib.hid (blw_trans (show Below w.heap.size w _ by repeat (first | exact W1.out | refine blw_drewN ?_ _ | refine Below.setCell ?_ (by first | (simp; done) | omega | (simp; omega)) _ | refine Below.alloc ?_ (by first | (simp; done) | omega | (simp; omega)) _)) hb)
  have n2 := hb.size
  try simp at n2
  have k2_t0 := cell_keep (a := ⟨w.heap.size, 0, none⟩) (v := .string ⟨l.toArray⟩) (by first | (go_keep; done) | (simp [go_sem, *]; done)) hb
  have k2_t1 := cell_keep (a := ⟨w.heap.size, 1, none⟩) (v := .string ⟨s.toArray⟩) (by first | (go_keep; done) | (simp [go_sem, *]; done)) hb
  have k2_t2 := cell_keep (a := ⟨w.heap.size, 2, none⟩) (v := .string ⟨r.toArray⟩) (by first | (go_keep; done) | (simp [go_sem, *]; done)) hb
  have k2_t3 := cell_keep (a := ⟨w.heap.size, 3, none⟩) (v := .slice a n c) (by first | (go_keep; done) | (simp [go_sem, *]; done)) hb
  have l2_t := World.block_lt_of_cell? _ _ k2_t0
  try simp only at l2_t
  clear hb k1_t0 k1_t1 k1_t2 k1_t3 l1_t W1
  have HV1 := Lib.hid hv1
  have HZ1 := Lib.hid hz1
  clear hv1 hz1
  go_wp2_with fail
  refine (CX.out _ _ (show StrsAt _ (.slice za1 zn1 zc1) xv by repeat (first | exact HV1.out | refine StrsAt.alloc ?_ _ | refine StrsAt.drewN ?_ _)) HZ1.out).mono ?_
  rintro e w3 ⟨rfl, hb⟩
  have W3 := Lib.hid (blw_trans (show Below w.heap.size w _ by repeat (first | exact W2.out | refine blw_drewN ?_ _ | refine Below.setCell ?_ (by first | (simp; done) | omega | (simp; omega)) _ | refine Below.alloc ?_ (by first | (simp; done) | omega | (simp; omega)) _)) hb)
  have n3 := hb.size
  try simp at n3
  have k3_t0 := cell_keep (a := ⟨w.heap.size, 0, none⟩) (v := .string ⟨l.toArray⟩) (by first | (go_keep; done) | (simp [go_sem, *]; done)) hb
  have k3_t1 := cell_keep (a := ⟨w.heap.size, 1, none⟩) (v := .string ⟨s.toArray⟩) (by first | (go_keep; done) | (simp [go_sem, *]; done)) hb
  have k3_t2 := cell_keep (a := ⟨w.heap.size, 2, none⟩) (v := .string ⟨r.toArray⟩) (by first | (go_keep; done) | (simp [go_sem, *]; done)) hb
  have k3_t3 := cell_keep (a := ⟨w.heap.size, 3, none⟩) (v := .slice a n c) (by first | (go_keep; done) | (simp [go_sem, *]; done)) hb
  have l3_t := World.block_lt_of_cell? _ _ k3_t0
  try simp only at l3_t
  have H3_x := Lib.hid (StrsAt.below (show StrsAt _ (.slice za1 zn1 zc1) xv by repeat (first | exact HV1.out | refine StrsAt.alloc ?_ _ | refine StrsAt.drewN ?_ _)) hb)
  clear hb HV1 k2_t0 k2_t1 k2_t2 k2_t3 l2_t W2
  clear H3_x
  go_wp2_with fail
  refine (CL1.out _).mono ?_
  rintro e w4 ⟨rfl, hb⟩
  have W4 := Lib.hid (blw_trans (show Below w.heap.size w _ by repeat (first | exact W3.out | refine blw_drewN ?_ _ | refine Below.setCell ?_ (by first | (simp; done) | omega | (simp; omega)) _ | refine Below.alloc ?_ (by first | (simp; done) | omega | (simp; omega)) _)) hb)
  have n4 := hb.size
  try simp at n4
  have k4_t0 := cell_keep (a := ⟨w.heap.size, 0, none⟩) (v := .string ⟨l.toArray⟩) (by first | (go_keep; done) | (simp [go_sem, *]; done)) hb
  have k4_t1 := cell_keep (a := ⟨w.heap.size, 1, none⟩) (v := .string ⟨s.toArray⟩) (by first | (go_keep; done) | (simp [go_sem, *]; done)) hb
  have k4_t2 := cell_keep (a := ⟨w.heap.size, 2, none⟩) (v := .string ⟨r.toArray⟩) (by first | (go_keep; done) | (simp [go_sem, *]; done)) hb
  have k4_t3 := cell_keep (a := ⟨w.heap.size, 3, none⟩) (v := .slice a n c) (by first | (go_keep; done) | (simp [go_sem, *]; done)) hb
  have l4_t := World.block_lt_of_cell? _ _ k4_t0
  try simp only at l4_t
  clear hb k3_t0 k3_t1 k3_t2 k3_t3 l3_t W3
  go_wp2_with fail
  refine (CL2.out _).mono ?_
  rintro e w5 ⟨rfl, hb⟩
  have W5 := Lib.hid (blw_trans (show Below w.heap.size w _ by repeat (first | exact W4.out | refine blw_drewN ?_ _ | refine Below.setCell ?_ (by first | (simp; done) | omega | (simp; omega)) _ | refine Below.alloc ?_ (by first | (simp; done) | omega | (simp; omega)) _)) hb)
  have n5 := hb.size
  try simp at n5
  have k5_t0 := cell_keep (a := ⟨w.heap.size, 0, none⟩) (v := .string ⟨l.toArray⟩) (by first | (go_keep; done) | (simp [go_sem, *]; done)) hb
  have k5_t1 := cell_keep (a := ⟨w.heap.size, 1, none⟩) (v := .string ⟨s.toArray⟩) (by first | (go_keep; done) | (simp [go_sem, *]; done)) hb
  have k5_t2 := cell_keep (a := ⟨w.heap.size, 2, none⟩) (v := .string ⟨r.toArray⟩) (by first | (go_keep; done) | (simp [go_sem, *]; done)) hb
  have k5_t3 := cell_keep (a := ⟨w.heap.size, 3, none⟩) (v := .slice a n c) (by first | (go_keep; done) | (simp [go_sem, *]; done)) hb
  have l5_t := World.block_lt_of_cell? _ _ k5_t0
  try simp only at l5_t
  clear hb k4_t0 k4_t1 k4_t2 k4_t3 l4_t W4
  go_wp2_with fail
  refine (CK.out _ (by repeat (first | exact W5.out | refine blw_drewN ?_ _ | refine Below.setCell ?_ (by first | (simp; done) | omega | (simp; omega)) _ | refine Below.alloc ?_ (by first | (simp; done) | omega | (simp; omega)) _))).mono ?_
  rintro e w6 ⟨rfl, hb⟩
  have W6 := Lib.hid (blw_trans (show Below w.heap.size w _ by repeat (first | exact W5.out | refine blw_drewN ?_ _ | refine Below.setCell ?_ (by first | (simp; done) | omega | (simp; omega)) _ | refine Below.alloc ?_ (by first | (simp; done) | omega | (simp; omega)) _)) hb)
  have n6 := hb.size
  try simp at n6
  have k6_t0 := cell_keep (a := ⟨w.heap.size, 0, none⟩) (v := .string ⟨l.toArray⟩) (by first | (go_keep; done) | (simp [go_sem, *]; done)) hb
  have k6_t1 := cell_keep (a := ⟨w.heap.size, 1, none⟩) (v := .string ⟨s.toArray⟩) (by first | (go_keep; done) | (simp [go_sem, *]; done)) hb
  have k6_t2 := cell_keep (a := ⟨w.heap.size, 2, none⟩) (v := .string ⟨r.toArray⟩) (by first | (go_keep; done) | (simp [go_sem, *]; done)) hb
  have k6_t3 := cell_keep (a := ⟨w.heap.size, 3, none⟩) (v := .slice a n c) (by first | (go_keep; done) | (simp [go_sem, *]; done)) hb
  have l6_t := World.block_lt_of_cell? _ _ k6_t0
  try simp only at l6_t
  clear hb k5_t0 k5_t1 k5_t2 k5_t3 l5_t W5
  go_wp2_with fail
  go_ret
  exact ⟨ret_bool (by first | rfl | (simp; done)), by repeat (first | exact W6.out | refine blw_drewN ?_ _ | refine Below.setCell ?_ (by first | (simp; done) | omega | (simp; omega)) _ | refine Below.alloc ?_ (by first | (simp; done) | omega | (simp; omega)) _)⟩

set_option maxRecDepth 100000 in
set_option maxHeartbeats 2000000 in
theorem tagback_ny (l s r q xl xs xr Z Z1 Z2 : List UInt8) (vs xv : List (List UInt8)) (a : Option Addr) (n c : Nat) (w : World) (hT : MaxW w) (hV : StrsAt w (.slice a n c) vs) (h0 : Nil0 (.slice a n c))
    (bt : l.length + s.length + r.length + Lib.lens vs + vs.length ≤ 100000000) (F : Int) (hF : tagFault l s r vs = F) (hF0 : F = 0)
    (CP : Hid (∀ w : World, MaxW w → Calls Tryd.prog 13 #[.string ⟨q.toArray⟩] w fun e w' => ∃ a n c, e = .returned (.tuple #[.agg #[.string ⟨xl.toArray⟩, .string ⟨xs.toArray⟩, .string ⟨xr.toArray⟩, .slice a n c], errV 3]) ∧ StrsAt w' (.slice a n c) xv ∧ Nil0 (.slice a n c) ∧ Below w.heap.size w w'))
    (hZ : tagText l s r vs = Z)
    (CA : Hid (∀ w : World, MaxW w → Calls Tryd.prog 13 #[.string ⟨Z.toArray⟩] w fun e w' => ∃ a n c, e = .returned (.tuple #[.agg #[.string ⟨l.toArray⟩, .string ⟨s.toArray⟩, .string ⟨r.toArray⟩, .slice a n c], .nilIface]) ∧ StrsAt w' (.slice a n c) vs ∧ Nil0 (.slice a n c) ∧ Below w.heap.size w w'))
    (CB : Hid (∀ w : World, Calls Tryd.prog 14 #[.string ⟨Z.toArray⟩] w fun e w' => e = .returned (.string ⟨Z1.toArray⟩) ∧ Below w.heap.size w w'))
    (CC : Hid (∀ w : World, MaxW w → Calls Tryd.prog 13 #[.string ⟨Z1.toArray⟩] w fun e w' => ∃ a n c, e = .returned (.tuple #[.agg #[.string ⟨l.toArray⟩, .string ⟨s.toArray⟩, .string ⟨r.toArray⟩, .slice a n c], .nilIface]) ∧ StrsAt w' (.slice a n c) vs ∧ Nil0 (.slice a n c) ∧ Below w.heap.size w w'))
    (CD : Hid (∀ w : World, Calls Tryd.prog 17 #[.string ⟨Z.toArray⟩] w fun e w' => e = .returned (.string ⟨Z2.toArray⟩) ∧ Below w.heap.size w w'))
    (CE : Hid (∀ w : World, MaxW w → Calls Tryd.prog 13 #[.string ⟨Z2.toArray⟩] w fun e w' => ∃ a n c, e = .returned (.tuple #[.agg #[.string ⟨l.toArray⟩, .string ⟨s.toArray⟩, .string ⟨r.toArray⟩, .slice a n c], .nilIface]) ∧ StrsAt w' (.slice a n c) vs ∧ Nil0 (.slice a n c) ∧ Below w.heap.size w w')) :
    Calls Tryd.prog 3 #[.agg #[.string ⟨l.toArray⟩, .string ⟨s.toArray⟩, .string ⟨r.toArray⟩, .slice a n c], .string ⟨q.toArray⟩] w fun e w' => e = .returned (.bool true) ∧ Below w.heap.size w w' := by
  have CK := Lib.hid fun wx (h : Below w.heap.size w wx) => check_any l s r vs (.slice a n c) wx (hV.below h) (by omega) (fun x hx => by have := lens_mem hx; omega)
  rw [hF] at CK
  have CT := Lib.hid fun wx (h : Below w.heap.size w wx) => text_any l s r vs (.slice a n c) wx (hV.below h) h0 bt
  rw [hZ] at CT
  have CS := Lib.hid fun a' n' c' wx hx (h : Below w.heap.size w wx) => sameTag_any l s r l s r vs vs (.slice a' n' c') (.slice a n c) wx hx (hV.below h) (by unfold maxLen; omega) (by unfold maxLen; omega)
  rw [show (decide (vs = vs) && (l == l) && (s == s) && (r == r)) = true by simp] at CS
  subst hF0
  rw [errE_nil rfl] at CK
  clear hZ
  clear hV hF h0 bt
  go_enter Tryd.func3, Tryd.ntmps3
  go_wp2_with fail
  refine (tagged_any _ (hT.below (by repeat (first | exact (Below.refl _ _) | refine blw_drewN ?_ _ | refine Below.setCell ?_ (by first | (simp; done) | omega | (simp; omega)) _ | refine Below.alloc ?_ (by first | (simp; done) | omega | (simp; omega)) _)))).mono ?_
  rintro e w1 ⟨rfl, hb⟩
  have W1 := Lib.hid (blw_trans (show Below w.heap.size w _ by repeat (first | exact (Below.refl _ _) | refine blw_drewN ?_ _ | refine Below.setCell ?_ (by first | (simp; done) | omega | (simp; omega)) _ | refine Below.alloc ?_ (by first | (simp; done) | omega | (simp; omega)) _)) hb)
  have n1 := hb.size
  try simp at n1
  have k1_t0 := cell_keep (a := ⟨w.heap.size, 0, none⟩) (v := .string ⟨l.toArray⟩) (by first | (go_keep; done) | (simp [go_sem, *]; done)) hb
  have k1_t1 := cell_keep (a := ⟨w.heap.size, 1, none⟩) (v := .string ⟨s.toArray⟩) (by first | (go_keep; done) | (simp [go_sem, *]; done)) hb
  have k1_t2 := cell_keep (a := ⟨w.heap.size, 2, none⟩) (v := .string ⟨r.toArray⟩) (by first | (go_keep; done) | (simp [go_sem, *]; done)) hb
  have k1_t3 := cell_keep (a := ⟨w.heap.size, 3, none⟩) (v := .slice a n c) (by first | (go_keep; done) | (simp [go_sem, *]; done)) hb
  have l1_t := World.block_lt_of_cell? _ _ k1_t0
  try simp only at l1_t
  clear hb
  go_wp2_with fail
  refine (CP.out _ (hT.below (by repeat (first | exact W1.out | refine blw_drewN ?_ _ | refine Below.setCell ?_ (by first | (simp; done) | omega | (simp; omega)) _ | refine Below.alloc ?_ (by first | (simp; done) | omega | (simp; omega)) _)))).mono ?_
  rintro e w2 ⟨za1, zn1, zc1, rfl, hv1, hz1, hb⟩
  have W2 := Lib.hid (blw_trans (show Below w.heap.size w _ by repeat (first | exact W1.out | refine blw_drewN ?_ _ | refine Below.setCell ?_ (by first | (simp; done) | omega | (simp; omega)) _ | refine Below.alloc ?_ (by first | (simp; done) | omega | (simp; omega)) _)) hb)
  have n2 := hb.size
  try simp at n2
  have k2_t0 := cell_keep (a := ⟨w.heap.size, 0, none⟩) (v := .string ⟨l.toArray⟩) (by first | (go_keep; done) | (simp [go_sem, *]; done)) hb
  have k2_t1 := cell_keep (a := ⟨w.heap.size, 1, none⟩) (v := .string ⟨s.toArray⟩) (by first | (go_keep; done) | (simp [go_sem, *]; done)) hb
  have k2_t2 := cell_keep (a := ⟨w.heap.size, 2, none⟩) (v := .string ⟨r.toArray⟩) (by first | (go_keep; done) | (simp [go_sem, *]; done)) hb
  have k2_t3 := cell_keep (a := ⟨w.heap.size, 3, none⟩) (v := .slice a n c) (by first | (go_keep; done) | (simp [go_sem, *]; done)) hb
  have l2_t := World.block_lt_of_cell? _ _ k2_t0
  try simp only at l2_t
  clear hb k1_t0 k1_t1 k1_t2 k1_t3 l1_t W1
  have HV1 := Lib.hid hv1
  have HZ1 := Lib.hid hz1
  clear hv1 hz1
  clear HV1
  go_wp2_with fail
  refine (CK.out _ (by repeat (first | exact W2.out | refine blw_drewN ?_ _ | refine Below.setCell ?_ (by first | (simp; done) | omega | (simp; omega)) _ | refine Below.alloc ?_ (by first | (simp; done) | omega | (simp; omega)) _))).mono ?_
  rintro e w3 ⟨rfl, hb⟩
  have W3 := Lib.hid (blw_trans (show Below w.heap.size w _ by repeat (first | exact W2.out | refine blw_drewN ?_ _ | refine Below.setCell ?_ (by first | (simp; done) | omega | (simp; omega)) _ | refine Below.alloc ?_ (by first | (simp; done) | omega | (simp; omega)) _)) hb)
  have n3 := hb.size
  try simp at n3
  have k3_t0 := cell_keep (a := ⟨w.heap.size, 0, none⟩) (v := .string ⟨l.toArray⟩) (by first | (go_keep; done) | (simp [go_sem, *]; done)) hb
  have k3_t1 := cell_keep (a := ⟨w.heap.size, 1, none⟩) (v := .string ⟨s.toArray⟩) (by first | (go_keep; done) | (simp [go_sem, *]; done)) hb
  have k3_t2 := cell_keep (a := ⟨w.heap.size, 2, none⟩) (v := .string ⟨r.toArray⟩) (by first | (go_keep; done) | (simp [go_sem, *]; done)) hb
  have k3_t3 := cell_keep (a := ⟨w.heap.size, 3, none⟩) (v := .slice a n c) (by first | (go_keep; done) | (simp [go_sem, *]; done)) hb
  have l3_t := World.block_lt_of_cell? _ _ k3_t0
  try simp only at l3_t
  clear hb k2_t0 k2_t1 k2_t2 k2_t3 l2_t W2
  go_wp2_with fail
  refine (CT.out _ (by repeat (first | exact W3.out | refine blw_drewN ?_ _ | refine Below.setCell ?_ (by first | (simp; done) | omega | (simp; omega)) _ | refine Below.alloc ?_ (by first | (simp; done) | omega | (simp; omega)) _))).mono ?_
  rintro e w4 ⟨rfl, hb⟩
  have W4 := Lib.hid (blw_trans (show Below w.heap.size w _ by repeat (first | exact W3.out | refine blw_drewN ?_ _ | refine Below.setCell ?_ (by first | (simp; done) | omega | (simp; omega)) _ | refine Below.alloc ?_ (by first | (simp; done) | omega | (simp; omega)) _)) hb)
  have n4 := hb.size
  try simp at n4
  have k4_t0 := cell_keep (a := ⟨w.heap.size, 0, none⟩) (v := .string ⟨l.toArray⟩) (by first | (go_keep; done) | (simp [go_sem, *]; done)) hb
  have k4_t1 := cell_keep (a := ⟨w.heap.size, 1, none⟩) (v := .string ⟨s.toArray⟩) (by first | (go_keep; done) | (simp [go_sem, *]; done)) hb
  have k4_t2 := cell_keep (a := ⟨w.heap.size, 2, none⟩) (v := .string ⟨r.toArray⟩) (by first | (go_keep; done) | (simp [go_sem, *]; done)) hb
  have k4_t3 := cell_keep (a := ⟨w.heap.size, 3, none⟩) (v := .slice a n c) (by first | (go_keep; done) | (simp [go_sem, *]; done)) hb
  have l4_t := World.block_lt_of_cell? _ _ k4_t0
  try simp only at l4_t
  clear hb k3_t0 k3_t1 k3_t2 k3_t3 l3_t W3
  go_wp2_with fail
  refine (CA.out _ (hT.below (by repeat (first | exact W4.out | refine blw_drewN ?_ _ | refine Below.setCell ?_ (by first | (simp; done) | omega | (simp; omega)) _ | refine Below.alloc ?_ (by first | (simp; done) | omega | (simp; omega)) _)))).mono ?_
  rintro e w5 ⟨zyaa, zyan, zyac, rfl, hv1, _, hb⟩
  have W5 := Lib.hid (blw_trans (show Below w.heap.size w _ by repeat (first | exact W4.out | refine blw_drewN ?_ _ | refine Below.setCell ?_ (by first | (simp; done) | omega | (simp; omega)) _ | refine Below.alloc ?_ (by first | (simp; done) | omega | (simp; omega)) _)) hb)
  have n5 := hb.size
  try simp at n5
  have k5_t0 := cell_keep (a := ⟨w.heap.size, 0, none⟩) (v := .string ⟨l.toArray⟩) (by first | (go_keep; done) | (simp [go_sem, *]; done)) hb
  have k5_t1 := cell_keep (a := ⟨w.heap.size, 1, none⟩) (v := .string ⟨s.toArray⟩) (by first | (go_keep; done) | (simp [go_sem, *]; done)) hb
  have k5_t2 := cell_keep (a := ⟨w.heap.size, 2, none⟩) (v := .string ⟨r.toArray⟩) (by first | (go_keep; done) | (simp [go_sem, *]; done)) hb
  have k5_t3 := cell_keep (a := ⟨w.heap.size, 3, none⟩) (v := .slice a n c) (by first | (go_keep; done) | (simp [go_sem, *]; done)) hb
  have l5_t := World.block_lt_of_cell? _ _ k5_t0
  try simp only at l5_t
  clear hb k4_t0 k4_t1 k4_t2 k4_t3 l4_t W4
  have HVya := Lib.hid hv1
  clear hv1
  go_wp2_with fail
  refine (CT.out _ (by repeat (first | exact W5.out | refine blw_drewN ?_ _ | refine Below.setCell ?_ (by first | (simp; done) | omega | (simp; omega)) _ | refine Below.alloc ?_ (by first | (simp; done) | omega | (simp; omega)) _))).mono ?_
  rintro e w6 ⟨rfl, hb⟩
  have W6 := Lib.hid (blw_trans (show Below w.heap.size w _ by repeat (first | exact W5.out | refine blw_drewN ?_ _ | refine Below.setCell ?_ (by first | (simp; done) | omega | (simp; omega)) _ | refine Below.alloc ?_ (by first | (simp; done) | omega | (simp; omega)) _)) hb)
  have n6 := hb.size
  try simp at n6
  have k6_t0 := cell_keep (a := ⟨w.heap.size, 0, none⟩) (v := .string ⟨l.toArray⟩) (by first | (go_keep; done) | (simp [go_sem, *]; done)) hb
  have k6_t1 := cell_keep (a := ⟨w.heap.size, 1, none⟩) (v := .string ⟨s.toArray⟩) (by first | (go_keep; done) | (simp [go_sem, *]; done)) hb
  have k6_t2 := cell_keep (a := ⟨w.heap.size, 2, none⟩) (v := .string ⟨r.toArray⟩) (by first | (go_keep; done) | (simp [go_sem, *]; done)) hb
  have k6_t3 := cell_keep (a := ⟨w.heap.size, 3, none⟩) (v := .slice a n c) (by first | (go_keep; done) | (simp [go_sem, *]; done)) hb
  have l6_t := World.block_lt_of_cell? _ _ k6_t0
  try simp only at l6_t
  have k6_ya0 := cell_keep (a := ⟨w5.heap.size, 0, none⟩) (v := .string ⟨l.toArray⟩) (by first | (go_keep; done) | (simp [go_sem, *]; done)) hb
  have k6_ya1 := cell_keep (a := ⟨w5.heap.size, 1, none⟩) (v := .string ⟨s.toArray⟩) (by first | (go_keep; done) | (simp [go_sem, *]; done)) hb
  have k6_ya2 := cell_keep (a := ⟨w5.heap.size, 2, none⟩) (v := .string ⟨r.toArray⟩) (by first | (go_keep; done) | (simp [go_sem, *]; done)) hb
  have k6_ya3 := cell_keep (a := ⟨w5.heap.size, 3, none⟩) (v := .slice zyaa zyan zyac) (by first | (go_keep; done) | (simp [go_sem, *]; done)) hb
  have l6_ya := World.block_lt_of_cell? _ _ k6_ya0
  try simp only at l6_ya
  have H6_ya := Lib.hid (StrsAt.below (show StrsAt _ (.slice zyaa zyan zyac) vs by repeat (first | exact HVya.out | refine StrsAt.alloc ?_ _ | refine StrsAt.drewN ?_ _)) hb)
  clear hb HVya k5_t0 k5_t1 k5_t2 k5_t3 l5_t W5
  go_wp2_with fail
  refine (CB.out _).mono ?_
  rintro e w7 ⟨rfl, hb⟩
  have W7 := Lib.hid (blw_trans (show Below w.heap.size w _ by repeat (first | exact W6.out | refine blw_drewN ?_ _ | refine Below.setCell ?_ (by first | (simp; done) | omega | (simp; omega)) _ | refine Below.alloc ?_ (by first | (simp; done) | omega | (simp; omega)) _)) hb)
  have n7 := hb.size
  try simp at n7
  have k7_t0 := cell_keep (a := ⟨w.heap.size, 0, none⟩) (v := .string ⟨l.toArray⟩) (by first | (go_keep; done) | (simp [go_sem, *]; done)) hb
  have k7_t1 := cell_keep (a := ⟨w.heap.size, 1, none⟩) (v := .string ⟨s.toArray⟩) (by first | (go_keep; done) | (simp [go_sem, *]; done)) hb
  have k7_t2 := cell_keep (a := ⟨w.heap.size, 2, none⟩) (v := .string ⟨r.toArray⟩) (by first | (go_keep; done) | (simp [go_sem, *]; done)) hb
  have k7_t3 := cell_keep (a := ⟨w.heap.size, 3, none⟩) (v := .slice a n c) (by first | (go_keep; done) | (simp [go_sem, *]; done)) hb
  have l7_t := World.block_lt_of_cell? _ _ k7_t0
  try simp only at l7_t
  have k7_ya0 := cell_keep (a := ⟨w5.heap.size, 0, none⟩) (v := .string ⟨l.toArray⟩) (by first | (go_keep; done) | (simp [go_sem, *]; done)) hb
  have k7_ya1 := cell_keep (a := ⟨w5.heap.size, 1, none⟩) (v := .string ⟨s.toArray⟩) (by first | (go_keep; done) | (simp [go_sem, *]; done)) hb
  have k7_ya2 := cell_keep (a := ⟨w5.heap.size, 2, none⟩) (v := .string ⟨r.toArray⟩) (by first | (go_keep; done) | (simp [go_sem, *]; done)) hb
  have k7_ya3 := cell_keep (a := ⟨w5.heap.size, 3, none⟩) (v := .slice zyaa zyan zyac) (by first | (go_keep; done) | (simp [go_sem, *]; done)) hb
  have l7_ya := World.block_lt_of_cell? _ _ k7_ya0
  try simp only at l7_ya
  have H7_ya := Lib.hid (StrsAt.below (show StrsAt _ (.slice zyaa zyan zyac) vs by repeat (first | exact H6_ya.out | refine StrsAt.alloc ?_ _ | refine StrsAt.drewN ?_ _)) hb)
  clear hb H6_ya k6_t0 k6_t1 k6_t2 k6_t3 l6_t k6_ya0 k6_ya1 k6_ya2 k6_ya3 l6_ya W6
  go_wp2_with fail
  refine (CC.out _ (hT.below (by repeat (first | exact W7.out | refine blw_drewN ?_ _ | refine Below.setCell ?_ (by first | (simp; done) | omega | (simp; omega)) _ | refine Below.alloc ?_ (by first | (simp; done) | omega | (simp; omega)) _)))).mono ?_
  rintro e w8 ⟨zyba, zybn, zybc, rfl, hv1, _, hb⟩
  have W8 := Lib.hid (blw_trans (show Below w.heap.size w _ by repeat (first | exact W7.out | refine blw_drewN ?_ _ | refine Below.setCell ?_ (by first | (simp; done) | omega | (simp; omega)) _ | refine Below.alloc ?_ (by first | (simp; done) | omega | (simp; omega)) _)) hb)
  have n8 := hb.size
  try simp at n8
  have k8_t0 := cell_keep (a := ⟨w.heap.size, 0, none⟩) (v := .string ⟨l.toArray⟩) (by first | (go_keep; done) | (simp [go_sem, *]; done)) hb
  have k8_t1 := cell_keep (a := ⟨w.heap.size, 1, none⟩) (v := .string ⟨s.toArray⟩) (by first | (go_keep; done) | (simp [go_sem, *]; done)) hb
  have k8_t2 := cell_keep (a := ⟨w.heap.size, 2, none⟩) (v := .string ⟨r.toArray⟩) (by first | (go_keep; done) | (simp [go_sem, *]; done)) hb
  have k8_t3 := cell_keep (a := ⟨w.heap.size, 3, none⟩) (v := .slice a n c) (by first | (go_keep; done) | (simp [go_sem, *]; done)) hb
  have l8_t := World.block_lt_of_cell? _ _ k8_t0
  try simp only at l8_t
  have k8_ya0 := cell_keep (a := ⟨w5.heap.size, 0, none⟩) (v := .string ⟨l.toArray⟩) (by first | (go_keep; done) | (simp [go_sem, *]; done)) hb
  have k8_ya1 := cell_keep (a := ⟨w5.heap.size, 1, none⟩) (v := .string ⟨s.toArray⟩) (by first | (go_keep; done) | (simp [go_sem, *]; done)) hb
  have k8_ya2 := cell_keep (a := ⟨w5.heap.size, 2, none⟩) (v := .string ⟨r.toArray⟩) (by first | (go_keep; done) | (simp [go_sem, *]; done)) hb
  have k8_ya3 := cell_keep (a := ⟨w5.heap.size, 3, none⟩) (v := .slice zyaa zyan zyac) (by first | (go_keep; done) | (simp [go_sem, *]; done)) hb
  have l8_ya := World.block_lt_of_cell? _ _ k8_ya0
  try simp only at l8_ya
  have H8_ya := Lib.hid (StrsAt.below (show StrsAt _ (.slice zyaa zyan zyac) vs by repeat (first | exact H7_ya.out | refine StrsAt.alloc ?_ _ | refine StrsAt.drewN ?_ _)) hb)
  clear hb H7_ya k7_t0 k7_t1 k7_t2 k7_t3 l7_t k7_ya0 k7_ya1 k7_ya2 k7_ya3 l7_ya W7
  have HVyb := Lib.hid hv1
  clear hv1
  go_wp2_with fail
  refine (CT.out _ (by repeat (first | exact W8.out | refine blw_drewN ?_ _ | refine Below.setCell ?_ (by first | (simp; done) | omega | (simp; omega)) _ | refine Below.alloc ?_ (by first | (simp; done) | omega | (simp; omega)) _))).mono ?_
  rintro e w9 ⟨rfl, hb⟩
  have W9 := Lib.hid (blw_trans (show Below w.heap.size w _ by repeat (first | exact W8.out | refine blw_drewN ?_ _ | refine Below.setCell ?_ (by first | (simp; done) | omega | (simp; omega)) _ | refine Below.alloc ?_ (by first | (simp; done) | omega | (simp; omega)) _)) hb)
  have n9 := hb.size
  try simp at n9
  have k9_t0 := cell_keep (a := ⟨w.heap.size, 0, none⟩) (v := .string ⟨l.toArray⟩) (by first | (go_keep; done) | (simp [go_sem, *]; done)) hb
  have k9_t1 := cell_keep (a := ⟨w.heap.size, 1, none⟩) (v := .string ⟨s.toArray⟩) (by first | (go_keep; done) | (simp [go_sem, *]; done)) hb
  have k9_t2 := cell_keep (a := ⟨w.heap.size, 2, none⟩) (v := .string ⟨r.toArray⟩) (by first | (go_keep; done) | (simp [go_sem, *]; done)) hb
  have k9_t3 := cell_keep (a := ⟨w.heap.size, 3, none⟩) (v := .slice a n c) (by first | (go_keep; done) | (simp [go_sem, *]; done)) hb
  have l9_t := World.block_lt_of_cell? _ _ k9_t0
  try simp only at l9_t
  have k9_ya0 := cell_keep (a := ⟨w5.heap.size, 0, none⟩) (v := .string ⟨l.toArray⟩) (by first | (go_keep; done) | (simp [go_sem, *]; done)) hb
  have k9_ya1 := cell_keep (a := ⟨w5.heap.size, 1, none⟩) (v := .string ⟨s.toArray⟩) (by first | (go_keep; done) | (simp [go_sem, *]; done)) hb
  have k9_ya2 := cell_keep (a := ⟨w5.heap.size, 2, none⟩) (v := .string ⟨r.toArray⟩) (by first | (go_keep; done) | (simp [go_sem, *]; done)) hb
  have k9_ya3 := cell_keep (a := ⟨w5.heap.size, 3, none⟩) (v := .slice zyaa zyan zyac) (by first | (go_keep; done) | (simp [go_sem, *]; done)) hb
  have l9_ya := World.block_lt_of_cell? _ _ k9_ya0
  try simp only at l9_ya
  have k9_yb0 := cell_keep (a := ⟨w8.heap.size, 0, none⟩) (v := .string ⟨l.toArray⟩) (by first | (go_keep; done) | (simp [go_sem, *]; done)) hb
  have k9_yb1 := cell_keep (a := ⟨w8.heap.size, 1, none⟩) (v := .string ⟨s.toArray⟩) (by first | (go_keep; done) | (simp [go_sem, *]; done)) hb
  have k9_yb2 := cell_keep (a := ⟨w8.heap.size, 2, none⟩) (v := .string ⟨r.toArray⟩) (by first | (go_keep; done) | (simp [go_sem, *]; done)) hb
  have k9_yb3 := cell_keep (a := ⟨w8.heap.size, 3, none⟩) (v := .slice zyba zybn zybc) (by first | (go_keep; done) | (simp [go_sem, *]; done)) hb
  have l9_yb := World.block_lt_of_cell? _ _ k9_yb0
  try simp only at l9_yb
  have H9_ya := Lib.hid (StrsAt.below (show StrsAt _ (.slice zyaa zyan zyac) vs by repeat (first | exact H8_ya.out | refine StrsAt.alloc ?_ _ | refine StrsAt.drewN ?_ _)) hb)
  have H9_yb := Lib.hid (StrsAt.below (show StrsAt _ (.slice zyba zybn zybc) vs by repeat (first | exact HVyb.out | refine StrsAt.alloc ?_ _ | refine StrsAt.drewN ?_ _)) hb)
  clear hb H8_ya HVyb k8_t0 k8_t1 k8_t2 k8_t3 l8_t k8_ya0 k8_ya1 k8_ya2 k8_ya3 l8_ya W8
  go_wp2_with fail
  refine (CD.out _).mono ?_
  rintro e w10 ⟨rfl, hb⟩
  have W10 := Lib.hid (blw_trans (show Below w.heap.size w _ by repeat (first | exact W9.out | refine blw_drewN ?_ _ | refine Below.setCell ?_ (by first | (simp; done) | omega | (simp; omega)) _ | refine Below.alloc ?_ (by first | (simp; done) | omega | (simp; omega)) _)) hb)
  have n10 := hb.size
  try simp at n10
  have k10_t0 := cell_keep (a := ⟨w.heap.size, 0, none⟩) (v := .string ⟨l.toArray⟩) (by first | (go_keep; done) | (simp [go_sem, *]; done)) hb
  have k10_t1 := cell_keep (a := ⟨w.heap.size, 1, none⟩) (v := .string ⟨s.toArray⟩) (by first | (go_keep; done) | (simp [go_sem, *]; done)) hb
  have k10_t2 := cell_keep (a := ⟨w.heap.size, 2, none⟩) (v := .string ⟨r.toArray⟩) (by first | (go_keep; done) | (simp [go_sem, *]; done)) hb
  have k10_t3 := cell_keep (a := ⟨w.heap.size, 3, none⟩) (v := .slice a n c) (by first | (go_keep; done) | (simp [go_sem, *]; done)) hb
  have l10_t := World.block_lt_of_cell? _ _ k10_t0
  try simp only at l10_t
  have k10_ya0 := cell_keep (a := ⟨w5.heap.size, 0, none⟩) (v := .string ⟨l.toArray⟩) (by first | (go_keep; done) | (simp [go_sem, *]; done)) hb
  have k10_ya1 := cell_keep (a := ⟨w5.heap.size, 1, none⟩) (v := .string ⟨s.toArray⟩) (by first | (go_keep; done) | (simp [go_sem, *]; done)) hb
  have k10_ya2 := cell_keep (a := ⟨w5.heap.size, 2, none⟩) (v := .string ⟨r.toArray⟩) (by first | (go_keep; done) | (simp [go_sem, *]; done)) hb
  have k10_ya3 := cell_keep (a := ⟨w5.heap.size, 3, none⟩) (v := .slice zyaa zyan zyac) (by first | (go_keep; done) | (simp [go_sem, *]; done)) hb
  have l10_ya := World.block_lt_of_cell? _ _ k10_ya0
  try simp only at l10_ya
  have k10_yb0 := cell_keep (a := ⟨w8.heap.size, 0, none⟩) (v := .string ⟨l.toArray⟩) (by first | (go_keep; done) | (simp [go_sem, *]; done)) hb
  have k10_yb1 := cell_keep (a := ⟨w8.heap.size, 1, none⟩) (v := .string ⟨s.toArray⟩) (by first | (go_keep; done) | (simp [go_sem, *]; done)) hb
  have k10_yb2 := cell_keep (a := ⟨w8.heap.size, 2, none⟩) (v := .string ⟨r.toArray⟩) (by first | (go_keep; done) | (simp [go_sem, *]; done)) hb
  have k10_yb3 := cell_keep (a := ⟨w8.heap.size, 3, none⟩) (v := .slice zyba zybn zybc) (by first | (go_keep; done) | (simp [go_sem, *]; done)) hb
  have l10_yb := World.block_lt_of_cell? _ _ k10_yb0
  try simp only at l10_yb
  have H10_ya := Lib.hid (StrsAt.below (show StrsAt _ (.slice zyaa zyan zyac) vs by repeat (first | exact H9_ya.out | refine StrsAt.alloc ?_ _ | refine StrsAt.drewN ?_ _)) hb)
  have H10_yb := Lib.hid (StrsAt.below (show StrsAt _ (.slice zyba zybn zybc) vs by repeat (first | exact H9_yb.out | refine StrsAt.alloc ?_ _ | refine StrsAt.drewN ?_ _)) hb)
  clear hb H9_ya H9_yb k9_t0 k9_t1 k9_t2 k9_t3 l9_t k9_ya0 k9_ya1 k9_ya2 k9_ya3 l9_ya k9_yb0 k9_yb1 k9_yb2 k9_yb3 l9_yb W9
  go_wp2_with fail
  refine (CE.out _ (hT.below (by repeat (first | exact W10.out | refine blw_drewN ?_ _ | refine Below.setCell ?_ (by first | (simp; done) | omega | (simp; omega)) _ | refine Below.alloc ?_ (by first | (simp; done) | omega | (simp; omega)) _)))).mono ?_
  rintro e w11 ⟨zyca, zycn, zycc, rfl, hv1, _, hb⟩
  have W11 := Lib.hid (blw_trans (show Below w.heap.size w _ by repeat (first | exact W10.out | refine blw_drewN ?_ _ | refine Below.setCell ?_ (by first | (simp; done) | omega | (simp; omega)) _ | refine Below.alloc ?_ (by first | (simp; done) | omega | (simp; omega)) _)) hb)
  have n11 := hb.size
  try simp at n11
  have k11_t0 := cell_keep (a := ⟨w.heap.size, 0, none⟩) (v := .string ⟨l.toArray⟩) (by first | (go_keep; done) | (simp [go_sem, *]; done)) hb
  have k11_t1 := cell_keep (a := ⟨w.heap.size, 1, none⟩) (v := .string ⟨s.toArray⟩) (by first | (go_keep; done) | (simp [go_sem, *]; done)) hb
  have k11_t2 := cell_keep (a := ⟨w.heap.size, 2, none⟩) (v := .string ⟨r.toArray⟩) (by first | (go_keep; done) | (simp [go_sem, *]; done)) hb
  have k11_t3 := cell_keep (a := ⟨w.heap.size, 3, none⟩) (v := .slice a n c) (by first | (go_keep; done) | (simp [go_sem, *]; done)) hb
  have l11_t := World.block_lt_of_cell? _ _ k11_t0
  try simp only at l11_t
  have k11_ya0 := cell_keep (a := ⟨w5.heap.size, 0, none⟩) (v := .string ⟨l.toArray⟩) (by first | (go_keep; done) | (simp [go_sem, *]; done)) hb
  have k11_ya1 := cell_keep (a := ⟨w5.heap.size, 1, none⟩) (v := .string ⟨s.toArray⟩) (by first | (go_keep; done) | (simp [go_sem, *]; done)) hb
  have k11_ya2 := cell_keep (a := ⟨w5.heap.size, 2, none⟩) (v := .string ⟨r.toArray⟩) (by first | (go_keep; done) | (simp [go_sem, *]; done)) hb
  have k11_ya3 := cell_keep (a := ⟨w5.heap.size, 3, none⟩) (v := .slice zyaa zyan zyac) (by first | (go_keep; done) | (simp [go_sem, *]; done)) hb
  have l11_ya := World.block_lt_of_cell? _ _ k11_ya0
  try simp only at l11_ya
  have k11_yb0 := cell_keep (a := ⟨w8.heap.size, 0, none⟩) (v := .string ⟨l.toArray⟩) (by first | (go_keep; done) | (simp [go_sem, *]; done)) hb
  have k11_yb1 := cell_keep (a := ⟨w8.heap.size, 1, none⟩) (v := .string ⟨s.toArray⟩) (by first | (go_keep; done) | (simp [go_sem, *]; done)) hb
  have k11_yb2 := cell_keep (a := ⟨w8.heap.size, 2, none⟩) (v := .string ⟨r.toArray⟩) (by first | (go_keep; done) | (simp [go_sem, *]; done)) hb
  have k11_yb3 := cell_keep (a := ⟨w8.heap.size, 3, none⟩) (v := .slice zyba zybn zybc) (by first | (go_keep; done) | (simp [go_sem, *]; done)) hb
  have l11_yb := World.block_lt_of_cell? _ _ k11_yb0
  try simp only at l11_yb
  have H11_ya := Lib.hid (StrsAt.below (show StrsAt _ (.slice zyaa zyan zyac) vs by repeat (first | exact H10_ya.out | refine StrsAt.alloc ?_ _ | refine StrsAt.drewN ?_ _)) hb)
  have H11_yb := Lib.hid (StrsAt.below (show StrsAt _ (.slice zyba zybn zybc) vs by repeat (first | exact H10_yb.out | refine StrsAt.alloc ?_ _ | refine StrsAt.drewN ?_ _)) hb)
  clear hb H10_ya H10_yb k10_t0 k10_t1 k10_t2 k10_t3 l10_t k10_ya0 k10_ya1 k10_ya2 k10_ya3 l10_ya k10_yb0 k10_yb1 k10_yb2 k10_yb3 l10_yb W10
  have HVyc := Lib.hid hv1
  clear hv1
  go_wp2_with fail
  refine (CS.out _ _ _ _ (show StrsAt _ (.slice zyaa zyan zyac) vs by repeat (first | exact H11_ya.out | refine StrsAt.alloc ?_ _ | refine StrsAt.drewN ?_ _)) (by repeat (first | exact W11.out | refine blw_drewN ?_ _ | refine Below.setCell ?_ (by first | (simp; done) | omega | (simp; omega)) _ | refine Below.alloc ?_ (by first | (simp; done) | omega | (simp; omega)) _))).mono ?_
  rintro e w12 ⟨rfl, hb⟩
  have W12 := Lib.hid (blw_trans (show Below w.heap.size w _ by repeat (first | exact W11.out | refine blw_drewN ?_ _ | refine Below.setCell ?_ (by first | (simp; done) | omega | (simp; omega)) _ | refine Below.alloc ?_ (by first | (simp; done) | omega | (simp; omega)) _)) hb)
  have n12 := hb.size
  try simp at n12
  have k12_t0 := cell_keep (a := ⟨w.heap.size, 0, none⟩) (v := .string ⟨l.toArray⟩) (by first | (go_keep; done) | (simp [go_sem, *]; done)) hb
  have k12_t1 := cell_keep (a := ⟨w.heap.size, 1, none⟩) (v := .string ⟨s.toArray⟩) (by first | (go_keep; done) | (simp [go_sem, *]; done)) hb
  have k12_t2 := cell_keep (a := ⟨w.heap.size, 2, none⟩) (v := .string ⟨r.toArray⟩) (by first | (go_keep; done) | (simp [go_sem, *]; done)) hb
  have k12_t3 := cell_keep (a := ⟨w.heap.size, 3, none⟩) (v := .slice a n c) (by first | (go_keep; done) | (simp [go_sem, *]; done)) hb
  have l12_t := World.block_lt_of_cell? _ _ k12_t0
  try simp only at l12_t
  have k12_ya0 := cell_keep (a := ⟨w5.heap.size, 0, none⟩) (v := .string ⟨l.toArray⟩) (by first | (go_keep; done) | (simp [go_sem, *]; done)) hb
  have k12_ya1 := cell_keep (a := ⟨w5.heap.size, 1, none⟩) (v := .string ⟨s.toArray⟩) (by first | (go_keep; done) | (simp [go_sem, *]; done)) hb
  have k12_ya2 := cell_keep (a := ⟨w5.heap.size, 2, none⟩) (v := .string ⟨r.toArray⟩) (by first | (go_keep; done) | (simp [go_sem, *]; done)) hb
  have k12_ya3 := cell_keep (a := ⟨w5.heap.size, 3, none⟩) (v := .slice zyaa zyan zyac) (by first | (go_keep; done) | (simp [go_sem, *]; done)) hb
  have l12_ya := World.block_lt_of_cell? _ _ k12_ya0
  try simp only at l12_ya
  have k12_yb0 := cell_keep (a := ⟨w8.heap.size, 0, none⟩) (v := .string ⟨l.toArray⟩) (by first | (go_keep; done) | (simp [go_sem, *]; done)) hb
  have k12_yb1 := cell_keep (a := ⟨w8.heap.size, 1, none⟩) (v := .string ⟨s.toArray⟩) (by first | (go_keep; done) | (simp [go_sem, *]; done)) hb
  have k12_yb2 := cell_keep (a := ⟨w8.heap.size, 2, none⟩) (v := .string ⟨r.toArray⟩) (by first | (go_keep; done) | (simp [go_sem, *]; done)) hb
  have k12_yb3 := cell_keep (a := ⟨w8.heap.size, 3, none⟩) (v := .slice zyba zybn zybc) (by first | (go_keep; done) | (simp [go_sem, *]; done)) hb
  have l12_yb := World.block_lt_of_cell? _ _ k12_yb0
  try simp only at l12_yb
  have k12_yc0 := cell_keep (a := ⟨w11.heap.size, 0, none⟩) (v := .string ⟨l.toArray⟩) (by first | (go_keep; done) | (simp [go_sem, *]; done)) hb
  have k12_yc1 := cell_keep (a := ⟨w11.heap.size, 1, none⟩) (v := .string ⟨s.toArray⟩) (by first | (go_keep; done) | (simp [go_sem, *]; done)) hb
  have k12_yc2 := cell_keep (a := ⟨w11.heap.size, 2, none⟩) (v := .string ⟨r.toArray⟩) (by first | (go_keep; done) | (simp [go_sem, *]; done)) hb
  have k12_yc3 := cell_keep (a := ⟨w11.heap.size, 3, none⟩) (v := .slice zyca zycn zycc) (by first | (go_keep; done) | (simp [go_sem, *]; done)) hb
  have l12_yc := World.block_lt_of_cell? _ _ k12_yc0
  try simp only at l12_yc
  have H12_ya := Lib.hid (StrsAt.below (show StrsAt _ (.slice zyaa zyan zyac) vs by repeat (first | exact H11_ya.out | refine StrsAt.alloc ?_ _ | refine StrsAt.drewN ?_ _)) hb)
  have H12_yb := Lib.hid (StrsAt.below (show StrsAt _ (.slice zyba zybn zybc) vs by repeat (first | exact H11_yb.out | refine StrsAt.alloc ?_ _ | refine StrsAt.drewN ?_ _)) hb)
  have H12_yc := Lib.hid (StrsAt.below (show StrsAt _ (.slice zyca zycn zycc) vs by repeat (first | exact HVyc.out | refine StrsAt.alloc ?_ _ | refine StrsAt.drewN ?_ _)) hb)
  clear hb H11_ya H11_yb HVyc k11_t0 k11_t1 k11_t2 k11_t3 l11_t k11_ya0 k11_ya1 k11_ya2 k11_ya3 l11_ya k11_yb0 k11_yb1 k11_yb2 k11_yb3 l11_yb W11
  go_wp2_with fail
  refine (CS.out _ _ _ _ (show StrsAt _ (.slice zyba zybn zybc) vs by repeat (first | exact H12_yb.out | refine StrsAt.alloc ?_ _ | refine StrsAt.drewN ?_ _)) (by repeat (first | exact W12.out | refine blw_drewN ?_ _ | refine Below.setCell ?_ (by first | (simp; done) | omega | (simp; omega)) _ | refine Below.alloc ?_ (by first | (simp; done) | omega | (simp; omega)) _))).mono ?_
  rintro e w13 ⟨rfl, hb⟩
  have W13 := Lib.hid (blw_trans (show Below w.heap.size w _ by repeat (first | exact W12.out | refine blw_drewN ?_ _ | refine Below.setCell ?_ (by first | (simp; done) | omega | (simp; omega)) _ | refine Below.alloc ?_ (by first | (simp; done) | omega | (simp; omega)) _)) hb)
  have n13 := hb.size
  try simp at n13
  have k13_t0 := cell_keep (a := ⟨w.heap.size, 0, none⟩) (v := .string ⟨l.toArray⟩) (by first | (go_keep; done) | (simp [go_sem, *]; done)) hb
  have k13_t1 := cell_keep (a := ⟨w.heap.size, 1, none⟩) (v := .string ⟨s.toArray⟩) (by first | (go_keep; done) | (simp [go_sem, *]; done)) hb
  have k13_t2 := cell_keep (a := ⟨w.heap.size, 2, none⟩) (v := .string ⟨r.toArray⟩) (by first | (go_keep; done) | (simp [go_sem, *]; done)) hb
  have k13_t3 := cell_keep (a := ⟨w.heap.size, 3, none⟩) (v := .slice a n c) (by first | (go_keep; done) | (simp [go_sem, *]; done)) hb
  have l13_t := World.block_lt_of_cell? _ _ k13_t0
  try simp only at l13_t
  have k13_ya0 := cell_keep (a := ⟨w5.heap.size, 0, none⟩) (v := .string ⟨l.toArray⟩) (by first | (go_keep; done) | (simp [go_sem, *]; done)) hb
  have k13_ya1 := cell_keep (a := ⟨w5.heap.size, 1, none⟩) (v := .string ⟨s.toArray⟩) (by first | (go_keep; done) | (simp [go_sem, *]; done)) hb
  have k13_ya2 := cell_keep (a := ⟨w5.heap.size, 2, none⟩) (v := .string ⟨r.toArray⟩) (by first | (go_keep; done) | (simp [go_sem, *]; done)) hb
  have k13_ya3 := cell_keep (a := ⟨w5.heap.size, 3, none⟩) (v := .slice zyaa zyan zyac) (by first | (go_keep; done) | (simp [go_sem, *]; done)) hb
  have l13_ya := World.block_lt_of_cell? _ _ k13_ya0
  try simp only at l13_ya
  have k13_yb0 := cell_keep (a := ⟨w8.heap.size, 0, none⟩) (v := .string ⟨l.toArray⟩) (by first | (go_keep; done) | (simp [go_sem, *]; done)) hb
  have k13_yb1 := cell_keep (a := ⟨w8.heap.size, 1, none⟩) (v := .string ⟨s.toArray⟩) (by first | (go_keep; done) | (simp [go_sem, *]; done)) hb
  have k13_yb2 := cell_keep (a := ⟨w8.heap.size, 2, none⟩) (v := .string ⟨r.toArray⟩) (by first | (go_keep; done) | (simp [go_sem, *]; done)) hb
  have k13_yb3 := cell_keep (a := ⟨w8.heap.size, 3, none⟩) (v := .slice zyba zybn zybc) (by first | (go_keep; done) | (simp [go_sem, *]; done)) hb
  have l13_yb := World.block_lt_of_cell? _ _ k13_yb0
  try simp only at l13_yb
  have k13_yc0 := cell_keep (a := ⟨w11.heap.size, 0, none⟩) (v := .string ⟨l.toArray⟩) (by first | (go_keep; done) | (simp [go_sem, *]; done)) hb
  have k13_yc1 := cell_keep (a := ⟨w11.heap.size, 1, none⟩) (v := .string ⟨s.toArray⟩) (by first | (go_keep; done) | (simp [go_sem, *]; done)) hb
  have k13_yc2 := cell_keep (a := ⟨w11.heap.size, 2, none⟩) (v := .string ⟨r.toArray⟩) (by first | (go_keep; done) | (simp [go_sem, *]; done)) hb
  have k13_yc3 := cell_keep (a := ⟨w11.heap.size, 3, none⟩) (v := .slice zyca zycn zycc) (by first | (go_keep; done) | (simp [go_sem, *]; done)) hb
  have l13_yc := World.block_lt_of_cell? _ _ k13_yc0
  try simp only at l13_yc
  have H13_ya := Lib.hid (StrsAt.below (show StrsAt _ (.slice zyaa zyan zyac) vs by repeat (first | exact H12_ya.out | refine StrsAt.alloc ?_ _ | refine StrsAt.drewN ?_ _)) hb)
  have H13_yb := Lib.hid (StrsAt.below (show StrsAt _ (.slice zyba zybn zybc) vs by repeat (first | exact H12_yb.out | refine StrsAt.alloc ?_ _ | refine StrsAt.drewN ?_ _)) hb)
  have H13_yc := Lib.hid (StrsAt.below (show StrsAt _ (.slice zyca zycn zycc) vs by repeat (first | exact H12_yc.out | refine StrsAt.alloc ?_ _ | refine StrsAt.drewN ?_ _)) hb)
  clear hb H12_ya H12_yb H12_yc k12_t0 k12_t1 k12_t2 k12_t3 l12_t k12_ya0 k12_ya1 k12_ya2 k12_ya3 l12_ya k12_yb0 k12_yb1 k12_yb2 k12_yb3 l12_yb k12_yc0 k12_yc1 k12_yc2 k12_yc3 l12_yc W12
  go_wp2_with fail
  refine (CS.out _ _ _ _ (show StrsAt _ (.slice zyca zycn zycc) vs by repeat (first | exact H13_yc.out | refine StrsAt.alloc ?_ _ | refine StrsAt.drewN ?_ _)) (by repeat (first | exact W13.out | refine blw_drewN ?_ _ | refine Below.setCell ?_ (by first | (simp; done) | omega | (simp; omega)) _ | refine Below.alloc ?_ (by first | (simp; done) | omega | (simp; omega)) _))).mono ?_
  rintro e w14 ⟨rfl, hb⟩
  have W14 := Lib.hid (blw_trans (show Below w.heap.size w _ by repeat (first | exact W13.out | refine blw_drewN ?_ _ | refine Below.setCell ?_ (by first | (simp; done) | omega | (simp; omega)) _ | refine Below.alloc ?_ (by first | (simp; done) | omega | (simp; omega)) _)) hb)
  have n14 := hb.size
  try simp at n14
  have k14_t0 := cell_keep (a := ⟨w.heap.size, 0, none⟩) (v := .string ⟨l.toArray⟩) (by first | (go_keep; done) | (simp [go_sem, *]; done)) hb
  have k14_t1 := cell_keep (a := ⟨w.heap.size, 1, none⟩) (v := .string ⟨s.toArray⟩) (by first | (go_keep; done) | (simp [go_sem, *]; done)) hb
  have k14_t2 := cell_keep (a := ⟨w.heap.size, 2, none⟩) (v := .string ⟨r.toArray⟩) (by first | (go_keep; done) | (simp [go_sem, *]; done)) hb
  have k14_t3 := cell_keep (a := ⟨w.heap.size, 3, none⟩) (v := .slice a n c) (by first | (go_keep; done) | (simp [go_sem, *]; done)) hb
  have l14_t := World.block_lt_of_cell? _ _ k14_t0
  try simp only at l14_t
  have k14_ya0 := cell_keep (a := ⟨w5.heap.size, 0, none⟩) (v := .string ⟨l.toArray⟩) (by first | (go_keep; done) | (simp [go_sem, *]; done)) hb
  have k14_ya1 := cell_keep (a := ⟨w5.heap.size, 1, none⟩) (v := .string ⟨s.toArray⟩) (by first | (go_keep; done) | (simp [go_sem, *]; done)) hb
  have k14_ya2 := cell_keep (a := ⟨w5.heap.size, 2, none⟩) (v := .string ⟨r.toArray⟩) (by first | (go_keep; done) | (simp [go_sem, *]; done)) hb
  have k14_ya3 := cell_keep (a := ⟨w5.heap.size, 3, none⟩) (v := .slice zyaa zyan zyac) (by first | (go_keep; done) | (simp [go_sem, *]; done)) hb
  have l14_ya := World.block_lt_of_cell? _ _ k14_ya0
  try simp only at l14_ya
  have k14_yb0 := cell_keep (a := ⟨w8.heap.size, 0, none⟩) (v := .string ⟨l.toArray⟩) (by first | (go_keep; done) | (simp [go_sem, *]; done)) hb
  have k14_yb1 := cell_keep (a := ⟨w8.heap.size, 1, none⟩) (v := .string ⟨s.toArray⟩) (by first | (go_keep; done) | (simp [go_sem, *]; done)) hb
  have k14_yb2 := cell_keep (a := ⟨w8.heap.size, 2, none⟩) (v := .string ⟨r.toArray⟩) (by first | (go_keep; done) | (simp [go_sem, *]; done)) hb
  have k14_yb3 := cell_keep (a := ⟨w8.heap.size, 3, none⟩) (v := .slice zyba zybn zybc) (by first | (go_keep; done) | (simp [go_sem, *]; done)) hb
  have l14_yb := World.block_lt_of_cell? _ _ k14_yb0
  try simp only at l14_yb
  have k14_yc0 := cell_keep (a := ⟨w11.heap.size, 0, none⟩) (v := .string ⟨l.toArray⟩) (by first | (go_keep; done) | (simp [go_sem, *]; done)) hb
  have k14_yc1 := cell_keep (a := ⟨w11.heap.size, 1, none⟩) (v := .string ⟨s.toArray⟩) (by first | (go_keep; done) | (simp [go_sem, *]; done)) hb
  have k14_yc2 := cell_keep (a := ⟨w11.heap.size, 2, none⟩) (v := .string ⟨r.toArray⟩) (by first | (go_keep; done) | (simp [go_sem, *]; done)) hb
  have k14_yc3 := cell_keep (a := ⟨w11.heap.size, 3, none⟩) (v := .slice zyca zycn zycc) (by first | (go_keep; done) | (simp [go_sem, *]; done)) hb
  have l14_yc := World.block_lt_of_cell? _ _ k14_yc0
  try simp only at l14_yc
  have H14_ya := Lib.hid (StrsAt.below (show StrsAt _ (.slice zyaa zyan zyac) vs by repeat (first | exact H13_ya.out | refine StrsAt.alloc ?_ _ | refine StrsAt.drewN ?_ _)) hb)
  have H14_yb := Lib.hid (StrsAt.below (show StrsAt _ (.slice zyba zybn zybc) vs by repeat (first | exact H13_yb.out | refine StrsAt.alloc ?_ _ | refine StrsAt.drewN ?_ _)) hb)
  have H14_yc := Lib.hid (StrsAt.below (show StrsAt _ (.slice zyca zycn zycc) vs by repeat (first | exact H13_yc.out | refine StrsAt.alloc ?_ _ | refine StrsAt.drewN ?_ _)) hb)
  clear hb H13_ya H13_yb H13_yc k13_t0 k13_t1 k13_t2 k13_t3 l13_t k13_ya0 k13_ya1 k13_ya2 k13_ya3 l13_ya k13_yb0 k13_yb1 k13_yb2 k13_yb3 l13_yb k13_yc0 k13_yc1 k13_yc2 k13_yc3 l13_yc W13
  go_wp2_with fail
  go_ret
  exact ⟨ret_bool (by first | rfl | (simp; done)), by repeat (first | exact W14.out | refine blw_drewN ?_ _ | refine Below.setCell ?_ (by first | (simp; done) | omega | (simp; omega)) _ | refine Below.alloc ?_ (by first | (simp; done) | omega | (simp; omega)) _)⟩

set_option maxRecDepth 100000 in
set_option maxHeartbeats 2000000 in
theorem tagback_nn (l s r q xl xs xr : List UInt8) (vs xv : List (List UInt8)) (a : Option Addr) (n c : Nat) (w : World) (hT : MaxW w) (hV : StrsAt w (.slice a n c) vs) (_ : Nil0 (.slice a n c))
    (bt : l.length + s.length + r.length + Lib.lens vs + vs.length ≤ 100000000) (F : Int) (hF : tagFault l s r vs = F) (hF0 : ¬ F = 0)
    (CP : Hid (∀ w : World, MaxW w → Calls Tryd.prog 13 #[.string ⟨q.toArray⟩] w fun e w' => ∃ a n c, e = .returned (.tuple #[.agg #[.string ⟨xl.toArray⟩, .string ⟨xs.toArray⟩, .string ⟨xr.toArray⟩, .slice a n c], errV 3]) ∧ StrsAt w' (.slice a n c) xv ∧ Nil0 (.slice a n c) ∧ Below w.heap.size w w')) :
    Calls Tryd.prog 3 #[.agg #[.string ⟨l.toArray⟩, .string ⟨s.toArray⟩, .string ⟨r.toArray⟩, .slice a n c], .string ⟨q.toArray⟩] w fun e w' => e = .returned (.bool true) ∧ Below w.heap.size w w' := by
  have CK := Lib.hid fun wx (h : Below w.heap.size w wx) => check_any l s r vs (.slice a n c) wx (hV.below h) (by omega) (fun x hx => by have := lens_mem hx; omega)
  rw [hF] at CK
  rw [errE_some hF0] at CK
  clear hV hF  bt
  go_enter Tryd.func3, Tryd.ntmps3
  go_wp2_with fail
  refine (tagged_any _ (hT.below (by repeat (first | exact (Below.refl _ _) | refine blw_drewN ?_ _ | refine Below.setCell ?_ (by first | (simp; done) | omega | (simp; omega)) _ | refine Below.alloc ?_ (by first | (simp; done) | omega | (simp; omega)) _)))).mono ?_
  rintro e w1 ⟨rfl, hb⟩
  have W1 := Lib.hid (blw_trans (show Below w.heap.size w _ by repeat (first | exact (Below.refl _ _) | refine blw_drewN ?_ _ | refine Below.setCell ?_ (by first | (simp; done) | omega | (simp; omega)) _ | refine Below.alloc ?_ (by first | (simp; done) | omega | (simp; omega)) _)) hb)
  have n1 := hb.size
  try simp at n1
  have k1_t0 := cell_keep (a := ⟨w.heap.size, 0, none⟩) (v := .string ⟨l.toArray⟩) (by first | (go_keep; done) | (simp [go_sem, *]; done)) hb
  have k1_t1 := cell_keep (a := ⟨w.heap.size, 1, none⟩) (v := .string ⟨s.toArray⟩) (by first | (go_keep; done) | (simp [go_sem, *]; done)) hb
  have k1_t2 := cell_keep (a := ⟨w.heap.size, 2, none⟩) (v := .string ⟨r.toArray⟩) (by first | (go_keep; done) | (simp [go_sem, *]; done)) hb
  have k1_t3 := cell_keep (a := ⟨w.heap.size, 3, none⟩) (v := .slice a n c) (by first | (go_keep; done) | (simp [go_sem, *]; done)) hb
  have l1_t := World.block_lt_of_cell? _ _ k1_t0
  try simp only at l1_t
  clear hb
  go_wp2_with fail
  refine (CP.out _ (hT.below (by repeat (first | exact W1.out | refine blw_drewN ?_ _ | refine Below.setCell ?_ (by first | (simp; done) | omega | (simp; omega)) _ | refine Below.alloc ?_ (by first | (simp; done) | omega | (simp; omega)) _)))).mono ?_
  rintro e w2 ⟨za1, zn1, zc1, rfl, hv1, hz1, hb⟩
  have W2 := Lib.hid (blw_trans (show Below w.heap.size w _ by repeat (first | exact W1.out | refine blw_drewN ?_ _ | refine Below.setCell ?_ (by first | (simp; done) | omega | (simp; omega)) _ | refine Below.alloc ?_ (by first | (simp; done) | omega | (simp; omega)) _)) hb)
  have n2 := hb.size
  try simp at n2
  have k2_t0 := cell_keep (a := ⟨w.heap.size, 0, none⟩) (v := .string ⟨l.toArray⟩) (by first | (go_keep; done) | (simp [go_sem, *]; done)) hb
  have k2_t1 := cell_keep (a := ⟨w.heap.size, 1, none⟩) (v := .string ⟨s.toArray⟩) (by first | (go_keep; done) | (simp [go_sem, *]; done)) hb
  have k2_t2 := cell_keep (a := ⟨w.heap.size, 2, none⟩) (v := .string ⟨r.toArray⟩) (by first | (go_keep; done) | (simp [go_sem, *]; done)) hb
  have k2_t3 := cell_keep (a := ⟨w.heap.size, 3, none⟩) (v := .slice a n c) (by first | (go_keep; done) | (simp [go_sem, *]; done)) hb
  have l2_t := World.block_lt_of_cell? _ _ k2_t0
  try simp only at l2_t
  clear hb k1_t0 k1_t1 k1_t2 k1_t3 l1_t W1
  have HV1 := Lib.hid hv1
  have HZ1 := Lib.hid hz1
  clear hv1 hz1
  clear HV1
  go_wp2_with fail
  refine (CK.out _ (by repeat (first | exact W2.out | refine blw_drewN ?_ _ | refine Below.setCell ?_ (by first | (simp; done) | omega | (simp; omega)) _ | refine Below.alloc ?_ (by first | (simp; done) | omega | (simp; omega)) _))).mono ?_
  rintro e w3 ⟨rfl, hb⟩
  have W3 := Lib.hid (blw_trans (show Below w.heap.size w _ by repeat (first | exact W2.out | refine blw_drewN ?_ _ | refine Below.setCell ?_ (by first | (simp; done) | omega | (simp; omega)) _ | refine Below.alloc ?_ (by first | (simp; done) | omega | (simp; omega)) _)) hb)
  have n3 := hb.size
  try simp at n3
  have k3_t0 := cell_keep (a := ⟨w.heap.size, 0, none⟩) (v := .string ⟨l.toArray⟩) (by first | (go_keep; done) | (simp [go_sem, *]; done)) hb
  have k3_t1 := cell_keep (a := ⟨w.heap.size, 1, none⟩) (v := .string ⟨s.toArray⟩) (by first | (go_keep; done) | (simp [go_sem, *]; done)) hb
  have k3_t2 := cell_keep (a := ⟨w.heap.size, 2, none⟩) (v := .string ⟨r.toArray⟩) (by first | (go_keep; done) | (simp [go_sem, *]; done)) hb
  have k3_t3 := cell_keep (a := ⟨w.heap.size, 3, none⟩) (v := .slice a n c) (by first | (go_keep; done) | (simp [go_sem, *]; done)) hb
  have l3_t := World.block_lt_of_cell? _ _ k3_t0
  try simp only at l3_t
  clear hb k2_t0 k2_t1 k2_t2 k2_t3 l2_t W2
  go_wp2_with fail
  go_ret
  exact ⟨ret_bool (by first | rfl | (simp; done)), by repeat (first | exact W3.out | refine blw_drewN ?_ _ | refine Below.setCell ?_ (by first | (simp; done) | omega | (simp; omega)) _ | refine Below.alloc ?_ (by first | (simp; done) | omega | (simp; omega)) _)⟩

theorem tagback_any (l s r q : List UInt8) (vs : List (List UInt8)) (V : Value) (w : World) (hT : MaxW w) (hV : StrsAt w V vs) (h0 : Nil0 V)
    (bt : l.length + s.length + r.length + Lib.lens vs + vs.length ≤ 1048576) (hq : q.length ≤ 10000000) :
    Calls Tryd.prog 3 #[.agg #[.string ⟨l.toArray⟩, .string ⟨s.toArray⟩, .string ⟨r.toArray⟩, V], .string ⟨q.toArray⟩] w fun e w' => e = .returned (.bool true) ∧ Below w.heap.size w w' := by
  obtain ⟨a, n, c, rfl⟩ := hV.isSlice
  have bx := read_bulk q
  have bz := text_len l s r vs
  have bX := text_len (readT q).l (readT q).s (readT q).r (readT q).vs
  have CL2 := Lib.hid fun w => rlower_any q w (by omega)
  have CL1 := Lib.hid fun w => rlower_any (tagText (readT q).l (readT q).s (readT q).r (readT q).vs) w (by omega)
  have ma : ∀ (Y : List UInt8) (hY : Y.map lowC = (tagText l s r vs).map lowC) (hn : Y.length ≤ 10000000), tagFault l s r vs = 0 → ∀ w, MaxW w → Calls Tryd.prog 13 #[.string ⟨Y.toArray⟩] w fun e w' => ∃ a n c, e = .returned (.tuple #[.agg #[.string ⟨l.toArray⟩, .string ⟨s.toArray⟩, .string ⟨r.toArray⟩, .slice a n c], .nilIface]) ∧ StrsAt w' (.slice a n c) vs ∧ Nil0 (.slice a n c) ∧ Below w.heap.size w w' := fun Y hY hn h w hM =>
    parse_is Y ⟨l, s, r, vs⟩ .nilIface (read_back h Y hY).1 (read_yes (read_back h Y hY).2) w hM hn
  have CB := Lib.hid fun w => rlower_any (tagText l s r vs) w (by omega)
  have CD := Lib.hid fun w => rupper_any (tagText l s r vs) w (by omega)
  cases ho : readOk q with
  | true =>
    rw [read_txt ho] at CL1
    have CP := Lib.hid fun w hM => parse_is q (readT q) .nilIface rfl (read_yes ho) w hM hq
    by_cases hF : tagFault l s r vs = 0
    · exact tagback_yy l s r q _ _ _ _ _ _ _ _ vs _ a n c w hT hV h0 (by omega) _ rfl hF CP rfl (by omega) CL1 CL2 rfl (Lib.hid (ma _ rfl (by omega) hF)) CB (Lib.hid (ma _ (map_low_low _) (by rw [List.length_map]; omega) hF)) CD (Lib.hid (ma _ (map_low_up _) (by rw [List.length_map]; omega) hF))
    · exact tagback_yn l s r q _ _ _ _ _ vs _ a n c w hT hV h0 (by omega) _ rfl hF CP rfl (by omega) CL1 CL2
  | false =>
    have CP := Lib.hid fun w hM => parse_is q (readT q) (errV 3) rfl (read_no ho) w hM hq
    by_cases hF : tagFault l s r vs = 0
    · exact tagback_ny l s r q _ _ _ _ _ _ vs _ a n c w hT hV h0 (by omega) _ rfl hF CP rfl (Lib.hid (ma _ rfl (by omega) hF)) CB (Lib.hid (ma _ (map_low_low _) (by rw [List.length_map]; omega) hF)) CD (Lib.hid (ma _ (map_low_up _) (by rw [List.length_map]; omega) hF))
    · exact tagback_nn l s r q _ _ _ vs _ a n c w hT hV h0 (by omega) _ rfl hF CP
end Go.Proofs.YtlhleojigcnjeaaDoor
