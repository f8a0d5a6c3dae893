/- The walk of the law TagTells. Conditions: the listed variables hold what the program lays; the tag is of bulk at most 100000000, the text of at most 10000000 bytes. -/
import Derived.Test.YtlhleojigcnjeaaDoorTagged
import Derived.Test.YtlhleojigcnjeaaDoorSameTag
namespace Go.Proofs.YtlhleojigcnjeaaDoor
open Go.RowKit

theorem read_small (s : List UInt8) : (readT s).vs.length ≤ s.length := by
  unfold readT readTag
  cases e : Lib.split (s.map lowC) [45] with
  | nil => simp [noTag]
  | cons a T =>
    have h := split_small (s.map lowC) e
    have h1 := cutS_small PS1 T
    have h2 := cutR_small PR1 (cutS PS1 T).2
    rw [List.length_map] at h
    dsimp only
    split
    · show (cutR PR1 (cutS PS1 T).2).2.length ≤ _; omega
    · simp [noTag]

set_option maxRecDepth 100000 in
set_option maxHeartbeats 2000000 in
theorem tagtells_yy (l s r q xl xs xr : List UInt8) (vs xv : List (List UInt8)) (a : Option Addr) (n c : Nat) (w : World) (hT : TM w) (hV : StrsAt w (.slice a n c) vs) (h0 : Nil0 (.slice a n c))
    (bt : l.length + s.length + r.length + Lib.lens vs + vs.length ≤ 100000000) (hx : xv.length ≤ 100000000) (F : Int) (hF : tagFault l s r vs = F) (hF0 : F = 0)
    (CO : Hid (∀ w : World, Calls Tryd.prog 27 #[.string ⟨q.toArray⟩] w fun e w' => ∃ a n c, e = .returned (.tuple #[.agg #[.string ⟨xl.toArray⟩, .string ⟨xs.toArray⟩, .string ⟨xr.toArray⟩, .slice a n c], .bool true]) ∧ StrsAt w' (.slice a n c) xv ∧ Nil0 (.slice a n c) ∧ Below w.heap.size w w'))
    (CP : Hid (∀ w : World, MaxW w → Calls Tryd.prog 13 #[.string ⟨q.toArray⟩] w fun e w' => ∃ a n c, e = .returned (.tuple #[.agg #[.string ⟨xl.toArray⟩, .string ⟨xs.toArray⟩, .string ⟨xr.toArray⟩, .slice a n c], .nilIface]) ∧ StrsAt w' (.slice a n c) xv ∧ Nil0 (.slice a n c) ∧ Below w.heap.size w w')) :
    Calls Tryd.prog 7 #[.agg #[.string ⟨l.toArray⟩, .string ⟨s.toArray⟩, .string ⟨r.toArray⟩, .slice a n c], .string ⟨q.toArray⟩] w fun e w' => e = .returned (.bool true) ∧ Below w.heap.size w w' := by
  have CF := Lib.hid fun wx (h : Below w.heap.size w wx) => rfault_tag l s r vs (.slice a n c) wx (hV.below h) (by omega) (fun x hx => by have := lens_mem hx; omega)
  have CK := Lib.hid fun wx (h : Below w.heap.size w wx) => check_any l s r vs (.slice a n c) wx (hV.below h) (by omega) (fun x hx => by have := lens_mem hx; omega)
  have CX := Lib.hid fun wx (h : Below w.heap.size w wx) => text_any l s r vs (.slice a n c) wx (hV.below h) h0 bt
  have CY := Lib.hid fun wx (h : Below w.heap.size w wx) => rtext_any l s r vs (.slice a n c) wx (hV.below h) h0 bt
  rw [hF] at CF CK
  have CE1 := Lib.hid fun w (h : TM w) => sameErr_yes (errE_no F) w h.h
  have CE2 := Lib.hid fun w (h : TM w) => sameErr_yes (ErrNo.nil) w h.h
  have CS := Lib.hid fun a n c a' n' c' w h h' => sameTag_any xl xs xr xl xs xr xv xv (.slice a n c) (.slice a' n' c') w h h' (by unfold maxLen; omega) (by unfold maxLen; omega)
  rw [show (decide (xv = xv) && (xl == xl) && (xs == xs) && (xr == xr)) = true by simp] at CS
  clear hV hF h0
  generalize tagText l s r vs = X at *
  subst hF0
  rw [errE_nil rfl] at CK CE1
  go_enter Tryd.func7, Tryd.ntmps7
  go_wp2_with fail
  refine (tagged_any _ (hT.below (by repeat (first | exact (Below.refl _ _) | refine blw_drewN ?_ _ | refine Below.setCell ?_ (by first | (simp; done) | omega | (simp; omega)) _ | refine Below.alloc ?_ (by first | (simp; done) | omega | (simp; omega)) _))).m).mono ?_
  rintro e w1 ⟨rfl, hb⟩
  have W1 := Lib.hid (blw_trans (show Below w.heap.size w _ by repeat (first | exact (Below.refl _ _) | refine blw_drewN ?_ _ | refine Below.setCell ?_ (by first | (simp; done) | omega | (simp; omega)) _ | refine Below.alloc ?_ (by first | (simp; done) | omega | (simp; omega)) _)) hb)
  have n1 := hb.size
  try simp at n1
  have k1_t0 := cell_keep (a := ⟨w.heap.size, 0, none⟩) (v := .string ⟨l.toArray⟩) (by first | (go_keep; done) | (simp [go_sem, *]; done)) hb
  have k1_t1 := cell_keep (a := ⟨w.heap.size, 1, none⟩) (v := .string ⟨s.toArray⟩) (by first | (go_keep; done) | (simp [go_sem, *]; done)) hb
  have k1_t2 := cell_keep (a := ⟨w.heap.size, 2, none⟩) (v := .string ⟨r.toArray⟩) (by first | (go_keep; done) | (simp [go_sem, *]; done)) hb
  have k1_t3 := cell_keep (a := ⟨w.heap.size, 3, none⟩) (v := .slice a n c) (by first | (go_keep; done) | (simp [go_sem, *]; done)) hb
  have l1_t := World.block_lt_of_cell? _ _ k1_t0
  try simp only at l1_t
  clear hb
  go_wp2_with fail
  refine (CF.out _ (by repeat (first | exact W1.out | refine blw_drewN ?_ _ | refine Below.setCell ?_ (by first | (simp; done) | omega | (simp; omega)) _ | refine Below.alloc ?_ (by first | (simp; done) | omega | (simp; omega)) _))).mono ?_
  rintro e w2 ⟨rfl, hb⟩
  have W2 := Lib.hid (blw_trans (show Below w.heap.size w _ by repeat (first | exact W1.out | refine blw_drewN ?_ _ | refine Below.setCell ?_ (by first | (simp; done) | omega | (simp; omega)) _ | refine Below.alloc ?_ (by first | (simp; done) | omega | (simp; omega)) _)) hb)
  have n2 := hb.size
  try simp at n2
  have k2_t0 := cell_keep (a := ⟨w.heap.size, 0, none⟩) (v := .string ⟨l.toArray⟩) (by first | (go_keep; done) | (simp [go_sem, *]; done)) hb
  have k2_t1 := cell_keep (a := ⟨w.heap.size, 1, none⟩) (v := .string ⟨s.toArray⟩) (by first | (go_keep; done) | (simp [go_sem, *]; done)) hb
  have k2_t2 := cell_keep (a := ⟨w.heap.size, 2, none⟩) (v := .string ⟨r.toArray⟩) (by first | (go_keep; done) | (simp [go_sem, *]; done)) hb
  have k2_t3 := cell_keep (a := ⟨w.heap.size, 3, none⟩) (v := .slice a n c) (by first | (go_keep; done) | (simp [go_sem, *]; done)) hb
  have l2_t := World.block_lt_of_cell? _ _ k2_t0
  try simp only at l2_t
  clear hb k1_t0 k1_t1 k1_t2 k1_t3 l1_t W1
  go_wp2_with fail
  refine (CK.out _ (by repeat (first | exact W2.out | refine blw_drewN ?_ _ | refine Below.setCell ?_ (by first | (simp; done) | omega | (simp; omega)) _ | refine Below.alloc ?_ (by first | (simp; done) | omega | (simp; omega)) _))).mono ?_
  rintro e w3 ⟨rfl, hb⟩
  have W3 := Lib.hid (blw_trans (show Below w.heap.size w _ by repeat (first | exact W2.out | refine blw_drewN ?_ _ | refine Below.setCell ?_ (by first | (simp; done) | omega | (simp; omega)) _ | refine Below.alloc ?_ (by first | (simp; done) | omega | (simp; omega)) _)) hb)
  have n3 := hb.size
  try simp at n3
  have k3_t0 := cell_keep (a := ⟨w.heap.size, 0, none⟩) (v := .string ⟨l.toArray⟩) (by first | (go_keep; done) | (simp [go_sem, *]; done)) hb
  have k3_t1 := cell_keep (a := ⟨w.heap.size, 1, none⟩) (v := .string ⟨s.toArray⟩) (by first | (go_keep; done) | (simp [go_sem, *]; done)) hb
  have k3_t2 := cell_keep (a := ⟨w.heap.size, 2, none⟩) (v := .string ⟨r.toArray⟩) (by first | (go_keep; done) | (simp [go_sem, *]; done)) hb
  have k3_t3 := cell_keep (a := ⟨w.heap.size, 3, none⟩) (v := .slice a n c) (by first | (go_keep; done) | (simp [go_sem, *]; done)) hb
  have l3_t := World.block_lt_of_cell? _ _ k3_t0
  try simp only at l3_t
  clear hb k2_t0 k2_t1 k2_t2 k2_t3 l2_t W2
  go_wp2_with fail
  refine (CE1.out _ (hT.below (by repeat (first | exact W3.out | refine blw_drewN ?_ _ | refine Below.setCell ?_ (by first | (simp; done) | omega | (simp; omega)) _ | refine Below.alloc ?_ (by first | (simp; done) | omega | (simp; omega)) _)))).mono ?_
  rintro e w4 ⟨rfl, hb⟩
  have W4 := Lib.hid (blw_trans (show Below w.heap.size w _ by repeat (first | exact W3.out | refine blw_drewN ?_ _ | refine Below.setCell ?_ (by first | (simp; done) | omega | (simp; omega)) _ | refine Below.alloc ?_ (by first | (simp; done) | omega | (simp; omega)) _)) hb)
  have n4 := hb.size
  try simp at n4
  have k4_t0 := cell_keep (a := ⟨w.heap.size, 0, none⟩) (v := .string ⟨l.toArray⟩) (by first | (go_keep; done) | (simp [go_sem, *]; done)) hb
  have k4_t1 := cell_keep (a := ⟨w.heap.size, 1, none⟩) (v := .string ⟨s.toArray⟩) (by first | (go_keep; done) | (simp [go_sem, *]; done)) hb
  have k4_t2 := cell_keep (a := ⟨w.heap.size, 2, none⟩) (v := .string ⟨r.toArray⟩) (by first | (go_keep; done) | (simp [go_sem, *]; done)) hb
  have k4_t3 := cell_keep (a := ⟨w.heap.size, 3, none⟩) (v := .slice a n c) (by first | (go_keep; done) | (simp [go_sem, *]; done)) hb
  have l4_t := World.block_lt_of_cell? _ _ k4_t0
  try simp only at l4_t
  clear hb k3_t0 k3_t1 k3_t2 k3_t3 l3_t W3
  go_wp2_with fail
  refine (CO.out _).mono ?_
  rintro e w5 ⟨za1, zn1, zc1, rfl, hv1, _, hb⟩
  have W5 := Lib.hid (blw_trans (show Below w.heap.size w _ by repeat (first | exact W4.out | refine blw_drewN ?_ _ | refine Below.setCell ?_ (by first | (simp; done) | omega | (simp; omega)) _ | refine Below.alloc ?_ (by first | (simp; done) | omega | (simp; omega)) _)) hb)
  have n5 := hb.size
  try simp at n5
  have k5_t0 := cell_keep (a := ⟨w.heap.size, 0, none⟩) (v := .string ⟨l.toArray⟩) (by first | (go_keep; done) | (simp [go_sem, *]; done)) hb
  have k5_t1 := cell_keep (a := ⟨w.heap.size, 1, none⟩) (v := .string ⟨s.toArray⟩) (by first | (go_keep; done) | (simp [go_sem, *]; done)) hb
  have k5_t2 := cell_keep (a := ⟨w.heap.size, 2, none⟩) (v := .string ⟨r.toArray⟩) (by first | (go_keep; done) | (simp [go_sem, *]; done)) hb
  have k5_t3 := cell_keep (a := ⟨w.heap.size, 3, none⟩) (v := .slice a n c) (by first | (go_keep; done) | (simp [go_sem, *]; done)) hb
  have l5_t := World.block_lt_of_cell? _ _ k5_t0
  try simp only at l5_t
  clear hb k4_t0 k4_t1 k4_t2 k4_t3 l4_t W4
  have HV1 := Lib.hid hv1
  clear hv1
  go_wp2_with fail
  refine (CP.out _ (hT.below (by repeat (first | exact W5.out | refine blw_drewN ?_ _ | refine Below.setCell ?_ (by first | (simp; done) | omega | (simp; omega)) _ | refine Below.alloc ?_ (by first | (simp; done) | omega | (simp; omega)) _))).m).mono ?_
  rintro e w6 ⟨za2, zn2, zc2, rfl, hv2, _, hb⟩
  have W6 := Lib.hid (blw_trans (show Below w.heap.size w _ by repeat (first | exact W5.out | refine blw_drewN ?_ _ | refine Below.setCell ?_ (by first | (simp; done) | omega | (simp; omega)) _ | refine Below.alloc ?_ (by first | (simp; done) | omega | (simp; omega)) _)) hb)
  have n6 := hb.size
  try simp at n6
  have k6_t0 := cell_keep (a := ⟨w.heap.size, 0, none⟩) (v := .string ⟨l.toArray⟩) (by first | (go_keep; done) | (simp [go_sem, *]; done)) hb
  have k6_t1 := cell_keep (a := ⟨w.heap.size, 1, none⟩) (v := .string ⟨s.toArray⟩) (by first | (go_keep; done) | (simp [go_sem, *]; done)) hb
  have k6_t2 := cell_keep (a := ⟨w.heap.size, 2, none⟩) (v := .string ⟨r.toArray⟩) (by first | (go_keep; done) | (simp [go_sem, *]; done)) hb
  have k6_t3 := cell_keep (a := ⟨w.heap.size, 3, none⟩) (v := .slice a n c) (by first | (go_keep; done) | (simp [go_sem, *]; done)) hb
  have l6_t := World.block_lt_of_cell? _ _ k6_t0
  try simp only at l6_t
  have k6_o0 := cell_keep (a := ⟨w5.heap.size, 0, none⟩) (v := .string ⟨xl.toArray⟩) (by first | (go_keep; done) | (simp [go_sem, *]; done)) hb
  have k6_o1 := cell_keep (a := ⟨w5.heap.size, 1, none⟩) (v := .string ⟨xs.toArray⟩) (by first | (go_keep; done) | (simp [go_sem, *]; done)) hb
  have k6_o2 := cell_keep (a := ⟨w5.heap.size, 2, none⟩) (v := .string ⟨xr.toArray⟩) (by first | (go_keep; done) | (simp [go_sem, *]; done)) hb
  have k6_o3 := cell_keep (a := ⟨w5.heap.size, 3, none⟩) (v := .slice za1 zn1 zc1) (by first | (go_keep; done) | (simp [go_sem, *]; done)) hb
  have l6_o := World.block_lt_of_cell? _ _ k6_o0
  try simp only at l6_o
  have H6_o := Lib.hid (StrsAt.below (show StrsAt _ (.slice za1 zn1 zc1) xv by repeat (first | exact HV1.out | refine StrsAt.alloc ?_ _ | refine StrsAt.drewN ?_ _)) hb)
  clear hb HV1 k5_t0 k5_t1 k5_t2 k5_t3 l5_t W5
  have HV2 := Lib.hid hv2
  clear hv2
  go_wp2_with fail
  refine (CE2.out _ (hT.below (by repeat (first | exact W6.out | refine blw_drewN ?_ _ | refine Below.setCell ?_ (by first | (simp; done) | omega | (simp; omega)) _ | refine Below.alloc ?_ (by first | (simp; done) | omega | (simp; omega)) _)))).mono ?_
  rintro e w7 ⟨rfl, hb⟩
  have W7 := Lib.hid (blw_trans (show Below w.heap.size w _ by repeat (first | exact W6.out | refine blw_drewN ?_ _ | refine Below.setCell ?_ (by first | (simp; done) | omega | (simp; omega)) _ | refine Below.alloc ?_ (by first | (simp; done) | omega | (simp; omega)) _)) hb)
  have n7 := hb.size
  try simp at n7
  have k7_t0 := cell_keep (a := ⟨w.heap.size, 0, none⟩) (v := .string ⟨l.toArray⟩) (by first | (go_keep; done) | (simp [go_sem, *]; done)) hb
  have k7_t1 := cell_keep (a := ⟨w.heap.size, 1, none⟩) (v := .string ⟨s.toArray⟩) (by first | (go_keep; done) | (simp [go_sem, *]; done)) hb
  have k7_t2 := cell_keep (a := ⟨w.heap.size, 2, none⟩) (v := .string ⟨r.toArray⟩) (by first | (go_keep; done) | (simp [go_sem, *]; done)) hb
  have k7_t3 := cell_keep (a := ⟨w.heap.size, 3, none⟩) (v := .slice a n c) (by first | (go_keep; done) | (simp [go_sem, *]; done)) hb
  have l7_t := World.block_lt_of_cell? _ _ k7_t0
  try simp only at l7_t
  have k7_o0 := cell_keep (a := ⟨w5.heap.size, 0, none⟩) (v := .string ⟨xl.toArray⟩) (by first | (go_keep; done) | (simp [go_sem, *]; done)) hb
  have k7_o1 := cell_keep (a := ⟨w5.heap.size, 1, none⟩) (v := .string ⟨xs.toArray⟩) (by first | (go_keep; done) | (simp [go_sem, *]; done)) hb
  have k7_o2 := cell_keep (a := ⟨w5.heap.size, 2, none⟩) (v := .string ⟨xr.toArray⟩) (by first | (go_keep; done) | (simp [go_sem, *]; done)) hb
  have k7_o3 := cell_keep (a := ⟨w5.heap.size, 3, none⟩) (v := .slice za1 zn1 zc1) (by first | (go_keep; done) | (simp [go_sem, *]; done)) hb
  have l7_o := World.block_lt_of_cell? _ _ k7_o0
  try simp only at l7_o
  have k7_p0 := cell_keep (a := ⟨w6.heap.size, 0, none⟩) (v := .string ⟨xl.toArray⟩) (by first | (go_keep; done) | (simp [go_sem, *]; done)) hb
  have k7_p1 := cell_keep (a := ⟨w6.heap.size, 1, none⟩) (v := .string ⟨xs.toArray⟩) (by first | (go_keep; done) | (simp [go_sem, *]; done)) hb
  have k7_p2 := cell_keep (a := ⟨w6.heap.size, 2, none⟩) (v := .string ⟨xr.toArray⟩) (by first | (go_keep; done) | (simp [go_sem, *]; done)) hb
  have k7_p3 := cell_keep (a := ⟨w6.heap.size, 3, none⟩) (v := .slice za2 zn2 zc2) (by first | (go_keep; done) | (simp [go_sem, *]; done)) hb
  have l7_p := World.block_lt_of_cell? _ _ k7_p0
  try simp only at l7_p
  have H7_o := Lib.hid (StrsAt.below (show StrsAt _ (.slice za1 zn1 zc1) xv by repeat (first | exact H6_o.out | refine StrsAt.alloc ?_ _ | refine StrsAt.drewN ?_ _)) hb)
  have H7_p := Lib.hid (StrsAt.below (show StrsAt _ (.slice za2 zn2 zc2) xv by repeat (first | exact HV2.out | refine StrsAt.alloc ?_ _ | refine StrsAt.drewN ?_ _)) hb)
  clear hb H6_o HV2 k6_t0 k6_t1 k6_t2 k6_t3 l6_t k6_o0 k6_o1 k6_o2 k6_o3 l6_o W6
  go_wp2_with fail
  refine (CS.out _ _ _ _ _ _ _ (show StrsAt _ (.slice za2 zn2 zc2) xv by repeat (first | exact H7_p.out | refine StrsAt.alloc ?_ _ | refine StrsAt.drewN ?_ _)) (show StrsAt _ (.slice za1 zn1 zc1) xv by repeat (first | exact H7_o.out | refine StrsAt.alloc ?_ _ | refine StrsAt.drewN ?_ _))).mono ?_
  rintro e w8 ⟨rfl, hb⟩
  have W8 := Lib.hid (blw_trans (show Below w.heap.size w _ by repeat (first | exact W7.out | refine blw_drewN ?_ _ | refine Below.setCell ?_ (by first | (simp; done) | omega | (simp; omega)) _ | refine Below.alloc ?_ (by first | (simp; done) | omega | (simp; omega)) _)) hb)
  have n8 := hb.size
  try simp at n8
  have k8_t0 := cell_keep (a := ⟨w.heap.size, 0, none⟩) (v := .string ⟨l.toArray⟩) (by first | (go_keep; done) | (simp [go_sem, *]; done)) hb
  have k8_t1 := cell_keep (a := ⟨w.heap.size, 1, none⟩) (v := .string ⟨s.toArray⟩) (by first | (go_keep; done) | (simp [go_sem, *]; done)) hb
  have k8_t2 := cell_keep (a := ⟨w.heap.size, 2, none⟩) (v := .string ⟨r.toArray⟩) (by first | (go_keep; done) | (simp [go_sem, *]; done)) hb
  have k8_t3 := cell_keep (a := ⟨w.heap.size, 3, none⟩) (v := .slice a n c) (by first | (go_keep; done) | (simp [go_sem, *]; done)) hb
  have l8_t := World.block_lt_of_cell? _ _ k8_t0
  try simp only at l8_t
  have H8_o := Lib.hid (StrsAt.below (show StrsAt _ (.slice za1 zn1 zc1) xv by repeat (first | exact H7_o.out | refine StrsAt.alloc ?_ _ | refine StrsAt.drewN ?_ _)) hb)
  have H8_p := Lib.hid (StrsAt.below (show StrsAt _ (.slice za2 zn2 zc2) xv by repeat (first | exact H7_p.out | refine StrsAt.alloc ?_ _ | refine StrsAt.drewN ?_ _)) hb)
  clear hb H7_o H7_p k7_t0 k7_t1 k7_t2 k7_t3 l7_t k7_o0 k7_o1 k7_o2 k7_o3 l7_o k7_p0 k7_p1 k7_p2 k7_p3 l7_p W7
  go_wp2_with fail
  refine wp_region_held_drew (S := fun w' => w'.cell? ⟨w.heap.size, 0, none⟩ = some (.string ⟨l.toArray⟩) ∧ w'.cell? ⟨w.heap.size, 1, none⟩ = some (.string ⟨s.toArray⟩) ∧ w'.cell? ⟨w.heap.size, 2, none⟩ = some (.string ⟨r.toArray⟩) ∧ w'.cell? ⟨w.heap.size, 3, none⟩ = some (.slice a n c) ∧ Hid (Below w.heap.size w w')) (by kernel_rfl) (by exact ⟨by go_keep, by go_keep, by go_keep, by go_keep, Lib.hid (Below.drew (by repeat (first | exact W8.out | refine blw_drewN ?_ _ | refine Below.setCell ?_ (by first | (simp; done) | omega | (simp; omega)) _ | refine Below.alloc ?_ (by first | (simp; done) | omega | (simp; omega)) _)))⟩) (fun hHeld => ?_)
  refine take_run (d := (some 40)) (v := ?v1) 0 rfl rfl (by kernel_rfl) (by kernel_rfl) (by kernel_rfl) (fun _ _ _ h => h) (by rfl) hHeld ?hy1 ?rs1
  case hy1 => (intro w hSw; (try dsimp only at hSw); go_simp) <;> (try with_reducible rfl)
  (try simp only [Act.put, List.setIfInBounds_toArray, List.set_cons_zero, List.set_cons_succ])
  refine take_run (d := (some 41)) (v := ?v2) 1 rfl rfl (by kernel_rfl) (by kernel_rfl) (by kernel_rfl) (fun _ _ _ h => h) (by rfl) hHeld ?hy2 ?rs2
  case hy2 => (intro w hSw; (try dsimp only at hSw); go_simp) <;> (try with_reducible rfl)
  (try simp only [Act.put, List.setIfInBounds_toArray, List.set_cons_zero, List.set_cons_succ])
  refine take_run (d := (some 42)) (v := ?v3) 2 rfl rfl (by kernel_rfl) (by kernel_rfl) (by kernel_rfl) (fun _ _ _ h => h) (by rfl) hHeld ?hy3 ?rs3
  case hy3 => (intro w hSw; (try dsimp only at hSw); go_simp) <;> (try with_reducible rfl)
  (try simp only [Act.put, List.setIfInBounds_toArray, List.set_cons_zero, List.set_cons_succ])
  refine take_run (d := (some 43)) (v := ?v4) 3 rfl rfl (by kernel_rfl) (by kernel_rfl) (by kernel_rfl) (fun _ _ _ h => h) (by rfl) hHeld ?hy4 ?rs4
  case hy4 => (intro w hSw; (try dsimp only at hSw); go_simp) <;> (try with_reducible rfl)
  (try simp only [Act.put, List.setIfInBounds_toArray, List.set_cons_zero, List.set_cons_succ])
  refine take_run (d := (some 44)) (v := ?v5) 4 rfl rfl (by kernel_rfl) (by kernel_rfl) (by kernel_rfl) (fun _ _ _ h => h) (by rfl) hHeld ?hy5 ?rs5
  case hy5 => (intro w hSw; (try dsimp only at hSw); go_simp) <;> (try with_reducible rfl)
  (try simp only [Act.put, List.setIfInBounds_toArray, List.set_cons_zero, List.set_cons_succ])
  refine take_run (d := (some 45)) (v := ?v6) 5 rfl rfl (by kernel_rfl) (by kernel_rfl) (by kernel_rfl) (fun _ _ _ h => h) (by rfl) hHeld ?hy6 ?rs6
  case hy6 => (intro w hSw; (try dsimp only at hSw); go_simp) <;> (try with_reducible rfl)
  (try simp only [Act.put, List.setIfInBounds_toArray, List.set_cons_zero, List.set_cons_succ])
  refine take_run (d := (some 46)) (v := ?v7) 6 rfl rfl (by kernel_rfl) (by kernel_rfl) (by kernel_rfl) (fun _ _ _ h => h) (by rfl) hHeld ?hy7 ?rs7
  case hy7 => (intro w hSw; (try dsimp only at hSw); go_simp) <;> (try with_reducible rfl)
  (try simp only [Act.put, List.setIfInBounds_toArray, List.set_cons_zero, List.set_cons_succ])
  refine take_run (d := (some 47)) (v := ?v8) 7 rfl rfl (by kernel_rfl) (by kernel_rfl) (by kernel_rfl) (fun _ _ _ h => h) (by rfl) hHeld ?hy8 ?rs8
  case hy8 => (intro w hSw; (try dsimp only at hSw); go_simp) <;> (try with_reducible rfl)
  (try simp only [Act.put, List.setIfInBounds_toArray, List.set_cons_zero, List.set_cons_succ])
  refine take_run (d := (some 48)) (v := ?v9) 8 rfl rfl (by kernel_rfl) (by kernel_rfl) (by kernel_rfl) (fun _ _ _ h => h) (by rfl) hHeld ?hy9 ?rs9
  case hy9 => (intro w hSw; (try dsimp only at hSw); go_simp) <;> (try with_reducible rfl)
  (try simp only [Act.put, List.setIfInBounds_toArray, List.set_cons_zero, List.set_cons_succ])
  refine take_run (d := (some 49)) (v := ?v10) 9 rfl rfl (by kernel_rfl) (by kernel_rfl) (by kernel_rfl) (fun _ _ _ h => h) (by rfl) hHeld ?hy10 ?rs10
  case hy10 => (intro w hSw; (try dsimp only at hSw); go_simp) <;> (try with_reducible rfl)
  (try simp only [Act.put, List.setIfInBounds_toArray, List.set_cons_zero, List.set_cons_succ])
  refine take_run (d := (some 50)) (v := ?v11) 10 rfl rfl (by kernel_rfl) (by kernel_rfl) (by kernel_rfl) (fun _ _ _ h => h) (by rfl) hHeld ?hy11 ?rs11
  case hy11 => (intro w hSw; (try dsimp only at hSw); go_simp) <;> (try with_reducible rfl)
  (try simp only [Act.put, List.setIfInBounds_toArray, List.set_cons_zero, List.set_cons_succ])
  refine take_run (d := (some 51)) (v := ?v12) 11 rfl rfl (by kernel_rfl) (by kernel_rfl) (by kernel_rfl) (fun _ _ _ h => h) (by rfl) hHeld ?hy12 ?rs12
  case hy12 => (intro w hSw; (try dsimp only at hSw); go_simp) <;> (try with_reducible rfl)
  (try simp only [Act.put, List.setIfInBounds_toArray, List.set_cons_zero, List.set_cons_succ])
  refine take_run (d := (some 52)) (v := ?v13) 12 rfl rfl (by kernel_rfl) (by kernel_rfl) (by kernel_rfl) (fun _ _ _ h => h) (by rfl) hHeld ?hy13 ?rs13
  case hy13 => (intro w hSw; (try dsimp only at hSw); go_simp) <;> (try with_reducible rfl)
  (try simp only [Act.put, List.setIfInBounds_toArray, List.set_cons_zero, List.set_cons_succ])
  refine take_run (d := (some 53)) (v := ?v14) 13 rfl rfl (by kernel_rfl) (by kernel_rfl) (by kernel_rfl) (fun _ _ _ h => h) (by rfl) hHeld ?hy14 ?rs14
  case hy14 => (intro w hSw; (try dsimp only at hSw); go_simp) <;> (try with_reducible rfl)
  (try simp only [Act.put, List.setIfInBounds_toArray, List.set_cons_zero, List.set_cons_succ])
  refine take_run (d := (some 54)) (v := ?v15) 14 rfl rfl (by kernel_rfl) (by kernel_rfl) (by kernel_rfl) (fun _ _ _ h => h) (by rfl) hHeld ?hy15 ?rs15
  case hy15 => (intro w hSw; (try dsimp only at hSw); go_simp) <;> (try with_reducible rfl)
  (try simp only [Act.put, List.setIfInBounds_toArray, List.set_cons_zero, List.set_cons_succ])
  refine take_run (d := (some 56)) (v := ?v16) 16 rfl rfl (by kernel_rfl) (by kernel_rfl) (by kernel_rfl) (fun _ _ _ h => h) (by rfl) hHeld ?hy16 ?rs16
  case hy16 => (intro w hSw; (try dsimp only at hSw); go_simp) <;> (try with_reducible rfl)
  (try simp only [Act.put, List.setIfInBounds_toArray, List.set_cons_zero, List.set_cons_succ])
  refine take_call 15 rfl (by kernel_rfl) (by rfl) (fun K hK => ?_)
  go_simp
  refine (CX.out _ (by obtain ⟨_, _, _, _, h1⟩ := hHeld; exact h1.out)).mono ?_
  rintro e w' ⟨rfl, hb⟩
  refine hK.out _ _ (by obtain ⟨h0, h1, h2, h3, hw⟩ := hHeld; exact ⟨cell_keep h0 hb, cell_keep h1 hb, cell_keep h2 hb, cell_keep h3 hb, Lib.hid (blw_trans hw.out hb)⟩) (fun hHeld => ?_)
  clear hK K
  (try simp only [Act.put, List.setIfInBounds_toArray, List.set_cons_zero, List.set_cons_succ])
  refine take_call 17 rfl (by kernel_rfl) (by rfl) (fun K hK => ?_)
  go_simp
  refine (CY.out _ (by obtain ⟨_, _, _, _, h1⟩ := hHeld; exact h1.out)).mono ?_
  rintro e w' ⟨rfl, hb⟩
  refine hK.out _ _ (by obtain ⟨h0, h1, h2, h3, hw⟩ := hHeld; exact ⟨cell_keep h0 hb, cell_keep h1 hb, cell_keep h2 hb, cell_keep h3 hb, Lib.hid (blw_trans hw.out hb)⟩) (fun hHeld => ?_)
  clear hK K
  (try simp only [Act.put, List.setIfInBounds_toArray, List.set_cons_zero, List.set_cons_succ])
  refine take_run (d := (some 58)) (v := ?v19) 18 rfl rfl (by kernel_rfl) (by kernel_rfl) (by kernel_rfl) (fun _ _ _ h => h) (by rfl) hHeld ?hy19 ?rs19
  case hy19 => (intro w hSw; (try dsimp only at hSw); go_simp) <;> (try with_reducible rfl)
  (try simp only [Act.put, List.setIfInBounds_toArray, List.set_cons_zero, List.set_cons_succ])
  refine take_run (d := (some 59)) (v := ?v20) 19 rfl rfl (by kernel_rfl) (by kernel_rfl) (by kernel_rfl) (fun _ _ _ h => h) (by rfl) hHeld ?hy20 ?rs20
  case hy20 => (intro w hSw; (try dsimp only at hSw); go_simp) <;> (try with_reducible rfl)
  (try simp only [Act.put, List.setIfInBounds_toArray, List.set_cons_zero, List.set_cons_succ])
  refine take_run (d := (some 60)) (v := ?v21) 20 rfl rfl (by kernel_rfl) (by kernel_rfl) (by kernel_rfl) (fun _ _ _ h => h) (by rfl) hHeld ?hy21 ?rs21
  case hy21 => (intro w hSw; (try dsimp only at hSw); go_simp) <;> (try with_reducible rfl)
  (try simp only [Act.put, List.setIfInBounds_toArray, List.set_cons_zero, List.set_cons_succ])
  refine take_run (d := (some 4)) (v := ?v22) 21 rfl rfl (by kernel_rfl) (by kernel_rfl) (by kernel_rfl) (fun _ _ _ h => h) (by rfl) hHeld ?hy22 ?rs22
  case hy22 => (intro w hSw; (try dsimp only at hSw); go_simp) <;> (try with_reducible rfl)
  (try simp only [Act.put, List.setIfInBounds_toArray, List.set_cons_zero, List.set_cons_succ])
  refine wpAnyH_done (by kernel_rfl) ?_ _
  obtain ⟨z0, z1, z2, z3, zW⟩ := hHeld
  go_wp2
  go_ret
  exact ⟨ret_bool (by simp), zW.out⟩

set_option maxRecDepth 100000 in
set_option maxHeartbeats 2000000 in
theorem tagtells_yn (l s r q xl xs xr : List UInt8) (vs xv : List (List UInt8)) (a : Option Addr) (n c : Nat) (w : World) (hT : TM w) (hV : StrsAt w (.slice a n c) vs) (h0 : Nil0 (.slice a n c))
    (bt : l.length + s.length + r.length + Lib.lens vs + vs.length ≤ 100000000) (hx : xv.length ≤ 100000000) (F : Int) (hF : tagFault l s r vs = F) (hF0 : F = 0)
    (CO : Hid (∀ w : World, Calls Tryd.prog 27 #[.string ⟨q.toArray⟩] w fun e w' => ∃ a n c, e = .returned (.tuple #[.agg #[.string ⟨xl.toArray⟩, .string ⟨xs.toArray⟩, .string ⟨xr.toArray⟩, .slice a n c], .bool false]) ∧ StrsAt w' (.slice a n c) xv ∧ Nil0 (.slice a n c) ∧ Below w.heap.size w w'))
    (CP : Hid (∀ w : World, MaxW w → Calls Tryd.prog 13 #[.string ⟨q.toArray⟩] w fun e w' => ∃ a n c, e = .returned (.tuple #[.agg #[.string ⟨xl.toArray⟩, .string ⟨xs.toArray⟩, .string ⟨xr.toArray⟩, .slice a n c], errV 3]) ∧ StrsAt w' (.slice a n c) xv ∧ Nil0 (.slice a n c) ∧ Below w.heap.size w w')) :
    Calls Tryd.prog 7 #[.agg #[.string ⟨l.toArray⟩, .string ⟨s.toArray⟩, .string ⟨r.toArray⟩, .slice a n c], .string ⟨q.toArray⟩] w fun e w' => e = .returned (.bool true) ∧ Below w.heap.size w w' := by
  have CF := Lib.hid fun wx (h : Below w.heap.size w wx) => rfault_tag l s r vs (.slice a n c) wx (hV.below h) (by omega) (fun x hx => by have := lens_mem hx; omega)
  have CK := Lib.hid fun wx (h : Below w.heap.size w wx) => check_any l s r vs (.slice a n c) wx (hV.below h) (by omega) (fun x hx => by have := lens_mem hx; omega)
  have CX := Lib.hid fun wx (h : Below w.heap.size w wx) => text_any l s r vs (.slice a n c) wx (hV.below h) h0 bt
  have CY := Lib.hid fun wx (h : Below w.heap.size w wx) => rtext_any l s r vs (.slice a n c) wx (hV.below h) h0 bt
  rw [hF] at CF CK
  have CE1 := Lib.hid fun w (h : TM w) => sameErr_yes (errE_no F) w h.h
  have CE2 := Lib.hid fun w (h : TM w) => sameErr_yes (ErrNo.no 3) w h.h
  have CS := Lib.hid fun a n c a' n' c' w h h' => sameTag_any xl xs xr xl xs xr xv xv (.slice a n c) (.slice a' n' c') w h h' (by unfold maxLen; omega) (by unfold maxLen; omega)
  rw [show (decide (xv = xv) && (xl == xl) && (xs == xs) && (xr == xr)) = true by simp] at CS
  clear hV hF h0
  generalize tagText l s r vs = X at *
  subst hF0
  rw [errE_nil rfl] at CK CE1
  go_enter Tryd.func7, Tryd.ntmps7
  go_wp2_with fail
  refine (tagged_any _ (hT.below (by repeat (first | exact (Below.refl _ _) | refine blw_drewN ?_ _ | refine Below.setCell ?_ (by first | (simp; done) | omega | (simp; omega)) _ | refine Below.alloc ?_ (by first | (simp; done) | omega | (simp; omega)) _))).m).mono ?_
  rintro e w1 ⟨rfl, hb⟩
  have W1 := Lib.hid (blw_trans (show Below w.heap.size w _ by repeat (first | exact (Below.refl _ _) | refine blw_drewN ?_ _ | refine Below.setCell ?_ (by first | (simp; done) | omega | (simp; omega)) _ | refine Below.alloc ?_ (by first | (simp; done) | omega | (simp; omega)) _)) hb)
  have n1 := hb.size
  try simp at n1
  have k1_t0 := cell_keep (a := ⟨w.heap.size, 0, none⟩) (v := .string ⟨l.toArray⟩) (by first | (go_keep; done) | (simp [go_sem, *]; done)) hb
  have k1_t1 := cell_keep (a := ⟨w.heap.size, 1, none⟩) (v := .string ⟨s.toArray⟩) (by first | (go_keep; done) | (simp [go_sem, *]; done)) hb
  have k1_t2 := cell_keep (a := ⟨w.heap.size, 2, none⟩) (v := .string ⟨r.toArray⟩) (by first | (go_keep; done) | (simp [go_sem, *]; done)) hb
  have k1_t3 := cell_keep (a := ⟨w.heap.size, 3, none⟩) (v := .slice a n c) (by first | (go_keep; done) | (simp [go_sem, *]; done)) hb
  have l1_t := World.block_lt_of_cell? _ _ k1_t0
  try simp only at l1_t
  clear hb
  go_wp2_with fail
  refine (CF.out _ (by repeat (first | exact W1.out | refine blw_drewN ?_ _ | refine Below.setCell ?_ (by first | (simp; done) | omega | (simp; omega)) _ | refine Below.alloc ?_ (by first | (simp; done) | omega | (simp; omega)) _))).mono ?_
  rintro e w2 ⟨rfl, hb⟩
  have W2 := Lib.hid (blw_trans (show Below w.heap.size w _ by repeat (first | exact W1.out | refine blw_drewN ?_ _ | refine Below.setCell ?_ (by first | (simp; done) | omega | (simp; omega)) _ | refine Below.alloc ?_ (by first | (simp; done) | omega | (simp; omega)) _)) hb)
  have n2 := hb.size
  try simp at n2
  have k2_t0 := cell_keep (a := ⟨w.heap.size, 0, none⟩) (v := .string ⟨l.toArray⟩) (by first | (go_keep; done) | (simp [go_sem, *]; done)) hb
  have k2_t1 := cell_keep (a := ⟨w.heap.size, 1, none⟩) (v := .string ⟨s.toArray⟩) (by first | (go_keep; done) | (simp [go_sem, *]; done)) hb
  have k2_t2 := cell_keep (a := ⟨w.heap.size, 2, none⟩) (v := .string ⟨r.toArray⟩) (by first | (go_keep; done) | (simp [go_sem, *]; done)) hb
  have k2_t3 := cell_keep (a := ⟨w.heap.size, 3, none⟩) (v := .slice a n c) (by first | (go_keep; done) | (simp [go_sem, *]; done)) hb
  have l2_t := World.block_lt_of_cell? _ _ k2_t0
  try simp only at l2_t
  clear hb k1_t0 k1_t1 k1_t2 k1_t3 l1_t W1
  go_wp2_with fail
  refine (CK.out _ (by repeat (first | exact W2.out | refine blw_drewN ?_ _ | refine Below.setCell ?_ (by first | (simp; done) | omega | (simp; omega)) _ | refine Below.alloc ?_ (by first | (simp; done) | omega | (simp; omega)) _))).mono ?_
  rintro e w3 ⟨rfl, hb⟩
  have W3 := Lib.hid (blw_trans (show Below w.heap.size w _ by repeat (first | exact W2.out | refine blw_drewN ?_ _ | refine Below.setCell ?_ (by first | (simp; done) | omega | (simp; omega)) _ | refine Below.alloc ?_ (by first | (simp; done) | omega | (simp; omega)) _)) hb)
  have n3 := hb.size
  try simp at n3
  have k3_t0 := cell_keep (a := ⟨w.heap.size, 0, none⟩) (v := .string ⟨l.toArray⟩) (by first | (go_keep; done) | (simp [go_sem, *]; done)) hb
  have k3_t1 := cell_keep (a := ⟨w.heap.size, 1, none⟩) (v := .string ⟨s.toArray⟩) (by first | (go_keep; done) | (simp [go_sem, *]; done)) hb
  have k3_t2 := cell_keep (a := ⟨w.heap.size, 2, none⟩) (v := .string ⟨r.toArray⟩) (by first | (go_keep; done) | (simp [go_sem, *]; done)) hb
  have k3_t3 := cell_keep (a := ⟨w.heap.size, 3, none⟩) (v := .slice a n c) (by first | (go_keep; done) | (simp [go_sem, *]; done)) hb
  have l3_t := World.block_lt_of_cell? _ _ k3_t0
  try simp only at l3_t
  clear hb k2_t0 k2_t1 k2_t2 k2_t3 l2_t W2
  go_wp2_with fail
  refine (CE1.out _ (hT.below (by repeat (first | exact W3.out | refine blw_drewN ?_ _ | refine Below.setCell ?_ (by first | (simp; done) | omega | (simp; omega)) _ | refine Below.alloc ?_ (by first | (simp; done) | omega | (simp; omega)) _)))).mono ?_
  rintro e w4 ⟨rfl, hb⟩
  have W4 := Lib.hid (blw_trans (show Below w.heap.size w _ by repeat (first | exact W3.out | refine blw_drewN ?_ _ | refine Below.setCell ?_ (by first | (simp; done) | omega | (simp; omega)) _ | refine Below.alloc ?_ (by first | (simp; done) | omega | (simp; omega)) _)) hb)
  have n4 := hb.size
  try simp at n4
  have k4_t0 := cell_keep (a := ⟨w.heap.size, 0, none⟩) (v := .string ⟨l.toArray⟩) (by first | (go_keep; done) | (simp [go_sem, *]; done)) hb
  have k4_t1 := cell_keep (a := ⟨w.heap.size, 1, none⟩) (v := .string ⟨s.toArray⟩) (by first | (go_keep; done) | (simp [go_sem, *]; done)) hb
  have k4_t2 := cell_keep (a := ⟨w.heap.size, 2, none⟩) (v := .string ⟨r.toArray⟩) (by first | (go_keep; done) | (simp [go_sem, *]; done)) hb
  have k4_t3 := cell_keep (a := ⟨w.heap.size, 3, none⟩) (v := .slice a n c) (by first | (go_keep; done) | (simp [go_sem, *]; done)) hb
  have l4_t := World.block_lt_of_cell? _ _ k4_t0
  try simp only at l4_t
  clear hb k3_t0 k3_t1 k3_t2 k3_t3 l3_t W3
  go_wp2_with fail
  refine (CO.out _).mono ?_
  rintro e w5 ⟨za1, zn1, zc1, rfl, hv1, _, hb⟩
  have W5 := Lib.hid (blw_trans (show Below w.heap.size w _ by repeat (first | exact W4.out | refine blw_drewN ?_ _ | refine Below.setCell ?_ (by first | (simp; done) | omega | (simp; omega)) _ | refine Below.alloc ?_ (by first | (simp; done) | omega | (simp; omega)) _)) hb)
  have n5 := hb.size
  try simp at n5
  have k5_t0 := cell_keep (a := ⟨w.heap.size, 0, none⟩) (v := .string ⟨l.toArray⟩) (by first | (go_keep; done) | (simp [go_sem, *]; done)) hb
  have k5_t1 := cell_keep (a := ⟨w.heap.size, 1, none⟩) (v := .string ⟨s.toArray⟩) (by first | (go_keep; done) | (simp [go_sem, *]; done)) hb
  have k5_t2 := cell_keep (a := ⟨w.heap.size, 2, none⟩) (v := .string ⟨r.toArray⟩) (by first | (go_keep; done) | (simp [go_sem, *]; done)) hb
  have k5_t3 := cell_keep (a := ⟨w.heap.size, 3, none⟩) (v := .slice a n c) (by first | (go_keep; done) | (simp [go_sem, *]; done)) hb
  have l5_t := World.block_lt_of_cell? _ _ k5_t0
  try simp only at l5_t
  clear hb k4_t0 k4_t1 k4_t2 k4_t3 l4_t W4
  have HV1 := Lib.hid hv1
  clear hv1
  go_wp2_with fail
  refine (CP.out _ (hT.below (by repeat (first | exact W5.out | refine blw_drewN ?_ _ | refine Below.setCell ?_ (by first | (simp; done) | omega | (simp; omega)) _ | refine Below.alloc ?_ (by first | (simp; done) | omega | (simp; omega)) _))).m).mono ?_
  rintro e w6 ⟨za2, zn2, zc2, rfl, hv2, _, hb⟩
  have W6 := Lib.hid (blw_trans (show Below w.heap.size w _ by repeat (first | exact W5.out | refine blw_drewN ?_ _ | refine Below.setCell ?_ (by first | (simp; done) | omega | (simp; omega)) _ | refine Below.alloc ?_ (by first | (simp; done) | omega | (simp; omega)) _)) hb)
  have n6 := hb.size
  try simp at n6
  have k6_t0 := cell_keep (a := ⟨w.heap.size, 0, none⟩) (v := .string ⟨l.toArray⟩) (by first | (go_keep; done) | (simp [go_sem, *]; done)) hb
  have k6_t1 := cell_keep (a := ⟨w.heap.size, 1, none⟩) (v := .string ⟨s.toArray⟩) (by first | (go_keep; done) | (simp [go_sem, *]; done)) hb
  have k6_t2 := cell_keep (a := ⟨w.heap.size, 2, none⟩) (v := .string ⟨r.toArray⟩) (by first | (go_keep; done) | (simp [go_sem, *]; done)) hb
  have k6_t3 := cell_keep (a := ⟨w.heap.size, 3, none⟩) (v := .slice a n c) (by first | (go_keep; done) | (simp [go_sem, *]; done)) hb
  have l6_t := World.block_lt_of_cell? _ _ k6_t0
  try simp only at l6_t
  have k6_o0 := cell_keep (a := ⟨w5.heap.size, 0, none⟩) (v := .string ⟨xl.toArray⟩) (by first | (go_keep; done) | (simp [go_sem, *]; done)) hb
  have k6_o1 := cell_keep (a := ⟨w5.heap.size, 1, none⟩) (v := .string ⟨xs.toArray⟩) (by first | (go_keep; done) | (simp [go_sem, *]; done)) hb
  have k6_o2 := cell_keep (a := ⟨w5.heap.size, 2, none⟩) (v := .string ⟨xr.toArray⟩) (by first | (go_keep; done) | (simp [go_sem, *]; done)) hb
  have k6_o3 := cell_keep (a := ⟨w5.heap.size, 3, none⟩) (v := .slice za1 zn1 zc1) (by first | (go_keep; done) | (simp [go_sem, *]; done)) hb
  have l6_o := World.block_lt_of_cell? _ _ k6_o0
  try simp only at l6_o
  have H6_o := Lib.hid (StrsAt.below (show StrsAt _ (.slice za1 zn1 zc1) xv by repeat (first | exact HV1.out | refine StrsAt.alloc ?_ _ | refine StrsAt.drewN ?_ _)) hb)
  clear hb HV1 k5_t0 k5_t1 k5_t2 k5_t3 l5_t W5
  have HV2 := Lib.hid hv2
  clear hv2
  go_wp2_with fail
  refine (CE2.out _ (hT.below (by repeat (first | exact W6.out | refine blw_drewN ?_ _ | refine Below.setCell ?_ (by first | (simp; done) | omega | (simp; omega)) _ | refine Below.alloc ?_ (by first | (simp; done) | omega | (simp; omega)) _)))).mono ?_
  rintro e w7 ⟨rfl, hb⟩
  have W7 := Lib.hid (blw_trans (show Below w.heap.size w _ by repeat (first | exact W6.out | refine blw_drewN ?_ _ | refine Below.setCell ?_ (by first | (simp; done) | omega | (simp; omega)) _ | refine Below.alloc ?_ (by first | (simp; done) | omega | (simp; omega)) _)) hb)
  have n7 := hb.size
  try simp at n7
  have k7_t0 := cell_keep (a := ⟨w.heap.size, 0, none⟩) (v := .string ⟨l.toArray⟩) (by first | (go_keep; done) | (simp [go_sem, *]; done)) hb
  have k7_t1 := cell_keep (a := ⟨w.heap.size, 1, none⟩) (v := .string ⟨s.toArray⟩) (by first | (go_keep; done) | (simp [go_sem, *]; done)) hb
  have k7_t2 := cell_keep (a := ⟨w.heap.size, 2, none⟩) (v := .string ⟨r.toArray⟩) (by first | (go_keep; done) | (simp [go_sem, *]; done)) hb
  have k7_t3 := cell_keep (a := ⟨w.heap.size, 3, none⟩) (v := .slice a n c) (by first | (go_keep; done) | (simp [go_sem, *]; done)) hb
  have l7_t := World.block_lt_of_cell? _ _ k7_t0
  try simp only at l7_t
  have k7_o0 := cell_keep (a := ⟨w5.heap.size, 0, none⟩) (v := .string ⟨xl.toArray⟩) (by first | (go_keep; done) | (simp [go_sem, *]; done)) hb
  have k7_o1 := cell_keep (a := ⟨w5.heap.size, 1, none⟩) (v := .string ⟨xs.toArray⟩) (by first | (go_keep; done) | (simp [go_sem, *]; done)) hb
  have k7_o2 := cell_keep (a := ⟨w5.heap.size, 2, none⟩) (v := .string ⟨xr.toArray⟩) (by first | (go_keep; done) | (simp [go_sem, *]; done)) hb
  have k7_o3 := cell_keep (a := ⟨w5.heap.size, 3, none⟩) (v := .slice za1 zn1 zc1) (by first | (go_keep; done) | (simp [go_sem, *]; done)) hb
  have l7_o := World.block_lt_of_cell? _ _ k7_o0
  try simp only at l7_o
  have k7_p0 := cell_keep (a := ⟨w6.heap.size, 0, none⟩) (v := .string ⟨xl.toArray⟩) (by first | (go_keep; done) | (simp [go_sem, *]; done)) hb
  have k7_p1 := cell_keep (a := ⟨w6.heap.size, 1, none⟩) (v := .string ⟨xs.toArray⟩) (by first | (go_keep; done) | (simp [go_sem, *]; done)) hb
  have k7_p2 := cell_keep (a := ⟨w6.heap.size, 2, none⟩) (v := .string ⟨xr.toArray⟩) (by first | (go_keep; done) | (simp [go_sem, *]; done)) hb
  have k7_p3 := cell_keep (a := ⟨w6.heap.size, 3, none⟩) (v := .slice za2 zn2 zc2) (by first | (go_keep; done) | (simp [go_sem, *]; done)) hb
  have l7_p := World.block_lt_of_cell? _ _ k7_p0
  try simp only at l7_p
  have H7_o := Lib.hid (StrsAt.below (show StrsAt _ (.slice za1 zn1 zc1) xv by repeat (first | exact H6_o.out | refine StrsAt.alloc ?_ _ | refine StrsAt.drewN ?_ _)) hb)
  have H7_p := Lib.hid (StrsAt.below (show StrsAt _ (.slice za2 zn2 zc2) xv by repeat (first | exact HV2.out | refine StrsAt.alloc ?_ _ | refine StrsAt.drewN ?_ _)) hb)
  clear hb H6_o HV2 k6_t0 k6_t1 k6_t2 k6_t3 l6_t k6_o0 k6_o1 k6_o2 k6_o3 l6_o W6
  go_wp2_with fail
  refine (CS.out _ _ _ _ _ _ _ (show StrsAt _ (.slice za2 zn2 zc2) xv by repeat (first | exact H7_p.out | refine StrsAt.alloc ?_ _ | refine StrsAt.drewN ?_ _)) (show StrsAt _ (.slice za1 zn1 zc1) xv by repeat (first | exact H7_o.out | refine StrsAt.alloc ?_ _ | refine StrsAt.drewN ?_ _))).mono ?_
  rintro e w8 ⟨rfl, hb⟩
  have W8 := Lib.hid (blw_trans (show Below w.heap.size w _ by repeat (first | exact W7.out | refine blw_drewN ?_ _ | refine Below.setCell ?_ (by first | (simp; done) | omega | (simp; omega)) _ | refine Below.alloc ?_ (by first | (simp; done) | omega | (simp; omega)) _)) hb)
  have n8 := hb.size
  try simp at n8
  have k8_t0 := cell_keep (a := ⟨w.heap.size, 0, none⟩) (v := .string ⟨l.toArray⟩) (by first | (go_keep; done) | (simp [go_sem, *]; done)) hb
  have k8_t1 := cell_keep (a := ⟨w.heap.size, 1, none⟩) (v := .string ⟨s.toArray⟩) (by first | (go_keep; done) | (simp [go_sem, *]; done)) hb
  have k8_t2 := cell_keep (a := ⟨w.heap.size, 2, none⟩) (v := .string ⟨r.toArray⟩) (by first | (go_keep; done) | (simp [go_sem, *]; done)) hb
  have k8_t3 := cell_keep (a := ⟨w.heap.size, 3, none⟩) (v := .slice a n c) (by first | (go_keep; done) | (simp [go_sem, *]; done)) hb
  have l8_t := World.block_lt_of_cell? _ _ k8_t0
  try simp only at l8_t
  have H8_o := Lib.hid (StrsAt.below (show StrsAt _ (.slice za1 zn1 zc1) xv by repeat (first | exact H7_o.out | refine StrsAt.alloc ?_ _ | refine StrsAt.drewN ?_ _)) hb)
  have H8_p := Lib.hid (StrsAt.below (show StrsAt _ (.slice za2 zn2 zc2) xv by repeat (first | exact H7_p.out | refine StrsAt.alloc ?_ _ | refine StrsAt.drewN ?_ _)) hb)
  clear hb H7_o H7_p k7_t0 k7_t1 k7_t2 k7_t3 l7_t k7_o0 k7_o1 k7_o2 k7_o3 l7_o k7_p0 k7_p1 k7_p2 k7_p3 l7_p W7
  go_wp2_with fail
  refine wp_region_held_drew (S := fun w' => w'.cell? ⟨w.heap.size, 0, none⟩ = some (.string ⟨l.toArray⟩) ∧ w'.cell? ⟨w.heap.size, 1, none⟩ = some (.string ⟨s.toArray⟩) ∧ w'.cell? ⟨w.heap.size, 2, none⟩ = some (.string ⟨r.toArray⟩) ∧ w'.cell? ⟨w.heap.size, 3, none⟩ = some (.slice a n c) ∧ Hid (Below w.heap.size w w')) (by kernel_rfl) (by exact ⟨by go_keep, by go_keep, by go_keep, by go_keep, Lib.hid (Below.drew (by repeat (first | exact W8.out | refine blw_drewN ?_ _ | refine Below.setCell ?_ (by first | (simp; done) | omega | (simp; omega)) _ | refine Below.alloc ?_ (by first | (simp; done) | omega | (simp; omega)) _)))⟩) (fun hHeld => ?_)
  refine take_run (d := (some 40)) (v := ?v23) 0 rfl rfl (by kernel_rfl) (by kernel_rfl) (by kernel_rfl) (fun _ _ _ h => h) (by rfl) hHeld ?hy23 ?rs23
  case hy23 => (intro w hSw; (try dsimp only at hSw); go_simp) <;> (try with_reducible rfl)
  (try simp only [Act.put, List.setIfInBounds_toArray, List.set_cons_zero, List.set_cons_succ])
  refine take_run (d := (some 41)) (v := ?v24) 1 rfl rfl (by kernel_rfl) (by kernel_rfl) (by kernel_rfl) (fun _ _ _ h => h) (by rfl) hHeld ?hy24 ?rs24
  case hy24 => (intro w hSw; (try dsimp only at hSw); go_simp) <;> (try with_reducible rfl)
  (try simp only [Act.put, List.setIfInBounds_toArray, List.set_cons_zero, List.set_cons_succ])
  refine take_run (d := (some 42)) (v := ?v25) 2 rfl rfl (by kernel_rfl) (by kernel_rfl) (by kernel_rfl) (fun _ _ _ h => h) (by rfl) hHeld ?hy25 ?rs25
  case hy25 => (intro w hSw; (try dsimp only at hSw); go_simp) <;> (try with_reducible rfl)
  (try simp only [Act.put, List.setIfInBounds_toArray, List.set_cons_zero, List.set_cons_succ])
  refine take_run (d := (some 43)) (v := ?v26) 3 rfl rfl (by kernel_rfl) (by kernel_rfl) (by kernel_rfl) (fun _ _ _ h => h) (by rfl) hHeld ?hy26 ?rs26
  case hy26 => (intro w hSw; (try dsimp only at hSw); go_simp) <;> (try with_reducible rfl)
  (try simp only [Act.put, List.setIfInBounds_toArray, List.set_cons_zero, List.set_cons_succ])
  refine take_run (d := (some 44)) (v := ?v27) 4 rfl rfl (by kernel_rfl) (by kernel_rfl) (by kernel_rfl) (fun _ _ _ h => h) (by rfl) hHeld ?hy27 ?rs27
  case hy27 => (intro w hSw; (try dsimp only at hSw); go_simp) <;> (try with_reducible rfl)
  (try simp only [Act.put, List.setIfInBounds_toArray, List.set_cons_zero, List.set_cons_succ])
  refine take_run (d := (some 45)) (v := ?v28) 5 rfl rfl (by kernel_rfl) (by kernel_rfl) (by kernel_rfl) (fun _ _ _ h => h) (by rfl) hHeld ?hy28 ?rs28
  case hy28 => (intro w hSw; (try dsimp only at hSw); go_simp) <;> (try with_reducible rfl)
  (try simp only [Act.put, List.setIfInBounds_toArray, List.set_cons_zero, List.set_cons_succ])
  refine take_run (d := (some 46)) (v := ?v29) 6 rfl rfl (by kernel_rfl) (by kernel_rfl) (by kernel_rfl) (fun _ _ _ h => h) (by rfl) hHeld ?hy29 ?rs29
  case hy29 => (intro w hSw; (try dsimp only at hSw); go_simp) <;> (try with_reducible rfl)
  (try simp only [Act.put, List.setIfInBounds_toArray, List.set_cons_zero, List.set_cons_succ])
  refine take_run (d := (some 47)) (v := ?v30) 7 rfl rfl (by kernel_rfl) (by kernel_rfl) (by kernel_rfl) (fun _ _ _ h => h) (by rfl) hHeld ?hy30 ?rs30
  case hy30 => (intro w hSw; (try dsimp only at hSw); go_simp) <;> (try with_reducible rfl)
  (try simp only [Act.put, List.setIfInBounds_toArray, List.set_cons_zero, List.set_cons_succ])
  refine take_run (d := (some 48)) (v := ?v31) 8 rfl rfl (by kernel_rfl) (by kernel_rfl) (by kernel_rfl) (fun _ _ _ h => h) (by rfl) hHeld ?hy31 ?rs31
  case hy31 => (intro w hSw; (try dsimp only at hSw); go_simp) <;> (try with_reducible rfl)
  (try simp only [Act.put, List.setIfInBounds_toArray, List.set_cons_zero, List.set_cons_succ])
  refine take_run (d := (some 49)) (v := ?v32) 9 rfl rfl (by kernel_rfl) (by kernel_rfl) (by kernel_rfl) (fun _ _ _ h => h) (by rfl) hHeld ?hy32 ?rs32
  case hy32 => (intro w hSw; (try dsimp only at hSw); go_simp) <;> (try with_reducible rfl)
  (try simp only [Act.put, List.setIfInBounds_toArray, List.set_cons_zero, List.set_cons_succ])
  refine take_run (d := (some 50)) (v := ?v33) 10 rfl rfl (by kernel_rfl) (by kernel_rfl) (by kernel_rfl) (fun _ _ _ h => h) (by rfl) hHeld ?hy33 ?rs33
  case hy33 => (intro w hSw; (try dsimp only at hSw); go_simp) <;> (try with_reducible rfl)
  (try simp only [Act.put, List.setIfInBounds_toArray, List.set_cons_zero, List.set_cons_succ])
  refine take_run (d := (some 51)) (v := ?v34) 11 rfl rfl (by kernel_rfl) (by kernel_rfl) (by kernel_rfl) (fun _ _ _ h => h) (by rfl) hHeld ?hy34 ?rs34
  case hy34 => (intro w hSw; (try dsimp only at hSw); go_simp) <;> (try with_reducible rfl)
  (try simp only [Act.put, List.setIfInBounds_toArray, List.set_cons_zero, List.set_cons_succ])
  refine take_run (d := (some 52)) (v := ?v35) 12 rfl rfl (by kernel_rfl) (by kernel_rfl) (by kernel_rfl) (fun _ _ _ h => h) (by rfl) hHeld ?hy35 ?rs35
  case hy35 => (intro w hSw; (try dsimp only at hSw); go_simp) <;> (try with_reducible rfl)
  (try simp only [Act.put, List.setIfInBounds_toArray, List.set_cons_zero, List.set_cons_succ])
  refine take_run (d := (some 53)) (v := ?v36) 13 rfl rfl (by kernel_rfl) (by kernel_rfl) (by kernel_rfl) (fun _ _ _ h => h) (by rfl) hHeld ?hy36 ?rs36
  case hy36 => (intro w hSw; (try dsimp only at hSw); go_simp) <;> (try with_reducible rfl)
  (try simp only [Act.put, List.setIfInBounds_toArray, List.set_cons_zero, List.set_cons_succ])
  refine take_run (d := (some 54)) (v := ?v37) 14 rfl rfl (by kernel_rfl) (by kernel_rfl) (by kernel_rfl) (fun _ _ _ h => h) (by rfl) hHeld ?hy37 ?rs37
  case hy37 => (intro w hSw; (try dsimp only at hSw); go_simp) <;> (try with_reducible rfl)
  (try simp only [Act.put, List.setIfInBounds_toArray, List.set_cons_zero, List.set_cons_succ])
  refine take_run (d := (some 56)) (v := ?v38) 16 rfl rfl (by kernel_rfl) (by kernel_rfl) (by kernel_rfl) (fun _ _ _ h => h) (by rfl) hHeld ?hy38 ?rs38
  case hy38 => (intro w hSw; (try dsimp only at hSw); go_simp) <;> (try with_reducible rfl)
  (try simp only [Act.put, List.setIfInBounds_toArray, List.set_cons_zero, List.set_cons_succ])
  refine take_call 15 rfl (by kernel_rfl) (by rfl) (fun K hK => ?_)
  go_simp
  refine (CX.out _ (by obtain ⟨_, _, _, _, h1⟩ := hHeld; exact h1.out)).mono ?_
  rintro e w' ⟨rfl, hb⟩
  refine hK.out _ _ (by obtain ⟨h0, h1, h2, h3, hw⟩ := hHeld; exact ⟨cell_keep h0 hb, cell_keep h1 hb, cell_keep h2 hb, cell_keep h3 hb, Lib.hid (blw_trans hw.out hb)⟩) (fun hHeld => ?_)
  clear hK K
  (try simp only [Act.put, List.setIfInBounds_toArray, List.set_cons_zero, List.set_cons_succ])
  refine take_call 17 rfl (by kernel_rfl) (by rfl) (fun K hK => ?_)
  go_simp
  refine (CY.out _ (by obtain ⟨_, _, _, _, h1⟩ := hHeld; exact h1.out)).mono ?_
  rintro e w' ⟨rfl, hb⟩
  refine hK.out _ _ (by obtain ⟨h0, h1, h2, h3, hw⟩ := hHeld; exact ⟨cell_keep h0 hb, cell_keep h1 hb, cell_keep h2 hb, cell_keep h3 hb, Lib.hid (blw_trans hw.out hb)⟩) (fun hHeld => ?_)
  clear hK K
  (try simp only [Act.put, List.setIfInBounds_toArray, List.set_cons_zero, List.set_cons_succ])
  refine take_run (d := (some 58)) (v := ?v41) 18 rfl rfl (by kernel_rfl) (by kernel_rfl) (by kernel_rfl) (fun _ _ _ h => h) (by rfl) hHeld ?hy41 ?rs41
  case hy41 => (intro w hSw; (try dsimp only at hSw); go_simp) <;> (try with_reducible rfl)
  (try simp only [Act.put, List.setIfInBounds_toArray, List.set_cons_zero, List.set_cons_succ])
  refine take_run (d := (some 59)) (v := ?v42) 19 rfl rfl (by kernel_rfl) (by kernel_rfl) (by kernel_rfl) (fun _ _ _ h => h) (by rfl) hHeld ?hy42 ?rs42
  case hy42 => (intro w hSw; (try dsimp only at hSw); go_simp) <;> (try with_reducible rfl)
  (try simp only [Act.put, List.setIfInBounds_toArray, List.set_cons_zero, List.set_cons_succ])
  refine take_run (d := (some 60)) (v := ?v43) 20 rfl rfl (by kernel_rfl) (by kernel_rfl) (by kernel_rfl) (fun _ _ _ h => h) (by rfl) hHeld ?hy43 ?rs43
  case hy43 => (intro w hSw; (try dsimp only at hSw); go_simp) <;> (try with_reducible rfl)
  (try simp only [Act.put, List.setIfInBounds_toArray, List.set_cons_zero, List.set_cons_succ])
  refine take_run (d := (some 4)) (v := ?v44) 21 rfl rfl (by kernel_rfl) (by kernel_rfl) (by kernel_rfl) (fun _ _ _ h => h) (by rfl) hHeld ?hy44 ?rs44
  case hy44 => (intro w hSw; (try dsimp only at hSw); go_simp) <;> (try with_reducible rfl)
  (try simp only [Act.put, List.setIfInBounds_toArray, List.set_cons_zero, List.set_cons_succ])
  refine wpAnyH_done (by kernel_rfl) ?_ _
  obtain ⟨z0, z1, z2, z3, zW⟩ := hHeld
  go_wp2
  go_ret
  exact ⟨ret_bool (by simp), zW.out⟩

set_option maxRecDepth 100000 in
set_option maxHeartbeats 2000000 in
theorem tagtells_ny (l s r q xl xs xr : List UInt8) (vs xv : List (List UInt8)) (a : Option Addr) (n c : Nat) (w : World) (hT : TM w) (hV : StrsAt w (.slice a n c) vs) (h0 : Nil0 (.slice a n c))
    (bt : l.length + s.length + r.length + Lib.lens vs + vs.length ≤ 100000000) (hx : xv.length ≤ 100000000) (F : Int) (hF : tagFault l s r vs = F) (hF0 : ¬ F = 0)
    (CO : Hid (∀ w : World, Calls Tryd.prog 27 #[.string ⟨q.toArray⟩] w fun e w' => ∃ a n c, e = .returned (.tuple #[.agg #[.string ⟨xl.toArray⟩, .string ⟨xs.toArray⟩, .string ⟨xr.toArray⟩, .slice a n c], .bool true]) ∧ StrsAt w' (.slice a n c) xv ∧ Nil0 (.slice a n c) ∧ Below w.heap.size w w'))
    (CP : Hid (∀ w : World, MaxW w → Calls Tryd.prog 13 #[.string ⟨q.toArray⟩] w fun e w' => ∃ a n c, e = .returned (.tuple #[.agg #[.string ⟨xl.toArray⟩, .string ⟨xs.toArray⟩, .string ⟨xr.toArray⟩, .slice a n c], .nilIface]) ∧ StrsAt w' (.slice a n c) xv ∧ Nil0 (.slice a n c) ∧ Below w.heap.size w w')) :
    Calls Tryd.prog 7 #[.agg #[.string ⟨l.toArray⟩, .string ⟨s.toArray⟩, .string ⟨r.toArray⟩, .slice a n c], .string ⟨q.toArray⟩] w fun e w' => e = .returned (.bool true) ∧ Below w.heap.size w w' := by
  have CF := Lib.hid fun wx (h : Below w.heap.size w wx) => rfault_tag l s r vs (.slice a n c) wx (hV.below h) (by omega) (fun x hx => by have := lens_mem hx; omega)
  have CK := Lib.hid fun wx (h : Below w.heap.size w wx) => check_any l s r vs (.slice a n c) wx (hV.below h) (by omega) (fun x hx => by have := lens_mem hx; omega)
  have CX := Lib.hid fun wx (h : Below w.heap.size w wx) => text_any l s r vs (.slice a n c) wx (hV.below h) h0 bt
  have CY := Lib.hid fun wx (h : Below w.heap.size w wx) => rtext_any l s r vs (.slice a n c) wx (hV.below h) h0 bt
  rw [hF] at CF CK
  have CE1 := Lib.hid fun w (h : TM w) => sameErr_yes (errE_no F) w h.h
  have CE2 := Lib.hid fun w (h : TM w) => sameErr_yes (ErrNo.nil) w h.h
  have CS := Lib.hid fun a n c a' n' c' w h h' => sameTag_any xl xs xr xl xs xr xv xv (.slice a n c) (.slice a' n' c') w h h' (by unfold maxLen; omega) (by unfold maxLen; omega)
  rw [show (decide (xv = xv) && (xl == xl) && (xs == xs) && (xr == xr)) = true by simp] at CS
  clear hV hF h0
  generalize tagText l s r vs = X at *
  rw [errE_some hF0] at CK CE1
  have qF1 : (F == 0) = false := beq_no hF0
  have qF2 : (F != 0) = true := by rw [bne, qF1]; rfl
  go_enter Tryd.func7, Tryd.ntmps7
  go_wp2_with fail
  refine (tagged_any _ (hT.below (by repeat (first | exact (Below.refl _ _) | refine blw_drewN ?_ _ | refine Below.setCell ?_ (by first | (simp; done) | omega | (simp; omega)) _ | refine Below.alloc ?_ (by first | (simp; done) | omega | (simp; omega)) _))).m).mono ?_
  rintro e w1 ⟨rfl, hb⟩
  have W1 := Lib.hid (blw_trans (show Below w.heap.size w _ by repeat (first | exact (Below.refl _ _) | refine blw_drewN ?_ _ | refine Below.setCell ?_ (by first | (simp; done) | omega | (simp; omega)) _ | refine Below.alloc ?_ (by first | (simp; done) | omega | (simp; omega)) _)) hb)
  have n1 := hb.size
  try simp at n1
  have k1_t0 := cell_keep (a := ⟨w.heap.size, 0, none⟩) (v := .string ⟨l.toArray⟩) (by first | (go_keep; done) | (simp [go_sem, *]; done)) hb
  have k1_t1 := cell_keep (a := ⟨w.heap.size, 1, none⟩) (v := .string ⟨s.toArray⟩) (by first | (go_keep; done) | (simp [go_sem, *]; done)) hb
  have k1_t2 := cell_keep (a := ⟨w.heap.size, 2, none⟩) (v := .string ⟨r.toArray⟩) (by first | (go_keep; done) | (simp [go_sem, *]; done)) hb
  have k1_t3 := cell_keep (a := ⟨w.heap.size, 3, none⟩) (v := .slice a n c) (by first | (go_keep; done) | (simp [go_sem, *]; done)) hb
  have l1_t := World.block_lt_of_cell? _ _ k1_t0
  try simp only at l1_t
  clear hb
  go_wp2_with fail
  refine (CF.out _ (by repeat (first | exact W1.out | refine blw_drewN ?_ _ | refine Below.setCell ?_ (by first | (simp; done) | omega | (simp; omega)) _ | refine Below.alloc ?_ (by first | (simp; done) | omega | (simp; omega)) _))).mono ?_
  rintro e w2 ⟨rfl, hb⟩
  have W2 := Lib.hid (blw_trans (show Below w.heap.size w _ by repeat (first | exact W1.out | refine blw_drewN ?_ _ | refine Below.setCell ?_ (by first | (simp; done) | omega | (simp; omega)) _ | refine Below.alloc ?_ (by first | (simp; done) | omega | (simp; omega)) _)) hb)
  have n2 := hb.size
  try simp at n2
  have k2_t0 := cell_keep (a := ⟨w.heap.size, 0, none⟩) (v := .string ⟨l.toArray⟩) (by first | (go_keep; done) | (simp [go_sem, *]; done)) hb
  have k2_t1 := cell_keep (a := ⟨w.heap.size, 1, none⟩) (v := .string ⟨s.toArray⟩) (by first | (go_keep; done) | (simp [go_sem, *]; done)) hb
  have k2_t2 := cell_keep (a := ⟨w.heap.size, 2, none⟩) (v := .string ⟨r.toArray⟩) (by first | (go_keep; done) | (simp [go_sem, *]; done)) hb
  have k2_t3 := cell_keep (a := ⟨w.heap.size, 3, none⟩) (v := .slice a n c) (by first | (go_keep; done) | (simp [go_sem, *]; done)) hb
  have l2_t := World.block_lt_of_cell? _ _ k2_t0
  try simp only at l2_t
  clear hb k1_t0 k1_t1 k1_t2 k1_t3 l1_t W1
  go_wp2_with fail
  refine (CK.out _ (by repeat (first | exact W2.out | refine blw_drewN ?_ _ | refine Below.setCell ?_ (by first | (simp; done) | omega | (simp; omega)) _ | refine Below.alloc ?_ (by first | (simp; done) | omega | (simp; omega)) _))).mono ?_
  rintro e w3 ⟨rfl, hb⟩
  have W3 := Lib.hid (blw_trans (show Below w.heap.size w _ by repeat (first | exact W2.out | refine blw_drewN ?_ _ | refine Below.setCell ?_ (by first | (simp; done) | omega | (simp; omega)) _ | refine Below.alloc ?_ (by first | (simp; done) | omega | (simp; omega)) _)) hb)
  have n3 := hb.size
  try simp at n3
  have k3_t0 := cell_keep (a := ⟨w.heap.size, 0, none⟩) (v := .string ⟨l.toArray⟩) (by first | (go_keep; done) | (simp [go_sem, *]; done)) hb
  have k3_t1 := cell_keep (a := ⟨w.heap.size, 1, none⟩) (v := .string ⟨s.toArray⟩) (by first | (go_keep; done) | (simp [go_sem, *]; done)) hb
  have k3_t2 := cell_keep (a := ⟨w.heap.size, 2, none⟩) (v := .string ⟨r.toArray⟩) (by first | (go_keep; done) | (simp [go_sem, *]; done)) hb
  have k3_t3 := cell_keep (a := ⟨w.heap.size, 3, none⟩) (v := .slice a n c) (by first | (go_keep; done) | (simp [go_sem, *]; done)) hb
  have l3_t := World.block_lt_of_cell? _ _ k3_t0
  try simp only at l3_t
  clear hb k2_t0 k2_t1 k2_t2 k2_t3 l2_t W2
  go_wp2_with fail
  refine (CE1.out _ (hT.below (by repeat (first | exact W3.out | refine blw_drewN ?_ _ | refine Below.setCell ?_ (by first | (simp; done) | omega | (simp; omega)) _ | refine Below.alloc ?_ (by first | (simp; done) | omega | (simp; omega)) _)))).mono ?_
  rintro e w4 ⟨rfl, hb⟩
  have W4 := Lib.hid (blw_trans (show Below w.heap.size w _ by repeat (first | exact W3.out | refine blw_drewN ?_ _ | refine Below.setCell ?_ (by first | (simp; done) | omega | (simp; omega)) _ | refine Below.alloc ?_ (by first | (simp; done) | omega | (simp; omega)) _)) hb)
  have n4 := hb.size
  try simp at n4
  have k4_t0 := cell_keep (a := ⟨w.heap.size, 0, none⟩) (v := .string ⟨l.toArray⟩) (by first | (go_keep; done) | (simp [go_sem, *]; done)) hb
  have k4_t1 := cell_keep (a := ⟨w.heap.size, 1, none⟩) (v := .string ⟨s.toArray⟩) (by first | (go_keep; done) | (simp [go_sem, *]; done)) hb
  have k4_t2 := cell_keep (a := ⟨w.heap.size, 2, none⟩) (v := .string ⟨r.toArray⟩) (by first | (go_keep; done) | (simp [go_sem, *]; done)) hb
  have k4_t3 := cell_keep (a := ⟨w.heap.size, 3, none⟩) (v := .slice a n c) (by first | (go_keep; done) | (simp [go_sem, *]; done)) hb
  have l4_t := World.block_lt_of_cell? _ _ k4_t0
  try simp only at l4_t
  clear hb k3_t0 k3_t1 k3_t2 k3_t3 l3_t W3
  go_wp2_with fail
  refine (CO.out _).mono ?_
  rintro e w5 ⟨za1, zn1, zc1, rfl, hv1, _, hb⟩
  have W5 := Lib.hid (blw_trans (show Below w.heap.size w _ by repeat (first | exact W4.out | refine blw_drewN ?_ _ | refine Below.setCell ?_ (by first | (simp; done) | omega | (simp; omega)) _ | refine Below.alloc ?_ (by first | (simp; done) | omega | (simp; omega)) _)) hb)
  have n5 := hb.size
  try simp at n5
  have k5_t0 := cell_keep (a := ⟨w.heap.size, 0, none⟩) (v := .string ⟨l.toArray⟩) (by first | (go_keep; done) | (simp [go_sem, *]; done)) hb
  have k5_t1 := cell_keep (a := ⟨w.heap.size, 1, none⟩) (v := .string ⟨s.toArray⟩) (by first | (go_keep; done) | (simp [go_sem, *]; done)) hb
  have k5_t2 := cell_keep (a := ⟨w.heap.size, 2, none⟩) (v := .string ⟨r.toArray⟩) (by first | (go_keep; done) | (simp [go_sem, *]; done)) hb
  have k5_t3 := cell_keep (a := ⟨w.heap.size, 3, none⟩) (v := .slice a n c) (by first | (go_keep; done) | (simp [go_sem, *]; done)) hb
  have l5_t := World.block_lt_of_cell? _ _ k5_t0
  try simp only at l5_t
  clear hb k4_t0 k4_t1 k4_t2 k4_t3 l4_t W4
  have HV1 := Lib.hid hv1
  clear hv1
  go_wp2_with fail
  refine (CP.out _ (hT.below (by repeat (first | exact W5.out | refine blw_drewN ?_ _ | refine Below.setCell ?_ (by first | (simp; done) | omega | (simp; omega)) _ | refine Below.alloc ?_ (by first | (simp; done) | omega | (simp; omega)) _))).m).mono ?_
  rintro e w6 ⟨za2, zn2, zc2, rfl, hv2, _, hb⟩
  have W6 := Lib.hid (blw_trans (show Below w.heap.size w _ by repeat (first | exact W5.out | refine blw_drewN ?_ _ | refine Below.setCell ?_ (by first | (simp; done) | omega | (simp; omega)) _ | refine Below.alloc ?_ (by first | (simp; done) | omega | (simp; omega)) _)) hb)
  have n6 := hb.size
  try simp at n6
  have k6_t0 := cell_keep (a := ⟨w.heap.size, 0, none⟩) (v := .string ⟨l.toArray⟩) (by first | (go_keep; done) | (simp [go_sem, *]; done)) hb
  have k6_t1 := cell_keep (a := ⟨w.heap.size, 1, none⟩) (v := .string ⟨s.toArray⟩) (by first | (go_keep; done) | (simp [go_sem, *]; done)) hb
  have k6_t2 := cell_keep (a := ⟨w.heap.size, 2, none⟩) (v := .string ⟨r.toArray⟩) (by first | (go_keep; done) | (simp [go_sem, *]; done)) hb
  have k6_t3 := cell_keep (a := ⟨w.heap.size, 3, none⟩) (v := .slice a n c) (by first | (go_keep; done) | (simp [go_sem, *]; done)) hb
  have l6_t := World.block_lt_of_cell? _ _ k6_t0
  try simp only at l6_t
  have k6_o0 := cell_keep (a := ⟨w5.heap.size, 0, none⟩) (v := .string ⟨xl.toArray⟩) (by first | (go_keep; done) | (simp [go_sem, *]; done)) hb
  have k6_o1 := cell_keep (a := ⟨w5.heap.size, 1, none⟩) (v := .string ⟨xs.toArray⟩) (by first | (go_keep; done) | (simp [go_sem, *]; done)) hb
  have k6_o2 := cell_keep (a := ⟨w5.heap.size, 2, none⟩) (v := .string ⟨xr.toArray⟩) (by first | (go_keep; done) | (simp [go_sem, *]; done)) hb
  have k6_o3 := cell_keep (a := ⟨w5.heap.size, 3, none⟩) (v := .slice za1 zn1 zc1) (by first | (go_keep; done) | (simp [go_sem, *]; done)) hb
  have l6_o := World.block_lt_of_cell? _ _ k6_o0
  try simp only at l6_o
  have H6_o := Lib.hid (StrsAt.below (show StrsAt _ (.slice za1 zn1 zc1) xv by repeat (first | exact HV1.out | refine StrsAt.alloc ?_ _ | refine StrsAt.drewN ?_ _)) hb)
  clear hb HV1 k5_t0 k5_t1 k5_t2 k5_t3 l5_t W5
  have HV2 := Lib.hid hv2
  clear hv2
  go_wp2_with fail
  refine (CE2.out _ (hT.below (by repeat (first | exact W6.out | refine blw_drewN ?_ _ | refine Below.setCell ?_ (by first | (simp; done) | omega | (simp; omega)) _ | refine Below.alloc ?_ (by first | (simp; done) | omega | (simp; omega)) _)))).mono ?_
  rintro e w7 ⟨rfl, hb⟩
  have W7 := Lib.hid (blw_trans (show Below w.heap.size w _ by repeat (first | exact W6.out | refine blw_drewN ?_ _ | refine Below.setCell ?_ (by first | (simp; done) | omega | (simp; omega)) _ | refine Below.alloc ?_ (by first | (simp; done) | omega | (simp; omega)) _)) hb)
  have n7 := hb.size
  try simp at n7
  have k7_t0 := cell_keep (a := ⟨w.heap.size, 0, none⟩) (v := .string ⟨l.toArray⟩) (by first | (go_keep; done) | (simp [go_sem, *]; done)) hb
  have k7_t1 := cell_keep (a := ⟨w.heap.size, 1, none⟩) (v := .string ⟨s.toArray⟩) (by first | (go_keep; done) | (simp [go_sem, *]; done)) hb
  have k7_t2 := cell_keep (a := ⟨w.heap.size, 2, none⟩) (v := .string ⟨r.toArray⟩) (by first | (go_keep; done) | (simp [go_sem, *]; done)) hb
  have k7_t3 := cell_keep (a := ⟨w.heap.size, 3, none⟩) (v := .slice a n c) (by first | (go_keep; done) | (simp [go_sem, *]; done)) hb
  have l7_t := World.block_lt_of_cell? _ _ k7_t0
  try simp only at l7_t
  have k7_o0 := cell_keep (a := ⟨w5.heap.size, 0, none⟩) (v := .string ⟨xl.toArray⟩) (by first | (go_keep; done) | (simp [go_sem, *]; done)) hb
  have k7_o1 := cell_keep (a := ⟨w5.heap.size, 1, none⟩) (v := .string ⟨xs.toArray⟩) (by first | (go_keep; done) | (simp [go_sem, *]; done)) hb
  have k7_o2 := cell_keep (a := ⟨w5.heap.size, 2, none⟩) (v := .string ⟨xr.toArray⟩) (by first | (go_keep; done) | (simp [go_sem, *]; done)) hb
  have k7_o3 := cell_keep (a := ⟨w5.heap.size, 3, none⟩) (v := .slice za1 zn1 zc1) (by first | (go_keep; done) | (simp [go_sem, *]; done)) hb
  have l7_o := World.block_lt_of_cell? _ _ k7_o0
  try simp only at l7_o
  have k7_p0 := cell_keep (a := ⟨w6.heap.size, 0, none⟩) (v := .string ⟨xl.toArray⟩) (by first | (go_keep; done) | (simp [go_sem, *]; done)) hb
  have k7_p1 := cell_keep (a := ⟨w6.heap.size, 1, none⟩) (v := .string ⟨xs.toArray⟩) (by first | (go_keep; done) | (simp [go_sem, *]; done)) hb
  have k7_p2 := cell_keep (a := ⟨w6.heap.size, 2, none⟩) (v := .string ⟨xr.toArray⟩) (by first | (go_keep; done) | (simp [go_sem, *]; done)) hb
  have k7_p3 := cell_keep (a := ⟨w6.heap.size, 3, none⟩) (v := .slice za2 zn2 zc2) (by first | (go_keep; done) | (simp [go_sem, *]; done)) hb
  have l7_p := World.block_lt_of_cell? _ _ k7_p0
  try simp only at l7_p
  have H7_o := Lib.hid (StrsAt.below (show StrsAt _ (.slice za1 zn1 zc1) xv by repeat (first | exact H6_o.out | refine StrsAt.alloc ?_ _ | refine StrsAt.drewN ?_ _)) hb)
  have H7_p := Lib.hid (StrsAt.below (show StrsAt _ (.slice za2 zn2 zc2) xv by repeat (first | exact HV2.out | refine StrsAt.alloc ?_ _ | refine StrsAt.drewN ?_ _)) hb)
  clear hb H6_o HV2 k6_t0 k6_t1 k6_t2 k6_t3 l6_t k6_o0 k6_o1 k6_o2 k6_o3 l6_o W6
  go_wp2_with fail
  refine (CS.out _ _ _ _ _ _ _ (show StrsAt _ (.slice za2 zn2 zc2) xv by repeat (first | exact H7_p.out | refine StrsAt.alloc ?_ _ | refine StrsAt.drewN ?_ _)) (show StrsAt _ (.slice za1 zn1 zc1) xv by repeat (first | exact H7_o.out | refine StrsAt.alloc ?_ _ | refine StrsAt.drewN ?_ _))).mono ?_
  rintro e w8 ⟨rfl, hb⟩
  have W8 := Lib.hid (blw_trans (show Below w.heap.size w _ by repeat (first | exact W7.out | refine blw_drewN ?_ _ | refine Below.setCell ?_ (by first | (simp; done) | omega | (simp; omega)) _ | refine Below.alloc ?_ (by first | (simp; done) | omega | (simp; omega)) _)) hb)
  have n8 := hb.size
  try simp at n8
  have k8_t0 := cell_keep (a := ⟨w.heap.size, 0, none⟩) (v := .string ⟨l.toArray⟩) (by first | (go_keep; done) | (simp [go_sem, *]; done)) hb
  have k8_t1 := cell_keep (a := ⟨w.heap.size, 1, none⟩) (v := .string ⟨s.toArray⟩) (by first | (go_keep; done) | (simp [go_sem, *]; done)) hb
  have k8_t2 := cell_keep (a := ⟨w.heap.size, 2, none⟩) (v := .string ⟨r.toArray⟩) (by first | (go_keep; done) | (simp [go_sem, *]; done)) hb
  have k8_t3 := cell_keep (a := ⟨w.heap.size, 3, none⟩) (v := .slice a n c) (by first | (go_keep; done) | (simp [go_sem, *]; done)) hb
  have l8_t := World.block_lt_of_cell? _ _ k8_t0
  try simp only at l8_t
  have H8_o := Lib.hid (StrsAt.below (show StrsAt _ (.slice za1 zn1 zc1) xv by repeat (first | exact H7_o.out | refine StrsAt.alloc ?_ _ | refine StrsAt.drewN ?_ _)) hb)
  have H8_p := Lib.hid (StrsAt.below (show StrsAt _ (.slice za2 zn2 zc2) xv by repeat (first | exact H7_p.out | refine StrsAt.alloc ?_ _ | refine StrsAt.drewN ?_ _)) hb)
  clear hb H7_o H7_p k7_t0 k7_t1 k7_t2 k7_t3 l7_t k7_o0 k7_o1 k7_o2 k7_o3 l7_o k7_p0 k7_p1 k7_p2 k7_p3 l7_p W7
  go_wp2_with fail
  refine wp_region_held_drew (S := fun w' => w'.cell? ⟨w.heap.size, 0, none⟩ = some (.string ⟨l.toArray⟩) ∧ w'.cell? ⟨w.heap.size, 1, none⟩ = some (.string ⟨s.toArray⟩) ∧ w'.cell? ⟨w.heap.size, 2, none⟩ = some (.string ⟨r.toArray⟩) ∧ w'.cell? ⟨w.heap.size, 3, none⟩ = some (.slice a n c) ∧ Hid (Below w.heap.size w w')) (by kernel_rfl) (by exact ⟨by go_keep, by go_keep, by go_keep, by go_keep, Lib.hid (Below.drew (by repeat (first | exact W8.out | refine blw_drewN ?_ _ | refine Below.setCell ?_ (by first | (simp; done) | omega | (simp; omega)) _ | refine Below.alloc ?_ (by first | (simp; done) | omega | (simp; omega)) _)))⟩) (fun hHeld => ?_)
  refine take_run (d := (some 40)) (v := ?v45) 0 rfl rfl (by kernel_rfl) (by kernel_rfl) (by kernel_rfl) (fun _ _ _ h => h) (by rfl) hHeld ?hy45 ?rs45
  case hy45 => (intro w hSw; (try dsimp only at hSw); go_simp) <;> (try with_reducible rfl)
  (try simp only [Act.put, List.setIfInBounds_toArray, List.set_cons_zero, List.set_cons_succ])
  refine take_run (d := (some 41)) (v := ?v46) 1 rfl rfl (by kernel_rfl) (by kernel_rfl) (by kernel_rfl) (fun _ _ _ h => h) (by rfl) hHeld ?hy46 ?rs46
  case hy46 => (intro w hSw; (try dsimp only at hSw); go_simp) <;> (try with_reducible rfl)
  (try simp only [Act.put, List.setIfInBounds_toArray, List.set_cons_zero, List.set_cons_succ])
  refine take_run (d := (some 42)) (v := ?v47) 2 rfl rfl (by kernel_rfl) (by kernel_rfl) (by kernel_rfl) (fun _ _ _ h => h) (by rfl) hHeld ?hy47 ?rs47
  case hy47 => (intro w hSw; (try dsimp only at hSw); go_simp) <;> (try with_reducible rfl)
  (try simp only [Act.put, List.setIfInBounds_toArray, List.set_cons_zero, List.set_cons_succ])
  refine take_run (d := (some 43)) (v := ?v48) 3 rfl rfl (by kernel_rfl) (by kernel_rfl) (by kernel_rfl) (fun _ _ _ h => h) (by rfl) hHeld ?hy48 ?rs48
  case hy48 => (intro w hSw; (try dsimp only at hSw); go_simp) <;> (try with_reducible rfl)
  (try simp only [Act.put, List.setIfInBounds_toArray, List.set_cons_zero, List.set_cons_succ])
  refine take_run (d := (some 44)) (v := ?v49) 4 rfl rfl (by kernel_rfl) (by kernel_rfl) (by kernel_rfl) (fun _ _ _ h => h) (by rfl) hHeld ?hy49 ?rs49
  case hy49 => (intro w hSw; (try dsimp only at hSw); go_simp) <;> (try with_reducible rfl)
  (try simp only [Act.put, List.setIfInBounds_toArray, List.set_cons_zero, List.set_cons_succ])
  refine take_run (d := (some 45)) (v := ?v50) 5 rfl rfl (by kernel_rfl) (by kernel_rfl) (by kernel_rfl) (fun _ _ _ h => h) (by rfl) hHeld ?hy50 ?rs50
  case hy50 => (intro w hSw; (try dsimp only at hSw); go_simp) <;> (try with_reducible rfl)
  (try simp only [Act.put, List.setIfInBounds_toArray, List.set_cons_zero, List.set_cons_succ])
  refine take_run (d := (some 46)) (v := ?v51) 6 rfl rfl (by kernel_rfl) (by kernel_rfl) (by kernel_rfl) (fun _ _ _ h => h) (by rfl) hHeld ?hy51 ?rs51
  case hy51 => (intro w hSw; (try dsimp only at hSw); go_simp) <;> (try with_reducible rfl)
  (try simp only [Act.put, List.setIfInBounds_toArray, List.set_cons_zero, List.set_cons_succ])
  refine take_run (d := (some 47)) (v := ?v52) 7 rfl rfl (by kernel_rfl) (by kernel_rfl) (by kernel_rfl) (fun _ _ _ h => h) (by rfl) hHeld ?hy52 ?rs52
  case hy52 => (intro w hSw; (try dsimp only at hSw); go_simp) <;> (try with_reducible rfl)
  (try simp only [Act.put, List.setIfInBounds_toArray, List.set_cons_zero, List.set_cons_succ])
  refine take_run (d := (some 48)) (v := ?v53) 8 rfl rfl (by kernel_rfl) (by kernel_rfl) (by kernel_rfl) (fun _ _ _ h => h) (by rfl) hHeld ?hy53 ?rs53
  case hy53 => (intro w hSw; (try dsimp only at hSw); go_simp) <;> (try with_reducible rfl)
  (try simp only [Act.put, List.setIfInBounds_toArray, List.set_cons_zero, List.set_cons_succ])
  refine take_run (d := (some 49)) (v := ?v54) 9 rfl rfl (by kernel_rfl) (by kernel_rfl) (by kernel_rfl) (fun _ _ _ h => h) (by rfl) hHeld ?hy54 ?rs54
  case hy54 => (intro w hSw; (try dsimp only at hSw); go_simp) <;> (try with_reducible rfl)
  (try simp only [Act.put, List.setIfInBounds_toArray, List.set_cons_zero, List.set_cons_succ])
  refine take_run (d := (some 50)) (v := ?v55) 10 rfl rfl (by kernel_rfl) (by kernel_rfl) (by kernel_rfl) (fun _ _ _ h => h) (by rfl) hHeld ?hy55 ?rs55
  case hy55 => (intro w hSw; (try dsimp only at hSw); go_simp) <;> (try with_reducible rfl)
  (try simp only [Act.put, List.setIfInBounds_toArray, List.set_cons_zero, List.set_cons_succ])
  refine take_run (d := (some 51)) (v := ?v56) 11 rfl rfl (by kernel_rfl) (by kernel_rfl) (by kernel_rfl) (fun _ _ _ h => h) (by rfl) hHeld ?hy56 ?rs56
  case hy56 => (intro w hSw; (try dsimp only at hSw); go_simp) <;> (try with_reducible rfl)
  (try simp only [Act.put, List.setIfInBounds_toArray, List.set_cons_zero, List.set_cons_succ])
  refine take_run (d := (some 52)) (v := ?v57) 12 rfl rfl (by kernel_rfl) (by kernel_rfl) (by kernel_rfl) (fun _ _ _ h => h) (by rfl) hHeld ?hy57 ?rs57
  case hy57 => (intro w hSw; (try dsimp only at hSw); go_simp) <;> (try with_reducible rfl)
  (try simp only [Act.put, List.setIfInBounds_toArray, List.set_cons_zero, List.set_cons_succ])
  refine take_run (d := (some 53)) (v := ?v58) 13 rfl rfl (by kernel_rfl) (by kernel_rfl) (by kernel_rfl) (fun _ _ _ h => h) (by rfl) hHeld ?hy58 ?rs58
  case hy58 => (intro w hSw; (try dsimp only at hSw); go_simp) <;> (try with_reducible rfl)
  (try simp only [Act.put, List.setIfInBounds_toArray, List.set_cons_zero, List.set_cons_succ])
  refine take_skip (d := (some 54)) 14 rfl rfl (by kernel_rfl) (by kernel_rfl) (by kernel_rfl) (fun _ _ _ h => h) (by rfl) hHeld ?_
  (try simp only [Act.put, List.setIfInBounds_toArray, List.set_cons_zero, List.set_cons_succ])
  refine take_skip (d := (some 55)) 15 rfl rfl (by kernel_rfl) (by kernel_rfl) (by kernel_rfl) (fun _ _ _ h => h) (by rfl) hHeld ?_
  (try simp only [Act.put, List.setIfInBounds_toArray, List.set_cons_zero, List.set_cons_succ])
  refine take_skip (d := (some 56)) 16 rfl rfl (by kernel_rfl) (by kernel_rfl) (by kernel_rfl) (fun _ _ _ h => h) (by rfl) hHeld ?_
  (try simp only [Act.put, List.setIfInBounds_toArray, List.set_cons_zero, List.set_cons_succ])
  refine take_skip (d := (some 57)) 17 rfl rfl (by kernel_rfl) (by kernel_rfl) (by kernel_rfl) (fun _ _ _ h => h) (by rfl) hHeld ?_
  (try simp only [Act.put, List.setIfInBounds_toArray, List.set_cons_zero, List.set_cons_succ])
  refine take_skip (d := (some 58)) 18 rfl rfl (by kernel_rfl) (by kernel_rfl) (by kernel_rfl) (fun _ _ _ h => h) (by rfl) hHeld ?_
  (try simp only [Act.put, List.setIfInBounds_toArray, List.set_cons_zero, List.set_cons_succ])
  refine take_run (d := (some 59)) (v := ?v64) 19 rfl rfl (by kernel_rfl) (by kernel_rfl) (by kernel_rfl) (fun _ _ _ h => h) (by rfl) hHeld ?hy64 ?rs64
  case hy64 => (intro w hSw; (try dsimp only at hSw); go_simp) <;> (try with_reducible rfl)
  (try simp only [Act.put, List.setIfInBounds_toArray, List.set_cons_zero, List.set_cons_succ])
  refine take_run (d := (some 60)) (v := ?v65) 20 rfl rfl (by kernel_rfl) (by kernel_rfl) (by kernel_rfl) (fun _ _ _ h => h) (by rfl) hHeld ?hy65 ?rs65
  case hy65 => (intro w hSw; (try dsimp only at hSw); go_simp) <;> (try with_reducible rfl)
  (try simp only [Act.put, List.setIfInBounds_toArray, List.set_cons_zero, List.set_cons_succ])
  refine take_run (d := (some 4)) (v := ?v66) 21 rfl rfl (by kernel_rfl) (by kernel_rfl) (by kernel_rfl) (fun _ _ _ h => h) (by rfl) hHeld ?hy66 ?rs66
  case hy66 => (intro w hSw; (try dsimp only at hSw); go_simp) <;> (try with_reducible rfl)
  (try simp only [Act.put, List.setIfInBounds_toArray, List.set_cons_zero, List.set_cons_succ])
  refine wpAnyH_done (by kernel_rfl) ?_ _
  obtain ⟨z0, z1, z2, z3, zW⟩ := hHeld
  go_wp2
  go_ret
  exact ⟨ret_bool (by simp), zW.out⟩

set_option maxRecDepth 100000 in
set_option maxHeartbeats 2000000 in
theorem tagtells_nn (l s r q xl xs xr : List UInt8) (vs xv : List (List UInt8)) (a : Option Addr) (n c : Nat) (w : World) (hT : TM w) (hV : StrsAt w (.slice a n c) vs) (h0 : Nil0 (.slice a n c))
    (bt : l.length + s.length + r.length + Lib.lens vs + vs.length ≤ 100000000) (hx : xv.length ≤ 100000000) (F : Int) (hF : tagFault l s r vs = F) (hF0 : ¬ F = 0)
    (CO : Hid (∀ w : World, Calls Tryd.prog 27 #[.string ⟨q.toArray⟩] w fun e w' => ∃ a n c, e = .returned (.tuple #[.agg #[.string ⟨xl.toArray⟩, .string ⟨xs.toArray⟩, .string ⟨xr.toArray⟩, .slice a n c], .bool false]) ∧ StrsAt w' (.slice a n c) xv ∧ Nil0 (.slice a n c) ∧ Below w.heap.size w w'))
    (CP : Hid (∀ w : World, MaxW w → Calls Tryd.prog 13 #[.string ⟨q.toArray⟩] w fun e w' => ∃ a n c, e = .returned (.tuple #[.agg #[.string ⟨xl.toArray⟩, .string ⟨xs.toArray⟩, .string ⟨xr.toArray⟩, .slice a n c], errV 3]) ∧ StrsAt w' (.slice a n c) xv ∧ Nil0 (.slice a n c) ∧ Below w.heap.size w w')) :
    Calls Tryd.prog 7 #[.agg #[.string ⟨l.toArray⟩, .string ⟨s.toArray⟩, .string ⟨r.toArray⟩, .slice a n c], .string ⟨q.toArray⟩] w fun e w' => e = .returned (.bool true) ∧ Below w.heap.size w w' := by
  have CF := Lib.hid fun wx (h : Below w.heap.size w wx) => rfault_tag l s r vs (.slice a n c) wx (hV.below h) (by omega) (fun x hx => by have := lens_mem hx; omega)
  have CK := Lib.hid fun wx (h : Below w.heap.size w wx) => check_any l s r vs (.slice a n c) wx (hV.below h) (by omega) (fun x hx => by have := lens_mem hx; omega)
  have CX := Lib.hid fun wx (h : Below w.heap.size w wx) => text_any l s r vs (.slice a n c) wx (hV.below h) h0 bt
  have CY := Lib.hid fun wx (h : Below w.heap.size w wx) => rtext_any l s r vs (.slice a n c) wx (hV.below h) h0 bt
  rw [hF] at CF CK
  have CE1 := Lib.hid fun w (h : TM w) => sameErr_yes (errE_no F) w h.h
  have CE2 := Lib.hid fun w (h : TM w) => sameErr_yes (ErrNo.no 3) w h.h
  have CS := Lib.hid fun a n c a' n' c' w h h' => sameTag_any xl xs xr xl xs xr xv xv (.slice a n c) (.slice a' n' c') w h h' (by unfold maxLen; omega) (by unfold maxLen; omega)
  rw [show (decide (xv = xv) && (xl == xl) && (xs == xs) && (xr == xr)) = true by simp] at CS
  clear hV hF h0
  generalize tagText l s r vs = X at *
  rw [errE_some hF0] at CK CE1
  have qF1 : (F == 0) = false := beq_no hF0
  have qF2 : (F != 0) = true := by rw [bne, qF1]; rfl
  go_enter Tryd.func7, Tryd.ntmps7
  go_wp2_with fail
  refine (tagged_any _ (hT.below (by repeat (first | exact (Below.refl _ _) | refine blw_drewN ?_ _ | refine Below.setCell ?_ (by first | (simp; done) | omega | (simp; omega)) _ | refine Below.alloc ?_ (by first | (simp; done) | omega | (simp; omega)) _))).m).mono ?_
  rintro e w1 ⟨rfl, hb⟩
  have W1 := Lib.hid (blw_trans (show Below w.heap.size w _ by repeat (first | exact (Below.refl _ _) | refine blw_drewN ?_ _ | refine Below.setCell ?_ (by first | (simp; done) | omega | (simp; omega)) _ | refine Below.alloc ?_ (by first | (simp; done) | omega | (simp; omega)) _)) hb)
  have n1 := hb.size
  try simp at n1
  have k1_t0 := cell_keep (a := ⟨w.heap.size, 0, none⟩) (v := .string ⟨l.toArray⟩) (by first | (go_keep; done) | (simp [go_sem, *]; done)) hb
  have k1_t1 := cell_keep (a := ⟨w.heap.size, 1, none⟩) (v := .string ⟨s.toArray⟩) (by first | (go_keep; done) | (simp [go_sem, *]; done)) hb
  have k1_t2 := cell_keep (a := ⟨w.heap.size, 2, none⟩) (v := .string ⟨r.toArray⟩) (by first | (go_keep; done) | (simp [go_sem, *]; done)) hb
  have k1_t3 := cell_keep (a := ⟨w.heap.size, 3, none⟩) (v := .slice a n c) (by first | (go_keep; done) | (simp [go_sem, *]; done)) hb
  have l1_t := World.block_lt_of_cell? _ _ k1_t0
  try simp only at l1_t
  clear hb
  go_wp2_with fail
  refine (CF.out _ (by repeat (first | exact W1.out | refine blw_drewN ?_ _ | refine Below.setCell ?_ (by first | (simp; done) | omega | (simp; omega)) _ | refine Below.alloc ?_ (by first | (simp; done) | omega | (simp; omega)) _))).mono ?_
  rintro e w2 ⟨rfl, hb⟩
  have W2 := Lib.hid (blw_trans (show Below w.heap.size w _ by repeat (first | exact W1.out | refine blw_drewN ?_ _ | refine Below.setCell ?_ (by first | (simp; done) | omega | (simp; omega)) _ | refine Below.alloc ?_ (by first | (simp; done) | omega | (simp; omega)) _)) hb)
  have n2 := hb.size
  try simp at n2
  have k2_t0 := cell_keep (a := ⟨w.heap.size, 0, none⟩) (v := .string ⟨l.toArray⟩) (by first | (go_keep; done) | (simp [go_sem, *]; done)) hb
  have k2_t1 := cell_keep (a := ⟨w.heap.size, 1, none⟩) (v := .string ⟨s.toArray⟩) (by first | (go_keep; done) | (simp [go_sem, *]; done)) hb
  have k2_t2 := cell_keep (a := ⟨w.heap.size, 2, none⟩) (v := .string ⟨r.toArray⟩) (by first | (go_keep; done) | (simp [go_sem, *]; done)) hb
  have k2_t3 := cell_keep (a := ⟨w.heap.size, 3, none⟩) (v := .slice a n c) (by first | (go_keep; done) | (simp [go_sem, *]; done)) hb
  have l2_t := World.block_lt_of_cell? _ _ k2_t0
  try simp only at l2_t
  clear hb k1_t0 k1_t1 k1_t2 k1_t3 l1_t W1
  go_wp2_with fail
  refine (CK.out _ (by repeat (first | exact W2.out | refine blw_drewN ?_ _ | refine Below.setCell ?_ (by first | (simp; done) | omega | (simp; omega)) _ | refine Below.alloc ?_ (by first | (simp; done) | omega | (simp; omega)) _))).mono ?_
  rintro e w3 ⟨rfl, hb⟩
  have W3 := Lib.hid (blw_trans (show Below w.heap.size w _ by repeat (first | exact W2.out | refine blw_drewN ?_ _ | refine Below.setCell ?_ (by first | (simp; done) | omega | (simp; omega)) _ | refine Below.alloc ?_ (by first | (simp; done) | omega | (simp; omega)) _)) hb)
  have n3 := hb.size
  try simp at n3
  have k3_t0 := cell_keep (a := ⟨w.heap.size, 0, none⟩) (v := .string ⟨l.toArray⟩) (by first | (go_keep; done) | (simp [go_sem, *]; done)) hb
  have k3_t1 := cell_keep (a := ⟨w.heap.size, 1, none⟩) (v := .string ⟨s.toArray⟩) (by first | (go_keep; done) | (simp [go_sem, *]; done)) hb
  have k3_t2 := cell_keep (a := ⟨w.heap.size, 2, none⟩) (v := .string ⟨r.toArray⟩) (by first | (go_keep; done) | (simp [go_sem, *]; done)) hb
  have k3_t3 := cell_keep (a := ⟨w.heap.size, 3, none⟩) (v := .slice a n c) (by first | (go_keep; done) | (simp [go_sem, *]; done)) hb
  have l3_t := World.block_lt_of_cell? _ _ k3_t0
  try simp only at l3_t
  clear hb k2_t0 k2_t1 k2_t2 k2_t3 l2_t W2
  go_wp2_with fail
  refine (CE1.out _ (hT.below (by repeat (first | exact W3.out | refine blw_drewN ?_ _ | refine Below.setCell ?_ (by first | (simp; done) | omega | (simp; omega)) _ | refine Below.alloc ?_ (by first | (simp; done) | omega | (simp; omega)) _)))).mono ?_
  rintro e w4 ⟨rfl, hb⟩
  have W4 := Lib.hid (blw_trans (show Below w.heap.size w _ by repeat (first | exact W3.out | refine blw_drewN ?_ _ | refine Below.setCell ?_ (by first | (simp; done) | omega | (simp; omega)) _ | refine Below.alloc ?_ (by first | (simp; done) | omega | (simp; omega)) _)) hb)
  have n4 := hb.size
  try simp at n4
  have k4_t0 := cell_keep (a := ⟨w.heap.size, 0, none⟩) (v := .string ⟨l.toArray⟩) (by first | (go_keep; done) | (simp [go_sem, *]; done)) hb
  have k4_t1 := cell_keep (a := ⟨w.heap.size, 1, none⟩) (v := .string ⟨s.toArray⟩) (by first | (go_keep; done) | (simp [go_sem, *]; done)) hb
  have k4_t2 := cell_keep (a := ⟨w.heap.size, 2, none⟩) (v := .string ⟨r.toArray⟩) (by first | (go_keep; done) | (simp [go_sem, *]; done)) hb
  have k4_t3 := cell_keep (a := ⟨w.heap.size, 3, none⟩) (v := .slice a n c) (by first | (go_keep; done) | (simp [go_sem, *]; done)) hb
  have l4_t := World.block_lt_of_cell? _ _ k4_t0
  try simp only at l4_t
  clear hb k3_t0 k3_t1 k3_t2 k3_t3 l3_t W3
  go_wp2_with fail
  refine (CO.out _).mono ?_
  rintro e w5 ⟨za1, zn1, zc1, rfl, hv1, _, hb⟩
  have W5 := Lib.hid (blw_trans (show Below w.heap.size w _ by repeat (first | exact W4.out | refine blw_drewN ?_ _ | refine Below.setCell ?_ (by first | (simp; done) | omega | (simp; omega)) _ | refine Below.alloc ?_ (by first | (simp; done) | omega | (simp; omega)) _)) hb)
  have n5 := hb.size
  try simp at n5
  have k5_t0 := cell_keep (a := ⟨w.heap.size, 0, none⟩) (v := .string ⟨l.toArray⟩) (by first | (go_keep; done) | (simp [go_sem, *]; done)) hb
  have k5_t1 := cell_keep (a := ⟨w.heap.size, 1, none⟩) (v := .string ⟨s.toArray⟩) (by first | (go_keep; done) | (simp [go_sem, *]; done)) hb
  have k5_t2 := cell_keep (a := ⟨w.heap.size, 2, none⟩) (v := .string ⟨r.toArray⟩) (by first | (go_keep; done) | (simp [go_sem, *]; done)) hb
  have k5_t3 := cell_keep (a := ⟨w.heap.size, 3, none⟩) (v := .slice a n c) (by first | (go_keep; done) | (simp [go_sem, *]; done)) hb
  have l5_t := World.block_lt_of_cell? _ _ k5_t0
  try simp only at l5_t
  clear hb k4_t0 k4_t1 k4_t2 k4_t3 l4_t W4
  have HV1 := Lib.hid hv1
  clear hv1
  go_wp2_with fail
  refine (CP.out _ (hT.below (by repeat (first | exact W5.out | refine blw_drewN ?_ _ | refine Below.setCell ?_ (by first | (simp; done) | omega | (simp; omega)) _ | refine Below.alloc ?_ (by first | (simp; done) | omega | (simp; omega)) _))).m).mono ?_
  rintro e w6 ⟨za2, zn2, zc2, rfl, hv2, _, hb⟩
  have W6 := Lib.hid (blw_trans (show Below w.heap.size w _ by repeat (first | exact W5.out | refine blw_drewN ?_ _ | refine Below.setCell ?_ (by first | (simp; done) | omega | (simp; omega)) _ | refine Below.alloc ?_ (by first | (simp; done) | omega | (simp; omega)) _)) hb)
  have n6 := hb.size
  try simp at n6
  have k6_t0 := cell_keep (a := ⟨w.heap.size, 0, none⟩) (v := .string ⟨l.toArray⟩) (by first | (go_keep; done) | (simp [go_sem, *]; done)) hb
  have k6_t1 := cell_keep (a := ⟨w.heap.size, 1, none⟩) (v := .string ⟨s.toArray⟩) (by first | (go_keep; done) | (simp [go_sem, *]; done)) hb
  have k6_t2 := cell_keep (a := ⟨w.heap.size, 2, none⟩) (v := .string ⟨r.toArray⟩) (by first | (go_keep; done) | (simp [go_sem, *]; done)) hb
  have k6_t3 := cell_keep (a := ⟨w.heap.size, 3, none⟩) (v := .slice a n c) (by first | (go_keep; done) | (simp [go_sem, *]; done)) hb
  have l6_t := World.block_lt_of_cell? _ _ k6_t0
  try simp only at l6_t
  have k6_o0 := cell_keep (a := ⟨w5.heap.size, 0, none⟩) (v := .string ⟨xl.toArray⟩) (by first | (go_keep; done) | (simp [go_sem, *]; done)) hb
  have k6_o1 := cell_keep (a := ⟨w5.heap.size, 1, none⟩) (v := .string ⟨xs.toArray⟩) (by first | (go_keep; done) | (simp [go_sem, *]; done)) hb
  have k6_o2 := cell_keep (a := ⟨w5.heap.size, 2, none⟩) (v := .string ⟨xr.toArray⟩) (by first | (go_keep; done) | (simp [go_sem, *]; done)) hb
  have k6_o3 := cell_keep (a := ⟨w5.heap.size, 3, none⟩) (v := .slice za1 zn1 zc1) (by first | (go_keep; done) | (simp [go_sem, *]; done)) hb
  have l6_o := World.block_lt_of_cell? _ _ k6_o0
  try simp only at l6_o
  have H6_o := Lib.hid (StrsAt.below (show StrsAt _ (.slice za1 zn1 zc1) xv by repeat (first | exact HV1.out | refine StrsAt.alloc ?_ _ | refine StrsAt.drewN ?_ _)) hb)
  clear hb HV1 k5_t0 k5_t1 k5_t2 k5_t3 l5_t W5
  have HV2 := Lib.hid hv2
  clear hv2
  go_wp2_with fail
  refine (CE2.out _ (hT.below (by repeat (first | exact W6.out | refine blw_drewN ?_ _ | refine Below.setCell ?_ (by first | (simp; done) | omega | (simp; omega)) _ | refine Below.alloc ?_ (by first | (simp; done) | omega | (simp; omega)) _)))).mono ?_
  rintro e w7 ⟨rfl, hb⟩
  have W7 := Lib.hid (blw_trans (show Below w.heap.size w _ by repeat (first | exact W6.out | refine blw_drewN ?_ _ | refine Below.setCell ?_ (by first | (simp; done) | omega | (simp; omega)) _ | refine Below.alloc ?_ (by first | (simp; done) | omega | (simp; omega)) _)) hb)
  have n7 := hb.size
  try simp at n7
  have k7_t0 := cell_keep (a := ⟨w.heap.size, 0, none⟩) (v := .string ⟨l.toArray⟩) (by first | (go_keep; done) | (simp [go_sem, *]; done)) hb
  have k7_t1 := cell_keep (a := ⟨w.heap.size, 1, none⟩) (v := .string ⟨s.toArray⟩) (by first | (go_keep; done) | (simp [go_sem, *]; done)) hb
  have k7_t2 := cell_keep (a := ⟨w.heap.size, 2, none⟩) (v := .string ⟨r.toArray⟩) (by first | (go_keep; done) | (simp [go_sem, *]; done)) hb
  have k7_t3 := cell_keep (a := ⟨w.heap.size, 3, none⟩) (v := .slice a n c) (by first | (go_keep; done) | (simp [go_sem, *]; done)) hb
  have l7_t := World.block_lt_of_cell? _ _ k7_t0
  try simp only at l7_t
  have k7_o0 := cell_keep (a := ⟨w5.heap.size, 0, none⟩) (v := .string ⟨xl.toArray⟩) (by first | (go_keep; done) | (simp [go_sem, *]; done)) hb
  have k7_o1 := cell_keep (a := ⟨w5.heap.size, 1, none⟩) (v := .string ⟨xs.toArray⟩) (by first | (go_keep; done) | (simp [go_sem, *]; done)) hb
  have k7_o2 := cell_keep (a := ⟨w5.heap.size, 2, none⟩) (v := .string ⟨xr.toArray⟩) (by first | (go_keep; done) | (simp [go_sem, *]; done)) hb
  have k7_o3 := cell_keep (a := ⟨w5.heap.size, 3, none⟩) (v := .slice za1 zn1 zc1) (by first | (go_keep; done) | (simp [go_sem, *]; done)) hb
  have l7_o := World.block_lt_of_cell? _ _ k7_o0
  try simp only at l7_o
  have k7_p0 := cell_keep (a := ⟨w6.heap.size, 0, none⟩) (v := .string ⟨xl.toArray⟩) (by first | (go_keep; done) | (simp [go_sem, *]; done)) hb
  have k7_p1 := cell_keep (a := ⟨w6.heap.size, 1, none⟩) (v := .string ⟨xs.toArray⟩) (by first | (go_keep; done) | (simp [go_sem, *]; done)) hb
  have k7_p2 := cell_keep (a := ⟨w6.heap.size, 2, none⟩) (v := .string ⟨xr.toArray⟩) (by first | (go_keep; done) | (simp [go_sem, *]; done)) hb
  have k7_p3 := cell_keep (a := ⟨w6.heap.size, 3, none⟩) (v := .slice za2 zn2 zc2) (by first | (go_keep; done) | (simp [go_sem, *]; done)) hb
  have l7_p := World.block_lt_of_cell? _ _ k7_p0
  try simp only at l7_p
  have H7_o := Lib.hid (StrsAt.below (show StrsAt _ (.slice za1 zn1 zc1) xv by repeat (first | exact H6_o.out | refine StrsAt.alloc ?_ _ | refine StrsAt.drewN ?_ _)) hb)
  have H7_p := Lib.hid (StrsAt.below (show StrsAt _ (.slice za2 zn2 zc2) xv by repeat (first | exact HV2.out | refine StrsAt.alloc ?_ _ | refine StrsAt.drewN ?_ _)) hb)
  clear hb H6_o HV2 k6_t0 k6_t1 k6_t2 k6_t3 l6_t k6_o0 k6_o1 k6_o2 k6_o3 l6_o W6
  go_wp2_with fail
  refine (CS.out _ _ _ _ _ _ _ (show StrsAt _ (.slice za2 zn2 zc2) xv by repeat (first | exact H7_p.out | refine StrsAt.alloc ?_ _ | refine StrsAt.drewN ?_ _)) (show StrsAt _ (.slice za1 zn1 zc1) xv by repeat (first | exact H7_o.out | refine StrsAt.alloc ?_ _ | refine StrsAt.drewN ?_ _))).mono ?_
  rintro e w8 ⟨rfl, hb⟩
  have W8 := Lib.hid (blw_trans (show Below w.heap.size w _ by repeat (first | exact W7.out | refine blw_drewN ?_ _ | refine Below.setCell ?_ (by first | (simp; done) | omega | (simp; omega)) _ | refine Below.alloc ?_ (by first | (simp; done) | omega | (simp; omega)) _)) hb)
  have n8 := hb.size
  try simp at n8
  have k8_t0 := cell_keep (a := ⟨w.heap.size, 0, none⟩) (v := .string ⟨l.toArray⟩) (by first | (go_keep; done) | (simp [go_sem, *]; done)) hb
  have k8_t1 := cell_keep (a := ⟨w.heap.size, 1, none⟩) (v := .string ⟨s.toArray⟩) (by first | (go_keep; done) | (simp [go_sem, *]; done)) hb
  have k8_t2 := cell_keep (a := ⟨w.heap.size, 2, none⟩) (v := .string ⟨r.toArray⟩) (by first | (go_keep; done) | (simp [go_sem, *]; done)) hb
  have k8_t3 := cell_keep (a := ⟨w.heap.size, 3, none⟩) (v := .slice a n c) (by first | (go_keep; done) | (simp [go_sem, *]; done)) hb
  have l8_t := World.block_lt_of_cell? _ _ k8_t0
  try simp only at l8_t
  have H8_o := Lib.hid (StrsAt.below (show StrsAt _ (.slice za1 zn1 zc1) xv by repeat (first | exact H7_o.out | refine StrsAt.alloc ?_ _ | refine StrsAt.drewN ?_ _)) hb)
  have H8_p := Lib.hid (StrsAt.below (show StrsAt _ (.slice za2 zn2 zc2) xv by repeat (first | exact H7_p.out | refine StrsAt.alloc ?_ _ | refine StrsAt.drewN ?_ _)) hb)
  clear hb H7_o H7_p k7_t0 k7_t1 k7_t2 k7_t3 l7_t k7_o0 k7_o1 k7_o2 k7_o3 l7_o k7_p0 k7_p1 k7_p2 k7_p3 l7_p W7
  go_wp2_with fail
  refine wp_region_held_drew (S := fun w' => w'.cell? ⟨w.heap.size, 0, none⟩ = some (.string ⟨l.toArray⟩) ∧ w'.cell? ⟨w.heap.size, 1, none⟩ = some (.string ⟨s.toArray⟩) ∧ w'.cell? ⟨w.heap.size, 2, none⟩ = some (.string ⟨r.toArray⟩) ∧ w'.cell? ⟨w.heap.size, 3, none⟩ = some (.slice a n c) ∧ Hid (Below w.heap.size w w')) (by kernel_rfl) (by exact ⟨by go_keep, by go_keep, by go_keep, by go_keep, Lib.hid (Below.drew (by repeat (first | exact W8.out | refine blw_drewN ?_ _ | refine Below.setCell ?_ (by first | (simp; done) | omega | (simp; omega)) _ | refine Below.alloc ?_ (by first | (simp; done) | omega | (simp; omega)) _)))⟩) (fun hHeld => ?_)
  refine take_run (d := (some 40)) (v := ?v67) 0 rfl rfl (by kernel_rfl) (by kernel_rfl) (by kernel_rfl) (fun _ _ _ h => h) (by rfl) hHeld ?hy67 ?rs67
  case hy67 => (intro w hSw; (try dsimp only at hSw); go_simp) <;> (try with_reducible rfl)
  (try simp only [Act.put, List.setIfInBounds_toArray, List.set_cons_zero, List.set_cons_succ])
  refine take_run (d := (some 41)) (v := ?v68) 1 rfl rfl (by kernel_rfl) (by kernel_rfl) (by kernel_rfl) (fun _ _ _ h => h) (by rfl) hHeld ?hy68 ?rs68
  case hy68 => (intro w hSw; (try dsimp only at hSw); go_simp) <;> (try with_reducible rfl)
  (try simp only [Act.put, List.setIfInBounds_toArray, List.set_cons_zero, List.set_cons_succ])
  refine take_run (d := (some 42)) (v := ?v69) 2 rfl rfl (by kernel_rfl) (by kernel_rfl) (by kernel_rfl) (fun _ _ _ h => h) (by rfl) hHeld ?hy69 ?rs69
  case hy69 => (intro w hSw; (try dsimp only at hSw); go_simp) <;> (try with_reducible rfl)
  (try simp only [Act.put, List.setIfInBounds_toArray, List.set_cons_zero, List.set_cons_succ])
  refine take_run (d := (some 43)) (v := ?v70) 3 rfl rfl (by kernel_rfl) (by kernel_rfl) (by kernel_rfl) (fun _ _ _ h => h) (by rfl) hHeld ?hy70 ?rs70
  case hy70 => (intro w hSw; (try dsimp only at hSw); go_simp) <;> (try with_reducible rfl)
  (try simp only [Act.put, List.setIfInBounds_toArray, List.set_cons_zero, List.set_cons_succ])
  refine take_run (d := (some 44)) (v := ?v71) 4 rfl rfl (by kernel_rfl) (by kernel_rfl) (by kernel_rfl) (fun _ _ _ h => h) (by rfl) hHeld ?hy71 ?rs71
  case hy71 => (intro w hSw; (try dsimp only at hSw); go_simp) <;> (try with_reducible rfl)
  (try simp only [Act.put, List.setIfInBounds_toArray, List.set_cons_zero, List.set_cons_succ])
  refine take_run (d := (some 45)) (v := ?v72) 5 rfl rfl (by kernel_rfl) (by kernel_rfl) (by kernel_rfl) (fun _ _ _ h => h) (by rfl) hHeld ?hy72 ?rs72
  case hy72 => (intro w hSw; (try dsimp only at hSw); go_simp) <;> (try with_reducible rfl)
  (try simp only [Act.put, List.setIfInBounds_toArray, List.set_cons_zero, List.set_cons_succ])
  refine take_run (d := (some 46)) (v := ?v73) 6 rfl rfl (by kernel_rfl) (by kernel_rfl) (by kernel_rfl) (fun _ _ _ h => h) (by rfl) hHeld ?hy73 ?rs73
  case hy73 => (intro w hSw; (try dsimp only at hSw); go_simp) <;> (try with_reducible rfl)
  (try simp only [Act.put, List.setIfInBounds_toArray, List.set_cons_zero, List.set_cons_succ])
  refine take_run (d := (some 47)) (v := ?v74) 7 rfl rfl (by kernel_rfl) (by kernel_rfl) (by kernel_rfl) (fun _ _ _ h => h) (by rfl) hHeld ?hy74 ?rs74
  case hy74 => (intro w hSw; (try dsimp only at hSw); go_simp) <;> (try with_reducible rfl)
  (try simp only [Act.put, List.setIfInBounds_toArray, List.set_cons_zero, List.set_cons_succ])
  refine take_run (d := (some 48)) (v := ?v75) 8 rfl rfl (by kernel_rfl) (by kernel_rfl) (by kernel_rfl) (fun _ _ _ h => h) (by rfl) hHeld ?hy75 ?rs75
  case hy75 => (intro w hSw; (try dsimp only at hSw); go_simp) <;> (try with_reducible rfl)
  (try simp only [Act.put, List.setIfInBounds_toArray, List.set_cons_zero, List.set_cons_succ])
  refine take_run (d := (some 49)) (v := ?v76) 9 rfl rfl (by kernel_rfl) (by kernel_rfl) (by kernel_rfl) (fun _ _ _ h => h) (by rfl) hHeld ?hy76 ?rs76
  case hy76 => (intro w hSw; (try dsimp only at hSw); go_simp) <;> (try with_reducible rfl)
  (try simp only [Act.put, List.setIfInBounds_toArray, List.set_cons_zero, List.set_cons_succ])
  refine take_run (d := (some 50)) (v := ?v77) 10 rfl rfl (by kernel_rfl) (by kernel_rfl) (by kernel_rfl) (fun _ _ _ h => h) (by rfl) hHeld ?hy77 ?rs77
  case hy77 => (intro w hSw; (try dsimp only at hSw); go_simp) <;> (try with_reducible rfl)
  (try simp only [Act.put, List.setIfInBounds_toArray, List.set_cons_zero, List.set_cons_succ])
  refine take_run (d := (some 51)) (v := ?v78) 11 rfl rfl (by kernel_rfl) (by kernel_rfl) (by kernel_rfl) (fun _ _ _ h => h) (by rfl) hHeld ?hy78 ?rs78
  case hy78 => (intro w hSw; (try dsimp only at hSw); go_simp) <;> (try with_reducible rfl)
  (try simp only [Act.put, List.setIfInBounds_toArray, List.set_cons_zero, List.set_cons_succ])
  refine take_run (d := (some 52)) (v := ?v79) 12 rfl rfl (by kernel_rfl) (by kernel_rfl) (by kernel_rfl) (fun _ _ _ h => h) (by rfl) hHeld ?hy79 ?rs79
  case hy79 => (intro w hSw; (try dsimp only at hSw); go_simp) <;> (try with_reducible rfl)
  (try simp only [Act.put, List.setIfInBounds_toArray, List.set_cons_zero, List.set_cons_succ])
  refine take_run (d := (some 53)) (v := ?v80) 13 rfl rfl (by kernel_rfl) (by kernel_rfl) (by kernel_rfl) (fun _ _ _ h => h) (by rfl) hHeld ?hy80 ?rs80
  case hy80 => (intro w hSw; (try dsimp only at hSw); go_simp) <;> (try with_reducible rfl)
  (try simp only [Act.put, List.setIfInBounds_toArray, List.set_cons_zero, List.set_cons_succ])
  refine take_skip (d := (some 54)) 14 rfl rfl (by kernel_rfl) (by kernel_rfl) (by kernel_rfl) (fun _ _ _ h => h) (by rfl) hHeld ?_
  (try simp only [Act.put, List.setIfInBounds_toArray, List.set_cons_zero, List.set_cons_succ])
  refine take_skip (d := (some 55)) 15 rfl rfl (by kernel_rfl) (by kernel_rfl) (by kernel_rfl) (fun _ _ _ h => h) (by rfl) hHeld ?_
  (try simp only [Act.put, List.setIfInBounds_toArray, List.set_cons_zero, List.set_cons_succ])
  refine take_skip (d := (some 56)) 16 rfl rfl (by kernel_rfl) (by kernel_rfl) (by kernel_rfl) (fun _ _ _ h => h) (by rfl) hHeld ?_
  (try simp only [Act.put, List.setIfInBounds_toArray, List.set_cons_zero, List.set_cons_succ])
  refine take_skip (d := (some 57)) 17 rfl rfl (by kernel_rfl) (by kernel_rfl) (by kernel_rfl) (fun _ _ _ h => h) (by rfl) hHeld ?_
  (try simp only [Act.put, List.setIfInBounds_toArray, List.set_cons_zero, List.set_cons_succ])
  refine take_skip (d := (some 58)) 18 rfl rfl (by kernel_rfl) (by kernel_rfl) (by kernel_rfl) (fun _ _ _ h => h) (by rfl) hHeld ?_
  (try simp only [Act.put, List.setIfInBounds_toArray, List.set_cons_zero, List.set_cons_succ])
  refine take_run (d := (some 59)) (v := ?v86) 19 rfl rfl (by kernel_rfl) (by kernel_rfl) (by kernel_rfl) (fun _ _ _ h => h) (by rfl) hHeld ?hy86 ?rs86
  case hy86 => (intro w hSw; (try dsimp only at hSw); go_simp) <;> (try with_reducible rfl)
  (try simp only [Act.put, List.setIfInBounds_toArray, List.set_cons_zero, List.set_cons_succ])
  refine take_run (d := (some 60)) (v := ?v87) 20 rfl rfl (by kernel_rfl) (by kernel_rfl) (by kernel_rfl) (fun _ _ _ h => h) (by rfl) hHeld ?hy87 ?rs87
  case hy87 => (intro w hSw; (try dsimp only at hSw); go_simp) <;> (try with_reducible rfl)
  (try simp only [Act.put, List.setIfInBounds_toArray, List.set_cons_zero, List.set_cons_succ])
  refine take_run (d := (some 4)) (v := ?v88) 21 rfl rfl (by kernel_rfl) (by kernel_rfl) (by kernel_rfl) (fun _ _ _ h => h) (by rfl) hHeld ?hy88 ?rs88
  case hy88 => (intro w hSw; (try dsimp only at hSw); go_simp) <;> (try with_reducible rfl)
  (try simp only [Act.put, List.setIfInBounds_toArray, List.set_cons_zero, List.set_cons_succ])
  refine wpAnyH_done (by kernel_rfl) ?_ _
  obtain ⟨z0, z1, z2, z3, zW⟩ := hHeld
  go_wp2
  go_ret
  exact ⟨ret_bool (by simp), zW.out⟩

theorem tagtells_any (l s r q : List UInt8) (vs : List (List UInt8)) (V : Value) (w : World) (hT : TM w) (hV : StrsAt w V vs) (h0 : Nil0 V)
    (bt : l.length + s.length + r.length + Lib.lens vs + vs.length ≤ 100000000) (hq : q.length ≤ 10000000) :
    Calls Tryd.prog 7 #[.agg #[.string ⟨l.toArray⟩, .string ⟨s.toArray⟩, .string ⟨r.toArray⟩, V], .string ⟨q.toArray⟩] w fun e w' => e = .returned (.bool true) ∧ Below w.heap.size w w' := by
  obtain ⟨a, n, c, rfl⟩ := hV.isSlice
  have hx := read_small q
  cases ho : readOk q with
  | true =>
    have CO := Lib.hid fun w => tagof_is q (readT q) true rfl ho w hq
    have CP := Lib.hid fun w hM => parse_is q (readT q) .nilIface rfl (read_yes ho) w hM hq
    by_cases hF : tagFault l s r vs = 0
    · exact tagtells_yy l s r q _ _ _ vs _ a n c w hT hV h0 bt (by omega) _ rfl hF CO CP
    · exact tagtells_ny l s r q _ _ _ vs _ a n c w hT hV h0 bt (by omega) _ rfl hF CO CP
  | false =>
    have CO := Lib.hid fun w => tagof_is q (readT q) false rfl ho w hq
    have CP := Lib.hid fun w hM => parse_is q (readT q) (errV 3) rfl (read_no ho) w hM hq
    by_cases hF : tagFault l s r vs = 0
    · exact tagtells_yn l s r q _ _ _ vs _ a n c w hT hV h0 bt (by omega) _ rfl hF CO CP
    · exact tagtells_nn l s r q _ _ _ vs _ a n c w hT hV h0 bt (by omega) _ rfl hF CO CP
end Go.Proofs.YtlhleojigcnjeaaDoor
