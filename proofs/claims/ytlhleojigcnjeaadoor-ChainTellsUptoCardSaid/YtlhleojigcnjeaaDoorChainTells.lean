/- The walk of the law ChainTells. Conditions: the listed variables hold what the program lays; the tags are of bulk at most 100000000. -/
import Derived.Test.YtlhleojigcnjeaaDoorInChain
import Derived.Test.YtlhleojigcnjeaaDoorTagged
namespace Go.Proofs.YtlhleojigcnjeaaDoor
open Go.RowKit

theorem TagsAt.alloc {w : World} {v : Value} {L : List Tg} (h : TagsAt w v L) (o : Obj) : TagsAt (w.alloc o) v L := h.below (blw_alloc w o)
theorem TagsAt.drewN {w : World} {v : Value} {L : List Tg} (h : TagsAt w v L) (n : Nat) : TagsAt (w.drewN n) v L := h
theorem chain_tags (l s r : List UInt8) (vs : List (List UInt8)) (V : Value) (w : World) (hV : StrsAt w V vs) (h0 : Nil0 V) (bt : vs.length ≤ 1000000000) :
    Calls Tryd.prog 29 #[.agg #[.string ⟨l.toArray⟩, .string ⟨s.toArray⟩, .string ⟨r.toArray⟩, V]] w fun e w' => ∃ a n c, e = .returned (.slice a n c) ∧ TagsAt w' (.slice a n c) (⟨l, s, r, vs⟩ : Tg).chain ∧ Below w.heap.size w w' := by
  refine (rchain_any _ ⟨l, s, r, vs⟩ V w rfl hV h0 bt).mono ?_
  rintro e w' ⟨g, cp, LV, rfl, hrow, hch, htg, _, hb⟩
  exact ⟨_, _, _, rfl, by have h := TagsAt.of_row hrow htg; rw [hch] at h; exact h, hb⟩

set_option maxRecDepth 100000 in
set_option maxHeartbeats 2000000 in
theorem chaintells_f (xl xs xr yl ys yr : List UInt8) (xa ya : Option Addr) (xn xc yn yc : Nat) (w : World) (hT : TM w) (F : Int) (hF : ¬ F = 0)
    (CF : Hid (∀ wx : World, Below w.heap.size w wx → Calls Tryd.prog 25 #[.agg #[.string ⟨xl.toArray⟩, .string ⟨xs.toArray⟩, .string ⟨xr.toArray⟩, .slice xa xn xc]] wx fun e w' => e = .returned (.int .i64 (F)) ∧ Below wx.heap.size wx w'))
    (CC : Hid (∀ wx : World, Below w.heap.size w wx → Calls Tryd.prog 19 #[.agg #[.string ⟨xl.toArray⟩, .string ⟨xs.toArray⟩, .string ⟨xr.toArray⟩, .slice xa xn xc]] wx fun e w' => ∃ a n c, e = .returned (.tuple #[.slice a n c, errV F]) ∧ TagsAt w' (.slice a n c) ([] : List Tg) ∧ Below wx.heap.size wx w'))
    (CW : Hid (∀ wx : World, Below w.heap.size w wx → Calls Tryd.prog 22 #[.agg #[.string ⟨xl.toArray⟩, .string ⟨xs.toArray⟩, .string ⟨xr.toArray⟩, .slice xa xn xc], .agg #[.string ⟨yl.toArray⟩, .string ⟨ys.toArray⟩, .string ⟨yr.toArray⟩, .slice ya yn yc]] wx fun e w' => e = .returned (.tuple #[.bool false, errV F]) ∧ Below wx.heap.size wx w'))
    (CT : Hid (∀ (a b : Option Addr) (n m ca cb : Nat) (wx : World), TagsAt wx (.slice a n ca) ([] : List Tg) → TagsAt wx (.slice b m cb) ([] : List Tg) → Calls Tryd.prog 30 #[.slice a n ca, .slice b m cb] wx fun e w' => e = .returned (.bool true) ∧ Below wx.heap.size wx w')) :
    Calls Tryd.prog 8 #[.agg #[.string ⟨xl.toArray⟩, .string ⟨xs.toArray⟩, .string ⟨xr.toArray⟩, .slice xa xn xc], .agg #[.string ⟨yl.toArray⟩, .string ⟨ys.toArray⟩, .string ⟨yr.toArray⟩, .slice ya yn yc]] w fun e w' => e = .returned (.bool true) ∧ Below w.heap.size w w' := by
  have q1 : (F == 0) = false := beq_no hF
  have CE1 := Lib.hid fun w (h : TM w) => sameErr_yes (ErrNo.no F) w h.h
  have CE2 := CE1
  go_enter Tryd.func8, Tryd.ntmps8
  go_wp2_with fail
  refine (tagged_any _ (hT.below (by repeat (first | exact (Below.refl _ _) | refine blw_drewN ?_ _ | refine Below.setCell ?_ (by first | (simp; done) | omega | (simp; omega)) _ | refine Below.alloc ?_ (by first | (simp; done) | omega | (simp; omega)) _))).m).mono ?_
  rintro e w1 ⟨rfl, hb⟩
  have W1 := Lib.hid (blw_trans (show Below w.heap.size w _ by repeat (first | exact (Below.refl _ _) | refine blw_drewN ?_ _ | refine Below.setCell ?_ (by first | (simp; done) | omega | (simp; omega)) _ | refine Below.alloc ?_ (by first | (simp; done) | omega | (simp; omega)) _)) hb)
  have n1 := hb.size
  try simp at n1
  have k1_x0 := cell_keep (a := ⟨w.heap.size, 0, none⟩) (v := .string ⟨xl.toArray⟩) (by first | (go_keep; done) | (simp [go_sem, *]; done)) hb
  have k1_x1 := cell_keep (a := ⟨w.heap.size, 1, none⟩) (v := .string ⟨xs.toArray⟩) (by first | (go_keep; done) | (simp [go_sem, *]; done)) hb
  have k1_x2 := cell_keep (a := ⟨w.heap.size, 2, none⟩) (v := .string ⟨xr.toArray⟩) (by first | (go_keep; done) | (simp [go_sem, *]; done)) hb
  have k1_x3 := cell_keep (a := ⟨w.heap.size, 3, none⟩) (v := .slice xa xn xc) (by first | (go_keep; done) | (simp [go_sem, *]; done)) hb
  have l1_x := World.block_lt_of_cell? _ _ k1_x0
  try simp only at l1_x
  have k1_y0 := cell_keep (a := ⟨w.heap.size + 1, 0, none⟩) (v := .string ⟨yl.toArray⟩) (by first | (go_keep; done) | (simp [go_sem, *]; done)) hb
  have k1_y1 := cell_keep (a := ⟨w.heap.size + 1, 1, none⟩) (v := .string ⟨ys.toArray⟩) (by first | (go_keep; done) | (simp [go_sem, *]; done)) hb
  have k1_y2 := cell_keep (a := ⟨w.heap.size + 1, 2, none⟩) (v := .string ⟨yr.toArray⟩) (by first | (go_keep; done) | (simp [go_sem, *]; done)) hb
  have k1_y3 := cell_keep (a := ⟨w.heap.size + 1, 3, none⟩) (v := .slice ya yn yc) (by first | (go_keep; done) | (simp [go_sem, *]; done)) hb
  have l1_y := World.block_lt_of_cell? _ _ k1_y0
  try simp only at l1_y
  clear hb
  go_wp2_with fail
  refine (CF.out _ (by repeat (first | exact W1.out | refine blw_drewN ?_ _ | refine Below.setCell ?_ (by first | (simp; done) | omega | (simp; omega)) _ | refine Below.alloc ?_ (by first | (simp; done) | omega | (simp; omega)) _))).mono ?_
  rintro e w2 ⟨rfl, hb⟩
  have W2 := Lib.hid (blw_trans (show Below w.heap.size w _ by repeat (first | exact W1.out | refine blw_drewN ?_ _ | refine Below.setCell ?_ (by first | (simp; done) | omega | (simp; omega)) _ | refine Below.alloc ?_ (by first | (simp; done) | omega | (simp; omega)) _)) hb)
  have n2 := hb.size
  try simp at n2
  have k2_x0 := cell_keep (a := ⟨w.heap.size, 0, none⟩) (v := .string ⟨xl.toArray⟩) (by first | (go_keep; done) | (simp [go_sem, *]; done)) hb
  have k2_x1 := cell_keep (a := ⟨w.heap.size, 1, none⟩) (v := .string ⟨xs.toArray⟩) (by first | (go_keep; done) | (simp [go_sem, *]; done)) hb
  have k2_x2 := cell_keep (a := ⟨w.heap.size, 2, none⟩) (v := .string ⟨xr.toArray⟩) (by first | (go_keep; done) | (simp [go_sem, *]; done)) hb
  have k2_x3 := cell_keep (a := ⟨w.heap.size, 3, none⟩) (v := .slice xa xn xc) (by first | (go_keep; done) | (simp [go_sem, *]; done)) hb
  have l2_x := World.block_lt_of_cell? _ _ k2_x0
  try simp only at l2_x
  have k2_y0 := cell_keep (a := ⟨w.heap.size + 1, 0, none⟩) (v := .string ⟨yl.toArray⟩) (by first | (go_keep; done) | (simp [go_sem, *]; done)) hb
  have k2_y1 := cell_keep (a := ⟨w.heap.size + 1, 1, none⟩) (v := .string ⟨ys.toArray⟩) (by first | (go_keep; done) | (simp [go_sem, *]; done)) hb
  have k2_y2 := cell_keep (a := ⟨w.heap.size + 1, 2, none⟩) (v := .string ⟨yr.toArray⟩) (by first | (go_keep; done) | (simp [go_sem, *]; done)) hb
  have k2_y3 := cell_keep (a := ⟨w.heap.size + 1, 3, none⟩) (v := .slice ya yn yc) (by first | (go_keep; done) | (simp [go_sem, *]; done)) hb
  have l2_y := World.block_lt_of_cell? _ _ k2_y0
  try simp only at l2_y
  clear hb k1_x0 k1_x1 k1_x2 k1_x3 l1_x k1_y0 k1_y1 k1_y2 k1_y3 l1_y W1
  go_wp2_with fail
  refine (CC.out _ (by repeat (first | exact W2.out | refine blw_drewN ?_ _ | refine Below.setCell ?_ (by first | (simp; done) | omega | (simp; omega)) _ | refine Below.alloc ?_ (by first | (simp; done) | omega | (simp; omega)) _))).mono ?_
  rintro e w3 ⟨sa, sn, sc, rfl, hv2, hb⟩
  have W3 := Lib.hid (blw_trans (show Below w.heap.size w _ by repeat (first | exact W2.out | refine blw_drewN ?_ _ | refine Below.setCell ?_ (by first | (simp; done) | omega | (simp; omega)) _ | refine Below.alloc ?_ (by first | (simp; done) | omega | (simp; omega)) _)) hb)
  have n3 := hb.size
  try simp at n3
  have k3_x0 := cell_keep (a := ⟨w.heap.size, 0, none⟩) (v := .string ⟨xl.toArray⟩) (by first | (go_keep; done) | (simp [go_sem, *]; done)) hb
  have k3_x1 := cell_keep (a := ⟨w.heap.size, 1, none⟩) (v := .string ⟨xs.toArray⟩) (by first | (go_keep; done) | (simp [go_sem, *]; done)) hb
  have k3_x2 := cell_keep (a := ⟨w.heap.size, 2, none⟩) (v := .string ⟨xr.toArray⟩) (by first | (go_keep; done) | (simp [go_sem, *]; done)) hb
  have k3_x3 := cell_keep (a := ⟨w.heap.size, 3, none⟩) (v := .slice xa xn xc) (by first | (go_keep; done) | (simp [go_sem, *]; done)) hb
  have l3_x := World.block_lt_of_cell? _ _ k3_x0
  try simp only at l3_x
  have k3_y0 := cell_keep (a := ⟨w.heap.size + 1, 0, none⟩) (v := .string ⟨yl.toArray⟩) (by first | (go_keep; done) | (simp [go_sem, *]; done)) hb
  have k3_y1 := cell_keep (a := ⟨w.heap.size + 1, 1, none⟩) (v := .string ⟨ys.toArray⟩) (by first | (go_keep; done) | (simp [go_sem, *]; done)) hb
  have k3_y2 := cell_keep (a := ⟨w.heap.size + 1, 2, none⟩) (v := .string ⟨yr.toArray⟩) (by first | (go_keep; done) | (simp [go_sem, *]; done)) hb
  have k3_y3 := cell_keep (a := ⟨w.heap.size + 1, 3, none⟩) (v := .slice ya yn yc) (by first | (go_keep; done) | (simp [go_sem, *]; done)) hb
  have l3_y := World.block_lt_of_cell? _ _ k3_y0
  try simp only at l3_y
  clear hb k2_x0 k2_x1 k2_x2 k2_x3 l2_x k2_y0 k2_y1 k2_y2 k2_y3 l2_y W2
  have HV2 := Lib.hid hv2
  clear hv2
  go_wp2_with fail
  refine (CE1.out _ (hT.below (by repeat (first | exact W3.out | refine blw_drewN ?_ _ | refine Below.setCell ?_ (by first | (simp; done) | omega | (simp; omega)) _ | refine Below.alloc ?_ (by first | (simp; done) | omega | (simp; omega)) _)))).mono ?_
  rintro e w4 ⟨rfl, hb⟩
  have W4 := Lib.hid (blw_trans (show Below w.heap.size w _ by repeat (first | exact W3.out | refine blw_drewN ?_ _ | refine Below.setCell ?_ (by first | (simp; done) | omega | (simp; omega)) _ | refine Below.alloc ?_ (by first | (simp; done) | omega | (simp; omega)) _)) hb)
  have n4 := hb.size
  try simp at n4
  have k4_x0 := cell_keep (a := ⟨w.heap.size, 0, none⟩) (v := .string ⟨xl.toArray⟩) (by first | (go_keep; done) | (simp [go_sem, *]; done)) hb
  have k4_x1 := cell_keep (a := ⟨w.heap.size, 1, none⟩) (v := .string ⟨xs.toArray⟩) (by first | (go_keep; done) | (simp [go_sem, *]; done)) hb
  have k4_x2 := cell_keep (a := ⟨w.heap.size, 2, none⟩) (v := .string ⟨xr.toArray⟩) (by first | (go_keep; done) | (simp [go_sem, *]; done)) hb
  have k4_x3 := cell_keep (a := ⟨w.heap.size, 3, none⟩) (v := .slice xa xn xc) (by first | (go_keep; done) | (simp [go_sem, *]; done)) hb
  have l4_x := World.block_lt_of_cell? _ _ k4_x0
  try simp only at l4_x
  have k4_y0 := cell_keep (a := ⟨w.heap.size + 1, 0, none⟩) (v := .string ⟨yl.toArray⟩) (by first | (go_keep; done) | (simp [go_sem, *]; done)) hb
  have k4_y1 := cell_keep (a := ⟨w.heap.size + 1, 1, none⟩) (v := .string ⟨ys.toArray⟩) (by first | (go_keep; done) | (simp [go_sem, *]; done)) hb
  have k4_y2 := cell_keep (a := ⟨w.heap.size + 1, 2, none⟩) (v := .string ⟨yr.toArray⟩) (by first | (go_keep; done) | (simp [go_sem, *]; done)) hb
  have k4_y3 := cell_keep (a := ⟨w.heap.size + 1, 3, none⟩) (v := .slice ya yn yc) (by first | (go_keep; done) | (simp [go_sem, *]; done)) hb
  have l4_y := World.block_lt_of_cell? _ _ k4_y0
  try simp only at l4_y
  have H4_s := Lib.hid (TagsAt.below (show TagsAt _ (.slice sa sn sc) ([] : List Tg) by repeat (first | exact HV2.out | refine TagsAt.alloc ?_ _ | refine TagsAt.drewN ?_ _)) hb)
  clear hb HV2 k3_x0 k3_x1 k3_x2 k3_x3 l3_x k3_y0 k3_y1 k3_y2 k3_y3 l3_y W3
  go_wp2_with fail
  refine (CT.out _ _ _ _ _ _ _ (show TagsAt _ (.slice sa sn sc) ([] : List Tg) by repeat (first | exact H4_s.out | refine TagsAt.alloc ?_ _ | refine TagsAt.drewN ?_ _)) (.inl ⟨rfl, none, 0, rfl⟩)).mono ?_
  rintro e w5 ⟨rfl, hb⟩
  have W5 := Lib.hid (blw_trans (show Below w.heap.size w _ by repeat (first | exact W4.out | refine blw_drewN ?_ _ | refine Below.setCell ?_ (by first | (simp; done) | omega | (simp; omega)) _ | refine Below.alloc ?_ (by first | (simp; done) | omega | (simp; omega)) _)) hb)
  have n5 := hb.size
  try simp at n5
  have k5_x0 := cell_keep (a := ⟨w.heap.size, 0, none⟩) (v := .string ⟨xl.toArray⟩) (by first | (go_keep; done) | (simp [go_sem, *]; done)) hb
  have k5_x1 := cell_keep (a := ⟨w.heap.size, 1, none⟩) (v := .string ⟨xs.toArray⟩) (by first | (go_keep; done) | (simp [go_sem, *]; done)) hb
  have k5_x2 := cell_keep (a := ⟨w.heap.size, 2, none⟩) (v := .string ⟨xr.toArray⟩) (by first | (go_keep; done) | (simp [go_sem, *]; done)) hb
  have k5_x3 := cell_keep (a := ⟨w.heap.size, 3, none⟩) (v := .slice xa xn xc) (by first | (go_keep; done) | (simp [go_sem, *]; done)) hb
  have l5_x := World.block_lt_of_cell? _ _ k5_x0
  try simp only at l5_x
  have k5_y0 := cell_keep (a := ⟨w.heap.size + 1, 0, none⟩) (v := .string ⟨yl.toArray⟩) (by first | (go_keep; done) | (simp [go_sem, *]; done)) hb
  have k5_y1 := cell_keep (a := ⟨w.heap.size + 1, 1, none⟩) (v := .string ⟨ys.toArray⟩) (by first | (go_keep; done) | (simp [go_sem, *]; done)) hb
  have k5_y2 := cell_keep (a := ⟨w.heap.size + 1, 2, none⟩) (v := .string ⟨yr.toArray⟩) (by first | (go_keep; done) | (simp [go_sem, *]; done)) hb
  have k5_y3 := cell_keep (a := ⟨w.heap.size + 1, 3, none⟩) (v := .slice ya yn yc) (by first | (go_keep; done) | (simp [go_sem, *]; done)) hb
  have l5_y := World.block_lt_of_cell? _ _ k5_y0
  try simp only at l5_y
  have H5_s := Lib.hid (TagsAt.below (show TagsAt _ (.slice sa sn sc) ([] : List Tg) by repeat (first | exact H4_s.out | refine TagsAt.alloc ?_ _ | refine TagsAt.drewN ?_ _)) hb)
  clear hb H4_s k4_x0 k4_x1 k4_x2 k4_x3 l4_x k4_y0 k4_y1 k4_y2 k4_y3 l4_y W4
  clear H5_s
  go_wp2_with fail
  refine (CW.out _ (by repeat (first | exact W5.out | refine blw_drewN ?_ _ | refine Below.setCell ?_ (by first | (simp; done) | omega | (simp; omega)) _ | refine Below.alloc ?_ (by first | (simp; done) | omega | (simp; omega)) _))).mono ?_
  rintro e w6 ⟨rfl, hb⟩
  have W6 := Lib.hid (blw_trans (show Below w.heap.size w _ by repeat (first | exact W5.out | refine blw_drewN ?_ _ | refine Below.setCell ?_ (by first | (simp; done) | omega | (simp; omega)) _ | refine Below.alloc ?_ (by first | (simp; done) | omega | (simp; omega)) _)) hb)
  have n6 := hb.size
  try simp at n6
  have k6_x0 := cell_keep (a := ⟨w.heap.size, 0, none⟩) (v := .string ⟨xl.toArray⟩) (by first | (go_keep; done) | (simp [go_sem, *]; done)) hb
  have k6_x1 := cell_keep (a := ⟨w.heap.size, 1, none⟩) (v := .string ⟨xs.toArray⟩) (by first | (go_keep; done) | (simp [go_sem, *]; done)) hb
  have k6_x2 := cell_keep (a := ⟨w.heap.size, 2, none⟩) (v := .string ⟨xr.toArray⟩) (by first | (go_keep; done) | (simp [go_sem, *]; done)) hb
  have k6_x3 := cell_keep (a := ⟨w.heap.size, 3, none⟩) (v := .slice xa xn xc) (by first | (go_keep; done) | (simp [go_sem, *]; done)) hb
  have l6_x := World.block_lt_of_cell? _ _ k6_x0
  try simp only at l6_x
  have k6_y0 := cell_keep (a := ⟨w.heap.size + 1, 0, none⟩) (v := .string ⟨yl.toArray⟩) (by first | (go_keep; done) | (simp [go_sem, *]; done)) hb
  have k6_y1 := cell_keep (a := ⟨w.heap.size + 1, 1, none⟩) (v := .string ⟨ys.toArray⟩) (by first | (go_keep; done) | (simp [go_sem, *]; done)) hb
  have k6_y2 := cell_keep (a := ⟨w.heap.size + 1, 2, none⟩) (v := .string ⟨yr.toArray⟩) (by first | (go_keep; done) | (simp [go_sem, *]; done)) hb
  have k6_y3 := cell_keep (a := ⟨w.heap.size + 1, 3, none⟩) (v := .slice ya yn yc) (by first | (go_keep; done) | (simp [go_sem, *]; done)) hb
  have l6_y := World.block_lt_of_cell? _ _ k6_y0
  try simp only at l6_y
  clear hb k5_x0 k5_x1 k5_x2 k5_x3 l5_x k5_y0 k5_y1 k5_y2 k5_y3 l5_y W5
  go_wp2_with fail
  refine (CE2.out _ (hT.below (by repeat (first | exact W6.out | refine blw_drewN ?_ _ | refine Below.setCell ?_ (by first | (simp; done) | omega | (simp; omega)) _ | refine Below.alloc ?_ (by first | (simp; done) | omega | (simp; omega)) _)))).mono ?_
  rintro e w7 ⟨rfl, hb⟩
  have W7 := Lib.hid (blw_trans (show Below w.heap.size w _ by repeat (first | exact W6.out | refine blw_drewN ?_ _ | refine Below.setCell ?_ (by first | (simp; done) | omega | (simp; omega)) _ | refine Below.alloc ?_ (by first | (simp; done) | omega | (simp; omega)) _)) hb)
  have n7 := hb.size
  try simp at n7
  have k7_x0 := cell_keep (a := ⟨w.heap.size, 0, none⟩) (v := .string ⟨xl.toArray⟩) (by first | (go_keep; done) | (simp [go_sem, *]; done)) hb
  have k7_x1 := cell_keep (a := ⟨w.heap.size, 1, none⟩) (v := .string ⟨xs.toArray⟩) (by first | (go_keep; done) | (simp [go_sem, *]; done)) hb
  have k7_x2 := cell_keep (a := ⟨w.heap.size, 2, none⟩) (v := .string ⟨xr.toArray⟩) (by first | (go_keep; done) | (simp [go_sem, *]; done)) hb
  have k7_x3 := cell_keep (a := ⟨w.heap.size, 3, none⟩) (v := .slice xa xn xc) (by first | (go_keep; done) | (simp [go_sem, *]; done)) hb
  have l7_x := World.block_lt_of_cell? _ _ k7_x0
  try simp only at l7_x
  have k7_y0 := cell_keep (a := ⟨w.heap.size + 1, 0, none⟩) (v := .string ⟨yl.toArray⟩) (by first | (go_keep; done) | (simp [go_sem, *]; done)) hb
  have k7_y1 := cell_keep (a := ⟨w.heap.size + 1, 1, none⟩) (v := .string ⟨ys.toArray⟩) (by first | (go_keep; done) | (simp [go_sem, *]; done)) hb
  have k7_y2 := cell_keep (a := ⟨w.heap.size + 1, 2, none⟩) (v := .string ⟨yr.toArray⟩) (by first | (go_keep; done) | (simp [go_sem, *]; done)) hb
  have k7_y3 := cell_keep (a := ⟨w.heap.size + 1, 3, none⟩) (v := .slice ya yn yc) (by first | (go_keep; done) | (simp [go_sem, *]; done)) hb
  have l7_y := World.block_lt_of_cell? _ _ k7_y0
  try simp only at l7_y
  clear hb k6_x0 k6_x1 k6_x2 k6_x3 l6_x k6_y0 k6_y1 k6_y2 k6_y3 l6_y W6
  go_wp2_with fail
  go_ret
  exact ⟨ret_bool (by first | rfl | (simp; done)), by repeat (first | exact W7.out | refine blw_drewN ?_ _ | refine Below.setCell ?_ (by first | (simp; done) | omega | (simp; omega)) _ | refine Below.alloc ?_ (by first | (simp; done) | omega | (simp; omega)) _)⟩

set_option maxRecDepth 100000 in
set_option maxHeartbeats 2000000 in
theorem chaintells_g (xl xs xr yl ys yr : List UInt8) (xa ya : Option Addr) (xn xc yn yc : Nat) (w : World) (hT : TM w) (G : Int) (hG : ¬ G = 0) (L : List Tg)
    (CF : Hid (∀ wx : World, Below w.heap.size w wx → Calls Tryd.prog 25 #[.agg #[.string ⟨xl.toArray⟩, .string ⟨xs.toArray⟩, .string ⟨xr.toArray⟩, .slice xa xn xc]] wx fun e w' => e = .returned (.int .i64 (0)) ∧ Below wx.heap.size wx w'))
    (CR : Hid (∀ wx : World, Below w.heap.size w wx → Calls Tryd.prog 29 #[.agg #[.string ⟨xl.toArray⟩, .string ⟨xs.toArray⟩, .string ⟨xr.toArray⟩, .slice xa xn xc]] wx fun e w' => ∃ a n c, e = .returned (.slice a n c) ∧ TagsAt w' (.slice a n c) L ∧ Below wx.heap.size wx w'))
    (CC : Hid (∀ wx : World, Below w.heap.size w wx → Calls Tryd.prog 19 #[.agg #[.string ⟨xl.toArray⟩, .string ⟨xs.toArray⟩, .string ⟨xr.toArray⟩, .slice xa xn xc]] wx fun e w' => ∃ a n c, e = .returned (.tuple #[.slice a n c, .nilIface]) ∧ TagsAt w' (.slice a n c) L ∧ Below wx.heap.size wx w'))
    (CG : Hid (∀ wx : World, Below w.heap.size w wx → Calls Tryd.prog 25 #[.agg #[.string ⟨yl.toArray⟩, .string ⟨ys.toArray⟩, .string ⟨yr.toArray⟩, .slice ya yn yc]] wx fun e w' => e = .returned (.int .i64 (G)) ∧ Below wx.heap.size wx w'))
    (CW : Hid (∀ wx : World, Below w.heap.size w wx → Calls Tryd.prog 22 #[.agg #[.string ⟨xl.toArray⟩, .string ⟨xs.toArray⟩, .string ⟨xr.toArray⟩, .slice xa xn xc], .agg #[.string ⟨yl.toArray⟩, .string ⟨ys.toArray⟩, .string ⟨yr.toArray⟩, .slice ya yn yc]] wx fun e w' => e = .returned (.tuple #[.bool false, errV G]) ∧ Below wx.heap.size wx w'))
    (CT : Hid (∀ (a b : Option Addr) (n m ca cb : Nat) (wx : World), TagsAt wx (.slice a n ca) L → TagsAt wx (.slice b m cb) L → Calls Tryd.prog 30 #[.slice a n ca, .slice b m cb] wx fun e w' => e = .returned (.bool true) ∧ Below wx.heap.size wx w')) :
    Calls Tryd.prog 8 #[.agg #[.string ⟨xl.toArray⟩, .string ⟨xs.toArray⟩, .string ⟨xr.toArray⟩, .slice xa xn xc], .agg #[.string ⟨yl.toArray⟩, .string ⟨ys.toArray⟩, .string ⟨yr.toArray⟩, .slice ya yn yc]] w fun e w' => e = .returned (.bool true) ∧ Below w.heap.size w w' := by
  have q1 : (G == 0) = false := beq_no hG
  have CE1 := Lib.hid fun w (h : TM w) => sameErr_yes ErrNo.nil w h.h
  have CE2 := Lib.hid fun w (h : TM w) => sameErr_yes (ErrNo.no G) w h.h
  go_enter Tryd.func8, Tryd.ntmps8
  go_wp2_with fail
  refine (tagged_any _ (hT.below (by repeat (first | exact (Below.refl _ _) | refine blw_drewN ?_ _ | refine Below.setCell ?_ (by first | (simp; done) | omega | (simp; omega)) _ | refine Below.alloc ?_ (by first | (simp; done) | omega | (simp; omega)) _))).m).mono ?_
  rintro e w1 ⟨rfl, hb⟩
  have W1 := Lib.hid (blw_trans (show Below w.heap.size w _ by repeat (first | exact (Below.refl _ _) | refine blw_drewN ?_ _ | refine Below.setCell ?_ (by first | (simp; done) | omega | (simp; omega)) _ | refine Below.alloc ?_ (by first | (simp; done) | omega | (simp; omega)) _)) hb)
  have n1 := hb.size
  try simp at n1
  have k1_x0 := cell_keep (a := ⟨w.heap.size, 0, none⟩) (v := .string ⟨xl.toArray⟩) (by first | (go_keep; done) | (simp [go_sem, *]; done)) hb
  have k1_x1 := cell_keep (a := ⟨w.heap.size, 1, none⟩) (v := .string ⟨xs.toArray⟩) (by first | (go_keep; done) | (simp [go_sem, *]; done)) hb
  have k1_x2 := cell_keep (a := ⟨w.heap.size, 2, none⟩) (v := .string ⟨xr.toArray⟩) (by first | (go_keep; done) | (simp [go_sem, *]; done)) hb
  have k1_x3 := cell_keep (a := ⟨w.heap.size, 3, none⟩) (v := .slice xa xn xc) (by first | (go_keep; done) | (simp [go_sem, *]; done)) hb
  have l1_x := World.block_lt_of_cell? _ _ k1_x0
  try simp only at l1_x
  have k1_y0 := cell_keep (a := ⟨w.heap.size + 1, 0, none⟩) (v := .string ⟨yl.toArray⟩) (by first | (go_keep; done) | (simp [go_sem, *]; done)) hb
  have k1_y1 := cell_keep (a := ⟨w.heap.size + 1, 1, none⟩) (v := .string ⟨ys.toArray⟩) (by first | (go_keep; done) | (simp [go_sem, *]; done)) hb
  have k1_y2 := cell_keep (a := ⟨w.heap.size + 1, 2, none⟩) (v := .string ⟨yr.toArray⟩) (by first | (go_keep; done) | (simp [go_sem, *]; done)) hb
  have k1_y3 := cell_keep (a := ⟨w.heap.size + 1, 3, none⟩) (v := .slice ya yn yc) (by first | (go_keep; done) | (simp [go_sem, *]; done)) hb
  have l1_y := World.block_lt_of_cell? _ _ k1_y0
  try simp only at l1_y
  clear hb
  go_wp2_with fail
  refine (CF.out _ (by repeat (first | exact W1.out | refine blw_drewN ?_ _ | refine Below.setCell ?_ (by first | (simp; done) | omega | (simp; omega)) _ | refine Below.alloc ?_ (by first | (simp; done) | omega | (simp; omega)) _))).mono ?_
  rintro e w2 ⟨rfl, hb⟩
  have W2 := Lib.hid (blw_trans (show Below w.heap.size w _ by repeat (first | exact W1.out | refine blw_drewN ?_ _ | refine Below.setCell ?_ (by first | (simp; done) | omega | (simp; omega)) _ | refine Below.alloc ?_ (by first | (simp; done) | omega | (simp; omega)) _)) hb)
  have n2 := hb.size
  try simp at n2
  have k2_x0 := cell_keep (a := ⟨w.heap.size, 0, none⟩) (v := .string ⟨xl.toArray⟩) (by first | (go_keep; done) | (simp [go_sem, *]; done)) hb
  have k2_x1 := cell_keep (a := ⟨w.heap.size, 1, none⟩) (v := .string ⟨xs.toArray⟩) (by first | (go_keep; done) | (simp [go_sem, *]; done)) hb
  have k2_x2 := cell_keep (a := ⟨w.heap.size, 2, none⟩) (v := .string ⟨xr.toArray⟩) (by first | (go_keep; done) | (simp [go_sem, *]; done)) hb
  have k2_x3 := cell_keep (a := ⟨w.heap.size, 3, none⟩) (v := .slice xa xn xc) (by first | (go_keep; done) | (simp [go_sem, *]; done)) hb
  have l2_x := World.block_lt_of_cell? _ _ k2_x0
  try simp only at l2_x
  have k2_y0 := cell_keep (a := ⟨w.heap.size + 1, 0, none⟩) (v := .string ⟨yl.toArray⟩) (by first | (go_keep; done) | (simp [go_sem, *]; done)) hb
  have k2_y1 := cell_keep (a := ⟨w.heap.size + 1, 1, none⟩) (v := .string ⟨ys.toArray⟩) (by first | (go_keep; done) | (simp [go_sem, *]; done)) hb
  have k2_y2 := cell_keep (a := ⟨w.heap.size + 1, 2, none⟩) (v := .string ⟨yr.toArray⟩) (by first | (go_keep; done) | (simp [go_sem, *]; done)) hb
  have k2_y3 := cell_keep (a := ⟨w.heap.size + 1, 3, none⟩) (v := .slice ya yn yc) (by first | (go_keep; done) | (simp [go_sem, *]; done)) hb
  have l2_y := World.block_lt_of_cell? _ _ k2_y0
  try simp only at l2_y
  clear hb k1_x0 k1_x1 k1_x2 k1_x3 l1_x k1_y0 k1_y1 k1_y2 k1_y3 l1_y W1
  go_wp2_with fail
  refine (CR.out _ (by repeat (first | exact W2.out | refine blw_drewN ?_ _ | refine Below.setCell ?_ (by first | (simp; done) | omega | (simp; omega)) _ | refine Below.alloc ?_ (by first | (simp; done) | omega | (simp; omega)) _))).mono ?_
  rintro e w3 ⟨ra, rn, rc, rfl, hv1, hb⟩
  have W3 := Lib.hid (blw_trans (show Below w.heap.size w _ by repeat (first | exact W2.out | refine blw_drewN ?_ _ | refine Below.setCell ?_ (by first | (simp; done) | omega | (simp; omega)) _ | refine Below.alloc ?_ (by first | (simp; done) | omega | (simp; omega)) _)) hb)
  have n3 := hb.size
  try simp at n3
  have k3_x0 := cell_keep (a := ⟨w.heap.size, 0, none⟩) (v := .string ⟨xl.toArray⟩) (by first | (go_keep; done) | (simp [go_sem, *]; done)) hb
  have k3_x1 := cell_keep (a := ⟨w.heap.size, 1, none⟩) (v := .string ⟨xs.toArray⟩) (by first | (go_keep; done) | (simp [go_sem, *]; done)) hb
  have k3_x2 := cell_keep (a := ⟨w.heap.size, 2, none⟩) (v := .string ⟨xr.toArray⟩) (by first | (go_keep; done) | (simp [go_sem, *]; done)) hb
  have k3_x3 := cell_keep (a := ⟨w.heap.size, 3, none⟩) (v := .slice xa xn xc) (by first | (go_keep; done) | (simp [go_sem, *]; done)) hb
  have l3_x := World.block_lt_of_cell? _ _ k3_x0
  try simp only at l3_x
  have k3_y0 := cell_keep (a := ⟨w.heap.size + 1, 0, none⟩) (v := .string ⟨yl.toArray⟩) (by first | (go_keep; done) | (simp [go_sem, *]; done)) hb
  have k3_y1 := cell_keep (a := ⟨w.heap.size + 1, 1, none⟩) (v := .string ⟨ys.toArray⟩) (by first | (go_keep; done) | (simp [go_sem, *]; done)) hb
  have k3_y2 := cell_keep (a := ⟨w.heap.size + 1, 2, none⟩) (v := .string ⟨yr.toArray⟩) (by first | (go_keep; done) | (simp [go_sem, *]; done)) hb
  have k3_y3 := cell_keep (a := ⟨w.heap.size + 1, 3, none⟩) (v := .slice ya yn yc) (by first | (go_keep; done) | (simp [go_sem, *]; done)) hb
  have l3_y := World.block_lt_of_cell? _ _ k3_y0
  try simp only at l3_y
  clear hb k2_x0 k2_x1 k2_x2 k2_x3 l2_x k2_y0 k2_y1 k2_y2 k2_y3 l2_y W2
  have HV1 := Lib.hid hv1
  clear hv1
  go_wp2_with fail
  refine (CC.out _ (by repeat (first | exact W3.out | refine blw_drewN ?_ _ | refine Below.setCell ?_ (by first | (simp; done) | omega | (simp; omega)) _ | refine Below.alloc ?_ (by first | (simp; done) | omega | (simp; omega)) _))).mono ?_
  rintro e w4 ⟨sa, sn, sc, rfl, hv2, hb⟩
  have W4 := Lib.hid (blw_trans (show Below w.heap.size w _ by repeat (first | exact W3.out | refine blw_drewN ?_ _ | refine Below.setCell ?_ (by first | (simp; done) | omega | (simp; omega)) _ | refine Below.alloc ?_ (by first | (simp; done) | omega | (simp; omega)) _)) hb)
  have n4 := hb.size
  try simp at n4
  have k4_x0 := cell_keep (a := ⟨w.heap.size, 0, none⟩) (v := .string ⟨xl.toArray⟩) (by first | (go_keep; done) | (simp [go_sem, *]; done)) hb
  have k4_x1 := cell_keep (a := ⟨w.heap.size, 1, none⟩) (v := .string ⟨xs.toArray⟩) (by first | (go_keep; done) | (simp [go_sem, *]; done)) hb
  have k4_x2 := cell_keep (a := ⟨w.heap.size, 2, none⟩) (v := .string ⟨xr.toArray⟩) (by first | (go_keep; done) | (simp [go_sem, *]; done)) hb
  have k4_x3 := cell_keep (a := ⟨w.heap.size, 3, none⟩) (v := .slice xa xn xc) (by first | (go_keep; done) | (simp [go_sem, *]; done)) hb
  have l4_x := World.block_lt_of_cell? _ _ k4_x0
  try simp only at l4_x
  have k4_y0 := cell_keep (a := ⟨w.heap.size + 1, 0, none⟩) (v := .string ⟨yl.toArray⟩) (by first | (go_keep; done) | (simp [go_sem, *]; done)) hb
  have k4_y1 := cell_keep (a := ⟨w.heap.size + 1, 1, none⟩) (v := .string ⟨ys.toArray⟩) (by first | (go_keep; done) | (simp [go_sem, *]; done)) hb
  have k4_y2 := cell_keep (a := ⟨w.heap.size + 1, 2, none⟩) (v := .string ⟨yr.toArray⟩) (by first | (go_keep; done) | (simp [go_sem, *]; done)) hb
  have k4_y3 := cell_keep (a := ⟨w.heap.size + 1, 3, none⟩) (v := .slice ya yn yc) (by first | (go_keep; done) | (simp [go_sem, *]; done)) hb
  have l4_y := World.block_lt_of_cell? _ _ k4_y0
  try simp only at l4_y
  have H4_r := Lib.hid (TagsAt.below (show TagsAt _ (.slice ra rn rc) L by repeat (first | exact HV1.out | refine TagsAt.alloc ?_ _ | refine TagsAt.drewN ?_ _)) hb)
  clear hb HV1 k3_x0 k3_x1 k3_x2 k3_x3 l3_x k3_y0 k3_y1 k3_y2 k3_y3 l3_y W3
  have HV2 := Lib.hid hv2
  clear hv2
  go_wp2_with fail
  refine (CE1.out _ (hT.below (by repeat (first | exact W4.out | refine blw_drewN ?_ _ | refine Below.setCell ?_ (by first | (simp; done) | omega | (simp; omega)) _ | refine Below.alloc ?_ (by first | (simp; done) | omega | (simp; omega)) _)))).mono ?_
  rintro e w5 ⟨rfl, hb⟩
  have W5 := Lib.hid (blw_trans (show Below w.heap.size w _ by repeat (first | exact W4.out | refine blw_drewN ?_ _ | refine Below.setCell ?_ (by first | (simp; done) | omega | (simp; omega)) _ | refine Below.alloc ?_ (by first | (simp; done) | omega | (simp; omega)) _)) hb)
  have n5 := hb.size
  try simp at n5
  have k5_x0 := cell_keep (a := ⟨w.heap.size, 0, none⟩) (v := .string ⟨xl.toArray⟩) (by first | (go_keep; done) | (simp [go_sem, *]; done)) hb
  have k5_x1 := cell_keep (a := ⟨w.heap.size, 1, none⟩) (v := .string ⟨xs.toArray⟩) (by first | (go_keep; done) | (simp [go_sem, *]; done)) hb
  have k5_x2 := cell_keep (a := ⟨w.heap.size, 2, none⟩) (v := .string ⟨xr.toArray⟩) (by first | (go_keep; done) | (simp [go_sem, *]; done)) hb
  have k5_x3 := cell_keep (a := ⟨w.heap.size, 3, none⟩) (v := .slice xa xn xc) (by first | (go_keep; done) | (simp [go_sem, *]; done)) hb
  have l5_x := World.block_lt_of_cell? _ _ k5_x0
  try simp only at l5_x
  have k5_y0 := cell_keep (a := ⟨w.heap.size + 1, 0, none⟩) (v := .string ⟨yl.toArray⟩) (by first | (go_keep; done) | (simp [go_sem, *]; done)) hb
  have k5_y1 := cell_keep (a := ⟨w.heap.size + 1, 1, none⟩) (v := .string ⟨ys.toArray⟩) (by first | (go_keep; done) | (simp [go_sem, *]; done)) hb
  have k5_y2 := cell_keep (a := ⟨w.heap.size + 1, 2, none⟩) (v := .string ⟨yr.toArray⟩) (by first | (go_keep; done) | (simp [go_sem, *]; done)) hb
  have k5_y3 := cell_keep (a := ⟨w.heap.size + 1, 3, none⟩) (v := .slice ya yn yc) (by first | (go_keep; done) | (simp [go_sem, *]; done)) hb
  have l5_y := World.block_lt_of_cell? _ _ k5_y0
  try simp only at l5_y
  have H5_r := Lib.hid (TagsAt.below (show TagsAt _ (.slice ra rn rc) L by repeat (first | exact H4_r.out | refine TagsAt.alloc ?_ _ | refine TagsAt.drewN ?_ _)) hb)
  have H5_s := Lib.hid (TagsAt.below (show TagsAt _ (.slice sa sn sc) L by repeat (first | exact HV2.out | refine TagsAt.alloc ?_ _ | refine TagsAt.drewN ?_ _)) hb)
  clear hb H4_r HV2 k4_x0 k4_x1 k4_x2 k4_x3 l4_x k4_y0 k4_y1 k4_y2 k4_y3 l4_y W4
  go_wp2_with fail
  refine (CT.out _ _ _ _ _ _ _ (show TagsAt _ (.slice sa sn sc) L by repeat (first | exact H5_s.out | refine TagsAt.alloc ?_ _ | refine TagsAt.drewN ?_ _)) (show TagsAt _ (.slice ra rn rc) L by repeat (first | exact H5_r.out | refine TagsAt.alloc ?_ _ | refine TagsAt.drewN ?_ _))).mono ?_
  rintro e w6 ⟨rfl, hb⟩
  have W6 := Lib.hid (blw_trans (show Below w.heap.size w _ by repeat (first | exact W5.out | refine blw_drewN ?_ _ | refine Below.setCell ?_ (by first | (simp; done) | omega | (simp; omega)) _ | refine Below.alloc ?_ (by first | (simp; done) | omega | (simp; omega)) _)) hb)
  have n6 := hb.size
  try simp at n6
  have k6_x0 := cell_keep (a := ⟨w.heap.size, 0, none⟩) (v := .string ⟨xl.toArray⟩) (by first | (go_keep; done) | (simp [go_sem, *]; done)) hb
  have k6_x1 := cell_keep (a := ⟨w.heap.size, 1, none⟩) (v := .string ⟨xs.toArray⟩) (by first | (go_keep; done) | (simp [go_sem, *]; done)) hb
  have k6_x2 := cell_keep (a := ⟨w.heap.size, 2, none⟩) (v := .string ⟨xr.toArray⟩) (by first | (go_keep; done) | (simp [go_sem, *]; done)) hb
  have k6_x3 := cell_keep (a := ⟨w.heap.size, 3, none⟩) (v := .slice xa xn xc) (by first | (go_keep; done) | (simp [go_sem, *]; done)) hb
  have l6_x := World.block_lt_of_cell? _ _ k6_x0
  try simp only at l6_x
  have k6_y0 := cell_keep (a := ⟨w.heap.size + 1, 0, none⟩) (v := .string ⟨yl.toArray⟩) (by first | (go_keep; done) | (simp [go_sem, *]; done)) hb
  have k6_y1 := cell_keep (a := ⟨w.heap.size + 1, 1, none⟩) (v := .string ⟨ys.toArray⟩) (by first | (go_keep; done) | (simp [go_sem, *]; done)) hb
  have k6_y2 := cell_keep (a := ⟨w.heap.size + 1, 2, none⟩) (v := .string ⟨yr.toArray⟩) (by first | (go_keep; done) | (simp [go_sem, *]; done)) hb
  have k6_y3 := cell_keep (a := ⟨w.heap.size + 1, 3, none⟩) (v := .slice ya yn yc) (by first | (go_keep; done) | (simp [go_sem, *]; done)) hb
  have l6_y := World.block_lt_of_cell? _ _ k6_y0
  try simp only at l6_y
  have H6_r := Lib.hid (TagsAt.below (show TagsAt _ (.slice ra rn rc) L by repeat (first | exact H5_r.out | refine TagsAt.alloc ?_ _ | refine TagsAt.drewN ?_ _)) hb)
  have H6_s := Lib.hid (TagsAt.below (show TagsAt _ (.slice sa sn sc) L by repeat (first | exact H5_s.out | refine TagsAt.alloc ?_ _ | refine TagsAt.drewN ?_ _)) hb)
  clear hb H5_r H5_s k5_x0 k5_x1 k5_x2 k5_x3 l5_x k5_y0 k5_y1 k5_y2 k5_y3 l5_y W5
  clear H6_r H6_s
  go_wp2_with fail
  refine (CG.out _ (by repeat (first | exact W6.out | refine blw_drewN ?_ _ | refine Below.setCell ?_ (by first | (simp; done) | omega | (simp; omega)) _ | refine Below.alloc ?_ (by first | (simp; done) | omega | (simp; omega)) _))).mono ?_
  rintro e w7 ⟨rfl, hb⟩
  have W7 := Lib.hid (blw_trans (show Below w.heap.size w _ by repeat (first | exact W6.out | refine blw_drewN ?_ _ | refine Below.setCell ?_ (by first | (simp; done) | omega | (simp; omega)) _ | refine Below.alloc ?_ (by first | (simp; done) | omega | (simp; omega)) _)) hb)
  have n7 := hb.size
  try simp at n7
  have k7_x0 := cell_keep (a := ⟨w.heap.size, 0, none⟩) (v := .string ⟨xl.toArray⟩) (by first | (go_keep; done) | (simp [go_sem, *]; done)) hb
  have k7_x1 := cell_keep (a := ⟨w.heap.size, 1, none⟩) (v := .string ⟨xs.toArray⟩) (by first | (go_keep; done) | (simp [go_sem, *]; done)) hb
  have k7_x2 := cell_keep (a := ⟨w.heap.size, 2, none⟩) (v := .string ⟨xr.toArray⟩) (by first | (go_keep; done) | (simp [go_sem, *]; done)) hb
  have k7_x3 := cell_keep (a := ⟨w.heap.size, 3, none⟩) (v := .slice xa xn xc) (by first | (go_keep; done) | (simp [go_sem, *]; done)) hb
  have l7_x := World.block_lt_of_cell? _ _ k7_x0
  try simp only at l7_x
  have k7_y0 := cell_keep (a := ⟨w.heap.size + 1, 0, none⟩) (v := .string ⟨yl.toArray⟩) (by first | (go_keep; done) | (simp [go_sem, *]; done)) hb
  have k7_y1 := cell_keep (a := ⟨w.heap.size + 1, 1, none⟩) (v := .string ⟨ys.toArray⟩) (by first | (go_keep; done) | (simp [go_sem, *]; done)) hb
  have k7_y2 := cell_keep (a := ⟨w.heap.size + 1, 2, none⟩) (v := .string ⟨yr.toArray⟩) (by first | (go_keep; done) | (simp [go_sem, *]; done)) hb
  have k7_y3 := cell_keep (a := ⟨w.heap.size + 1, 3, none⟩) (v := .slice ya yn yc) (by first | (go_keep; done) | (simp [go_sem, *]; done)) hb
  have l7_y := World.block_lt_of_cell? _ _ k7_y0
  try simp only at l7_y
  clear hb k6_x0 k6_x1 k6_x2 k6_x3 l6_x k6_y0 k6_y1 k6_y2 k6_y3 l6_y W6
  go_wp2_with fail
  refine (CW.out _ (by repeat (first | exact W7.out | refine blw_drewN ?_ _ | refine Below.setCell ?_ (by first | (simp; done) | omega | (simp; omega)) _ | refine Below.alloc ?_ (by first | (simp; done) | omega | (simp; omega)) _))).mono ?_
  rintro e w8 ⟨rfl, hb⟩
  have W8 := Lib.hid (blw_trans (show Below w.heap.size w _ by repeat (first | exact W7.out | refine blw_drewN ?_ _ | refine Below.setCell ?_ (by first | (simp; done) | omega | (simp; omega)) _ | refine Below.alloc ?_ (by first | (simp; done) | omega | (simp; omega)) _)) hb)
  have n8 := hb.size
  try simp at n8
  have k8_x0 := cell_keep (a := ⟨w.heap.size, 0, none⟩) (v := .string ⟨xl.toArray⟩) (by first | (go_keep; done) | (simp [go_sem, *]; done)) hb
  have k8_x1 := cell_keep (a := ⟨w.heap.size, 1, none⟩) (v := .string ⟨xs.toArray⟩) (by first | (go_keep; done) | (simp [go_sem, *]; done)) hb
  have k8_x2 := cell_keep (a := ⟨w.heap.size, 2, none⟩) (v := .string ⟨xr.toArray⟩) (by first | (go_keep; done) | (simp [go_sem, *]; done)) hb
  have k8_x3 := cell_keep (a := ⟨w.heap.size, 3, none⟩) (v := .slice xa xn xc) (by first | (go_keep; done) | (simp [go_sem, *]; done)) hb
  have l8_x := World.block_lt_of_cell? _ _ k8_x0
  try simp only at l8_x
  have k8_y0 := cell_keep (a := ⟨w.heap.size + 1, 0, none⟩) (v := .string ⟨yl.toArray⟩) (by first | (go_keep; done) | (simp [go_sem, *]; done)) hb
  have k8_y1 := cell_keep (a := ⟨w.heap.size + 1, 1, none⟩) (v := .string ⟨ys.toArray⟩) (by first | (go_keep; done) | (simp [go_sem, *]; done)) hb
  have k8_y2 := cell_keep (a := ⟨w.heap.size + 1, 2, none⟩) (v := .string ⟨yr.toArray⟩) (by first | (go_keep; done) | (simp [go_sem, *]; done)) hb
  have k8_y3 := cell_keep (a := ⟨w.heap.size + 1, 3, none⟩) (v := .slice ya yn yc) (by first | (go_keep; done) | (simp [go_sem, *]; done)) hb
  have l8_y := World.block_lt_of_cell? _ _ k8_y0
  try simp only at l8_y
  clear hb k7_x0 k7_x1 k7_x2 k7_x3 l7_x k7_y0 k7_y1 k7_y2 k7_y3 l7_y W7
  go_wp2_with fail
  refine (CE2.out _ (hT.below (by repeat (first | exact W8.out | refine blw_drewN ?_ _ | refine Below.setCell ?_ (by first | (simp; done) | omega | (simp; omega)) _ | refine Below.alloc ?_ (by first | (simp; done) | omega | (simp; omega)) _)))).mono ?_
  rintro e w9 ⟨rfl, hb⟩
  have W9 := Lib.hid (blw_trans (show Below w.heap.size w _ by repeat (first | exact W8.out | refine blw_drewN ?_ _ | refine Below.setCell ?_ (by first | (simp; done) | omega | (simp; omega)) _ | refine Below.alloc ?_ (by first | (simp; done) | omega | (simp; omega)) _)) hb)
  have n9 := hb.size
  try simp at n9
  have k9_x0 := cell_keep (a := ⟨w.heap.size, 0, none⟩) (v := .string ⟨xl.toArray⟩) (by first | (go_keep; done) | (simp [go_sem, *]; done)) hb
  have k9_x1 := cell_keep (a := ⟨w.heap.size, 1, none⟩) (v := .string ⟨xs.toArray⟩) (by first | (go_keep; done) | (simp [go_sem, *]; done)) hb
  have k9_x2 := cell_keep (a := ⟨w.heap.size, 2, none⟩) (v := .string ⟨xr.toArray⟩) (by first | (go_keep; done) | (simp [go_sem, *]; done)) hb
  have k9_x3 := cell_keep (a := ⟨w.heap.size, 3, none⟩) (v := .slice xa xn xc) (by first | (go_keep; done) | (simp [go_sem, *]; done)) hb
  have l9_x := World.block_lt_of_cell? _ _ k9_x0
  try simp only at l9_x
  have k9_y0 := cell_keep (a := ⟨w.heap.size + 1, 0, none⟩) (v := .string ⟨yl.toArray⟩) (by first | (go_keep; done) | (simp [go_sem, *]; done)) hb
  have k9_y1 := cell_keep (a := ⟨w.heap.size + 1, 1, none⟩) (v := .string ⟨ys.toArray⟩) (by first | (go_keep; done) | (simp [go_sem, *]; done)) hb
  have k9_y2 := cell_keep (a := ⟨w.heap.size + 1, 2, none⟩) (v := .string ⟨yr.toArray⟩) (by first | (go_keep; done) | (simp [go_sem, *]; done)) hb
  have k9_y3 := cell_keep (a := ⟨w.heap.size + 1, 3, none⟩) (v := .slice ya yn yc) (by first | (go_keep; done) | (simp [go_sem, *]; done)) hb
  have l9_y := World.block_lt_of_cell? _ _ k9_y0
  try simp only at l9_y
  clear hb k8_x0 k8_x1 k8_x2 k8_x3 l8_x k8_y0 k8_y1 k8_y2 k8_y3 l8_y W8
  go_wp2_with fail
  go_ret
  exact ⟨ret_bool (by first | rfl | (simp; done)), by repeat (first | exact W9.out | refine blw_drewN ?_ _ | refine Below.setCell ?_ (by first | (simp; done) | omega | (simp; omega)) _ | refine Below.alloc ?_ (by first | (simp; done) | omega | (simp; omega)) _)⟩

set_option maxRecDepth 100000 in
set_option maxHeartbeats 2000000 in
theorem chaintells_o (xl xs xr yl ys yr : List UInt8) (xa ya : Option Addr) (xn xc yn yc : Nat) (w : World) (hT : TM w) (L : List Tg) (B : Bool)
    (CF : Hid (∀ wx : World, Below w.heap.size w wx → Calls Tryd.prog 25 #[.agg #[.string ⟨xl.toArray⟩, .string ⟨xs.toArray⟩, .string ⟨xr.toArray⟩, .slice xa xn xc]] wx fun e w' => e = .returned (.int .i64 (0)) ∧ Below wx.heap.size wx w'))
    (CR : Hid (∀ wx : World, Below w.heap.size w wx → Calls Tryd.prog 29 #[.agg #[.string ⟨xl.toArray⟩, .string ⟨xs.toArray⟩, .string ⟨xr.toArray⟩, .slice xa xn xc]] wx fun e w' => ∃ a n c, e = .returned (.slice a n c) ∧ TagsAt w' (.slice a n c) L ∧ Below wx.heap.size wx w'))
    (CC : Hid (∀ wx : World, Below w.heap.size w wx → Calls Tryd.prog 19 #[.agg #[.string ⟨xl.toArray⟩, .string ⟨xs.toArray⟩, .string ⟨xr.toArray⟩, .slice xa xn xc]] wx fun e w' => ∃ a n c, e = .returned (.tuple #[.slice a n c, .nilIface]) ∧ TagsAt w' (.slice a n c) L ∧ Below wx.heap.size wx w'))
    (CG : Hid (∀ wx : World, Below w.heap.size w wx → Calls Tryd.prog 25 #[.agg #[.string ⟨yl.toArray⟩, .string ⟨ys.toArray⟩, .string ⟨yr.toArray⟩, .slice ya yn yc]] wx fun e w' => e = .returned (.int .i64 (0)) ∧ Below wx.heap.size wx w'))
    (CW : Hid (∀ wx : World, Below w.heap.size w wx → Calls Tryd.prog 22 #[.agg #[.string ⟨xl.toArray⟩, .string ⟨xs.toArray⟩, .string ⟨xr.toArray⟩, .slice xa xn xc], .agg #[.string ⟨yl.toArray⟩, .string ⟨ys.toArray⟩, .string ⟨yr.toArray⟩, .slice ya yn yc]] wx fun e w' => e = .returned (.tuple #[.bool B, .nilIface]) ∧ Below wx.heap.size wx w'))
    (CI : Hid (∀ wx : World, Below w.heap.size w wx → Calls Tryd.prog 31 #[.agg #[.string ⟨xl.toArray⟩, .string ⟨xs.toArray⟩, .string ⟨xr.toArray⟩, .slice xa xn xc], .agg #[.string ⟨yl.toArray⟩, .string ⟨ys.toArray⟩, .string ⟨yr.toArray⟩, .slice ya yn yc]] wx fun e w' => e = .returned (.bool B) ∧ Below wx.heap.size wx w'))
    (CT : Hid (∀ (a b : Option Addr) (n m ca cb : Nat) (wx : World), TagsAt wx (.slice a n ca) L → TagsAt wx (.slice b m cb) L → Calls Tryd.prog 30 #[.slice a n ca, .slice b m cb] wx fun e w' => e = .returned (.bool true) ∧ Below wx.heap.size wx w')) :
    Calls Tryd.prog 8 #[.agg #[.string ⟨xl.toArray⟩, .string ⟨xs.toArray⟩, .string ⟨xr.toArray⟩, .slice xa xn xc], .agg #[.string ⟨yl.toArray⟩, .string ⟨ys.toArray⟩, .string ⟨yr.toArray⟩, .slice ya yn yc]] w fun e w' => e = .returned (.bool true) ∧ Below w.heap.size w w' := by
  have CE1 := Lib.hid fun w (h : TM w) => sameErr_yes ErrNo.nil w h.h
  have CE2 := CE1
  go_enter Tryd.func8, Tryd.ntmps8
  go_wp2_with fail
  refine (tagged_any _ (hT.below (by repeat (first | exact (Below.refl _ _) | refine blw_drewN ?_ _ | refine Below.setCell ?_ (by first | (simp; done) | omega | (simp; omega)) _ | refine Below.alloc ?_ (by first | (simp; done) | omega | (simp; omega)) _))).m).mono ?_
  rintro e w1 ⟨rfl, hb⟩
  have W1 := Lib.hid (blw_trans (show Below w.heap.size w _ by repeat (first | exact (Below.refl _ _) | refine blw_drewN ?_ _ | refine Below.setCell ?_ (by first | (simp; done) | omega | (simp; omega)) _ | refine Below.alloc ?_ (by first | (simp; done) | omega | (simp; omega)) _)) hb)
  have n1 := hb.size
  try simp at n1
  have k1_x0 := cell_keep (a := ⟨w.heap.size, 0, none⟩) (v := .string ⟨xl.toArray⟩) (by first | (go_keep; done) | (simp [go_sem, *]; done)) hb
  have k1_x1 := cell_keep (a := ⟨w.heap.size, 1, none⟩) (v := .string ⟨xs.toArray⟩) (by first | (go_keep; done) | (simp [go_sem, *]; done)) hb
  have k1_x2 := cell_keep (a := ⟨w.heap.size, 2, none⟩) (v := .string ⟨xr.toArray⟩) (by first | (go_keep; done) | (simp [go_sem, *]; done)) hb
  have k1_x3 := cell_keep (a := ⟨w.heap.size, 3, none⟩) (v := .slice xa xn xc) (by first | (go_keep; done) | (simp [go_sem, *]; done)) hb
  have l1_x := World.block_lt_of_cell? _ _ k1_x0
  try simp only at l1_x
  have k1_y0 := cell_keep (a := ⟨w.heap.size + 1, 0, none⟩) (v := .string ⟨yl.toArray⟩) (by first | (go_keep; done) | (simp [go_sem, *]; done)) hb
  have k1_y1 := cell_keep (a := ⟨w.heap.size + 1, 1, none⟩) (v := .string ⟨ys.toArray⟩) (by first | (go_keep; done) | (simp [go_sem, *]; done)) hb
  have k1_y2 := cell_keep (a := ⟨w.heap.size + 1, 2, none⟩) (v := .string ⟨yr.toArray⟩) (by first | (go_keep; done) | (simp [go_sem, *]; done)) hb
  have k1_y3 := cell_keep (a := ⟨w.heap.size + 1, 3, none⟩) (v := .slice ya yn yc) (by first | (go_keep; done) | (simp [go_sem, *]; done)) hb
  have l1_y := World.block_lt_of_cell? _ _ k1_y0
  try simp only at l1_y
  clear hb
  go_wp2_with fail
  refine (CF.out _ (by repeat (first | exact W1.out | refine blw_drewN ?_ _ | refine Below.setCell ?_ (by first | (simp; done) | omega | (simp; omega)) _ | refine Below.alloc ?_ (by first | (simp; done) | omega | (simp; omega)) _))).mono ?_
  rintro e w2 ⟨rfl, hb⟩
  have W2 := Lib.hid (blw_trans (show Below w.heap.size w _ by repeat (first | exact W1.out | refine blw_drewN ?_ _ | refine Below.setCell ?_ (by first | (simp; done) | omega | (simp; omega)) _ | refine Below.alloc ?_ (by first | (simp; done) | omega | (simp; omega)) _)) hb)
  have n2 := hb.size
  try simp at n2
  have k2_x0 := cell_keep (a := ⟨w.heap.size, 0, none⟩) (v := .string ⟨xl.toArray⟩) (by first | (go_keep; done) | (simp [go_sem, *]; done)) hb
  have k2_x1 := cell_keep (a := ⟨w.heap.size, 1, none⟩) (v := .string ⟨xs.toArray⟩) (by first | (go_keep; done) | (simp [go_sem, *]; done)) hb
  have k2_x2 := cell_keep (a := ⟨w.heap.size, 2, none⟩) (v := .string ⟨xr.toArray⟩) (by first | (go_keep; done) | (simp [go_sem, *]; done)) hb
  have k2_x3 := cell_keep (a := ⟨w.heap.size, 3, none⟩) (v := .slice xa xn xc) (by first | (go_keep; done) | (simp [go_sem, *]; done)) hb
  have l2_x := World.block_lt_of_cell? _ _ k2_x0
  try simp only at l2_x
  have k2_y0 := cell_keep (a := ⟨w.heap.size + 1, 0, none⟩) (v := .string ⟨yl.toArray⟩) (by first | (go_keep; done) | (simp [go_sem, *]; done)) hb
  have k2_y1 := cell_keep (a := ⟨w.heap.size + 1, 1, none⟩) (v := .string ⟨ys.toArray⟩) (by first | (go_keep; done) | (simp [go_sem, *]; done)) hb
  have k2_y2 := cell_keep (a := ⟨w.heap.size + 1, 2, none⟩) (v := .string ⟨yr.toArray⟩) (by first | (go_keep; done) | (simp [go_sem, *]; done)) hb
  have k2_y3 := cell_keep (a := ⟨w.heap.size + 1, 3, none⟩) (v := .slice ya yn yc) (by first | (go_keep; done) | (simp [go_sem, *]; done)) hb
  have l2_y := World.block_lt_of_cell? _ _ k2_y0
  try simp only at l2_y
  clear hb k1_x0 k1_x1 k1_x2 k1_x3 l1_x k1_y0 k1_y1 k1_y2 k1_y3 l1_y W1
  go_wp2_with fail
  refine (CR.out _ (by repeat (first | exact W2.out | refine blw_drewN ?_ _ | refine Below.setCell ?_ (by first | (simp; done) | omega | (simp; omega)) _ | refine Below.alloc ?_ (by first | (simp; done) | omega | (simp; omega)) _))).mono ?_
  rintro e w3 ⟨ra, rn, rc, rfl, hv1, hb⟩
  have W3 := Lib.hid (blw_trans (show Below w.heap.size w _ by repeat (first | exact W2.out | refine blw_drewN ?_ _ | refine Below.setCell ?_ (by first | (simp; done) | omega | (simp; omega)) _ | refine Below.alloc ?_ (by first | (simp; done) | omega | (simp; omega)) _)) hb)
  have n3 := hb.size
  try simp at n3
  have k3_x0 := cell_keep (a := ⟨w.heap.size, 0, none⟩) (v := .string ⟨xl.toArray⟩) (by first | (go_keep; done) | (simp [go_sem, *]; done)) hb
  have k3_x1 := cell_keep (a := ⟨w.heap.size, 1, none⟩) (v := .string ⟨xs.toArray⟩) (by first | (go_keep; done) | (simp [go_sem, *]; done)) hb
  have k3_x2 := cell_keep (a := ⟨w.heap.size, 2, none⟩) (v := .string ⟨xr.toArray⟩) (by first | (go_keep; done) | (simp [go_sem, *]; done)) hb
  have k3_x3 := cell_keep (a := ⟨w.heap.size, 3, none⟩) (v := .slice xa xn xc) (by first | (go_keep; done) | (simp [go_sem, *]; done)) hb
  have l3_x := World.block_lt_of_cell? _ _ k3_x0
  try simp only at l3_x
  have k3_y0 := cell_keep (a := ⟨w.heap.size + 1, 0, none⟩) (v := .string ⟨yl.toArray⟩) (by first | (go_keep; done) | (simp [go_sem, *]; done)) hb
  have k3_y1 := cell_keep (a := ⟨w.heap.size + 1, 1, none⟩) (v := .string ⟨ys.toArray⟩) (by first | (go_keep; done) | (simp [go_sem, *]; done)) hb
  have k3_y2 := cell_keep (a := ⟨w.heap.size + 1, 2, none⟩) (v := .string ⟨yr.toArray⟩) (by first | (go_keep; done) | (simp [go_sem, *]; done)) hb
  have k3_y3 := cell_keep (a := ⟨w.heap.size + 1, 3, none⟩) (v := .slice ya yn yc) (by first | (go_keep; done) | (simp [go_sem, *]; done)) hb
  have l3_y := World.block_lt_of_cell? _ _ k3_y0
  try simp only at l3_y
  clear hb k2_x0 k2_x1 k2_x2 k2_x3 l2_x k2_y0 k2_y1 k2_y2 k2_y3 l2_y W2
  have HV1 := Lib.hid hv1
  clear hv1
  go_wp2_with fail
  refine (CC.out _ (by repeat (first | exact W3.out | refine blw_drewN ?_ _ | refine Below.setCell ?_ (by first | (simp; done) | omega | (simp; omega)) _ | refine Below.alloc ?_ (by first | (simp; done) | omega | (simp; omega)) _))).mono ?_
  rintro e w4 ⟨sa, sn, sc, rfl, hv2, hb⟩
  have W4 := Lib.hid (blw_trans (show Below w.heap.size w _ by repeat (first | exact W3.out | refine blw_drewN ?_ _ | refine Below.setCell ?_ (by first | (simp; done) | omega | (simp; omega)) _ | refine Below.alloc ?_ (by first | (simp; done) | omega | (simp; omega)) _)) hb)
  have n4 := hb.size
  try simp at n4
  have k4_x0 := cell_keep (a := ⟨w.heap.size, 0, none⟩) (v := .string ⟨xl.toArray⟩) (by first | (go_keep; done) | (simp [go_sem, *]; done)) hb
  have k4_x1 := cell_keep (a := ⟨w.heap.size, 1, none⟩) (v := .string ⟨xs.toArray⟩) (by first | (go_keep; done) | (simp [go_sem, *]; done)) hb
  have k4_x2 := cell_keep (a := ⟨w.heap.size, 2, none⟩) (v := .string ⟨xr.toArray⟩) (by first | (go_keep; done) | (simp [go_sem, *]; done)) hb
  have k4_x3 := cell_keep (a := ⟨w.heap.size, 3, none⟩) (v := .slice xa xn xc) (by first | (go_keep; done) | (simp [go_sem, *]; done)) hb
  have l4_x := World.block_lt_of_cell? _ _ k4_x0
  try simp only at l4_x
  have k4_y0 := cell_keep (a := ⟨w.heap.size + 1, 0, none⟩) (v := .string ⟨yl.toArray⟩) (by first | (go_keep; done) | (simp [go_sem, *]; done)) hb
  have k4_y1 := cell_keep (a := ⟨w.heap.size + 1, 1, none⟩) (v := .string ⟨ys.toArray⟩) (by first | (go_keep; done) | (simp [go_sem, *]; done)) hb
  have k4_y2 := cell_keep (a := ⟨w.heap.size + 1, 2, none⟩) (v := .string ⟨yr.toArray⟩) (by first | (go_keep; done) | (simp [go_sem, *]; done)) hb
  have k4_y3 := cell_keep (a := ⟨w.heap.size + 1, 3, none⟩) (v := .slice ya yn yc) (by first | (go_keep; done) | (simp [go_sem, *]; done)) hb
  have l4_y := World.block_lt_of_cell? _ _ k4_y0
  try simp only at l4_y
  have H4_r := Lib.hid (TagsAt.below (show TagsAt _ (.slice ra rn rc) L by repeat (first | exact HV1.out | refine TagsAt.alloc ?_ _ | refine TagsAt.drewN ?_ _)) hb)
  clear hb HV1 k3_x0 k3_x1 k3_x2 k3_x3 l3_x k3_y0 k3_y1 k3_y2 k3_y3 l3_y W3
  have HV2 := Lib.hid hv2
  clear hv2
  go_wp2_with fail
  refine (CE1.out _ (hT.below (by repeat (first | exact W4.out | refine blw_drewN ?_ _ | refine Below.setCell ?_ (by first | (simp; done) | omega | (simp; omega)) _ | refine Below.alloc ?_ (by first | (simp; done) | omega | (simp; omega)) _)))).mono ?_
  rintro e w5 ⟨rfl, hb⟩
  have W5 := Lib.hid (blw_trans (show Below w.heap.size w _ by repeat (first | exact W4.out | refine blw_drewN ?_ _ | refine Below.setCell ?_ (by first | (simp; done) | omega | (simp; omega)) _ | refine Below.alloc ?_ (by first | (simp; done) | omega | (simp; omega)) _)) hb)
  have n5 := hb.size
  try simp at n5
  have k5_x0 := cell_keep (a := ⟨w.heap.size, 0, none⟩) (v := .string ⟨xl.toArray⟩) (by first | (go_keep; done) | (simp [go_sem, *]; done)) hb
  have k5_x1 := cell_keep (a := ⟨w.heap.size, 1, none⟩) (v := .string ⟨xs.toArray⟩) (by first | (go_keep; done) | (simp [go_sem, *]; done)) hb
  have k5_x2 := cell_keep (a := ⟨w.heap.size, 2, none⟩) (v := .string ⟨xr.toArray⟩) (by first | (go_keep; done) | (simp [go_sem, *]; done)) hb
  have k5_x3 := cell_keep (a := ⟨w.heap.size, 3, none⟩) (v := .slice xa xn xc) (by first | (go_keep; done) | (simp [go_sem, *]; done)) hb
  have l5_x := World.block_lt_of_cell? _ _ k5_x0
  try simp only at l5_x
  have k5_y0 := cell_keep (a := ⟨w.heap.size + 1, 0, none⟩) (v := .string ⟨yl.toArray⟩) (by first | (go_keep; done) | (simp [go_sem, *]; done)) hb
  have k5_y1 := cell_keep (a := ⟨w.heap.size + 1, 1, none⟩) (v := .string ⟨ys.toArray⟩) (by first | (go_keep; done) | (simp [go_sem, *]; done)) hb
  have k5_y2 := cell_keep (a := ⟨w.heap.size + 1, 2, none⟩) (v := .string ⟨yr.toArray⟩) (by first | (go_keep; done) | (simp [go_sem, *]; done)) hb
  have k5_y3 := cell_keep (a := ⟨w.heap.size + 1, 3, none⟩) (v := .slice ya yn yc) (by first | (go_keep; done) | (simp [go_sem, *]; done)) hb
  have l5_y := World.block_lt_of_cell? _ _ k5_y0
  try simp only at l5_y
  have H5_r := Lib.hid (TagsAt.below (show TagsAt _ (.slice ra rn rc) L by repeat (first | exact H4_r.out | refine TagsAt.alloc ?_ _ | refine TagsAt.drewN ?_ _)) hb)
  have H5_s := Lib.hid (TagsAt.below (show TagsAt _ (.slice sa sn sc) L by repeat (first | exact HV2.out | refine TagsAt.alloc ?_ _ | refine TagsAt.drewN ?_ _)) hb)
  clear hb H4_r HV2 k4_x0 k4_x1 k4_x2 k4_x3 l4_x k4_y0 k4_y1 k4_y2 k4_y3 l4_y W4
  go_wp2_with fail
  refine (CT.out _ _ _ _ _ _ _ (show TagsAt _ (.slice sa sn sc) L by repeat (first | exact H5_s.out | refine TagsAt.alloc ?_ _ | refine TagsAt.drewN ?_ _)) (show TagsAt _ (.slice ra rn rc) L by repeat (first | exact H5_r.out | refine TagsAt.alloc ?_ _ | refine TagsAt.drewN ?_ _))).mono ?_
  rintro e w6 ⟨rfl, hb⟩
  have W6 := Lib.hid (blw_trans (show Below w.heap.size w _ by repeat (first | exact W5.out | refine blw_drewN ?_ _ | refine Below.setCell ?_ (by first | (simp; done) | omega | (simp; omega)) _ | refine Below.alloc ?_ (by first | (simp; done) | omega | (simp; omega)) _)) hb)
  have n6 := hb.size
  try simp at n6
  have k6_x0 := cell_keep (a := ⟨w.heap.size, 0, none⟩) (v := .string ⟨xl.toArray⟩) (by first | (go_keep; done) | (simp [go_sem, *]; done)) hb
  have k6_x1 := cell_keep (a := ⟨w.heap.size, 1, none⟩) (v := .string ⟨xs.toArray⟩) (by first | (go_keep; done) | (simp [go_sem, *]; done)) hb
  have k6_x2 := cell_keep (a := ⟨w.heap.size, 2, none⟩) (v := .string ⟨xr.toArray⟩) (by first | (go_keep; done) | (simp [go_sem, *]; done)) hb
  have k6_x3 := cell_keep (a := ⟨w.heap.size, 3, none⟩) (v := .slice xa xn xc) (by first | (go_keep; done) | (simp [go_sem, *]; done)) hb
  have l6_x := World.block_lt_of_cell? _ _ k6_x0
  try simp only at l6_x
  have k6_y0 := cell_keep (a := ⟨w.heap.size + 1, 0, none⟩) (v := .string ⟨yl.toArray⟩) (by first | (go_keep; done) | (simp [go_sem, *]; done)) hb
  have k6_y1 := cell_keep (a := ⟨w.heap.size + 1, 1, none⟩) (v := .string ⟨ys.toArray⟩) (by first | (go_keep; done) | (simp [go_sem, *]; done)) hb
  have k6_y2 := cell_keep (a := ⟨w.heap.size + 1, 2, none⟩) (v := .string ⟨yr.toArray⟩) (by first | (go_keep; done) | (simp [go_sem, *]; done)) hb
  have k6_y3 := cell_keep (a := ⟨w.heap.size + 1, 3, none⟩) (v := .slice ya yn yc) (by first | (go_keep; done) | (simp [go_sem, *]; done)) hb
  have l6_y := World.block_lt_of_cell? _ _ k6_y0
  try simp only at l6_y
  have H6_r := Lib.hid (TagsAt.below (show TagsAt _ (.slice ra rn rc) L by repeat (first | exact H5_r.out | refine TagsAt.alloc ?_ _ | refine TagsAt.drewN ?_ _)) hb)
  have H6_s := Lib.hid (TagsAt.below (show TagsAt _ (.slice sa sn sc) L by repeat (first | exact H5_s.out | refine TagsAt.alloc ?_ _ | refine TagsAt.drewN ?_ _)) hb)
  clear hb H5_r H5_s k5_x0 k5_x1 k5_x2 k5_x3 l5_x k5_y0 k5_y1 k5_y2 k5_y3 l5_y W5
  clear H6_r H6_s
  go_wp2_with fail
  refine (CG.out _ (by repeat (first | exact W6.out | refine blw_drewN ?_ _ | refine Below.setCell ?_ (by first | (simp; done) | omega | (simp; omega)) _ | refine Below.alloc ?_ (by first | (simp; done) | omega | (simp; omega)) _))).mono ?_
  rintro e w7 ⟨rfl, hb⟩
  have W7 := Lib.hid (blw_trans (show Below w.heap.size w _ by repeat (first | exact W6.out | refine blw_drewN ?_ _ | refine Below.setCell ?_ (by first | (simp; done) | omega | (simp; omega)) _ | refine Below.alloc ?_ (by first | (simp; done) | omega | (simp; omega)) _)) hb)
  have n7 := hb.size
  try simp at n7
  have k7_x0 := cell_keep (a := ⟨w.heap.size, 0, none⟩) (v := .string ⟨xl.toArray⟩) (by first | (go_keep; done) | (simp [go_sem, *]; done)) hb
  have k7_x1 := cell_keep (a := ⟨w.heap.size, 1, none⟩) (v := .string ⟨xs.toArray⟩) (by first | (go_keep; done) | (simp [go_sem, *]; done)) hb
  have k7_x2 := cell_keep (a := ⟨w.heap.size, 2, none⟩) (v := .string ⟨xr.toArray⟩) (by first | (go_keep; done) | (simp [go_sem, *]; done)) hb
  have k7_x3 := cell_keep (a := ⟨w.heap.size, 3, none⟩) (v := .slice xa xn xc) (by first | (go_keep; done) | (simp [go_sem, *]; done)) hb
  have l7_x := World.block_lt_of_cell? _ _ k7_x0
  try simp only at l7_x
  have k7_y0 := cell_keep (a := ⟨w.heap.size + 1, 0, none⟩) (v := .string ⟨yl.toArray⟩) (by first | (go_keep; done) | (simp [go_sem, *]; done)) hb
  have k7_y1 := cell_keep (a := ⟨w.heap.size + 1, 1, none⟩) (v := .string ⟨ys.toArray⟩) (by first | (go_keep; done) | (simp [go_sem, *]; done)) hb
  have k7_y2 := cell_keep (a := ⟨w.heap.size + 1, 2, none⟩) (v := .string ⟨yr.toArray⟩) (by first | (go_keep; done) | (simp [go_sem, *]; done)) hb
  have k7_y3 := cell_keep (a := ⟨w.heap.size + 1, 3, none⟩) (v := .slice ya yn yc) (by first | (go_keep; done) | (simp [go_sem, *]; done)) hb
  have l7_y := World.block_lt_of_cell? _ _ k7_y0
  try simp only at l7_y
  clear hb k6_x0 k6_x1 k6_x2 k6_x3 l6_x k6_y0 k6_y1 k6_y2 k6_y3 l6_y W6
  go_wp2_with fail
  refine (CW.out _ (by repeat (first | exact W7.out | refine blw_drewN ?_ _ | refine Below.setCell ?_ (by first | (simp; done) | omega | (simp; omega)) _ | refine Below.alloc ?_ (by first | (simp; done) | omega | (simp; omega)) _))).mono ?_
  rintro e w8 ⟨rfl, hb⟩
  have W8 := Lib.hid (blw_trans (show Below w.heap.size w _ by repeat (first | exact W7.out | refine blw_drewN ?_ _ | refine Below.setCell ?_ (by first | (simp; done) | omega | (simp; omega)) _ | refine Below.alloc ?_ (by first | (simp; done) | omega | (simp; omega)) _)) hb)
  have n8 := hb.size
  try simp at n8
  have k8_x0 := cell_keep (a := ⟨w.heap.size, 0, none⟩) (v := .string ⟨xl.toArray⟩) (by first | (go_keep; done) | (simp [go_sem, *]; done)) hb
  have k8_x1 := cell_keep (a := ⟨w.heap.size, 1, none⟩) (v := .string ⟨xs.toArray⟩) (by first | (go_keep; done) | (simp [go_sem, *]; done)) hb
  have k8_x2 := cell_keep (a := ⟨w.heap.size, 2, none⟩) (v := .string ⟨xr.toArray⟩) (by first | (go_keep; done) | (simp [go_sem, *]; done)) hb
  have k8_x3 := cell_keep (a := ⟨w.heap.size, 3, none⟩) (v := .slice xa xn xc) (by first | (go_keep; done) | (simp [go_sem, *]; done)) hb
  have l8_x := World.block_lt_of_cell? _ _ k8_x0
  try simp only at l8_x
  have k8_y0 := cell_keep (a := ⟨w.heap.size + 1, 0, none⟩) (v := .string ⟨yl.toArray⟩) (by first | (go_keep; done) | (simp [go_sem, *]; done)) hb
  have k8_y1 := cell_keep (a := ⟨w.heap.size + 1, 1, none⟩) (v := .string ⟨ys.toArray⟩) (by first | (go_keep; done) | (simp [go_sem, *]; done)) hb
  have k8_y2 := cell_keep (a := ⟨w.heap.size + 1, 2, none⟩) (v := .string ⟨yr.toArray⟩) (by first | (go_keep; done) | (simp [go_sem, *]; done)) hb
  have k8_y3 := cell_keep (a := ⟨w.heap.size + 1, 3, none⟩) (v := .slice ya yn yc) (by first | (go_keep; done) | (simp [go_sem, *]; done)) hb
  have l8_y := World.block_lt_of_cell? _ _ k8_y0
  try simp only at l8_y
  clear hb k7_x0 k7_x1 k7_x2 k7_x3 l7_x k7_y0 k7_y1 k7_y2 k7_y3 l7_y W7
  go_wp2_with fail
  refine (CE2.out _ (hT.below (by repeat (first | exact W8.out | refine blw_drewN ?_ _ | refine Below.setCell ?_ (by first | (simp; done) | omega | (simp; omega)) _ | refine Below.alloc ?_ (by first | (simp; done) | omega | (simp; omega)) _)))).mono ?_
  rintro e w9 ⟨rfl, hb⟩
  have W9 := Lib.hid (blw_trans (show Below w.heap.size w _ by repeat (first | exact W8.out | refine blw_drewN ?_ _ | refine Below.setCell ?_ (by first | (simp; done) | omega | (simp; omega)) _ | refine Below.alloc ?_ (by first | (simp; done) | omega | (simp; omega)) _)) hb)
  have n9 := hb.size
  try simp at n9
  have k9_x0 := cell_keep (a := ⟨w.heap.size, 0, none⟩) (v := .string ⟨xl.toArray⟩) (by first | (go_keep; done) | (simp [go_sem, *]; done)) hb
  have k9_x1 := cell_keep (a := ⟨w.heap.size, 1, none⟩) (v := .string ⟨xs.toArray⟩) (by first | (go_keep; done) | (simp [go_sem, *]; done)) hb
  have k9_x2 := cell_keep (a := ⟨w.heap.size, 2, none⟩) (v := .string ⟨xr.toArray⟩) (by first | (go_keep; done) | (simp [go_sem, *]; done)) hb
  have k9_x3 := cell_keep (a := ⟨w.heap.size, 3, none⟩) (v := .slice xa xn xc) (by first | (go_keep; done) | (simp [go_sem, *]; done)) hb
  have l9_x := World.block_lt_of_cell? _ _ k9_x0
  try simp only at l9_x
  have k9_y0 := cell_keep (a := ⟨w.heap.size + 1, 0, none⟩) (v := .string ⟨yl.toArray⟩) (by first | (go_keep; done) | (simp [go_sem, *]; done)) hb
  have k9_y1 := cell_keep (a := ⟨w.heap.size + 1, 1, none⟩) (v := .string ⟨ys.toArray⟩) (by first | (go_keep; done) | (simp [go_sem, *]; done)) hb
  have k9_y2 := cell_keep (a := ⟨w.heap.size + 1, 2, none⟩) (v := .string ⟨yr.toArray⟩) (by first | (go_keep; done) | (simp [go_sem, *]; done)) hb
  have k9_y3 := cell_keep (a := ⟨w.heap.size + 1, 3, none⟩) (v := .slice ya yn yc) (by first | (go_keep; done) | (simp [go_sem, *]; done)) hb
  have l9_y := World.block_lt_of_cell? _ _ k9_y0
  try simp only at l9_y
  clear hb k8_x0 k8_x1 k8_x2 k8_x3 l8_x k8_y0 k8_y1 k8_y2 k8_y3 l8_y W8
  go_wp2_with fail
  refine (CI.out _ (by repeat (first | exact W9.out | refine blw_drewN ?_ _ | refine Below.setCell ?_ (by first | (simp; done) | omega | (simp; omega)) _ | refine Below.alloc ?_ (by first | (simp; done) | omega | (simp; omega)) _))).mono ?_
  rintro e w10 ⟨rfl, hb⟩
  have W10 := Lib.hid (blw_trans (show Below w.heap.size w _ by repeat (first | exact W9.out | refine blw_drewN ?_ _ | refine Below.setCell ?_ (by first | (simp; done) | omega | (simp; omega)) _ | refine Below.alloc ?_ (by first | (simp; done) | omega | (simp; omega)) _)) hb)
  have n10 := hb.size
  try simp at n10
  have k10_x0 := cell_keep (a := ⟨w.heap.size, 0, none⟩) (v := .string ⟨xl.toArray⟩) (by first | (go_keep; done) | (simp [go_sem, *]; done)) hb
  have k10_x1 := cell_keep (a := ⟨w.heap.size, 1, none⟩) (v := .string ⟨xs.toArray⟩) (by first | (go_keep; done) | (simp [go_sem, *]; done)) hb
  have k10_x2 := cell_keep (a := ⟨w.heap.size, 2, none⟩) (v := .string ⟨xr.toArray⟩) (by first | (go_keep; done) | (simp [go_sem, *]; done)) hb
  have k10_x3 := cell_keep (a := ⟨w.heap.size, 3, none⟩) (v := .slice xa xn xc) (by first | (go_keep; done) | (simp [go_sem, *]; done)) hb
  have l10_x := World.block_lt_of_cell? _ _ k10_x0
  try simp only at l10_x
  have k10_y0 := cell_keep (a := ⟨w.heap.size + 1, 0, none⟩) (v := .string ⟨yl.toArray⟩) (by first | (go_keep; done) | (simp [go_sem, *]; done)) hb
  have k10_y1 := cell_keep (a := ⟨w.heap.size + 1, 1, none⟩) (v := .string ⟨ys.toArray⟩) (by first | (go_keep; done) | (simp [go_sem, *]; done)) hb
  have k10_y2 := cell_keep (a := ⟨w.heap.size + 1, 2, none⟩) (v := .string ⟨yr.toArray⟩) (by first | (go_keep; done) | (simp [go_sem, *]; done)) hb
  have k10_y3 := cell_keep (a := ⟨w.heap.size + 1, 3, none⟩) (v := .slice ya yn yc) (by first | (go_keep; done) | (simp [go_sem, *]; done)) hb
  have l10_y := World.block_lt_of_cell? _ _ k10_y0
  try simp only at l10_y
  clear hb k9_x0 k9_x1 k9_x2 k9_x3 l9_x k9_y0 k9_y1 k9_y2 k9_y3 l9_y W9
  go_wp2_with fail
  go_ret
  exact ⟨ret_bool (by first | rfl | (simp; done)), by repeat (first | exact W10.out | refine blw_drewN ?_ _ | refine Below.setCell ?_ (by first | (simp; done) | omega | (simp; omega)) _ | refine Below.alloc ?_ (by first | (simp; done) | omega | (simp; omega)) _)⟩

theorem chaintells_any (xl xs xr yl ys yr : List UInt8) (xvs : List (List UInt8)) (XV : Value) (yvs : List (List UInt8)) (YV : Value) (w : World) (hT : TM w)
    (hx : StrsAt w XV xvs) (x0 : Nil0 XV) (bx : xl.length + xs.length + xr.length + Lib.lens xvs + xvs.length ≤ 100000000)
    (hy : StrsAt w YV yvs) (y0 : Nil0 YV) (by' : yl.length + ys.length + yr.length + Lib.lens yvs + yvs.length ≤ 100000000) :
    Calls Tryd.prog 8 #[.agg #[.string ⟨xl.toArray⟩, .string ⟨xs.toArray⟩, .string ⟨xr.toArray⟩, XV], .agg #[.string ⟨yl.toArray⟩, .string ⟨ys.toArray⟩, .string ⟨yr.toArray⟩, YV]] w fun e w' => e = .returned (.bool true) ∧ Below w.heap.size w w' := by
  obtain ⟨xa, xn, xc, rfl⟩ := hx.isSlice
  obtain ⟨ya, yn, yc, rfl⟩ := hy.isSlice
  have CF := Lib.hid fun wx (h : Below w.heap.size w wx) => rfault_tag xl xs xr xvs _ wx (hx.below h) (by omega) (fun x hx => by have := lens_mem hx; omega)
  have CG := Lib.hid fun wx (h : Below w.heap.size w wx) => rfault_tag yl ys yr yvs _ wx (hy.below h) (by omega) (fun x hx => by have := lens_mem hx; omega)
  have CR := Lib.hid fun wx (h : Below w.heap.size w wx) => chain_tags xl xs xr xvs _ wx (hx.below h) x0 (by omega)
  have CC := Lib.hid fun wx (h : Below w.heap.size w wx) => chain_any xl xs xr xvs _ wx (hx.below h) x0 bx
  have CW := Lib.hid fun wx (h : Below w.heap.size w wx) => within_any ⟨xl, xs, xr, xvs⟩ ⟨yl, ys, yr, yvs⟩ _ _ wx (hx.below h) x0 bx (hy.below h) y0 by'
  have CI := Lib.hid fun wx (h : Below w.heap.size w wx) => inchain_any ⟨xl, xs, xr, xvs⟩ ⟨yl, ys, yr, yvs⟩ _ _ wx (hx.below h) x0 bx (hy.below h) y0 by'
  have hlen : (⟨xl, xs, xr, xvs⟩ : Tg).chain.length ≤ 1000000010 := by
    have h := (chain_small _ (⟨xl, xs, xr, xvs⟩ : Tg) rfl).1
    have a1 : (one xs).length ≤ 1 := by unfold one; split <;> simp
    have a2 : (one xr).length ≤ 1 := by unfold one; split <;> simp
    have e : (⟨xl, xs, xr, xvs⟩ : Tg).size = (one xs).length + ((one xr).length + xvs.length) := rfl
    omega
  have hvs : ∀ x ∈ (⟨xl, xs, xr, xvs⟩ : Tg).chain, x.vs.length ≤ 1000000000 := fun x hx => Nat.le_trans ((chain_small _ (⟨xl, xs, xr, xvs⟩ : Tg) rfl).2 x hx) (by show xvs.length ≤ _; omega)
  have CT := Lib.hid fun (a b : Option Addr) (n m ca cb : Nat) wx ha hb => stags_any (⟨xl, xs, xr, xvs⟩ : Tg).chain (.slice a n ca) (.slice b m cb) wx ha hb hlen hvs
  have CT0 := Lib.hid fun (a b : Option Addr) (n m ca cb : Nat) wx ha hb => stags_any ([] : List Tg) (.slice a n ca) (.slice b m cb) wx ha hb (by simp) (fun x hx => by simp at hx)
  have f1 : (⟨xl, xs, xr, xvs⟩ : Tg).fault = tagFault xl xs xr xvs := rfl
  have f2 : (⟨yl, ys, yr, yvs⟩ : Tg).fault = tagFault yl ys yr yvs := rfl
  rw [f1, f2] at CW
  clear f1 f2
  by_cases fx : tagFault xl xs xr xvs = 0
  · rw [fx] at CF
    rw [fx, errE_nil rfl, if_pos rfl] at CC
    rw [fx, if_pos rfl] at CW
    by_cases fy : tagFault yl ys yr yvs = 0
    · rw [fy] at CG
      rw [fy, errE_nil rfl] at CW
      exact chaintells_o xl xs xr yl ys yr xa ya xn xc yn yc w hT _ _ CF CR CC CG (by simpa using CW) CI CT
    · rw [errE_some fy, decide_eq_false fy] at CW
      exact chaintells_g xl xs xr yl ys yr xa ya xn xc yn yc w hT _ fy _ CF CR CC CG (by simpa using CW) CT
  · rw [if_neg fx, errE_some fx] at CC
    rw [if_neg fx, errE_some fx, decide_eq_false fx, Bool.false_and] at CW
    exact chaintells_f xl xs xr yl ys yr xa ya xn xc yn yc w hT _ fx CF CC CW CT0
end Go.Proofs.YtlhleojigcnjeaaDoor
