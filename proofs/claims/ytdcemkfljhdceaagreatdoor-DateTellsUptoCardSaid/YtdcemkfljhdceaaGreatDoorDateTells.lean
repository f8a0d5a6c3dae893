/- The walk of the law DateTells: it returns true of whatever day, number and text that is short of 4000000000 bytes. -/
import Derived.Test.YtdcemkfljhdceaaGreatDoorDayOfB
import Derived.Test.YtdcemkfljhdceaaGreatDoorDateBackP
import Derived.Test.YtdcemkfljhdceaaGreatDoorRdof
import Derived.Test.YtdcemkfljhdceaaGreatDoorRdtxt
import Derived.Test.YtdcemkfljhdceaaGreatDoorPH
namespace Go.Proofs.YtdcemkfljhdceaaGreatDoor
open Go.RowKit

structure PMH (w : World) : Prop where
  p : PM w
  h : HanW w
theorem PMH.below {w w' : World} (h : PMH w) (hb : Below w.heap.size w w') : PMH w' := ⟨h.p.below hb, h.h.below hb⟩

set_option maxRecDepth 100000 in
set_option maxHeartbeats 4000000 in
theorem dateTells_yyy (y m d n x1 x2 x3 y1 y2 y3 k : Int) (s D : List UInt8) (w : World) (hT : PMH w)
    (CF : Hid (∀ w : World, PMH w → Calls Tryz.prog 5 #[.agg #[.int .i64 y, .int .i64 m, .int .i64 d]] w fun e w' => e = .returned (.bool false) ∧ Below w.heap.size w w'))
    (CU : Hid (∀ w : World, PMH w → Calls Tryz.prog 6 #[.agg #[.int .i64 y, .int .i64 m, .int .i64 d]] w fun e w' => e = .returned (.int .i64 k) ∧ Below w.heap.size w w'))
    (CV : Hid (∀ w : World, PMH w → Calls Tryz.prog 7 #[.agg #[.int .i64 y, .int .i64 m, .int .i64 d]] w fun e w' => e = .returned (.string ⟨D.toArray⟩) ∧ Below w.heap.size w w'))
    (CK : Hid (∀ w : World, PMH w → Calls Tryz.prog 9 #[.agg #[.int .i64 y, .int .i64 m, .int .i64 d]] w fun e w' => e = .returned (.nilIface) ∧ Below w.heap.size w w'))
    (CN : Hid (∀ w : World, PMH w → Calls Tryz.prog 10 #[.agg #[.int .i64 y, .int .i64 m, .int .i64 d]] w fun e w' => e = .returned (.tuple #[.int .i64 k, .nilIface]) ∧ Below w.heap.size w w'))
    (CT : Hid (∀ w : World, PMH w → Calls Tryz.prog 11 #[.agg #[.int .i64 y, .int .i64 m, .int .i64 d]] w fun e w' => e = .returned (.tuple #[.string ⟨D.toArray⟩, .nilIface]) ∧ Below w.heap.size w w'))
    (CX : Hid (∀ w : World, PMH w → Calls Tryz.prog 12 #[.int .i64 n] w fun e w' => e = .returned (.tuple #[.agg #[.int .i64 x1, .int .i64 x2, .int .i64 x3], .bool true]) ∧ Below w.heap.size w w'))
    (CB : Hid (∀ w : World, PMH w → Calls Tryz.prog 13 #[.int .i64 n] w fun e w' => e = .returned (.tuple #[.agg #[.int .i64 x1, .int .i64 x2, .int .i64 x3], .nilIface]) ∧ Below w.heap.size w w'))
    (CY : Hid (∀ w : World, PMH w → Calls Tryz.prog 14 #[.string ⟨s.toArray⟩] w fun e w' => e = .returned (.tuple #[.agg #[.int .i64 y1, .int .i64 y2, .int .i64 y3], .bool true]) ∧ Below w.heap.size w w'))
    (CP : Hid (∀ w : World, PMH w → Calls Tryz.prog 15 #[.string ⟨s.toArray⟩] w fun e w' => e = .returned (.tuple #[.agg #[.int .i64 y1, .int .i64 y2, .int .i64 y3], .nilIface]) ∧ Below w.heap.size w w')) :
    Calls Tryz.prog 3 #[.agg #[.int .i64 y, .int .i64 m, .int .i64 d], .int .i64 n, .string ⟨s.toArray⟩] w fun e w' => e = .returned (.bool true) ∧ Below w.heap.size w w' := by
  have C0 := Lib.hid fun w (hT : PMH w) => dated_any w hT.p.t
  have E0 := Lib.hid fun w (hT : PMH w) => sameErr_yes ErrNo.nil w hT.h
  have E1 := Lib.hid fun w (hT : PMH w) => sameErr_yes (ErrNo.no 1) w hT.h
  have E3 := Lib.hid fun w (hT : PMH w) => sameErr_yes (ErrNo.no 3) w hT.h
  go_enter Tryz.func3, Tryz.ntmps3
  go_wp2_with fail
  refine (C0.out _ (hT.below (by repeat (first | exact (Below.refl _ _) | refine blw_drewN ?_ _ | refine Below.setCell ?_ (by first | (simp; done) | omega | (simp; omega)) _ | refine Below.alloc ?_ (by first | (simp; done) | omega | (simp; omega)) _)))).mono ?_
  rintro e w1 ⟨rfl, hb⟩
  have W1 := Lib.hid (blw_trans (show Below w.heap.size w _ by repeat (first | exact (Below.refl _ _) | refine blw_drewN ?_ _ | refine Below.setCell ?_ (by first | (simp; done) | omega | (simp; omega)) _ | refine Below.alloc ?_ (by first | (simp; done) | omega | (simp; omega)) _)) hb)
  have n1 := hb.size
  try simp at n1
  have k1_d0 := cell_keep (a := ⟨w.heap.size, 0, none⟩) (v := .int .i64 y) (by first | (go_keep; done) | (simp [go_sem, *]; done)) hb
  have k1_d1 := cell_keep (a := ⟨w.heap.size, 1, none⟩) (v := .int .i64 m) (by first | (go_keep; done) | (simp [go_sem, *]; done)) hb
  have k1_d2 := cell_keep (a := ⟨w.heap.size, 2, none⟩) (v := .int .i64 d) (by first | (go_keep; done) | (simp [go_sem, *]; done)) hb
  have l1_d := World.block_lt_of_cell? _ _ k1_d0
  try simp only at l1_d
  clear hb
  go_wp2_with fail
  refine (CF.out _ (hT.below (by repeat (first | exact W1.out | refine blw_drewN ?_ _ | refine Below.setCell ?_ (by first | (simp; done) | omega | (simp; omega)) _ | refine Below.alloc ?_ (by first | (simp; done) | omega | (simp; omega)) _)))).mono ?_
  rintro e w2 ⟨rfl, hb⟩
  have W2 := Lib.hid (blw_trans (show Below w.heap.size w _ by repeat (first | exact W1.out | refine blw_drewN ?_ _ | refine Below.setCell ?_ (by first | (simp; done) | omega | (simp; omega)) _ | refine Below.alloc ?_ (by first | (simp; done) | omega | (simp; omega)) _)) hb)
  have n2 := hb.size
  try simp at n2
  have k2_d0 := cell_keep (a := ⟨w.heap.size, 0, none⟩) (v := .int .i64 y) (by first | (go_keep; done) | (simp [go_sem, *]; done)) hb
  have k2_d1 := cell_keep (a := ⟨w.heap.size, 1, none⟩) (v := .int .i64 m) (by first | (go_keep; done) | (simp [go_sem, *]; done)) hb
  have k2_d2 := cell_keep (a := ⟨w.heap.size, 2, none⟩) (v := .int .i64 d) (by first | (go_keep; done) | (simp [go_sem, *]; done)) hb
  have l2_d := World.block_lt_of_cell? _ _ k2_d0
  try simp only at l2_d
  clear hb k1_d0 k1_d1 k1_d2 l1_d W1
  go_wp2_with fail
  refine (CU.out _ (hT.below (by repeat (first | exact W2.out | refine blw_drewN ?_ _ | refine Below.setCell ?_ (by first | (simp; done) | omega | (simp; omega)) _ | refine Below.alloc ?_ (by first | (simp; done) | omega | (simp; omega)) _)))).mono ?_
  rintro e w3 ⟨rfl, hb⟩
  have W3 := Lib.hid (blw_trans (show Below w.heap.size w _ by repeat (first | exact W2.out | refine blw_drewN ?_ _ | refine Below.setCell ?_ (by first | (simp; done) | omega | (simp; omega)) _ | refine Below.alloc ?_ (by first | (simp; done) | omega | (simp; omega)) _)) hb)
  have n3 := hb.size
  try simp at n3
  have k3_d0 := cell_keep (a := ⟨w.heap.size, 0, none⟩) (v := .int .i64 y) (by first | (go_keep; done) | (simp [go_sem, *]; done)) hb
  have k3_d1 := cell_keep (a := ⟨w.heap.size, 1, none⟩) (v := .int .i64 m) (by first | (go_keep; done) | (simp [go_sem, *]; done)) hb
  have k3_d2 := cell_keep (a := ⟨w.heap.size, 2, none⟩) (v := .int .i64 d) (by first | (go_keep; done) | (simp [go_sem, *]; done)) hb
  have l3_d := World.block_lt_of_cell? _ _ k3_d0
  try simp only at l3_d
  clear hb k2_d0 k2_d1 k2_d2 l2_d W2
  go_wp2_with fail
  refine (CV.out _ (hT.below (by repeat (first | exact W3.out | refine blw_drewN ?_ _ | refine Below.setCell ?_ (by first | (simp; done) | omega | (simp; omega)) _ | refine Below.alloc ?_ (by first | (simp; done) | omega | (simp; omega)) _)))).mono ?_
  rintro e w4 ⟨rfl, hb⟩
  have W4 := Lib.hid (blw_trans (show Below w.heap.size w _ by repeat (first | exact W3.out | refine blw_drewN ?_ _ | refine Below.setCell ?_ (by first | (simp; done) | omega | (simp; omega)) _ | refine Below.alloc ?_ (by first | (simp; done) | omega | (simp; omega)) _)) hb)
  have n4 := hb.size
  try simp at n4
  have k4_d0 := cell_keep (a := ⟨w.heap.size, 0, none⟩) (v := .int .i64 y) (by first | (go_keep; done) | (simp [go_sem, *]; done)) hb
  have k4_d1 := cell_keep (a := ⟨w.heap.size, 1, none⟩) (v := .int .i64 m) (by first | (go_keep; done) | (simp [go_sem, *]; done)) hb
  have k4_d2 := cell_keep (a := ⟨w.heap.size, 2, none⟩) (v := .int .i64 d) (by first | (go_keep; done) | (simp [go_sem, *]; done)) hb
  have l4_d := World.block_lt_of_cell? _ _ k4_d0
  try simp only at l4_d
  clear hb k3_d0 k3_d1 k3_d2 l3_d W3
  go_wp2_with fail
  refine (CK.out _ (hT.below (by repeat (first | exact W4.out | refine blw_drewN ?_ _ | refine Below.setCell ?_ (by first | (simp; done) | omega | (simp; omega)) _ | refine Below.alloc ?_ (by first | (simp; done) | omega | (simp; omega)) _)))).mono ?_
  rintro e w5 ⟨rfl, hb⟩
  have W5 := Lib.hid (blw_trans (show Below w.heap.size w _ by repeat (first | exact W4.out | refine blw_drewN ?_ _ | refine Below.setCell ?_ (by first | (simp; done) | omega | (simp; omega)) _ | refine Below.alloc ?_ (by first | (simp; done) | omega | (simp; omega)) _)) hb)
  have n5 := hb.size
  try simp at n5
  have k5_d0 := cell_keep (a := ⟨w.heap.size, 0, none⟩) (v := .int .i64 y) (by first | (go_keep; done) | (simp [go_sem, *]; done)) hb
  have k5_d1 := cell_keep (a := ⟨w.heap.size, 1, none⟩) (v := .int .i64 m) (by first | (go_keep; done) | (simp [go_sem, *]; done)) hb
  have k5_d2 := cell_keep (a := ⟨w.heap.size, 2, none⟩) (v := .int .i64 d) (by first | (go_keep; done) | (simp [go_sem, *]; done)) hb
  have l5_d := World.block_lt_of_cell? _ _ k5_d0
  try simp only at l5_d
  clear hb k4_d0 k4_d1 k4_d2 l4_d W4
  go_wp2_with fail
  refine (E0.out _ (hT.below (by repeat (first | exact W5.out | refine blw_drewN ?_ _ | refine Below.setCell ?_ (by first | (simp; done) | omega | (simp; omega)) _ | refine Below.alloc ?_ (by first | (simp; done) | omega | (simp; omega)) _)))).mono ?_
  rintro e w6 ⟨rfl, hb⟩
  have W6 := Lib.hid (blw_trans (show Below w.heap.size w _ by repeat (first | exact W5.out | refine blw_drewN ?_ _ | refine Below.setCell ?_ (by first | (simp; done) | omega | (simp; omega)) _ | refine Below.alloc ?_ (by first | (simp; done) | omega | (simp; omega)) _)) hb)
  have n6 := hb.size
  try simp at n6
  have k6_d0 := cell_keep (a := ⟨w.heap.size, 0, none⟩) (v := .int .i64 y) (by first | (go_keep; done) | (simp [go_sem, *]; done)) hb
  have k6_d1 := cell_keep (a := ⟨w.heap.size, 1, none⟩) (v := .int .i64 m) (by first | (go_keep; done) | (simp [go_sem, *]; done)) hb
  have k6_d2 := cell_keep (a := ⟨w.heap.size, 2, none⟩) (v := .int .i64 d) (by first | (go_keep; done) | (simp [go_sem, *]; done)) hb
  have l6_d := World.block_lt_of_cell? _ _ k6_d0
  try simp only at l6_d
  clear hb k5_d0 k5_d1 k5_d2 l5_d W5
  go_wp2_with fail
  refine (CN.out _ (hT.below (by repeat (first | exact W6.out | refine blw_drewN ?_ _ | refine Below.setCell ?_ (by first | (simp; done) | omega | (simp; omega)) _ | refine Below.alloc ?_ (by first | (simp; done) | omega | (simp; omega)) _)))).mono ?_
  rintro e w7 ⟨rfl, hb⟩
  have W7 := Lib.hid (blw_trans (show Below w.heap.size w _ by repeat (first | exact W6.out | refine blw_drewN ?_ _ | refine Below.setCell ?_ (by first | (simp; done) | omega | (simp; omega)) _ | refine Below.alloc ?_ (by first | (simp; done) | omega | (simp; omega)) _)) hb)
  have n7 := hb.size
  try simp at n7
  have k7_d0 := cell_keep (a := ⟨w.heap.size, 0, none⟩) (v := .int .i64 y) (by first | (go_keep; done) | (simp [go_sem, *]; done)) hb
  have k7_d1 := cell_keep (a := ⟨w.heap.size, 1, none⟩) (v := .int .i64 m) (by first | (go_keep; done) | (simp [go_sem, *]; done)) hb
  have k7_d2 := cell_keep (a := ⟨w.heap.size, 2, none⟩) (v := .int .i64 d) (by first | (go_keep; done) | (simp [go_sem, *]; done)) hb
  have l7_d := World.block_lt_of_cell? _ _ k7_d0
  try simp only at l7_d
  clear hb k6_d0 k6_d1 k6_d2 l6_d W6
  go_wp2_with fail
  refine (E0.out _ (hT.below (by repeat (first | exact W7.out | refine blw_drewN ?_ _ | refine Below.setCell ?_ (by first | (simp; done) | omega | (simp; omega)) _ | refine Below.alloc ?_ (by first | (simp; done) | omega | (simp; omega)) _)))).mono ?_
  rintro e w8 ⟨rfl, hb⟩
  have W8 := Lib.hid (blw_trans (show Below w.heap.size w _ by repeat (first | exact W7.out | refine blw_drewN ?_ _ | refine Below.setCell ?_ (by first | (simp; done) | omega | (simp; omega)) _ | refine Below.alloc ?_ (by first | (simp; done) | omega | (simp; omega)) _)) hb)
  have n8 := hb.size
  try simp at n8
  have k8_d0 := cell_keep (a := ⟨w.heap.size, 0, none⟩) (v := .int .i64 y) (by first | (go_keep; done) | (simp [go_sem, *]; done)) hb
  have k8_d1 := cell_keep (a := ⟨w.heap.size, 1, none⟩) (v := .int .i64 m) (by first | (go_keep; done) | (simp [go_sem, *]; done)) hb
  have k8_d2 := cell_keep (a := ⟨w.heap.size, 2, none⟩) (v := .int .i64 d) (by first | (go_keep; done) | (simp [go_sem, *]; done)) hb
  have l8_d := World.block_lt_of_cell? _ _ k8_d0
  try simp only at l8_d
  clear hb k7_d0 k7_d1 k7_d2 l7_d W7
  go_wp2_with fail
  refine (CT.out _ (hT.below (by repeat (first | exact W8.out | refine blw_drewN ?_ _ | refine Below.setCell ?_ (by first | (simp; done) | omega | (simp; omega)) _ | refine Below.alloc ?_ (by first | (simp; done) | omega | (simp; omega)) _)))).mono ?_
  rintro e w9 ⟨rfl, hb⟩
  have W9 := Lib.hid (blw_trans (show Below w.heap.size w _ by repeat (first | exact W8.out | refine blw_drewN ?_ _ | refine Below.setCell ?_ (by first | (simp; done) | omega | (simp; omega)) _ | refine Below.alloc ?_ (by first | (simp; done) | omega | (simp; omega)) _)) hb)
  have n9 := hb.size
  try simp at n9
  clear hb k8_d0 k8_d1 k8_d2 l8_d W8
  go_wp2_with fail
  refine (E0.out _ (hT.below (by repeat (first | exact W9.out | refine blw_drewN ?_ _ | refine Below.setCell ?_ (by first | (simp; done) | omega | (simp; omega)) _ | refine Below.alloc ?_ (by first | (simp; done) | omega | (simp; omega)) _)))).mono ?_
  rintro e w10 ⟨rfl, hb⟩
  have W10 := Lib.hid (blw_trans (show Below w.heap.size w _ by repeat (first | exact W9.out | refine blw_drewN ?_ _ | refine Below.setCell ?_ (by first | (simp; done) | omega | (simp; omega)) _ | refine Below.alloc ?_ (by first | (simp; done) | omega | (simp; omega)) _)) hb)
  have n10 := hb.size
  try simp at n10
  clear hb W9
  go_wp2_with fail
  refine (CX.out _ (hT.below (by repeat (first | exact W10.out | refine blw_drewN ?_ _ | refine Below.setCell ?_ (by first | (simp; done) | omega | (simp; omega)) _ | refine Below.alloc ?_ (by first | (simp; done) | omega | (simp; omega)) _)))).mono ?_
  rintro e w11 ⟨rfl, hb⟩
  have W11 := Lib.hid (blw_trans (show Below w.heap.size w _ by repeat (first | exact W10.out | refine blw_drewN ?_ _ | refine Below.setCell ?_ (by first | (simp; done) | omega | (simp; omega)) _ | refine Below.alloc ?_ (by first | (simp; done) | omega | (simp; omega)) _)) hb)
  have n11 := hb.size
  try simp at n11
  clear hb W10
  go_wp2_with fail
  refine (CB.out _ (hT.below (by repeat (first | exact W11.out | refine blw_drewN ?_ _ | refine Below.setCell ?_ (by first | (simp; done) | omega | (simp; omega)) _ | refine Below.alloc ?_ (by first | (simp; done) | omega | (simp; omega)) _)))).mono ?_
  rintro e w12 ⟨rfl, hb⟩
  have W12 := Lib.hid (blw_trans (show Below w.heap.size w _ by repeat (first | exact W11.out | refine blw_drewN ?_ _ | refine Below.setCell ?_ (by first | (simp; done) | omega | (simp; omega)) _ | refine Below.alloc ?_ (by first | (simp; done) | omega | (simp; omega)) _)) hb)
  have n12 := hb.size
  try simp at n12
  have k12_x0 := cell_keep (a := ⟨w11.heap.size, 0, none⟩) (v := .int .i64 x1) (by first | (go_keep; done) | (simp [go_sem, *]; done)) hb
  have k12_x1 := cell_keep (a := ⟨w11.heap.size, 1, none⟩) (v := .int .i64 x2) (by first | (go_keep; done) | (simp [go_sem, *]; done)) hb
  have k12_x2 := cell_keep (a := ⟨w11.heap.size, 2, none⟩) (v := .int .i64 x3) (by first | (go_keep; done) | (simp [go_sem, *]; done)) hb
  have l12_x := World.block_lt_of_cell? _ _ k12_x0
  try simp only at l12_x
  clear hb W11
  go_wp2_with fail
  refine (E0.out _ (hT.below (by repeat (first | exact W12.out | refine blw_drewN ?_ _ | refine Below.setCell ?_ (by first | (simp; done) | omega | (simp; omega)) _ | refine Below.alloc ?_ (by first | (simp; done) | omega | (simp; omega)) _)))).mono ?_
  rintro e w13 ⟨rfl, hb⟩
  have W13 := Lib.hid (blw_trans (show Below w.heap.size w _ by repeat (first | exact W12.out | refine blw_drewN ?_ _ | refine Below.setCell ?_ (by first | (simp; done) | omega | (simp; omega)) _ | refine Below.alloc ?_ (by first | (simp; done) | omega | (simp; omega)) _)) hb)
  have n13 := hb.size
  try simp at n13
  have k13_x0 := cell_keep (a := ⟨w11.heap.size, 0, none⟩) (v := .int .i64 x1) (by first | (go_keep; done) | (simp [go_sem, *]; done)) hb
  have k13_x1 := cell_keep (a := ⟨w11.heap.size, 1, none⟩) (v := .int .i64 x2) (by first | (go_keep; done) | (simp [go_sem, *]; done)) hb
  have k13_x2 := cell_keep (a := ⟨w11.heap.size, 2, none⟩) (v := .int .i64 x3) (by first | (go_keep; done) | (simp [go_sem, *]; done)) hb
  have l13_x := World.block_lt_of_cell? _ _ k13_x0
  try simp only at l13_x
  have k13_b0 := cell_keep (a := ⟨w12.heap.size, 0, none⟩) (v := .int .i64 x1) (by first | (go_keep; done) | (simp [go_sem, *]; done)) hb
  have k13_b1 := cell_keep (a := ⟨w12.heap.size, 1, none⟩) (v := .int .i64 x2) (by first | (go_keep; done) | (simp [go_sem, *]; done)) hb
  have k13_b2 := cell_keep (a := ⟨w12.heap.size, 2, none⟩) (v := .int .i64 x3) (by first | (go_keep; done) | (simp [go_sem, *]; done)) hb
  have l13_b := World.block_lt_of_cell? _ _ k13_b0
  try simp only at l13_b
  clear hb k12_x0 k12_x1 k12_x2 l12_x W12
  go_wp2_with fail
  refine (CY.out _ (hT.below (by repeat (first | exact W13.out | refine blw_drewN ?_ _ | refine Below.setCell ?_ (by first | (simp; done) | omega | (simp; omega)) _ | refine Below.alloc ?_ (by first | (simp; done) | omega | (simp; omega)) _)))).mono ?_
  rintro e w14 ⟨rfl, hb⟩
  have W14 := Lib.hid (blw_trans (show Below w.heap.size w _ by repeat (first | exact W13.out | refine blw_drewN ?_ _ | refine Below.setCell ?_ (by first | (simp; done) | omega | (simp; omega)) _ | refine Below.alloc ?_ (by first | (simp; done) | omega | (simp; omega)) _)) hb)
  have n14 := hb.size
  try simp at n14
  have k14_x0 := cell_keep (a := ⟨w11.heap.size, 0, none⟩) (v := .int .i64 x1) (by first | (go_keep; done) | (simp [go_sem, *]; done)) hb
  have k14_x1 := cell_keep (a := ⟨w11.heap.size, 1, none⟩) (v := .int .i64 x2) (by first | (go_keep; done) | (simp [go_sem, *]; done)) hb
  have k14_x2 := cell_keep (a := ⟨w11.heap.size, 2, none⟩) (v := .int .i64 x3) (by first | (go_keep; done) | (simp [go_sem, *]; done)) hb
  have l14_x := World.block_lt_of_cell? _ _ k14_x0
  try simp only at l14_x
  have k14_b0 := cell_keep (a := ⟨w12.heap.size, 0, none⟩) (v := .int .i64 x1) (by first | (go_keep; done) | (simp [go_sem, *]; done)) hb
  have k14_b1 := cell_keep (a := ⟨w12.heap.size, 1, none⟩) (v := .int .i64 x2) (by first | (go_keep; done) | (simp [go_sem, *]; done)) hb
  have k14_b2 := cell_keep (a := ⟨w12.heap.size, 2, none⟩) (v := .int .i64 x3) (by first | (go_keep; done) | (simp [go_sem, *]; done)) hb
  have l14_b := World.block_lt_of_cell? _ _ k14_b0
  try simp only at l14_b
  clear hb k13_x0 k13_x1 k13_x2 l13_x k13_b0 k13_b1 k13_b2 l13_b W13
  go_wp2_with fail
  refine (CP.out _ (hT.below (by repeat (first | exact W14.out | refine blw_drewN ?_ _ | refine Below.setCell ?_ (by first | (simp; done) | omega | (simp; omega)) _ | refine Below.alloc ?_ (by first | (simp; done) | omega | (simp; omega)) _)))).mono ?_
  rintro e w15 ⟨rfl, hb⟩
  have W15 := Lib.hid (blw_trans (show Below w.heap.size w _ by repeat (first | exact W14.out | refine blw_drewN ?_ _ | refine Below.setCell ?_ (by first | (simp; done) | omega | (simp; omega)) _ | refine Below.alloc ?_ (by first | (simp; done) | omega | (simp; omega)) _)) hb)
  have n15 := hb.size
  try simp at n15
  have k15_x0 := cell_keep (a := ⟨w11.heap.size, 0, none⟩) (v := .int .i64 x1) (by first | (go_keep; done) | (simp [go_sem, *]; done)) hb
  have k15_x1 := cell_keep (a := ⟨w11.heap.size, 1, none⟩) (v := .int .i64 x2) (by first | (go_keep; done) | (simp [go_sem, *]; done)) hb
  have k15_x2 := cell_keep (a := ⟨w11.heap.size, 2, none⟩) (v := .int .i64 x3) (by first | (go_keep; done) | (simp [go_sem, *]; done)) hb
  have l15_x := World.block_lt_of_cell? _ _ k15_x0
  try simp only at l15_x
  have k15_b0 := cell_keep (a := ⟨w12.heap.size, 0, none⟩) (v := .int .i64 x1) (by first | (go_keep; done) | (simp [go_sem, *]; done)) hb
  have k15_b1 := cell_keep (a := ⟨w12.heap.size, 1, none⟩) (v := .int .i64 x2) (by first | (go_keep; done) | (simp [go_sem, *]; done)) hb
  have k15_b2 := cell_keep (a := ⟨w12.heap.size, 2, none⟩) (v := .int .i64 x3) (by first | (go_keep; done) | (simp [go_sem, *]; done)) hb
  have l15_b := World.block_lt_of_cell? _ _ k15_b0
  try simp only at l15_b
  have k15_u0 := cell_keep (a := ⟨w14.heap.size, 0, none⟩) (v := .int .i64 y1) (by first | (go_keep; done) | (simp [go_sem, *]; done)) hb
  have k15_u1 := cell_keep (a := ⟨w14.heap.size, 1, none⟩) (v := .int .i64 y2) (by first | (go_keep; done) | (simp [go_sem, *]; done)) hb
  have k15_u2 := cell_keep (a := ⟨w14.heap.size, 2, none⟩) (v := .int .i64 y3) (by first | (go_keep; done) | (simp [go_sem, *]; done)) hb
  have l15_u := World.block_lt_of_cell? _ _ k15_u0
  try simp only at l15_u
  clear hb k14_x0 k14_x1 k14_x2 l14_x k14_b0 k14_b1 k14_b2 l14_b W14
  go_wp2_with fail
  refine (E0.out _ (hT.below (by repeat (first | exact W15.out | refine blw_drewN ?_ _ | refine Below.setCell ?_ (by first | (simp; done) | omega | (simp; omega)) _ | refine Below.alloc ?_ (by first | (simp; done) | omega | (simp; omega)) _)))).mono ?_
  rintro e w16 ⟨rfl, hb⟩
  have W16 := Lib.hid (blw_trans (show Below w.heap.size w _ by repeat (first | exact W15.out | refine blw_drewN ?_ _ | refine Below.setCell ?_ (by first | (simp; done) | omega | (simp; omega)) _ | refine Below.alloc ?_ (by first | (simp; done) | omega | (simp; omega)) _)) hb)
  have n16 := hb.size
  try simp at n16
  have k16_x0 := cell_keep (a := ⟨w11.heap.size, 0, none⟩) (v := .int .i64 x1) (by first | (go_keep; done) | (simp [go_sem, *]; done)) hb
  have k16_x1 := cell_keep (a := ⟨w11.heap.size, 1, none⟩) (v := .int .i64 x2) (by first | (go_keep; done) | (simp [go_sem, *]; done)) hb
  have k16_x2 := cell_keep (a := ⟨w11.heap.size, 2, none⟩) (v := .int .i64 x3) (by first | (go_keep; done) | (simp [go_sem, *]; done)) hb
  have l16_x := World.block_lt_of_cell? _ _ k16_x0
  try simp only at l16_x
  have k16_b0 := cell_keep (a := ⟨w12.heap.size, 0, none⟩) (v := .int .i64 x1) (by first | (go_keep; done) | (simp [go_sem, *]; done)) hb
  have k16_b1 := cell_keep (a := ⟨w12.heap.size, 1, none⟩) (v := .int .i64 x2) (by first | (go_keep; done) | (simp [go_sem, *]; done)) hb
  have k16_b2 := cell_keep (a := ⟨w12.heap.size, 2, none⟩) (v := .int .i64 x3) (by first | (go_keep; done) | (simp [go_sem, *]; done)) hb
  have l16_b := World.block_lt_of_cell? _ _ k16_b0
  try simp only at l16_b
  have k16_u0 := cell_keep (a := ⟨w14.heap.size, 0, none⟩) (v := .int .i64 y1) (by first | (go_keep; done) | (simp [go_sem, *]; done)) hb
  have k16_u1 := cell_keep (a := ⟨w14.heap.size, 1, none⟩) (v := .int .i64 y2) (by first | (go_keep; done) | (simp [go_sem, *]; done)) hb
  have k16_u2 := cell_keep (a := ⟨w14.heap.size, 2, none⟩) (v := .int .i64 y3) (by first | (go_keep; done) | (simp [go_sem, *]; done)) hb
  have l16_u := World.block_lt_of_cell? _ _ k16_u0
  try simp only at l16_u
  have k16_p0 := cell_keep (a := ⟨w15.heap.size, 0, none⟩) (v := .int .i64 y1) (by first | (go_keep; done) | (simp [go_sem, *]; done)) hb
  have k16_p1 := cell_keep (a := ⟨w15.heap.size, 1, none⟩) (v := .int .i64 y2) (by first | (go_keep; done) | (simp [go_sem, *]; done)) hb
  have k16_p2 := cell_keep (a := ⟨w15.heap.size, 2, none⟩) (v := .int .i64 y3) (by first | (go_keep; done) | (simp [go_sem, *]; done)) hb
  have l16_p := World.block_lt_of_cell? _ _ k16_p0
  try simp only at l16_p
  clear hb k15_x0 k15_x1 k15_x2 l15_x k15_b0 k15_b1 k15_b2 l15_b k15_u0 k15_u1 k15_u2 l15_u W15
  go_wp2
  go_ret
  exact ⟨ret_bool (by simp), by repeat (first | exact W16.out | refine blw_drewN ?_ _ | refine Below.setCell ?_ (by first | (simp; done) | omega | (simp; omega)) _ | refine Below.alloc ?_ (by first | (simp; done) | omega | (simp; omega)) _)⟩

set_option maxRecDepth 100000 in
set_option maxHeartbeats 4000000 in
theorem dateTells_yyn (y m d n x1 x2 x3 y1 y2 y3 : Int) (s : List UInt8) (w : World) (hT : PMH w)
    (CF : Hid (∀ w : World, PMH w → Calls Tryz.prog 5 #[.agg #[.int .i64 y, .int .i64 m, .int .i64 d]] w fun e w' => e = .returned (.bool true) ∧ Below w.heap.size w w'))
    (CK : Hid (∀ w : World, PMH w → Calls Tryz.prog 9 #[.agg #[.int .i64 y, .int .i64 m, .int .i64 d]] w fun e w' => e = .returned (errV 1) ∧ Below w.heap.size w w'))
    (CN : Hid (∀ w : World, PMH w → Calls Tryz.prog 10 #[.agg #[.int .i64 y, .int .i64 m, .int .i64 d]] w fun e w' => e = .returned (.tuple #[.int .i64 0, errV 1]) ∧ Below w.heap.size w w'))
    (CT : Hid (∀ w : World, PMH w → Calls Tryz.prog 11 #[.agg #[.int .i64 y, .int .i64 m, .int .i64 d]] w fun e w' => e = .returned (.tuple #[.string ⟨#[]⟩, errV 1]) ∧ Below w.heap.size w w'))
    (CX : Hid (∀ w : World, PMH w → Calls Tryz.prog 12 #[.int .i64 n] w fun e w' => e = .returned (.tuple #[.agg #[.int .i64 x1, .int .i64 x2, .int .i64 x3], .bool true]) ∧ Below w.heap.size w w'))
    (CB : Hid (∀ w : World, PMH w → Calls Tryz.prog 13 #[.int .i64 n] w fun e w' => e = .returned (.tuple #[.agg #[.int .i64 x1, .int .i64 x2, .int .i64 x3], .nilIface]) ∧ Below w.heap.size w w'))
    (CY : Hid (∀ w : World, PMH w → Calls Tryz.prog 14 #[.string ⟨s.toArray⟩] w fun e w' => e = .returned (.tuple #[.agg #[.int .i64 y1, .int .i64 y2, .int .i64 y3], .bool true]) ∧ Below w.heap.size w w'))
    (CP : Hid (∀ w : World, PMH w → Calls Tryz.prog 15 #[.string ⟨s.toArray⟩] w fun e w' => e = .returned (.tuple #[.agg #[.int .i64 y1, .int .i64 y2, .int .i64 y3], .nilIface]) ∧ Below w.heap.size w w')) :
    Calls Tryz.prog 3 #[.agg #[.int .i64 y, .int .i64 m, .int .i64 d], .int .i64 n, .string ⟨s.toArray⟩] w fun e w' => e = .returned (.bool true) ∧ Below w.heap.size w w' := by
  have C0 := Lib.hid fun w (hT : PMH w) => dated_any w hT.p.t
  have E0 := Lib.hid fun w (hT : PMH w) => sameErr_yes ErrNo.nil w hT.h
  have E1 := Lib.hid fun w (hT : PMH w) => sameErr_yes (ErrNo.no 1) w hT.h
  have E3 := Lib.hid fun w (hT : PMH w) => sameErr_yes (ErrNo.no 3) w hT.h
  go_enter Tryz.func3, Tryz.ntmps3
  go_wp2_with fail
  refine (C0.out _ (hT.below (by repeat (first | exact (Below.refl _ _) | refine blw_drewN ?_ _ | refine Below.setCell ?_ (by first | (simp; done) | omega | (simp; omega)) _ | refine Below.alloc ?_ (by first | (simp; done) | omega | (simp; omega)) _)))).mono ?_
  rintro e w1 ⟨rfl, hb⟩
  have W1 := Lib.hid (blw_trans (show Below w.heap.size w _ by repeat (first | exact (Below.refl _ _) | refine blw_drewN ?_ _ | refine Below.setCell ?_ (by first | (simp; done) | omega | (simp; omega)) _ | refine Below.alloc ?_ (by first | (simp; done) | omega | (simp; omega)) _)) hb)
  have n1 := hb.size
  try simp at n1
  have k1_d0 := cell_keep (a := ⟨w.heap.size, 0, none⟩) (v := .int .i64 y) (by first | (go_keep; done) | (simp [go_sem, *]; done)) hb
  have k1_d1 := cell_keep (a := ⟨w.heap.size, 1, none⟩) (v := .int .i64 m) (by first | (go_keep; done) | (simp [go_sem, *]; done)) hb
  have k1_d2 := cell_keep (a := ⟨w.heap.size, 2, none⟩) (v := .int .i64 d) (by first | (go_keep; done) | (simp [go_sem, *]; done)) hb
  have l1_d := World.block_lt_of_cell? _ _ k1_d0
  try simp only at l1_d
  clear hb
  go_wp2_with fail
  refine (CF.out _ (hT.below (by repeat (first | exact W1.out | refine blw_drewN ?_ _ | refine Below.setCell ?_ (by first | (simp; done) | omega | (simp; omega)) _ | refine Below.alloc ?_ (by first | (simp; done) | omega | (simp; omega)) _)))).mono ?_
  rintro e w2 ⟨rfl, hb⟩
  have W2 := Lib.hid (blw_trans (show Below w.heap.size w _ by repeat (first | exact W1.out | refine blw_drewN ?_ _ | refine Below.setCell ?_ (by first | (simp; done) | omega | (simp; omega)) _ | refine Below.alloc ?_ (by first | (simp; done) | omega | (simp; omega)) _)) hb)
  have n2 := hb.size
  try simp at n2
  have k2_d0 := cell_keep (a := ⟨w.heap.size, 0, none⟩) (v := .int .i64 y) (by first | (go_keep; done) | (simp [go_sem, *]; done)) hb
  have k2_d1 := cell_keep (a := ⟨w.heap.size, 1, none⟩) (v := .int .i64 m) (by first | (go_keep; done) | (simp [go_sem, *]; done)) hb
  have k2_d2 := cell_keep (a := ⟨w.heap.size, 2, none⟩) (v := .int .i64 d) (by first | (go_keep; done) | (simp [go_sem, *]; done)) hb
  have l2_d := World.block_lt_of_cell? _ _ k2_d0
  try simp only at l2_d
  clear hb k1_d0 k1_d1 k1_d2 l1_d W1
  go_wp2_with fail
  refine (CK.out _ (hT.below (by repeat (first | exact W2.out | refine blw_drewN ?_ _ | refine Below.setCell ?_ (by first | (simp; done) | omega | (simp; omega)) _ | refine Below.alloc ?_ (by first | (simp; done) | omega | (simp; omega)) _)))).mono ?_
  rintro e w3 ⟨rfl, hb⟩
  have W3 := Lib.hid (blw_trans (show Below w.heap.size w _ by repeat (first | exact W2.out | refine blw_drewN ?_ _ | refine Below.setCell ?_ (by first | (simp; done) | omega | (simp; omega)) _ | refine Below.alloc ?_ (by first | (simp; done) | omega | (simp; omega)) _)) hb)
  have n3 := hb.size
  try simp at n3
  have k3_d0 := cell_keep (a := ⟨w.heap.size, 0, none⟩) (v := .int .i64 y) (by first | (go_keep; done) | (simp [go_sem, *]; done)) hb
  have k3_d1 := cell_keep (a := ⟨w.heap.size, 1, none⟩) (v := .int .i64 m) (by first | (go_keep; done) | (simp [go_sem, *]; done)) hb
  have k3_d2 := cell_keep (a := ⟨w.heap.size, 2, none⟩) (v := .int .i64 d) (by first | (go_keep; done) | (simp [go_sem, *]; done)) hb
  have l3_d := World.block_lt_of_cell? _ _ k3_d0
  try simp only at l3_d
  clear hb k2_d0 k2_d1 k2_d2 l2_d W2
  go_wp2_with fail
  refine (E1.out _ (hT.below (by repeat (first | exact W3.out | refine blw_drewN ?_ _ | refine Below.setCell ?_ (by first | (simp; done) | omega | (simp; omega)) _ | refine Below.alloc ?_ (by first | (simp; done) | omega | (simp; omega)) _)))).mono ?_
  rintro e w4 ⟨rfl, hb⟩
  have W4 := Lib.hid (blw_trans (show Below w.heap.size w _ by repeat (first | exact W3.out | refine blw_drewN ?_ _ | refine Below.setCell ?_ (by first | (simp; done) | omega | (simp; omega)) _ | refine Below.alloc ?_ (by first | (simp; done) | omega | (simp; omega)) _)) hb)
  have n4 := hb.size
  try simp at n4
  have k4_d0 := cell_keep (a := ⟨w.heap.size, 0, none⟩) (v := .int .i64 y) (by first | (go_keep; done) | (simp [go_sem, *]; done)) hb
  have k4_d1 := cell_keep (a := ⟨w.heap.size, 1, none⟩) (v := .int .i64 m) (by first | (go_keep; done) | (simp [go_sem, *]; done)) hb
  have k4_d2 := cell_keep (a := ⟨w.heap.size, 2, none⟩) (v := .int .i64 d) (by first | (go_keep; done) | (simp [go_sem, *]; done)) hb
  have l4_d := World.block_lt_of_cell? _ _ k4_d0
  try simp only at l4_d
  clear hb k3_d0 k3_d1 k3_d2 l3_d W3
  go_wp2_with fail
  refine (CN.out _ (hT.below (by repeat (first | exact W4.out | refine blw_drewN ?_ _ | refine Below.setCell ?_ (by first | (simp; done) | omega | (simp; omega)) _ | refine Below.alloc ?_ (by first | (simp; done) | omega | (simp; omega)) _)))).mono ?_
  rintro e w5 ⟨rfl, hb⟩
  have W5 := Lib.hid (blw_trans (show Below w.heap.size w _ by repeat (first | exact W4.out | refine blw_drewN ?_ _ | refine Below.setCell ?_ (by first | (simp; done) | omega | (simp; omega)) _ | refine Below.alloc ?_ (by first | (simp; done) | omega | (simp; omega)) _)) hb)
  have n5 := hb.size
  try simp at n5
  have k5_d0 := cell_keep (a := ⟨w.heap.size, 0, none⟩) (v := .int .i64 y) (by first | (go_keep; done) | (simp [go_sem, *]; done)) hb
  have k5_d1 := cell_keep (a := ⟨w.heap.size, 1, none⟩) (v := .int .i64 m) (by first | (go_keep; done) | (simp [go_sem, *]; done)) hb
  have k5_d2 := cell_keep (a := ⟨w.heap.size, 2, none⟩) (v := .int .i64 d) (by first | (go_keep; done) | (simp [go_sem, *]; done)) hb
  have l5_d := World.block_lt_of_cell? _ _ k5_d0
  try simp only at l5_d
  clear hb k4_d0 k4_d1 k4_d2 l4_d W4
  go_wp2_with fail
  refine (E1.out _ (hT.below (by repeat (first | exact W5.out | refine blw_drewN ?_ _ | refine Below.setCell ?_ (by first | (simp; done) | omega | (simp; omega)) _ | refine Below.alloc ?_ (by first | (simp; done) | omega | (simp; omega)) _)))).mono ?_
  rintro e w6 ⟨rfl, hb⟩
  have W6 := Lib.hid (blw_trans (show Below w.heap.size w _ by repeat (first | exact W5.out | refine blw_drewN ?_ _ | refine Below.setCell ?_ (by first | (simp; done) | omega | (simp; omega)) _ | refine Below.alloc ?_ (by first | (simp; done) | omega | (simp; omega)) _)) hb)
  have n6 := hb.size
  try simp at n6
  have k6_d0 := cell_keep (a := ⟨w.heap.size, 0, none⟩) (v := .int .i64 y) (by first | (go_keep; done) | (simp [go_sem, *]; done)) hb
  have k6_d1 := cell_keep (a := ⟨w.heap.size, 1, none⟩) (v := .int .i64 m) (by first | (go_keep; done) | (simp [go_sem, *]; done)) hb
  have k6_d2 := cell_keep (a := ⟨w.heap.size, 2, none⟩) (v := .int .i64 d) (by first | (go_keep; done) | (simp [go_sem, *]; done)) hb
  have l6_d := World.block_lt_of_cell? _ _ k6_d0
  try simp only at l6_d
  clear hb k5_d0 k5_d1 k5_d2 l5_d W5
  go_wp2_with fail
  refine (CT.out _ (hT.below (by repeat (first | exact W6.out | refine blw_drewN ?_ _ | refine Below.setCell ?_ (by first | (simp; done) | omega | (simp; omega)) _ | refine Below.alloc ?_ (by first | (simp; done) | omega | (simp; omega)) _)))).mono ?_
  rintro e w7 ⟨rfl, hb⟩
  have W7 := Lib.hid (blw_trans (show Below w.heap.size w _ by repeat (first | exact W6.out | refine blw_drewN ?_ _ | refine Below.setCell ?_ (by first | (simp; done) | omega | (simp; omega)) _ | refine Below.alloc ?_ (by first | (simp; done) | omega | (simp; omega)) _)) hb)
  have n7 := hb.size
  try simp at n7
  clear hb k6_d0 k6_d1 k6_d2 l6_d W6
  go_wp2_with fail
  refine (E1.out _ (hT.below (by repeat (first | exact W7.out | refine blw_drewN ?_ _ | refine Below.setCell ?_ (by first | (simp; done) | omega | (simp; omega)) _ | refine Below.alloc ?_ (by first | (simp; done) | omega | (simp; omega)) _)))).mono ?_
  rintro e w8 ⟨rfl, hb⟩
  have W8 := Lib.hid (blw_trans (show Below w.heap.size w _ by repeat (first | exact W7.out | refine blw_drewN ?_ _ | refine Below.setCell ?_ (by first | (simp; done) | omega | (simp; omega)) _ | refine Below.alloc ?_ (by first | (simp; done) | omega | (simp; omega)) _)) hb)
  have n8 := hb.size
  try simp at n8
  clear hb W7
  go_wp2_with fail
  refine (CX.out _ (hT.below (by repeat (first | exact W8.out | refine blw_drewN ?_ _ | refine Below.setCell ?_ (by first | (simp; done) | omega | (simp; omega)) _ | refine Below.alloc ?_ (by first | (simp; done) | omega | (simp; omega)) _)))).mono ?_
  rintro e w9 ⟨rfl, hb⟩
  have W9 := Lib.hid (blw_trans (show Below w.heap.size w _ by repeat (first | exact W8.out | refine blw_drewN ?_ _ | refine Below.setCell ?_ (by first | (simp; done) | omega | (simp; omega)) _ | refine Below.alloc ?_ (by first | (simp; done) | omega | (simp; omega)) _)) hb)
  have n9 := hb.size
  try simp at n9
  clear hb W8
  go_wp2_with fail
  refine (CB.out _ (hT.below (by repeat (first | exact W9.out | refine blw_drewN ?_ _ | refine Below.setCell ?_ (by first | (simp; done) | omega | (simp; omega)) _ | refine Below.alloc ?_ (by first | (simp; done) | omega | (simp; omega)) _)))).mono ?_
  rintro e w10 ⟨rfl, hb⟩
  have W10 := Lib.hid (blw_trans (show Below w.heap.size w _ by repeat (first | exact W9.out | refine blw_drewN ?_ _ | refine Below.setCell ?_ (by first | (simp; done) | omega | (simp; omega)) _ | refine Below.alloc ?_ (by first | (simp; done) | omega | (simp; omega)) _)) hb)
  have n10 := hb.size
  try simp at n10
  have k10_x0 := cell_keep (a := ⟨w9.heap.size, 0, none⟩) (v := .int .i64 x1) (by first | (go_keep; done) | (simp [go_sem, *]; done)) hb
  have k10_x1 := cell_keep (a := ⟨w9.heap.size, 1, none⟩) (v := .int .i64 x2) (by first | (go_keep; done) | (simp [go_sem, *]; done)) hb
  have k10_x2 := cell_keep (a := ⟨w9.heap.size, 2, none⟩) (v := .int .i64 x3) (by first | (go_keep; done) | (simp [go_sem, *]; done)) hb
  have l10_x := World.block_lt_of_cell? _ _ k10_x0
  try simp only at l10_x
  clear hb W9
  go_wp2_with fail
  refine (E0.out _ (hT.below (by repeat (first | exact W10.out | refine blw_drewN ?_ _ | refine Below.setCell ?_ (by first | (simp; done) | omega | (simp; omega)) _ | refine Below.alloc ?_ (by first | (simp; done) | omega | (simp; omega)) _)))).mono ?_
  rintro e w11 ⟨rfl, hb⟩
  have W11 := Lib.hid (blw_trans (show Below w.heap.size w _ by repeat (first | exact W10.out | refine blw_drewN ?_ _ | refine Below.setCell ?_ (by first | (simp; done) | omega | (simp; omega)) _ | refine Below.alloc ?_ (by first | (simp; done) | omega | (simp; omega)) _)) hb)
  have n11 := hb.size
  try simp at n11
  have k11_x0 := cell_keep (a := ⟨w9.heap.size, 0, none⟩) (v := .int .i64 x1) (by first | (go_keep; done) | (simp [go_sem, *]; done)) hb
  have k11_x1 := cell_keep (a := ⟨w9.heap.size, 1, none⟩) (v := .int .i64 x2) (by first | (go_keep; done) | (simp [go_sem, *]; done)) hb
  have k11_x2 := cell_keep (a := ⟨w9.heap.size, 2, none⟩) (v := .int .i64 x3) (by first | (go_keep; done) | (simp [go_sem, *]; done)) hb
  have l11_x := World.block_lt_of_cell? _ _ k11_x0
  try simp only at l11_x
  have k11_b0 := cell_keep (a := ⟨w10.heap.size, 0, none⟩) (v := .int .i64 x1) (by first | (go_keep; done) | (simp [go_sem, *]; done)) hb
  have k11_b1 := cell_keep (a := ⟨w10.heap.size, 1, none⟩) (v := .int .i64 x2) (by first | (go_keep; done) | (simp [go_sem, *]; done)) hb
  have k11_b2 := cell_keep (a := ⟨w10.heap.size, 2, none⟩) (v := .int .i64 x3) (by first | (go_keep; done) | (simp [go_sem, *]; done)) hb
  have l11_b := World.block_lt_of_cell? _ _ k11_b0
  try simp only at l11_b
  clear hb k10_x0 k10_x1 k10_x2 l10_x W10
  go_wp2_with fail
  refine (CY.out _ (hT.below (by repeat (first | exact W11.out | refine blw_drewN ?_ _ | refine Below.setCell ?_ (by first | (simp; done) | omega | (simp; omega)) _ | refine Below.alloc ?_ (by first | (simp; done) | omega | (simp; omega)) _)))).mono ?_
  rintro e w12 ⟨rfl, hb⟩
  have W12 := Lib.hid (blw_trans (show Below w.heap.size w _ by repeat (first | exact W11.out | refine blw_drewN ?_ _ | refine Below.setCell ?_ (by first | (simp; done) | omega | (simp; omega)) _ | refine Below.alloc ?_ (by first | (simp; done) | omega | (simp; omega)) _)) hb)
  have n12 := hb.size
  try simp at n12
  have k12_x0 := cell_keep (a := ⟨w9.heap.size, 0, none⟩) (v := .int .i64 x1) (by first | (go_keep; done) | (simp [go_sem, *]; done)) hb
  have k12_x1 := cell_keep (a := ⟨w9.heap.size, 1, none⟩) (v := .int .i64 x2) (by first | (go_keep; done) | (simp [go_sem, *]; done)) hb
  have k12_x2 := cell_keep (a := ⟨w9.heap.size, 2, none⟩) (v := .int .i64 x3) (by first | (go_keep; done) | (simp [go_sem, *]; done)) hb
  have l12_x := World.block_lt_of_cell? _ _ k12_x0
  try simp only at l12_x
  have k12_b0 := cell_keep (a := ⟨w10.heap.size, 0, none⟩) (v := .int .i64 x1) (by first | (go_keep; done) | (simp [go_sem, *]; done)) hb
  have k12_b1 := cell_keep (a := ⟨w10.heap.size, 1, none⟩) (v := .int .i64 x2) (by first | (go_keep; done) | (simp [go_sem, *]; done)) hb
  have k12_b2 := cell_keep (a := ⟨w10.heap.size, 2, none⟩) (v := .int .i64 x3) (by first | (go_keep; done) | (simp [go_sem, *]; done)) hb
  have l12_b := World.block_lt_of_cell? _ _ k12_b0
  try simp only at l12_b
  clear hb k11_x0 k11_x1 k11_x2 l11_x k11_b0 k11_b1 k11_b2 l11_b W11
  go_wp2_with fail
  refine (CP.out _ (hT.below (by repeat (first | exact W12.out | refine blw_drewN ?_ _ | refine Below.setCell ?_ (by first | (simp; done) | omega | (simp; omega)) _ | refine Below.alloc ?_ (by first | (simp; done) | omega | (simp; omega)) _)))).mono ?_
  rintro e w13 ⟨rfl, hb⟩
  have W13 := Lib.hid (blw_trans (show Below w.heap.size w _ by repeat (first | exact W12.out | refine blw_drewN ?_ _ | refine Below.setCell ?_ (by first | (simp; done) | omega | (simp; omega)) _ | refine Below.alloc ?_ (by first | (simp; done) | omega | (simp; omega)) _)) hb)
  have n13 := hb.size
  try simp at n13
  have k13_x0 := cell_keep (a := ⟨w9.heap.size, 0, none⟩) (v := .int .i64 x1) (by first | (go_keep; done) | (simp [go_sem, *]; done)) hb
  have k13_x1 := cell_keep (a := ⟨w9.heap.size, 1, none⟩) (v := .int .i64 x2) (by first | (go_keep; done) | (simp [go_sem, *]; done)) hb
  have k13_x2 := cell_keep (a := ⟨w9.heap.size, 2, none⟩) (v := .int .i64 x3) (by first | (go_keep; done) | (simp [go_sem, *]; done)) hb
  have l13_x := World.block_lt_of_cell? _ _ k13_x0
  try simp only at l13_x
  have k13_b0 := cell_keep (a := ⟨w10.heap.size, 0, none⟩) (v := .int .i64 x1) (by first | (go_keep; done) | (simp [go_sem, *]; done)) hb
  have k13_b1 := cell_keep (a := ⟨w10.heap.size, 1, none⟩) (v := .int .i64 x2) (by first | (go_keep; done) | (simp [go_sem, *]; done)) hb
  have k13_b2 := cell_keep (a := ⟨w10.heap.size, 2, none⟩) (v := .int .i64 x3) (by first | (go_keep; done) | (simp [go_sem, *]; done)) hb
  have l13_b := World.block_lt_of_cell? _ _ k13_b0
  try simp only at l13_b
  have k13_u0 := cell_keep (a := ⟨w12.heap.size, 0, none⟩) (v := .int .i64 y1) (by first | (go_keep; done) | (simp [go_sem, *]; done)) hb
  have k13_u1 := cell_keep (a := ⟨w12.heap.size, 1, none⟩) (v := .int .i64 y2) (by first | (go_keep; done) | (simp [go_sem, *]; done)) hb
  have k13_u2 := cell_keep (a := ⟨w12.heap.size, 2, none⟩) (v := .int .i64 y3) (by first | (go_keep; done) | (simp [go_sem, *]; done)) hb
  have l13_u := World.block_lt_of_cell? _ _ k13_u0
  try simp only at l13_u
  clear hb k12_x0 k12_x1 k12_x2 l12_x k12_b0 k12_b1 k12_b2 l12_b W12
  go_wp2_with fail
  refine (E0.out _ (hT.below (by repeat (first | exact W13.out | refine blw_drewN ?_ _ | refine Below.setCell ?_ (by first | (simp; done) | omega | (simp; omega)) _ | refine Below.alloc ?_ (by first | (simp; done) | omega | (simp; omega)) _)))).mono ?_
  rintro e w14 ⟨rfl, hb⟩
  have W14 := Lib.hid (blw_trans (show Below w.heap.size w _ by repeat (first | exact W13.out | refine blw_drewN ?_ _ | refine Below.setCell ?_ (by first | (simp; done) | omega | (simp; omega)) _ | refine Below.alloc ?_ (by first | (simp; done) | omega | (simp; omega)) _)) hb)
  have n14 := hb.size
  try simp at n14
  have k14_x0 := cell_keep (a := ⟨w9.heap.size, 0, none⟩) (v := .int .i64 x1) (by first | (go_keep; done) | (simp [go_sem, *]; done)) hb
  have k14_x1 := cell_keep (a := ⟨w9.heap.size, 1, none⟩) (v := .int .i64 x2) (by first | (go_keep; done) | (simp [go_sem, *]; done)) hb
  have k14_x2 := cell_keep (a := ⟨w9.heap.size, 2, none⟩) (v := .int .i64 x3) (by first | (go_keep; done) | (simp [go_sem, *]; done)) hb
  have l14_x := World.block_lt_of_cell? _ _ k14_x0
  try simp only at l14_x
  have k14_b0 := cell_keep (a := ⟨w10.heap.size, 0, none⟩) (v := .int .i64 x1) (by first | (go_keep; done) | (simp [go_sem, *]; done)) hb
  have k14_b1 := cell_keep (a := ⟨w10.heap.size, 1, none⟩) (v := .int .i64 x2) (by first | (go_keep; done) | (simp [go_sem, *]; done)) hb
  have k14_b2 := cell_keep (a := ⟨w10.heap.size, 2, none⟩) (v := .int .i64 x3) (by first | (go_keep; done) | (simp [go_sem, *]; done)) hb
  have l14_b := World.block_lt_of_cell? _ _ k14_b0
  try simp only at l14_b
  have k14_u0 := cell_keep (a := ⟨w12.heap.size, 0, none⟩) (v := .int .i64 y1) (by first | (go_keep; done) | (simp [go_sem, *]; done)) hb
  have k14_u1 := cell_keep (a := ⟨w12.heap.size, 1, none⟩) (v := .int .i64 y2) (by first | (go_keep; done) | (simp [go_sem, *]; done)) hb
  have k14_u2 := cell_keep (a := ⟨w12.heap.size, 2, none⟩) (v := .int .i64 y3) (by first | (go_keep; done) | (simp [go_sem, *]; done)) hb
  have l14_u := World.block_lt_of_cell? _ _ k14_u0
  try simp only at l14_u
  have k14_p0 := cell_keep (a := ⟨w13.heap.size, 0, none⟩) (v := .int .i64 y1) (by first | (go_keep; done) | (simp [go_sem, *]; done)) hb
  have k14_p1 := cell_keep (a := ⟨w13.heap.size, 1, none⟩) (v := .int .i64 y2) (by first | (go_keep; done) | (simp [go_sem, *]; done)) hb
  have k14_p2 := cell_keep (a := ⟨w13.heap.size, 2, none⟩) (v := .int .i64 y3) (by first | (go_keep; done) | (simp [go_sem, *]; done)) hb
  have l14_p := World.block_lt_of_cell? _ _ k14_p0
  try simp only at l14_p
  clear hb k13_x0 k13_x1 k13_x2 l13_x k13_b0 k13_b1 k13_b2 l13_b k13_u0 k13_u1 k13_u2 l13_u W13
  go_wp2
  go_ret
  exact ⟨ret_bool (by simp), by repeat (first | exact W14.out | refine blw_drewN ?_ _ | refine Below.setCell ?_ (by first | (simp; done) | omega | (simp; omega)) _ | refine Below.alloc ?_ (by first | (simp; done) | omega | (simp; omega)) _)⟩

set_option maxRecDepth 100000 in
set_option maxHeartbeats 4000000 in
theorem dateTells_yny (y m d n x1 x2 x3 k : Int) (s D : List UInt8) (w : World) (hT : PMH w)
    (CF : Hid (∀ w : World, PMH w → Calls Tryz.prog 5 #[.agg #[.int .i64 y, .int .i64 m, .int .i64 d]] w fun e w' => e = .returned (.bool false) ∧ Below w.heap.size w w'))
    (CU : Hid (∀ w : World, PMH w → Calls Tryz.prog 6 #[.agg #[.int .i64 y, .int .i64 m, .int .i64 d]] w fun e w' => e = .returned (.int .i64 k) ∧ Below w.heap.size w w'))
    (CV : Hid (∀ w : World, PMH w → Calls Tryz.prog 7 #[.agg #[.int .i64 y, .int .i64 m, .int .i64 d]] w fun e w' => e = .returned (.string ⟨D.toArray⟩) ∧ Below w.heap.size w w'))
    (CK : Hid (∀ w : World, PMH w → Calls Tryz.prog 9 #[.agg #[.int .i64 y, .int .i64 m, .int .i64 d]] w fun e w' => e = .returned (.nilIface) ∧ Below w.heap.size w w'))
    (CN : Hid (∀ w : World, PMH w → Calls Tryz.prog 10 #[.agg #[.int .i64 y, .int .i64 m, .int .i64 d]] w fun e w' => e = .returned (.tuple #[.int .i64 k, .nilIface]) ∧ Below w.heap.size w w'))
    (CT : Hid (∀ w : World, PMH w → Calls Tryz.prog 11 #[.agg #[.int .i64 y, .int .i64 m, .int .i64 d]] w fun e w' => e = .returned (.tuple #[.string ⟨D.toArray⟩, .nilIface]) ∧ Below w.heap.size w w'))
    (CX : Hid (∀ w : World, PMH w → Calls Tryz.prog 12 #[.int .i64 n] w fun e w' => e = .returned (.tuple #[.agg #[.int .i64 x1, .int .i64 x2, .int .i64 x3], .bool true]) ∧ Below w.heap.size w w'))
    (CB : Hid (∀ w : World, PMH w → Calls Tryz.prog 13 #[.int .i64 n] w fun e w' => e = .returned (.tuple #[.agg #[.int .i64 x1, .int .i64 x2, .int .i64 x3], .nilIface]) ∧ Below w.heap.size w w'))
    (CY : Hid (∀ w : World, Calls Tryz.prog 14 #[.string ⟨s.toArray⟩] w (NoDay w)))
    (CP : Hid (∀ w : World, PMH w → Calls Tryz.prog 15 #[.string ⟨s.toArray⟩] w fun e w' => e = .returned (.tuple #[.agg #[.int .i64 0, .int .i64 0, .int .i64 0], errV 3]) ∧ Below w.heap.size w w')) :
    Calls Tryz.prog 3 #[.agg #[.int .i64 y, .int .i64 m, .int .i64 d], .int .i64 n, .string ⟨s.toArray⟩] w fun e w' => e = .returned (.bool true) ∧ Below w.heap.size w w' := by
  have C0 := Lib.hid fun w (hT : PMH w) => dated_any w hT.p.t
  have E0 := Lib.hid fun w (hT : PMH w) => sameErr_yes ErrNo.nil w hT.h
  have E1 := Lib.hid fun w (hT : PMH w) => sameErr_yes (ErrNo.no 1) w hT.h
  have E3 := Lib.hid fun w (hT : PMH w) => sameErr_yes (ErrNo.no 3) w hT.h
  go_enter Tryz.func3, Tryz.ntmps3
  go_wp2_with fail
  refine (C0.out _ (hT.below (by repeat (first | exact (Below.refl _ _) | refine blw_drewN ?_ _ | refine Below.setCell ?_ (by first | (simp; done) | omega | (simp; omega)) _ | refine Below.alloc ?_ (by first | (simp; done) | omega | (simp; omega)) _)))).mono ?_
  rintro e w1 ⟨rfl, hb⟩
  have W1 := Lib.hid (blw_trans (show Below w.heap.size w _ by repeat (first | exact (Below.refl _ _) | refine blw_drewN ?_ _ | refine Below.setCell ?_ (by first | (simp; done) | omega | (simp; omega)) _ | refine Below.alloc ?_ (by first | (simp; done) | omega | (simp; omega)) _)) hb)
  have n1 := hb.size
  try simp at n1
  have k1_d0 := cell_keep (a := ⟨w.heap.size, 0, none⟩) (v := .int .i64 y) (by first | (go_keep; done) | (simp [go_sem, *]; done)) hb
  have k1_d1 := cell_keep (a := ⟨w.heap.size, 1, none⟩) (v := .int .i64 m) (by first | (go_keep; done) | (simp [go_sem, *]; done)) hb
  have k1_d2 := cell_keep (a := ⟨w.heap.size, 2, none⟩) (v := .int .i64 d) (by first | (go_keep; done) | (simp [go_sem, *]; done)) hb
  have l1_d := World.block_lt_of_cell? _ _ k1_d0
  try simp only at l1_d
  clear hb
  go_wp2_with fail
  refine (CF.out _ (hT.below (by repeat (first | exact W1.out | refine blw_drewN ?_ _ | refine Below.setCell ?_ (by first | (simp; done) | omega | (simp; omega)) _ | refine Below.alloc ?_ (by first | (simp; done) | omega | (simp; omega)) _)))).mono ?_
  rintro e w2 ⟨rfl, hb⟩
  have W2 := Lib.hid (blw_trans (show Below w.heap.size w _ by repeat (first | exact W1.out | refine blw_drewN ?_ _ | refine Below.setCell ?_ (by first | (simp; done) | omega | (simp; omega)) _ | refine Below.alloc ?_ (by first | (simp; done) | omega | (simp; omega)) _)) hb)
  have n2 := hb.size
  try simp at n2
  have k2_d0 := cell_keep (a := ⟨w.heap.size, 0, none⟩) (v := .int .i64 y) (by first | (go_keep; done) | (simp [go_sem, *]; done)) hb
  have k2_d1 := cell_keep (a := ⟨w.heap.size, 1, none⟩) (v := .int .i64 m) (by first | (go_keep; done) | (simp [go_sem, *]; done)) hb
  have k2_d2 := cell_keep (a := ⟨w.heap.size, 2, none⟩) (v := .int .i64 d) (by first | (go_keep; done) | (simp [go_sem, *]; done)) hb
  have l2_d := World.block_lt_of_cell? _ _ k2_d0
  try simp only at l2_d
  clear hb k1_d0 k1_d1 k1_d2 l1_d W1
  go_wp2_with fail
  refine (CU.out _ (hT.below (by repeat (first | exact W2.out | refine blw_drewN ?_ _ | refine Below.setCell ?_ (by first | (simp; done) | omega | (simp; omega)) _ | refine Below.alloc ?_ (by first | (simp; done) | omega | (simp; omega)) _)))).mono ?_
  rintro e w3 ⟨rfl, hb⟩
  have W3 := Lib.hid (blw_trans (show Below w.heap.size w _ by repeat (first | exact W2.out | refine blw_drewN ?_ _ | refine Below.setCell ?_ (by first | (simp; done) | omega | (simp; omega)) _ | refine Below.alloc ?_ (by first | (simp; done) | omega | (simp; omega)) _)) hb)
  have n3 := hb.size
  try simp at n3
  have k3_d0 := cell_keep (a := ⟨w.heap.size, 0, none⟩) (v := .int .i64 y) (by first | (go_keep; done) | (simp [go_sem, *]; done)) hb
  have k3_d1 := cell_keep (a := ⟨w.heap.size, 1, none⟩) (v := .int .i64 m) (by first | (go_keep; done) | (simp [go_sem, *]; done)) hb
  have k3_d2 := cell_keep (a := ⟨w.heap.size, 2, none⟩) (v := .int .i64 d) (by first | (go_keep; done) | (simp [go_sem, *]; done)) hb
  have l3_d := World.block_lt_of_cell? _ _ k3_d0
  try simp only at l3_d
  clear hb k2_d0 k2_d1 k2_d2 l2_d W2
  go_wp2_with fail
  refine (CV.out _ (hT.below (by repeat (first | exact W3.out | refine blw_drewN ?_ _ | refine Below.setCell ?_ (by first | (simp; done) | omega | (simp; omega)) _ | refine Below.alloc ?_ (by first | (simp; done) | omega | (simp; omega)) _)))).mono ?_
  rintro e w4 ⟨rfl, hb⟩
  have W4 := Lib.hid (blw_trans (show Below w.heap.size w _ by repeat (first | exact W3.out | refine blw_drewN ?_ _ | refine Below.setCell ?_ (by first | (simp; done) | omega | (simp; omega)) _ | refine Below.alloc ?_ (by first | (simp; done) | omega | (simp; omega)) _)) hb)
  have n4 := hb.size
  try simp at n4
  have k4_d0 := cell_keep (a := ⟨w.heap.size, 0, none⟩) (v := .int .i64 y) (by first | (go_keep; done) | (simp [go_sem, *]; done)) hb
  have k4_d1 := cell_keep (a := ⟨w.heap.size, 1, none⟩) (v := .int .i64 m) (by first | (go_keep; done) | (simp [go_sem, *]; done)) hb
  have k4_d2 := cell_keep (a := ⟨w.heap.size, 2, none⟩) (v := .int .i64 d) (by first | (go_keep; done) | (simp [go_sem, *]; done)) hb
  have l4_d := World.block_lt_of_cell? _ _ k4_d0
  try simp only at l4_d
  clear hb k3_d0 k3_d1 k3_d2 l3_d W3
  go_wp2_with fail
  refine (CK.out _ (hT.below (by repeat (first | exact W4.out | refine blw_drewN ?_ _ | refine Below.setCell ?_ (by first | (simp; done) | omega | (simp; omega)) _ | refine Below.alloc ?_ (by first | (simp; done) | omega | (simp; omega)) _)))).mono ?_
  rintro e w5 ⟨rfl, hb⟩
  have W5 := Lib.hid (blw_trans (show Below w.heap.size w _ by repeat (first | exact W4.out | refine blw_drewN ?_ _ | refine Below.setCell ?_ (by first | (simp; done) | omega | (simp; omega)) _ | refine Below.alloc ?_ (by first | (simp; done) | omega | (simp; omega)) _)) hb)
  have n5 := hb.size
  try simp at n5
  have k5_d0 := cell_keep (a := ⟨w.heap.size, 0, none⟩) (v := .int .i64 y) (by first | (go_keep; done) | (simp [go_sem, *]; done)) hb
  have k5_d1 := cell_keep (a := ⟨w.heap.size, 1, none⟩) (v := .int .i64 m) (by first | (go_keep; done) | (simp [go_sem, *]; done)) hb
  have k5_d2 := cell_keep (a := ⟨w.heap.size, 2, none⟩) (v := .int .i64 d) (by first | (go_keep; done) | (simp [go_sem, *]; done)) hb
  have l5_d := World.block_lt_of_cell? _ _ k5_d0
  try simp only at l5_d
  clear hb k4_d0 k4_d1 k4_d2 l4_d W4
  go_wp2_with fail
  refine (E0.out _ (hT.below (by repeat (first | exact W5.out | refine blw_drewN ?_ _ | refine Below.setCell ?_ (by first | (simp; done) | omega | (simp; omega)) _ | refine Below.alloc ?_ (by first | (simp; done) | omega | (simp; omega)) _)))).mono ?_
  rintro e w6 ⟨rfl, hb⟩
  have W6 := Lib.hid (blw_trans (show Below w.heap.size w _ by repeat (first | exact W5.out | refine blw_drewN ?_ _ | refine Below.setCell ?_ (by first | (simp; done) | omega | (simp; omega)) _ | refine Below.alloc ?_ (by first | (simp; done) | omega | (simp; omega)) _)) hb)
  have n6 := hb.size
  try simp at n6
  have k6_d0 := cell_keep (a := ⟨w.heap.size, 0, none⟩) (v := .int .i64 y) (by first | (go_keep; done) | (simp [go_sem, *]; done)) hb
  have k6_d1 := cell_keep (a := ⟨w.heap.size, 1, none⟩) (v := .int .i64 m) (by first | (go_keep; done) | (simp [go_sem, *]; done)) hb
  have k6_d2 := cell_keep (a := ⟨w.heap.size, 2, none⟩) (v := .int .i64 d) (by first | (go_keep; done) | (simp [go_sem, *]; done)) hb
  have l6_d := World.block_lt_of_cell? _ _ k6_d0
  try simp only at l6_d
  clear hb k5_d0 k5_d1 k5_d2 l5_d W5
  go_wp2_with fail
  refine (CN.out _ (hT.below (by repeat (first | exact W6.out | refine blw_drewN ?_ _ | refine Below.setCell ?_ (by first | (simp; done) | omega | (simp; omega)) _ | refine Below.alloc ?_ (by first | (simp; done) | omega | (simp; omega)) _)))).mono ?_
  rintro e w7 ⟨rfl, hb⟩
  have W7 := Lib.hid (blw_trans (show Below w.heap.size w _ by repeat (first | exact W6.out | refine blw_drewN ?_ _ | refine Below.setCell ?_ (by first | (simp; done) | omega | (simp; omega)) _ | refine Below.alloc ?_ (by first | (simp; done) | omega | (simp; omega)) _)) hb)
  have n7 := hb.size
  try simp at n7
  have k7_d0 := cell_keep (a := ⟨w.heap.size, 0, none⟩) (v := .int .i64 y) (by first | (go_keep; done) | (simp [go_sem, *]; done)) hb
  have k7_d1 := cell_keep (a := ⟨w.heap.size, 1, none⟩) (v := .int .i64 m) (by first | (go_keep; done) | (simp [go_sem, *]; done)) hb
  have k7_d2 := cell_keep (a := ⟨w.heap.size, 2, none⟩) (v := .int .i64 d) (by first | (go_keep; done) | (simp [go_sem, *]; done)) hb
  have l7_d := World.block_lt_of_cell? _ _ k7_d0
  try simp only at l7_d
  clear hb k6_d0 k6_d1 k6_d2 l6_d W6
  go_wp2_with fail
  refine (E0.out _ (hT.below (by repeat (first | exact W7.out | refine blw_drewN ?_ _ | refine Below.setCell ?_ (by first | (simp; done) | omega | (simp; omega)) _ | refine Below.alloc ?_ (by first | (simp; done) | omega | (simp; omega)) _)))).mono ?_
  rintro e w8 ⟨rfl, hb⟩
  have W8 := Lib.hid (blw_trans (show Below w.heap.size w _ by repeat (first | exact W7.out | refine blw_drewN ?_ _ | refine Below.setCell ?_ (by first | (simp; done) | omega | (simp; omega)) _ | refine Below.alloc ?_ (by first | (simp; done) | omega | (simp; omega)) _)) hb)
  have n8 := hb.size
  try simp at n8
  have k8_d0 := cell_keep (a := ⟨w.heap.size, 0, none⟩) (v := .int .i64 y) (by first | (go_keep; done) | (simp [go_sem, *]; done)) hb
  have k8_d1 := cell_keep (a := ⟨w.heap.size, 1, none⟩) (v := .int .i64 m) (by first | (go_keep; done) | (simp [go_sem, *]; done)) hb
  have k8_d2 := cell_keep (a := ⟨w.heap.size, 2, none⟩) (v := .int .i64 d) (by first | (go_keep; done) | (simp [go_sem, *]; done)) hb
  have l8_d := World.block_lt_of_cell? _ _ k8_d0
  try simp only at l8_d
  clear hb k7_d0 k7_d1 k7_d2 l7_d W7
  go_wp2_with fail
  refine (CT.out _ (hT.below (by repeat (first | exact W8.out | refine blw_drewN ?_ _ | refine Below.setCell ?_ (by first | (simp; done) | omega | (simp; omega)) _ | refine Below.alloc ?_ (by first | (simp; done) | omega | (simp; omega)) _)))).mono ?_
  rintro e w9 ⟨rfl, hb⟩
  have W9 := Lib.hid (blw_trans (show Below w.heap.size w _ by repeat (first | exact W8.out | refine blw_drewN ?_ _ | refine Below.setCell ?_ (by first | (simp; done) | omega | (simp; omega)) _ | refine Below.alloc ?_ (by first | (simp; done) | omega | (simp; omega)) _)) hb)
  have n9 := hb.size
  try simp at n9
  clear hb k8_d0 k8_d1 k8_d2 l8_d W8
  go_wp2_with fail
  refine (E0.out _ (hT.below (by repeat (first | exact W9.out | refine blw_drewN ?_ _ | refine Below.setCell ?_ (by first | (simp; done) | omega | (simp; omega)) _ | refine Below.alloc ?_ (by first | (simp; done) | omega | (simp; omega)) _)))).mono ?_
  rintro e w10 ⟨rfl, hb⟩
  have W10 := Lib.hid (blw_trans (show Below w.heap.size w _ by repeat (first | exact W9.out | refine blw_drewN ?_ _ | refine Below.setCell ?_ (by first | (simp; done) | omega | (simp; omega)) _ | refine Below.alloc ?_ (by first | (simp; done) | omega | (simp; omega)) _)) hb)
  have n10 := hb.size
  try simp at n10
  clear hb W9
  go_wp2_with fail
  refine (CX.out _ (hT.below (by repeat (first | exact W10.out | refine blw_drewN ?_ _ | refine Below.setCell ?_ (by first | (simp; done) | omega | (simp; omega)) _ | refine Below.alloc ?_ (by first | (simp; done) | omega | (simp; omega)) _)))).mono ?_
  rintro e w11 ⟨rfl, hb⟩
  have W11 := Lib.hid (blw_trans (show Below w.heap.size w _ by repeat (first | exact W10.out | refine blw_drewN ?_ _ | refine Below.setCell ?_ (by first | (simp; done) | omega | (simp; omega)) _ | refine Below.alloc ?_ (by first | (simp; done) | omega | (simp; omega)) _)) hb)
  have n11 := hb.size
  try simp at n11
  clear hb W10
  go_wp2_with fail
  refine (CB.out _ (hT.below (by repeat (first | exact W11.out | refine blw_drewN ?_ _ | refine Below.setCell ?_ (by first | (simp; done) | omega | (simp; omega)) _ | refine Below.alloc ?_ (by first | (simp; done) | omega | (simp; omega)) _)))).mono ?_
  rintro e w12 ⟨rfl, hb⟩
  have W12 := Lib.hid (blw_trans (show Below w.heap.size w _ by repeat (first | exact W11.out | refine blw_drewN ?_ _ | refine Below.setCell ?_ (by first | (simp; done) | omega | (simp; omega)) _ | refine Below.alloc ?_ (by first | (simp; done) | omega | (simp; omega)) _)) hb)
  have n12 := hb.size
  try simp at n12
  have k12_x0 := cell_keep (a := ⟨w11.heap.size, 0, none⟩) (v := .int .i64 x1) (by first | (go_keep; done) | (simp [go_sem, *]; done)) hb
  have k12_x1 := cell_keep (a := ⟨w11.heap.size, 1, none⟩) (v := .int .i64 x2) (by first | (go_keep; done) | (simp [go_sem, *]; done)) hb
  have k12_x2 := cell_keep (a := ⟨w11.heap.size, 2, none⟩) (v := .int .i64 x3) (by first | (go_keep; done) | (simp [go_sem, *]; done)) hb
  have l12_x := World.block_lt_of_cell? _ _ k12_x0
  try simp only at l12_x
  clear hb W11
  go_wp2_with fail
  refine (E0.out _ (hT.below (by repeat (first | exact W12.out | refine blw_drewN ?_ _ | refine Below.setCell ?_ (by first | (simp; done) | omega | (simp; omega)) _ | refine Below.alloc ?_ (by first | (simp; done) | omega | (simp; omega)) _)))).mono ?_
  rintro e w13 ⟨rfl, hb⟩
  have W13 := Lib.hid (blw_trans (show Below w.heap.size w _ by repeat (first | exact W12.out | refine blw_drewN ?_ _ | refine Below.setCell ?_ (by first | (simp; done) | omega | (simp; omega)) _ | refine Below.alloc ?_ (by first | (simp; done) | omega | (simp; omega)) _)) hb)
  have n13 := hb.size
  try simp at n13
  have k13_x0 := cell_keep (a := ⟨w11.heap.size, 0, none⟩) (v := .int .i64 x1) (by first | (go_keep; done) | (simp [go_sem, *]; done)) hb
  have k13_x1 := cell_keep (a := ⟨w11.heap.size, 1, none⟩) (v := .int .i64 x2) (by first | (go_keep; done) | (simp [go_sem, *]; done)) hb
  have k13_x2 := cell_keep (a := ⟨w11.heap.size, 2, none⟩) (v := .int .i64 x3) (by first | (go_keep; done) | (simp [go_sem, *]; done)) hb
  have l13_x := World.block_lt_of_cell? _ _ k13_x0
  try simp only at l13_x
  have k13_b0 := cell_keep (a := ⟨w12.heap.size, 0, none⟩) (v := .int .i64 x1) (by first | (go_keep; done) | (simp [go_sem, *]; done)) hb
  have k13_b1 := cell_keep (a := ⟨w12.heap.size, 1, none⟩) (v := .int .i64 x2) (by first | (go_keep; done) | (simp [go_sem, *]; done)) hb
  have k13_b2 := cell_keep (a := ⟨w12.heap.size, 2, none⟩) (v := .int .i64 x3) (by first | (go_keep; done) | (simp [go_sem, *]; done)) hb
  have l13_b := World.block_lt_of_cell? _ _ k13_b0
  try simp only at l13_b
  clear hb k12_x0 k12_x1 k12_x2 l12_x W12
  go_wp2_with fail
  refine (CY.out _).mono ?_
  rintro e w14 ⟨g1, g2, g3, rfl, hb⟩
  have W14 := Lib.hid (blw_trans (show Below w.heap.size w _ by repeat (first | exact W13.out | refine blw_drewN ?_ _ | refine Below.setCell ?_ (by first | (simp; done) | omega | (simp; omega)) _ | refine Below.alloc ?_ (by first | (simp; done) | omega | (simp; omega)) _)) hb)
  have n14 := hb.size
  try simp at n14
  have k14_x0 := cell_keep (a := ⟨w11.heap.size, 0, none⟩) (v := .int .i64 x1) (by first | (go_keep; done) | (simp [go_sem, *]; done)) hb
  have k14_x1 := cell_keep (a := ⟨w11.heap.size, 1, none⟩) (v := .int .i64 x2) (by first | (go_keep; done) | (simp [go_sem, *]; done)) hb
  have k14_x2 := cell_keep (a := ⟨w11.heap.size, 2, none⟩) (v := .int .i64 x3) (by first | (go_keep; done) | (simp [go_sem, *]; done)) hb
  have l14_x := World.block_lt_of_cell? _ _ k14_x0
  try simp only at l14_x
  have k14_b0 := cell_keep (a := ⟨w12.heap.size, 0, none⟩) (v := .int .i64 x1) (by first | (go_keep; done) | (simp [go_sem, *]; done)) hb
  have k14_b1 := cell_keep (a := ⟨w12.heap.size, 1, none⟩) (v := .int .i64 x2) (by first | (go_keep; done) | (simp [go_sem, *]; done)) hb
  have k14_b2 := cell_keep (a := ⟨w12.heap.size, 2, none⟩) (v := .int .i64 x3) (by first | (go_keep; done) | (simp [go_sem, *]; done)) hb
  have l14_b := World.block_lt_of_cell? _ _ k14_b0
  try simp only at l14_b
  clear hb k13_x0 k13_x1 k13_x2 l13_x k13_b0 k13_b1 k13_b2 l13_b W13
  have ne1 : ¬ w14.heap.size = w11.heap.size := by omega
  have me1 : ¬ w11.heap.size = w14.heap.size := by omega
  have ne2 : ¬ w14.heap.size = w12.heap.size := by omega
  have me2 : ¬ w12.heap.size = w14.heap.size := by omega
  go_wp2_with fail
  refine (CP.out _ (hT.below (by repeat (first | exact W14.out | refine blw_drewN ?_ _ | refine Below.setCell ?_ (by first | (simp; done) | omega | (simp; omega)) _ | refine Below.alloc ?_ (by first | (simp; done) | omega | (simp; omega)) _)))).mono ?_
  rintro e w15 ⟨rfl, hb⟩
  have W15 := Lib.hid (blw_trans (show Below w.heap.size w _ by repeat (first | exact W14.out | refine blw_drewN ?_ _ | refine Below.setCell ?_ (by first | (simp; done) | omega | (simp; omega)) _ | refine Below.alloc ?_ (by first | (simp; done) | omega | (simp; omega)) _)) hb)
  have n15 := hb.size
  try simp at n15
  have k15_x0 := cell_keep (a := ⟨w11.heap.size, 0, none⟩) (v := .int .i64 x1) (by first | (go_keep; done) | (simp [go_sem, *]; done)) hb
  have k15_x1 := cell_keep (a := ⟨w11.heap.size, 1, none⟩) (v := .int .i64 x2) (by first | (go_keep; done) | (simp [go_sem, *]; done)) hb
  have k15_x2 := cell_keep (a := ⟨w11.heap.size, 2, none⟩) (v := .int .i64 x3) (by first | (go_keep; done) | (simp [go_sem, *]; done)) hb
  have l15_x := World.block_lt_of_cell? _ _ k15_x0
  try simp only at l15_x
  have k15_b0 := cell_keep (a := ⟨w12.heap.size, 0, none⟩) (v := .int .i64 x1) (by first | (go_keep; done) | (simp [go_sem, *]; done)) hb
  have k15_b1 := cell_keep (a := ⟨w12.heap.size, 1, none⟩) (v := .int .i64 x2) (by first | (go_keep; done) | (simp [go_sem, *]; done)) hb
  have k15_b2 := cell_keep (a := ⟨w12.heap.size, 2, none⟩) (v := .int .i64 x3) (by first | (go_keep; done) | (simp [go_sem, *]; done)) hb
  have l15_b := World.block_lt_of_cell? _ _ k15_b0
  try simp only at l15_b
  have k15_u0 := cell_keep (a := ⟨w14.heap.size, 0, none⟩) (v := .int .i64 0) (by first | (go_keep; done) | (simp [go_sem, *]; done)) hb
  have k15_u1 := cell_keep (a := ⟨w14.heap.size, 1, none⟩) (v := .int .i64 0) (by first | (go_keep; done) | (simp [go_sem, *]; done)) hb
  have k15_u2 := cell_keep (a := ⟨w14.heap.size, 2, none⟩) (v := .int .i64 0) (by first | (go_keep; done) | (simp [go_sem, *]; done)) hb
  have l15_u := World.block_lt_of_cell? _ _ k15_u0
  try simp only at l15_u
  clear hb k14_x0 k14_x1 k14_x2 l14_x k14_b0 k14_b1 k14_b2 l14_b W14
  go_wp2_with fail
  refine (E3.out _ (hT.below (by repeat (first | exact W15.out | refine blw_drewN ?_ _ | refine Below.setCell ?_ (by first | (simp; done) | omega | (simp; omega)) _ | refine Below.alloc ?_ (by first | (simp; done) | omega | (simp; omega)) _)))).mono ?_
  rintro e w16 ⟨rfl, hb⟩
  have W16 := Lib.hid (blw_trans (show Below w.heap.size w _ by repeat (first | exact W15.out | refine blw_drewN ?_ _ | refine Below.setCell ?_ (by first | (simp; done) | omega | (simp; omega)) _ | refine Below.alloc ?_ (by first | (simp; done) | omega | (simp; omega)) _)) hb)
  have n16 := hb.size
  try simp at n16
  have k16_x0 := cell_keep (a := ⟨w11.heap.size, 0, none⟩) (v := .int .i64 x1) (by first | (go_keep; done) | (simp [go_sem, *]; done)) hb
  have k16_x1 := cell_keep (a := ⟨w11.heap.size, 1, none⟩) (v := .int .i64 x2) (by first | (go_keep; done) | (simp [go_sem, *]; done)) hb
  have k16_x2 := cell_keep (a := ⟨w11.heap.size, 2, none⟩) (v := .int .i64 x3) (by first | (go_keep; done) | (simp [go_sem, *]; done)) hb
  have l16_x := World.block_lt_of_cell? _ _ k16_x0
  try simp only at l16_x
  have k16_b0 := cell_keep (a := ⟨w12.heap.size, 0, none⟩) (v := .int .i64 x1) (by first | (go_keep; done) | (simp [go_sem, *]; done)) hb
  have k16_b1 := cell_keep (a := ⟨w12.heap.size, 1, none⟩) (v := .int .i64 x2) (by first | (go_keep; done) | (simp [go_sem, *]; done)) hb
  have k16_b2 := cell_keep (a := ⟨w12.heap.size, 2, none⟩) (v := .int .i64 x3) (by first | (go_keep; done) | (simp [go_sem, *]; done)) hb
  have l16_b := World.block_lt_of_cell? _ _ k16_b0
  try simp only at l16_b
  have k16_u0 := cell_keep (a := ⟨w14.heap.size, 0, none⟩) (v := .int .i64 0) (by first | (go_keep; done) | (simp [go_sem, *]; done)) hb
  have k16_u1 := cell_keep (a := ⟨w14.heap.size, 1, none⟩) (v := .int .i64 0) (by first | (go_keep; done) | (simp [go_sem, *]; done)) hb
  have k16_u2 := cell_keep (a := ⟨w14.heap.size, 2, none⟩) (v := .int .i64 0) (by first | (go_keep; done) | (simp [go_sem, *]; done)) hb
  have l16_u := World.block_lt_of_cell? _ _ k16_u0
  try simp only at l16_u
  have k16_p0 := cell_keep (a := ⟨w15.heap.size, 0, none⟩) (v := .int .i64 0) (by first | (go_keep; done) | (simp [go_sem, *]; done)) hb
  have k16_p1 := cell_keep (a := ⟨w15.heap.size, 1, none⟩) (v := .int .i64 0) (by first | (go_keep; done) | (simp [go_sem, *]; done)) hb
  have k16_p2 := cell_keep (a := ⟨w15.heap.size, 2, none⟩) (v := .int .i64 0) (by first | (go_keep; done) | (simp [go_sem, *]; done)) hb
  have l16_p := World.block_lt_of_cell? _ _ k16_p0
  try simp only at l16_p
  clear hb k15_x0 k15_x1 k15_x2 l15_x k15_b0 k15_b1 k15_b2 l15_b k15_u0 k15_u1 k15_u2 l15_u W15
  go_wp2
  go_ret
  exact ⟨ret_bool (by simp), by repeat (first | exact W16.out | refine blw_drewN ?_ _ | refine Below.setCell ?_ (by first | (simp; done) | omega | (simp; omega)) _ | refine Below.alloc ?_ (by first | (simp; done) | omega | (simp; omega)) _)⟩

set_option maxRecDepth 100000 in
set_option maxHeartbeats 4000000 in
theorem dateTells_ynn (y m d n x1 x2 x3 : Int) (s : List UInt8) (w : World) (hT : PMH w)
    (CF : Hid (∀ w : World, PMH w → Calls Tryz.prog 5 #[.agg #[.int .i64 y, .int .i64 m, .int .i64 d]] w fun e w' => e = .returned (.bool true) ∧ Below w.heap.size w w'))
    (CK : Hid (∀ w : World, PMH w → Calls Tryz.prog 9 #[.agg #[.int .i64 y, .int .i64 m, .int .i64 d]] w fun e w' => e = .returned (errV 1) ∧ Below w.heap.size w w'))
    (CN : Hid (∀ w : World, PMH w → Calls Tryz.prog 10 #[.agg #[.int .i64 y, .int .i64 m, .int .i64 d]] w fun e w' => e = .returned (.tuple #[.int .i64 0, errV 1]) ∧ Below w.heap.size w w'))
    (CT : Hid (∀ w : World, PMH w → Calls Tryz.prog 11 #[.agg #[.int .i64 y, .int .i64 m, .int .i64 d]] w fun e w' => e = .returned (.tuple #[.string ⟨#[]⟩, errV 1]) ∧ Below w.heap.size w w'))
    (CX : Hid (∀ w : World, PMH w → Calls Tryz.prog 12 #[.int .i64 n] w fun e w' => e = .returned (.tuple #[.agg #[.int .i64 x1, .int .i64 x2, .int .i64 x3], .bool true]) ∧ Below w.heap.size w w'))
    (CB : Hid (∀ w : World, PMH w → Calls Tryz.prog 13 #[.int .i64 n] w fun e w' => e = .returned (.tuple #[.agg #[.int .i64 x1, .int .i64 x2, .int .i64 x3], .nilIface]) ∧ Below w.heap.size w w'))
    (CY : Hid (∀ w : World, Calls Tryz.prog 14 #[.string ⟨s.toArray⟩] w (NoDay w)))
    (CP : Hid (∀ w : World, PMH w → Calls Tryz.prog 15 #[.string ⟨s.toArray⟩] w fun e w' => e = .returned (.tuple #[.agg #[.int .i64 0, .int .i64 0, .int .i64 0], errV 3]) ∧ Below w.heap.size w w')) :
    Calls Tryz.prog 3 #[.agg #[.int .i64 y, .int .i64 m, .int .i64 d], .int .i64 n, .string ⟨s.toArray⟩] w fun e w' => e = .returned (.bool true) ∧ Below w.heap.size w w' := by
  have C0 := Lib.hid fun w (hT : PMH w) => dated_any w hT.p.t
  have E0 := Lib.hid fun w (hT : PMH w) => sameErr_yes ErrNo.nil w hT.h
  have E1 := Lib.hid fun w (hT : PMH w) => sameErr_yes (ErrNo.no 1) w hT.h
  have E3 := Lib.hid fun w (hT : PMH w) => sameErr_yes (ErrNo.no 3) w hT.h
  go_enter Tryz.func3, Tryz.ntmps3
  go_wp2_with fail
  refine (C0.out _ (hT.below (by repeat (first | exact (Below.refl _ _) | refine blw_drewN ?_ _ | refine Below.setCell ?_ (by first | (simp; done) | omega | (simp; omega)) _ | refine Below.alloc ?_ (by first | (simp; done) | omega | (simp; omega)) _)))).mono ?_
  rintro e w1 ⟨rfl, hb⟩
  have W1 := Lib.hid (blw_trans (show Below w.heap.size w _ by repeat (first | exact (Below.refl _ _) | refine blw_drewN ?_ _ | refine Below.setCell ?_ (by first | (simp; done) | omega | (simp; omega)) _ | refine Below.alloc ?_ (by first | (simp; done) | omega | (simp; omega)) _)) hb)
  have n1 := hb.size
  try simp at n1
  have k1_d0 := cell_keep (a := ⟨w.heap.size, 0, none⟩) (v := .int .i64 y) (by first | (go_keep; done) | (simp [go_sem, *]; done)) hb
  have k1_d1 := cell_keep (a := ⟨w.heap.size, 1, none⟩) (v := .int .i64 m) (by first | (go_keep; done) | (simp [go_sem, *]; done)) hb
  have k1_d2 := cell_keep (a := ⟨w.heap.size, 2, none⟩) (v := .int .i64 d) (by first | (go_keep; done) | (simp [go_sem, *]; done)) hb
  have l1_d := World.block_lt_of_cell? _ _ k1_d0
  try simp only at l1_d
  clear hb
  go_wp2_with fail
  refine (CF.out _ (hT.below (by repeat (first | exact W1.out | refine blw_drewN ?_ _ | refine Below.setCell ?_ (by first | (simp; done) | omega | (simp; omega)) _ | refine Below.alloc ?_ (by first | (simp; done) | omega | (simp; omega)) _)))).mono ?_
  rintro e w2 ⟨rfl, hb⟩
  have W2 := Lib.hid (blw_trans (show Below w.heap.size w _ by repeat (first | exact W1.out | refine blw_drewN ?_ _ | refine Below.setCell ?_ (by first | (simp; done) | omega | (simp; omega)) _ | refine Below.alloc ?_ (by first | (simp; done) | omega | (simp; omega)) _)) hb)
  have n2 := hb.size
  try simp at n2
  have k2_d0 := cell_keep (a := ⟨w.heap.size, 0, none⟩) (v := .int .i64 y) (by first | (go_keep; done) | (simp [go_sem, *]; done)) hb
  have k2_d1 := cell_keep (a := ⟨w.heap.size, 1, none⟩) (v := .int .i64 m) (by first | (go_keep; done) | (simp [go_sem, *]; done)) hb
  have k2_d2 := cell_keep (a := ⟨w.heap.size, 2, none⟩) (v := .int .i64 d) (by first | (go_keep; done) | (simp [go_sem, *]; done)) hb
  have l2_d := World.block_lt_of_cell? _ _ k2_d0
  try simp only at l2_d
  clear hb k1_d0 k1_d1 k1_d2 l1_d W1
  go_wp2_with fail
  refine (CK.out _ (hT.below (by repeat (first | exact W2.out | refine blw_drewN ?_ _ | refine Below.setCell ?_ (by first | (simp; done) | omega | (simp; omega)) _ | refine Below.alloc ?_ (by first | (simp; done) | omega | (simp; omega)) _)))).mono ?_
  rintro e w3 ⟨rfl, hb⟩
  have W3 := Lib.hid (blw_trans (show Below w.heap.size w _ by repeat (first | exact W2.out | refine blw_drewN ?_ _ | refine Below.setCell ?_ (by first | (simp; done) | omega | (simp; omega)) _ | refine Below.alloc ?_ (by first | (simp; done) | omega | (simp; omega)) _)) hb)
  have n3 := hb.size
  try simp at n3
  have k3_d0 := cell_keep (a := ⟨w.heap.size, 0, none⟩) (v := .int .i64 y) (by first | (go_keep; done) | (simp [go_sem, *]; done)) hb
  have k3_d1 := cell_keep (a := ⟨w.heap.size, 1, none⟩) (v := .int .i64 m) (by first | (go_keep; done) | (simp [go_sem, *]; done)) hb
  have k3_d2 := cell_keep (a := ⟨w.heap.size, 2, none⟩) (v := .int .i64 d) (by first | (go_keep; done) | (simp [go_sem, *]; done)) hb
  have l3_d := World.block_lt_of_cell? _ _ k3_d0
  try simp only at l3_d
  clear hb k2_d0 k2_d1 k2_d2 l2_d W2
  go_wp2_with fail
  refine (E1.out _ (hT.below (by repeat (first | exact W3.out | refine blw_drewN ?_ _ | refine Below.setCell ?_ (by first | (simp; done) | omega | (simp; omega)) _ | refine Below.alloc ?_ (by first | (simp; done) | omega | (simp; omega)) _)))).mono ?_
  rintro e w4 ⟨rfl, hb⟩
  have W4 := Lib.hid (blw_trans (show Below w.heap.size w _ by repeat (first | exact W3.out | refine blw_drewN ?_ _ | refine Below.setCell ?_ (by first | (simp; done) | omega | (simp; omega)) _ | refine Below.alloc ?_ (by first | (simp; done) | omega | (simp; omega)) _)) hb)
  have n4 := hb.size
  try simp at n4
  have k4_d0 := cell_keep (a := ⟨w.heap.size, 0, none⟩) (v := .int .i64 y) (by first | (go_keep; done) | (simp [go_sem, *]; done)) hb
  have k4_d1 := cell_keep (a := ⟨w.heap.size, 1, none⟩) (v := .int .i64 m) (by first | (go_keep; done) | (simp [go_sem, *]; done)) hb
  have k4_d2 := cell_keep (a := ⟨w.heap.size, 2, none⟩) (v := .int .i64 d) (by first | (go_keep; done) | (simp [go_sem, *]; done)) hb
  have l4_d := World.block_lt_of_cell? _ _ k4_d0
  try simp only at l4_d
  clear hb k3_d0 k3_d1 k3_d2 l3_d W3
  go_wp2_with fail
  refine (CN.out _ (hT.below (by repeat (first | exact W4.out | refine blw_drewN ?_ _ | refine Below.setCell ?_ (by first | (simp; done) | omega | (simp; omega)) _ | refine Below.alloc ?_ (by first | (simp; done) | omega | (simp; omega)) _)))).mono ?_
  rintro e w5 ⟨rfl, hb⟩
  have W5 := Lib.hid (blw_trans (show Below w.heap.size w _ by repeat (first | exact W4.out | refine blw_drewN ?_ _ | refine Below.setCell ?_ (by first | (simp; done) | omega | (simp; omega)) _ | refine Below.alloc ?_ (by first | (simp; done) | omega | (simp; omega)) _)) hb)
  have n5 := hb.size
  try simp at n5
  have k5_d0 := cell_keep (a := ⟨w.heap.size, 0, none⟩) (v := .int .i64 y) (by first | (go_keep; done) | (simp [go_sem, *]; done)) hb
  have k5_d1 := cell_keep (a := ⟨w.heap.size, 1, none⟩) (v := .int .i64 m) (by first | (go_keep; done) | (simp [go_sem, *]; done)) hb
  have k5_d2 := cell_keep (a := ⟨w.heap.size, 2, none⟩) (v := .int .i64 d) (by first | (go_keep; done) | (simp [go_sem, *]; done)) hb
  have l5_d := World.block_lt_of_cell? _ _ k5_d0
  try simp only at l5_d
  clear hb k4_d0 k4_d1 k4_d2 l4_d W4
  go_wp2_with fail
  refine (E1.out _ (hT.below (by repeat (first | exact W5.out | refine blw_drewN ?_ _ | refine Below.setCell ?_ (by first | (simp; done) | omega | (simp; omega)) _ | refine Below.alloc ?_ (by first | (simp; done) | omega | (simp; omega)) _)))).mono ?_
  rintro e w6 ⟨rfl, hb⟩
  have W6 := Lib.hid (blw_trans (show Below w.heap.size w _ by repeat (first | exact W5.out | refine blw_drewN ?_ _ | refine Below.setCell ?_ (by first | (simp; done) | omega | (simp; omega)) _ | refine Below.alloc ?_ (by first | (simp; done) | omega | (simp; omega)) _)) hb)
  have n6 := hb.size
  try simp at n6
  have k6_d0 := cell_keep (a := ⟨w.heap.size, 0, none⟩) (v := .int .i64 y) (by first | (go_keep; done) | (simp [go_sem, *]; done)) hb
  have k6_d1 := cell_keep (a := ⟨w.heap.size, 1, none⟩) (v := .int .i64 m) (by first | (go_keep; done) | (simp [go_sem, *]; done)) hb
  have k6_d2 := cell_keep (a := ⟨w.heap.size, 2, none⟩) (v := .int .i64 d) (by first | (go_keep; done) | (simp [go_sem, *]; done)) hb
  have l6_d := World.block_lt_of_cell? _ _ k6_d0
  try simp only at l6_d
  clear hb k5_d0 k5_d1 k5_d2 l5_d W5
  go_wp2_with fail
  refine (CT.out _ (hT.below (by repeat (first | exact W6.out | refine blw_drewN ?_ _ | refine Below.setCell ?_ (by first | (simp; done) | omega | (simp; omega)) _ | refine Below.alloc ?_ (by first | (simp; done) | omega | (simp; omega)) _)))).mono ?_
  rintro e w7 ⟨rfl, hb⟩
  have W7 := Lib.hid (blw_trans (show Below w.heap.size w _ by repeat (first | exact W6.out | refine blw_drewN ?_ _ | refine Below.setCell ?_ (by first | (simp; done) | omega | (simp; omega)) _ | refine Below.alloc ?_ (by first | (simp; done) | omega | (simp; omega)) _)) hb)
  have n7 := hb.size
  try simp at n7
  clear hb k6_d0 k6_d1 k6_d2 l6_d W6
  go_wp2_with fail
  refine (E1.out _ (hT.below (by repeat (first | exact W7.out | refine blw_drewN ?_ _ | refine Below.setCell ?_ (by first | (simp; done) | omega | (simp; omega)) _ | refine Below.alloc ?_ (by first | (simp; done) | omega | (simp; omega)) _)))).mono ?_
  rintro e w8 ⟨rfl, hb⟩
  have W8 := Lib.hid (blw_trans (show Below w.heap.size w _ by repeat (first | exact W7.out | refine blw_drewN ?_ _ | refine Below.setCell ?_ (by first | (simp; done) | omega | (simp; omega)) _ | refine Below.alloc ?_ (by first | (simp; done) | omega | (simp; omega)) _)) hb)
  have n8 := hb.size
  try simp at n8
  clear hb W7
  go_wp2_with fail
  refine (CX.out _ (hT.below (by repeat (first | exact W8.out | refine blw_drewN ?_ _ | refine Below.setCell ?_ (by first | (simp; done) | omega | (simp; omega)) _ | refine Below.alloc ?_ (by first | (simp; done) | omega | (simp; omega)) _)))).mono ?_
  rintro e w9 ⟨rfl, hb⟩
  have W9 := Lib.hid (blw_trans (show Below w.heap.size w _ by repeat (first | exact W8.out | refine blw_drewN ?_ _ | refine Below.setCell ?_ (by first | (simp; done) | omega | (simp; omega)) _ | refine Below.alloc ?_ (by first | (simp; done) | omega | (simp; omega)) _)) hb)
  have n9 := hb.size
  try simp at n9
  clear hb W8
  go_wp2_with fail
  refine (CB.out _ (hT.below (by repeat (first | exact W9.out | refine blw_drewN ?_ _ | refine Below.setCell ?_ (by first | (simp; done) | omega | (simp; omega)) _ | refine Below.alloc ?_ (by first | (simp; done) | omega | (simp; omega)) _)))).mono ?_
  rintro e w10 ⟨rfl, hb⟩
  have W10 := Lib.hid (blw_trans (show Below w.heap.size w _ by repeat (first | exact W9.out | refine blw_drewN ?_ _ | refine Below.setCell ?_ (by first | (simp; done) | omega | (simp; omega)) _ | refine Below.alloc ?_ (by first | (simp; done) | omega | (simp; omega)) _)) hb)
  have n10 := hb.size
  try simp at n10
  have k10_x0 := cell_keep (a := ⟨w9.heap.size, 0, none⟩) (v := .int .i64 x1) (by first | (go_keep; done) | (simp [go_sem, *]; done)) hb
  have k10_x1 := cell_keep (a := ⟨w9.heap.size, 1, none⟩) (v := .int .i64 x2) (by first | (go_keep; done) | (simp [go_sem, *]; done)) hb
  have k10_x2 := cell_keep (a := ⟨w9.heap.size, 2, none⟩) (v := .int .i64 x3) (by first | (go_keep; done) | (simp [go_sem, *]; done)) hb
  have l10_x := World.block_lt_of_cell? _ _ k10_x0
  try simp only at l10_x
  clear hb W9
  go_wp2_with fail
  refine (E0.out _ (hT.below (by repeat (first | exact W10.out | refine blw_drewN ?_ _ | refine Below.setCell ?_ (by first | (simp; done) | omega | (simp; omega)) _ | refine Below.alloc ?_ (by first | (simp; done) | omega | (simp; omega)) _)))).mono ?_
  rintro e w11 ⟨rfl, hb⟩
  have W11 := Lib.hid (blw_trans (show Below w.heap.size w _ by repeat (first | exact W10.out | refine blw_drewN ?_ _ | refine Below.setCell ?_ (by first | (simp; done) | omega | (simp; omega)) _ | refine Below.alloc ?_ (by first | (simp; done) | omega | (simp; omega)) _)) hb)
  have n11 := hb.size
  try simp at n11
  have k11_x0 := cell_keep (a := ⟨w9.heap.size, 0, none⟩) (v := .int .i64 x1) (by first | (go_keep; done) | (simp [go_sem, *]; done)) hb
  have k11_x1 := cell_keep (a := ⟨w9.heap.size, 1, none⟩) (v := .int .i64 x2) (by first | (go_keep; done) | (simp [go_sem, *]; done)) hb
  have k11_x2 := cell_keep (a := ⟨w9.heap.size, 2, none⟩) (v := .int .i64 x3) (by first | (go_keep; done) | (simp [go_sem, *]; done)) hb
  have l11_x := World.block_lt_of_cell? _ _ k11_x0
  try simp only at l11_x
  have k11_b0 := cell_keep (a := ⟨w10.heap.size, 0, none⟩) (v := .int .i64 x1) (by first | (go_keep; done) | (simp [go_sem, *]; done)) hb
  have k11_b1 := cell_keep (a := ⟨w10.heap.size, 1, none⟩) (v := .int .i64 x2) (by first | (go_keep; done) | (simp [go_sem, *]; done)) hb
  have k11_b2 := cell_keep (a := ⟨w10.heap.size, 2, none⟩) (v := .int .i64 x3) (by first | (go_keep; done) | (simp [go_sem, *]; done)) hb
  have l11_b := World.block_lt_of_cell? _ _ k11_b0
  try simp only at l11_b
  clear hb k10_x0 k10_x1 k10_x2 l10_x W10
  go_wp2_with fail
  refine (CY.out _).mono ?_
  rintro e w12 ⟨g1, g2, g3, rfl, hb⟩
  have W12 := Lib.hid (blw_trans (show Below w.heap.size w _ by repeat (first | exact W11.out | refine blw_drewN ?_ _ | refine Below.setCell ?_ (by first | (simp; done) | omega | (simp; omega)) _ | refine Below.alloc ?_ (by first | (simp; done) | omega | (simp; omega)) _)) hb)
  have n12 := hb.size
  try simp at n12
  have k12_x0 := cell_keep (a := ⟨w9.heap.size, 0, none⟩) (v := .int .i64 x1) (by first | (go_keep; done) | (simp [go_sem, *]; done)) hb
  have k12_x1 := cell_keep (a := ⟨w9.heap.size, 1, none⟩) (v := .int .i64 x2) (by first | (go_keep; done) | (simp [go_sem, *]; done)) hb
  have k12_x2 := cell_keep (a := ⟨w9.heap.size, 2, none⟩) (v := .int .i64 x3) (by first | (go_keep; done) | (simp [go_sem, *]; done)) hb
  have l12_x := World.block_lt_of_cell? _ _ k12_x0
  try simp only at l12_x
  have k12_b0 := cell_keep (a := ⟨w10.heap.size, 0, none⟩) (v := .int .i64 x1) (by first | (go_keep; done) | (simp [go_sem, *]; done)) hb
  have k12_b1 := cell_keep (a := ⟨w10.heap.size, 1, none⟩) (v := .int .i64 x2) (by first | (go_keep; done) | (simp [go_sem, *]; done)) hb
  have k12_b2 := cell_keep (a := ⟨w10.heap.size, 2, none⟩) (v := .int .i64 x3) (by first | (go_keep; done) | (simp [go_sem, *]; done)) hb
  have l12_b := World.block_lt_of_cell? _ _ k12_b0
  try simp only at l12_b
  clear hb k11_x0 k11_x1 k11_x2 l11_x k11_b0 k11_b1 k11_b2 l11_b W11
  have ne1 : ¬ w12.heap.size = w9.heap.size := by omega
  have me1 : ¬ w9.heap.size = w12.heap.size := by omega
  have ne2 : ¬ w12.heap.size = w10.heap.size := by omega
  have me2 : ¬ w10.heap.size = w12.heap.size := by omega
  go_wp2_with fail
  refine (CP.out _ (hT.below (by repeat (first | exact W12.out | refine blw_drewN ?_ _ | refine Below.setCell ?_ (by first | (simp; done) | omega | (simp; omega)) _ | refine Below.alloc ?_ (by first | (simp; done) | omega | (simp; omega)) _)))).mono ?_
  rintro e w13 ⟨rfl, hb⟩
  have W13 := Lib.hid (blw_trans (show Below w.heap.size w _ by repeat (first | exact W12.out | refine blw_drewN ?_ _ | refine Below.setCell ?_ (by first | (simp; done) | omega | (simp; omega)) _ | refine Below.alloc ?_ (by first | (simp; done) | omega | (simp; omega)) _)) hb)
  have n13 := hb.size
  try simp at n13
  have k13_x0 := cell_keep (a := ⟨w9.heap.size, 0, none⟩) (v := .int .i64 x1) (by first | (go_keep; done) | (simp [go_sem, *]; done)) hb
  have k13_x1 := cell_keep (a := ⟨w9.heap.size, 1, none⟩) (v := .int .i64 x2) (by first | (go_keep; done) | (simp [go_sem, *]; done)) hb
  have k13_x2 := cell_keep (a := ⟨w9.heap.size, 2, none⟩) (v := .int .i64 x3) (by first | (go_keep; done) | (simp [go_sem, *]; done)) hb
  have l13_x := World.block_lt_of_cell? _ _ k13_x0
  try simp only at l13_x
  have k13_b0 := cell_keep (a := ⟨w10.heap.size, 0, none⟩) (v := .int .i64 x1) (by first | (go_keep; done) | (simp [go_sem, *]; done)) hb
  have k13_b1 := cell_keep (a := ⟨w10.heap.size, 1, none⟩) (v := .int .i64 x2) (by first | (go_keep; done) | (simp [go_sem, *]; done)) hb
  have k13_b2 := cell_keep (a := ⟨w10.heap.size, 2, none⟩) (v := .int .i64 x3) (by first | (go_keep; done) | (simp [go_sem, *]; done)) hb
  have l13_b := World.block_lt_of_cell? _ _ k13_b0
  try simp only at l13_b
  have k13_u0 := cell_keep (a := ⟨w12.heap.size, 0, none⟩) (v := .int .i64 0) (by first | (go_keep; done) | (simp [go_sem, *]; done)) hb
  have k13_u1 := cell_keep (a := ⟨w12.heap.size, 1, none⟩) (v := .int .i64 0) (by first | (go_keep; done) | (simp [go_sem, *]; done)) hb
  have k13_u2 := cell_keep (a := ⟨w12.heap.size, 2, none⟩) (v := .int .i64 0) (by first | (go_keep; done) | (simp [go_sem, *]; done)) hb
  have l13_u := World.block_lt_of_cell? _ _ k13_u0
  try simp only at l13_u
  clear hb k12_x0 k12_x1 k12_x2 l12_x k12_b0 k12_b1 k12_b2 l12_b W12
  go_wp2_with fail
  refine (E3.out _ (hT.below (by repeat (first | exact W13.out | refine blw_drewN ?_ _ | refine Below.setCell ?_ (by first | (simp; done) | omega | (simp; omega)) _ | refine Below.alloc ?_ (by first | (simp; done) | omega | (simp; omega)) _)))).mono ?_
  rintro e w14 ⟨rfl, hb⟩
  have W14 := Lib.hid (blw_trans (show Below w.heap.size w _ by repeat (first | exact W13.out | refine blw_drewN ?_ _ | refine Below.setCell ?_ (by first | (simp; done) | omega | (simp; omega)) _ | refine Below.alloc ?_ (by first | (simp; done) | omega | (simp; omega)) _)) hb)
  have n14 := hb.size
  try simp at n14
  have k14_x0 := cell_keep (a := ⟨w9.heap.size, 0, none⟩) (v := .int .i64 x1) (by first | (go_keep; done) | (simp [go_sem, *]; done)) hb
  have k14_x1 := cell_keep (a := ⟨w9.heap.size, 1, none⟩) (v := .int .i64 x2) (by first | (go_keep; done) | (simp [go_sem, *]; done)) hb
  have k14_x2 := cell_keep (a := ⟨w9.heap.size, 2, none⟩) (v := .int .i64 x3) (by first | (go_keep; done) | (simp [go_sem, *]; done)) hb
  have l14_x := World.block_lt_of_cell? _ _ k14_x0
  try simp only at l14_x
  have k14_b0 := cell_keep (a := ⟨w10.heap.size, 0, none⟩) (v := .int .i64 x1) (by first | (go_keep; done) | (simp [go_sem, *]; done)) hb
  have k14_b1 := cell_keep (a := ⟨w10.heap.size, 1, none⟩) (v := .int .i64 x2) (by first | (go_keep; done) | (simp [go_sem, *]; done)) hb
  have k14_b2 := cell_keep (a := ⟨w10.heap.size, 2, none⟩) (v := .int .i64 x3) (by first | (go_keep; done) | (simp [go_sem, *]; done)) hb
  have l14_b := World.block_lt_of_cell? _ _ k14_b0
  try simp only at l14_b
  have k14_u0 := cell_keep (a := ⟨w12.heap.size, 0, none⟩) (v := .int .i64 0) (by first | (go_keep; done) | (simp [go_sem, *]; done)) hb
  have k14_u1 := cell_keep (a := ⟨w12.heap.size, 1, none⟩) (v := .int .i64 0) (by first | (go_keep; done) | (simp [go_sem, *]; done)) hb
  have k14_u2 := cell_keep (a := ⟨w12.heap.size, 2, none⟩) (v := .int .i64 0) (by first | (go_keep; done) | (simp [go_sem, *]; done)) hb
  have l14_u := World.block_lt_of_cell? _ _ k14_u0
  try simp only at l14_u
  have k14_p0 := cell_keep (a := ⟨w13.heap.size, 0, none⟩) (v := .int .i64 0) (by first | (go_keep; done) | (simp [go_sem, *]; done)) hb
  have k14_p1 := cell_keep (a := ⟨w13.heap.size, 1, none⟩) (v := .int .i64 0) (by first | (go_keep; done) | (simp [go_sem, *]; done)) hb
  have k14_p2 := cell_keep (a := ⟨w13.heap.size, 2, none⟩) (v := .int .i64 0) (by first | (go_keep; done) | (simp [go_sem, *]; done)) hb
  have l14_p := World.block_lt_of_cell? _ _ k14_p0
  try simp only at l14_p
  clear hb k13_x0 k13_x1 k13_x2 l13_x k13_b0 k13_b1 k13_b2 l13_b k13_u0 k13_u1 k13_u2 l13_u W13
  go_wp2
  go_ret
  exact ⟨ret_bool (by simp), by repeat (first | exact W14.out | refine blw_drewN ?_ _ | refine Below.setCell ?_ (by first | (simp; done) | omega | (simp; omega)) _ | refine Below.alloc ?_ (by first | (simp; done) | omega | (simp; omega)) _)⟩

set_option maxRecDepth 100000 in
set_option maxHeartbeats 4000000 in
theorem dateTells_nyy (y m d n y1 y2 y3 k : Int) (s D : List UInt8) (w : World) (hT : PMH w)
    (CF : Hid (∀ w : World, PMH w → Calls Tryz.prog 5 #[.agg #[.int .i64 y, .int .i64 m, .int .i64 d]] w fun e w' => e = .returned (.bool false) ∧ Below w.heap.size w w'))
    (CU : Hid (∀ w : World, PMH w → Calls Tryz.prog 6 #[.agg #[.int .i64 y, .int .i64 m, .int .i64 d]] w fun e w' => e = .returned (.int .i64 k) ∧ Below w.heap.size w w'))
    (CV : Hid (∀ w : World, PMH w → Calls Tryz.prog 7 #[.agg #[.int .i64 y, .int .i64 m, .int .i64 d]] w fun e w' => e = .returned (.string ⟨D.toArray⟩) ∧ Below w.heap.size w w'))
    (CK : Hid (∀ w : World, PMH w → Calls Tryz.prog 9 #[.agg #[.int .i64 y, .int .i64 m, .int .i64 d]] w fun e w' => e = .returned (.nilIface) ∧ Below w.heap.size w w'))
    (CN : Hid (∀ w : World, PMH w → Calls Tryz.prog 10 #[.agg #[.int .i64 y, .int .i64 m, .int .i64 d]] w fun e w' => e = .returned (.tuple #[.int .i64 k, .nilIface]) ∧ Below w.heap.size w w'))
    (CT : Hid (∀ w : World, PMH w → Calls Tryz.prog 11 #[.agg #[.int .i64 y, .int .i64 m, .int .i64 d]] w fun e w' => e = .returned (.tuple #[.string ⟨D.toArray⟩, .nilIface]) ∧ Below w.heap.size w w'))
    (CX : Hid (∀ w : World, PMH w → Calls Tryz.prog 12 #[.int .i64 n] w fun e w' => e = .returned (.tuple #[.agg #[.int .i64 0, .int .i64 0, .int .i64 0], .bool false]) ∧ Below w.heap.size w w'))
    (CB : Hid (∀ w : World, PMH w → Calls Tryz.prog 13 #[.int .i64 n] w fun e w' => e = .returned (.tuple #[.agg #[.int .i64 0, .int .i64 0, .int .i64 0], errV 1]) ∧ Below w.heap.size w w'))
    (CY : Hid (∀ w : World, PMH w → Calls Tryz.prog 14 #[.string ⟨s.toArray⟩] w fun e w' => e = .returned (.tuple #[.agg #[.int .i64 y1, .int .i64 y2, .int .i64 y3], .bool true]) ∧ Below w.heap.size w w'))
    (CP : Hid (∀ w : World, PMH w → Calls Tryz.prog 15 #[.string ⟨s.toArray⟩] w fun e w' => e = .returned (.tuple #[.agg #[.int .i64 y1, .int .i64 y2, .int .i64 y3], .nilIface]) ∧ Below w.heap.size w w')) :
    Calls Tryz.prog 3 #[.agg #[.int .i64 y, .int .i64 m, .int .i64 d], .int .i64 n, .string ⟨s.toArray⟩] w fun e w' => e = .returned (.bool true) ∧ Below w.heap.size w w' := by
  have C0 := Lib.hid fun w (hT : PMH w) => dated_any w hT.p.t
  have E0 := Lib.hid fun w (hT : PMH w) => sameErr_yes ErrNo.nil w hT.h
  have E1 := Lib.hid fun w (hT : PMH w) => sameErr_yes (ErrNo.no 1) w hT.h
  have E3 := Lib.hid fun w (hT : PMH w) => sameErr_yes (ErrNo.no 3) w hT.h
  go_enter Tryz.func3, Tryz.ntmps3
  go_wp2_with fail
  refine (C0.out _ (hT.below (by repeat (first | exact (Below.refl _ _) | refine blw_drewN ?_ _ | refine Below.setCell ?_ (by first | (simp; done) | omega | (simp; omega)) _ | refine Below.alloc ?_ (by first | (simp; done) | omega | (simp; omega)) _)))).mono ?_
  rintro e w1 ⟨rfl, hb⟩
  have W1 := Lib.hid (blw_trans (show Below w.heap.size w _ by repeat (first | exact (Below.refl _ _) | refine blw_drewN ?_ _ | refine Below.setCell ?_ (by first | (simp; done) | omega | (simp; omega)) _ | refine Below.alloc ?_ (by first | (simp; done) | omega | (simp; omega)) _)) hb)
  have n1 := hb.size
  try simp at n1
  have k1_d0 := cell_keep (a := ⟨w.heap.size, 0, none⟩) (v := .int .i64 y) (by first | (go_keep; done) | (simp [go_sem, *]; done)) hb
  have k1_d1 := cell_keep (a := ⟨w.heap.size, 1, none⟩) (v := .int .i64 m) (by first | (go_keep; done) | (simp [go_sem, *]; done)) hb
  have k1_d2 := cell_keep (a := ⟨w.heap.size, 2, none⟩) (v := .int .i64 d) (by first | (go_keep; done) | (simp [go_sem, *]; done)) hb
  have l1_d := World.block_lt_of_cell? _ _ k1_d0
  try simp only at l1_d
  clear hb
  go_wp2_with fail
  refine (CF.out _ (hT.below (by repeat (first | exact W1.out | refine blw_drewN ?_ _ | refine Below.setCell ?_ (by first | (simp; done) | omega | (simp; omega)) _ | refine Below.alloc ?_ (by first | (simp; done) | omega | (simp; omega)) _)))).mono ?_
  rintro e w2 ⟨rfl, hb⟩
  have W2 := Lib.hid (blw_trans (show Below w.heap.size w _ by repeat (first | exact W1.out | refine blw_drewN ?_ _ | refine Below.setCell ?_ (by first | (simp; done) | omega | (simp; omega)) _ | refine Below.alloc ?_ (by first | (simp; done) | omega | (simp; omega)) _)) hb)
  have n2 := hb.size
  try simp at n2
  have k2_d0 := cell_keep (a := ⟨w.heap.size, 0, none⟩) (v := .int .i64 y) (by first | (go_keep; done) | (simp [go_sem, *]; done)) hb
  have k2_d1 := cell_keep (a := ⟨w.heap.size, 1, none⟩) (v := .int .i64 m) (by first | (go_keep; done) | (simp [go_sem, *]; done)) hb
  have k2_d2 := cell_keep (a := ⟨w.heap.size, 2, none⟩) (v := .int .i64 d) (by first | (go_keep; done) | (simp [go_sem, *]; done)) hb
  have l2_d := World.block_lt_of_cell? _ _ k2_d0
  try simp only at l2_d
  clear hb k1_d0 k1_d1 k1_d2 l1_d W1
  go_wp2_with fail
  refine (CU.out _ (hT.below (by repeat (first | exact W2.out | refine blw_drewN ?_ _ | refine Below.setCell ?_ (by first | (simp; done) | omega | (simp; omega)) _ | refine Below.alloc ?_ (by first | (simp; done) | omega | (simp; omega)) _)))).mono ?_
  rintro e w3 ⟨rfl, hb⟩
  have W3 := Lib.hid (blw_trans (show Below w.heap.size w _ by repeat (first | exact W2.out | refine blw_drewN ?_ _ | refine Below.setCell ?_ (by first | (simp; done) | omega | (simp; omega)) _ | refine Below.alloc ?_ (by first | (simp; done) | omega | (simp; omega)) _)) hb)
  have n3 := hb.size
  try simp at n3
  have k3_d0 := cell_keep (a := ⟨w.heap.size, 0, none⟩) (v := .int .i64 y) (by first | (go_keep; done) | (simp [go_sem, *]; done)) hb
  have k3_d1 := cell_keep (a := ⟨w.heap.size, 1, none⟩) (v := .int .i64 m) (by first | (go_keep; done) | (simp [go_sem, *]; done)) hb
  have k3_d2 := cell_keep (a := ⟨w.heap.size, 2, none⟩) (v := .int .i64 d) (by first | (go_keep; done) | (simp [go_sem, *]; done)) hb
  have l3_d := World.block_lt_of_cell? _ _ k3_d0
  try simp only at l3_d
  clear hb k2_d0 k2_d1 k2_d2 l2_d W2
  go_wp2_with fail
  refine (CV.out _ (hT.below (by repeat (first | exact W3.out | refine blw_drewN ?_ _ | refine Below.setCell ?_ (by first | (simp; done) | omega | (simp; omega)) _ | refine Below.alloc ?_ (by first | (simp; done) | omega | (simp; omega)) _)))).mono ?_
  rintro e w4 ⟨rfl, hb⟩
  have W4 := Lib.hid (blw_trans (show Below w.heap.size w _ by repeat (first | exact W3.out | refine blw_drewN ?_ _ | refine Below.setCell ?_ (by first | (simp; done) | omega | (simp; omega)) _ | refine Below.alloc ?_ (by first | (simp; done) | omega | (simp; omega)) _)) hb)
  have n4 := hb.size
  try simp at n4
  have k4_d0 := cell_keep (a := ⟨w.heap.size, 0, none⟩) (v := .int .i64 y) (by first | (go_keep; done) | (simp [go_sem, *]; done)) hb
  have k4_d1 := cell_keep (a := ⟨w.heap.size, 1, none⟩) (v := .int .i64 m) (by first | (go_keep; done) | (simp [go_sem, *]; done)) hb
  have k4_d2 := cell_keep (a := ⟨w.heap.size, 2, none⟩) (v := .int .i64 d) (by first | (go_keep; done) | (simp [go_sem, *]; done)) hb
  have l4_d := World.block_lt_of_cell? _ _ k4_d0
  try simp only at l4_d
  clear hb k3_d0 k3_d1 k3_d2 l3_d W3
  go_wp2_with fail
  refine (CK.out _ (hT.below (by repeat (first | exact W4.out | refine blw_drewN ?_ _ | refine Below.setCell ?_ (by first | (simp; done) | omega | (simp; omega)) _ | refine Below.alloc ?_ (by first | (simp; done) | omega | (simp; omega)) _)))).mono ?_
  rintro e w5 ⟨rfl, hb⟩
  have W5 := Lib.hid (blw_trans (show Below w.heap.size w _ by repeat (first | exact W4.out | refine blw_drewN ?_ _ | refine Below.setCell ?_ (by first | (simp; done) | omega | (simp; omega)) _ | refine Below.alloc ?_ (by first | (simp; done) | omega | (simp; omega)) _)) hb)
  have n5 := hb.size
  try simp at n5
  have k5_d0 := cell_keep (a := ⟨w.heap.size, 0, none⟩) (v := .int .i64 y) (by first | (go_keep; done) | (simp [go_sem, *]; done)) hb
  have k5_d1 := cell_keep (a := ⟨w.heap.size, 1, none⟩) (v := .int .i64 m) (by first | (go_keep; done) | (simp [go_sem, *]; done)) hb
  have k5_d2 := cell_keep (a := ⟨w.heap.size, 2, none⟩) (v := .int .i64 d) (by first | (go_keep; done) | (simp [go_sem, *]; done)) hb
  have l5_d := World.block_lt_of_cell? _ _ k5_d0
  try simp only at l5_d
  clear hb k4_d0 k4_d1 k4_d2 l4_d W4
  go_wp2_with fail
  refine (E0.out _ (hT.below (by repeat (first | exact W5.out | refine blw_drewN ?_ _ | refine Below.setCell ?_ (by first | (simp; done) | omega | (simp; omega)) _ | refine Below.alloc ?_ (by first | (simp; done) | omega | (simp; omega)) _)))).mono ?_
  rintro e w6 ⟨rfl, hb⟩
  have W6 := Lib.hid (blw_trans (show Below w.heap.size w _ by repeat (first | exact W5.out | refine blw_drewN ?_ _ | refine Below.setCell ?_ (by first | (simp; done) | omega | (simp; omega)) _ | refine Below.alloc ?_ (by first | (simp; done) | omega | (simp; omega)) _)) hb)
  have n6 := hb.size
  try simp at n6
  have k6_d0 := cell_keep (a := ⟨w.heap.size, 0, none⟩) (v := .int .i64 y) (by first | (go_keep; done) | (simp [go_sem, *]; done)) hb
  have k6_d1 := cell_keep (a := ⟨w.heap.size, 1, none⟩) (v := .int .i64 m) (by first | (go_keep; done) | (simp [go_sem, *]; done)) hb
  have k6_d2 := cell_keep (a := ⟨w.heap.size, 2, none⟩) (v := .int .i64 d) (by first | (go_keep; done) | (simp [go_sem, *]; done)) hb
  have l6_d := World.block_lt_of_cell? _ _ k6_d0
  try simp only at l6_d
  clear hb k5_d0 k5_d1 k5_d2 l5_d W5
  go_wp2_with fail
  refine (CN.out _ (hT.below (by repeat (first | exact W6.out | refine blw_drewN ?_ _ | refine Below.setCell ?_ (by first | (simp; done) | omega | (simp; omega)) _ | refine Below.alloc ?_ (by first | (simp; done) | omega | (simp; omega)) _)))).mono ?_
  rintro e w7 ⟨rfl, hb⟩
  have W7 := Lib.hid (blw_trans (show Below w.heap.size w _ by repeat (first | exact W6.out | refine blw_drewN ?_ _ | refine Below.setCell ?_ (by first | (simp; done) | omega | (simp; omega)) _ | refine Below.alloc ?_ (by first | (simp; done) | omega | (simp; omega)) _)) hb)
  have n7 := hb.size
  try simp at n7
  have k7_d0 := cell_keep (a := ⟨w.heap.size, 0, none⟩) (v := .int .i64 y) (by first | (go_keep; done) | (simp [go_sem, *]; done)) hb
  have k7_d1 := cell_keep (a := ⟨w.heap.size, 1, none⟩) (v := .int .i64 m) (by first | (go_keep; done) | (simp [go_sem, *]; done)) hb
  have k7_d2 := cell_keep (a := ⟨w.heap.size, 2, none⟩) (v := .int .i64 d) (by first | (go_keep; done) | (simp [go_sem, *]; done)) hb
  have l7_d := World.block_lt_of_cell? _ _ k7_d0
  try simp only at l7_d
  clear hb k6_d0 k6_d1 k6_d2 l6_d W6
  go_wp2_with fail
  refine (E0.out _ (hT.below (by repeat (first | exact W7.out | refine blw_drewN ?_ _ | refine Below.setCell ?_ (by first | (simp; done) | omega | (simp; omega)) _ | refine Below.alloc ?_ (by first | (simp; done) | omega | (simp; omega)) _)))).mono ?_
  rintro e w8 ⟨rfl, hb⟩
  have W8 := Lib.hid (blw_trans (show Below w.heap.size w _ by repeat (first | exact W7.out | refine blw_drewN ?_ _ | refine Below.setCell ?_ (by first | (simp; done) | omega | (simp; omega)) _ | refine Below.alloc ?_ (by first | (simp; done) | omega | (simp; omega)) _)) hb)
  have n8 := hb.size
  try simp at n8
  have k8_d0 := cell_keep (a := ⟨w.heap.size, 0, none⟩) (v := .int .i64 y) (by first | (go_keep; done) | (simp [go_sem, *]; done)) hb
  have k8_d1 := cell_keep (a := ⟨w.heap.size, 1, none⟩) (v := .int .i64 m) (by first | (go_keep; done) | (simp [go_sem, *]; done)) hb
  have k8_d2 := cell_keep (a := ⟨w.heap.size, 2, none⟩) (v := .int .i64 d) (by first | (go_keep; done) | (simp [go_sem, *]; done)) hb
  have l8_d := World.block_lt_of_cell? _ _ k8_d0
  try simp only at l8_d
  clear hb k7_d0 k7_d1 k7_d2 l7_d W7
  go_wp2_with fail
  refine (CT.out _ (hT.below (by repeat (first | exact W8.out | refine blw_drewN ?_ _ | refine Below.setCell ?_ (by first | (simp; done) | omega | (simp; omega)) _ | refine Below.alloc ?_ (by first | (simp; done) | omega | (simp; omega)) _)))).mono ?_
  rintro e w9 ⟨rfl, hb⟩
  have W9 := Lib.hid (blw_trans (show Below w.heap.size w _ by repeat (first | exact W8.out | refine blw_drewN ?_ _ | refine Below.setCell ?_ (by first | (simp; done) | omega | (simp; omega)) _ | refine Below.alloc ?_ (by first | (simp; done) | omega | (simp; omega)) _)) hb)
  have n9 := hb.size
  try simp at n9
  clear hb k8_d0 k8_d1 k8_d2 l8_d W8
  go_wp2_with fail
  refine (E0.out _ (hT.below (by repeat (first | exact W9.out | refine blw_drewN ?_ _ | refine Below.setCell ?_ (by first | (simp; done) | omega | (simp; omega)) _ | refine Below.alloc ?_ (by first | (simp; done) | omega | (simp; omega)) _)))).mono ?_
  rintro e w10 ⟨rfl, hb⟩
  have W10 := Lib.hid (blw_trans (show Below w.heap.size w _ by repeat (first | exact W9.out | refine blw_drewN ?_ _ | refine Below.setCell ?_ (by first | (simp; done) | omega | (simp; omega)) _ | refine Below.alloc ?_ (by first | (simp; done) | omega | (simp; omega)) _)) hb)
  have n10 := hb.size
  try simp at n10
  clear hb W9
  go_wp2_with fail
  refine (CX.out _ (hT.below (by repeat (first | exact W10.out | refine blw_drewN ?_ _ | refine Below.setCell ?_ (by first | (simp; done) | omega | (simp; omega)) _ | refine Below.alloc ?_ (by first | (simp; done) | omega | (simp; omega)) _)))).mono ?_
  rintro e w11 ⟨rfl, hb⟩
  have W11 := Lib.hid (blw_trans (show Below w.heap.size w _ by repeat (first | exact W10.out | refine blw_drewN ?_ _ | refine Below.setCell ?_ (by first | (simp; done) | omega | (simp; omega)) _ | refine Below.alloc ?_ (by first | (simp; done) | omega | (simp; omega)) _)) hb)
  have n11 := hb.size
  try simp at n11
  clear hb W10
  go_wp2_with fail
  refine (CB.out _ (hT.below (by repeat (first | exact W11.out | refine blw_drewN ?_ _ | refine Below.setCell ?_ (by first | (simp; done) | omega | (simp; omega)) _ | refine Below.alloc ?_ (by first | (simp; done) | omega | (simp; omega)) _)))).mono ?_
  rintro e w12 ⟨rfl, hb⟩
  have W12 := Lib.hid (blw_trans (show Below w.heap.size w _ by repeat (first | exact W11.out | refine blw_drewN ?_ _ | refine Below.setCell ?_ (by first | (simp; done) | omega | (simp; omega)) _ | refine Below.alloc ?_ (by first | (simp; done) | omega | (simp; omega)) _)) hb)
  have n12 := hb.size
  try simp at n12
  have k12_x0 := cell_keep (a := ⟨w11.heap.size, 0, none⟩) (v := .int .i64 0) (by first | (go_keep; done) | (simp [go_sem, *]; done)) hb
  have k12_x1 := cell_keep (a := ⟨w11.heap.size, 1, none⟩) (v := .int .i64 0) (by first | (go_keep; done) | (simp [go_sem, *]; done)) hb
  have k12_x2 := cell_keep (a := ⟨w11.heap.size, 2, none⟩) (v := .int .i64 0) (by first | (go_keep; done) | (simp [go_sem, *]; done)) hb
  have l12_x := World.block_lt_of_cell? _ _ k12_x0
  try simp only at l12_x
  clear hb W11
  go_wp2_with fail
  refine (E1.out _ (hT.below (by repeat (first | exact W12.out | refine blw_drewN ?_ _ | refine Below.setCell ?_ (by first | (simp; done) | omega | (simp; omega)) _ | refine Below.alloc ?_ (by first | (simp; done) | omega | (simp; omega)) _)))).mono ?_
  rintro e w13 ⟨rfl, hb⟩
  have W13 := Lib.hid (blw_trans (show Below w.heap.size w _ by repeat (first | exact W12.out | refine blw_drewN ?_ _ | refine Below.setCell ?_ (by first | (simp; done) | omega | (simp; omega)) _ | refine Below.alloc ?_ (by first | (simp; done) | omega | (simp; omega)) _)) hb)
  have n13 := hb.size
  try simp at n13
  have k13_x0 := cell_keep (a := ⟨w11.heap.size, 0, none⟩) (v := .int .i64 0) (by first | (go_keep; done) | (simp [go_sem, *]; done)) hb
  have k13_x1 := cell_keep (a := ⟨w11.heap.size, 1, none⟩) (v := .int .i64 0) (by first | (go_keep; done) | (simp [go_sem, *]; done)) hb
  have k13_x2 := cell_keep (a := ⟨w11.heap.size, 2, none⟩) (v := .int .i64 0) (by first | (go_keep; done) | (simp [go_sem, *]; done)) hb
  have l13_x := World.block_lt_of_cell? _ _ k13_x0
  try simp only at l13_x
  have k13_b0 := cell_keep (a := ⟨w12.heap.size, 0, none⟩) (v := .int .i64 0) (by first | (go_keep; done) | (simp [go_sem, *]; done)) hb
  have k13_b1 := cell_keep (a := ⟨w12.heap.size, 1, none⟩) (v := .int .i64 0) (by first | (go_keep; done) | (simp [go_sem, *]; done)) hb
  have k13_b2 := cell_keep (a := ⟨w12.heap.size, 2, none⟩) (v := .int .i64 0) (by first | (go_keep; done) | (simp [go_sem, *]; done)) hb
  have l13_b := World.block_lt_of_cell? _ _ k13_b0
  try simp only at l13_b
  clear hb k12_x0 k12_x1 k12_x2 l12_x W12
  go_wp2_with fail
  refine (CY.out _ (hT.below (by repeat (first | exact W13.out | refine blw_drewN ?_ _ | refine Below.setCell ?_ (by first | (simp; done) | omega | (simp; omega)) _ | refine Below.alloc ?_ (by first | (simp; done) | omega | (simp; omega)) _)))).mono ?_
  rintro e w14 ⟨rfl, hb⟩
  have W14 := Lib.hid (blw_trans (show Below w.heap.size w _ by repeat (first | exact W13.out | refine blw_drewN ?_ _ | refine Below.setCell ?_ (by first | (simp; done) | omega | (simp; omega)) _ | refine Below.alloc ?_ (by first | (simp; done) | omega | (simp; omega)) _)) hb)
  have n14 := hb.size
  try simp at n14
  have k14_x0 := cell_keep (a := ⟨w11.heap.size, 0, none⟩) (v := .int .i64 0) (by first | (go_keep; done) | (simp [go_sem, *]; done)) hb
  have k14_x1 := cell_keep (a := ⟨w11.heap.size, 1, none⟩) (v := .int .i64 0) (by first | (go_keep; done) | (simp [go_sem, *]; done)) hb
  have k14_x2 := cell_keep (a := ⟨w11.heap.size, 2, none⟩) (v := .int .i64 0) (by first | (go_keep; done) | (simp [go_sem, *]; done)) hb
  have l14_x := World.block_lt_of_cell? _ _ k14_x0
  try simp only at l14_x
  have k14_b0 := cell_keep (a := ⟨w12.heap.size, 0, none⟩) (v := .int .i64 0) (by first | (go_keep; done) | (simp [go_sem, *]; done)) hb
  have k14_b1 := cell_keep (a := ⟨w12.heap.size, 1, none⟩) (v := .int .i64 0) (by first | (go_keep; done) | (simp [go_sem, *]; done)) hb
  have k14_b2 := cell_keep (a := ⟨w12.heap.size, 2, none⟩) (v := .int .i64 0) (by first | (go_keep; done) | (simp [go_sem, *]; done)) hb
  have l14_b := World.block_lt_of_cell? _ _ k14_b0
  try simp only at l14_b
  clear hb k13_x0 k13_x1 k13_x2 l13_x k13_b0 k13_b1 k13_b2 l13_b W13
  go_wp2_with fail
  refine (CP.out _ (hT.below (by repeat (first | exact W14.out | refine blw_drewN ?_ _ | refine Below.setCell ?_ (by first | (simp; done) | omega | (simp; omega)) _ | refine Below.alloc ?_ (by first | (simp; done) | omega | (simp; omega)) _)))).mono ?_
  rintro e w15 ⟨rfl, hb⟩
  have W15 := Lib.hid (blw_trans (show Below w.heap.size w _ by repeat (first | exact W14.out | refine blw_drewN ?_ _ | refine Below.setCell ?_ (by first | (simp; done) | omega | (simp; omega)) _ | refine Below.alloc ?_ (by first | (simp; done) | omega | (simp; omega)) _)) hb)
  have n15 := hb.size
  try simp at n15
  have k15_x0 := cell_keep (a := ⟨w11.heap.size, 0, none⟩) (v := .int .i64 0) (by first | (go_keep; done) | (simp [go_sem, *]; done)) hb
  have k15_x1 := cell_keep (a := ⟨w11.heap.size, 1, none⟩) (v := .int .i64 0) (by first | (go_keep; done) | (simp [go_sem, *]; done)) hb
  have k15_x2 := cell_keep (a := ⟨w11.heap.size, 2, none⟩) (v := .int .i64 0) (by first | (go_keep; done) | (simp [go_sem, *]; done)) hb
  have l15_x := World.block_lt_of_cell? _ _ k15_x0
  try simp only at l15_x
  have k15_b0 := cell_keep (a := ⟨w12.heap.size, 0, none⟩) (v := .int .i64 0) (by first | (go_keep; done) | (simp [go_sem, *]; done)) hb
  have k15_b1 := cell_keep (a := ⟨w12.heap.size, 1, none⟩) (v := .int .i64 0) (by first | (go_keep; done) | (simp [go_sem, *]; done)) hb
  have k15_b2 := cell_keep (a := ⟨w12.heap.size, 2, none⟩) (v := .int .i64 0) (by first | (go_keep; done) | (simp [go_sem, *]; done)) hb
  have l15_b := World.block_lt_of_cell? _ _ k15_b0
  try simp only at l15_b
  have k15_u0 := cell_keep (a := ⟨w14.heap.size, 0, none⟩) (v := .int .i64 y1) (by first | (go_keep; done) | (simp [go_sem, *]; done)) hb
  have k15_u1 := cell_keep (a := ⟨w14.heap.size, 1, none⟩) (v := .int .i64 y2) (by first | (go_keep; done) | (simp [go_sem, *]; done)) hb
  have k15_u2 := cell_keep (a := ⟨w14.heap.size, 2, none⟩) (v := .int .i64 y3) (by first | (go_keep; done) | (simp [go_sem, *]; done)) hb
  have l15_u := World.block_lt_of_cell? _ _ k15_u0
  try simp only at l15_u
  clear hb k14_x0 k14_x1 k14_x2 l14_x k14_b0 k14_b1 k14_b2 l14_b W14
  go_wp2_with fail
  refine (E0.out _ (hT.below (by repeat (first | exact W15.out | refine blw_drewN ?_ _ | refine Below.setCell ?_ (by first | (simp; done) | omega | (simp; omega)) _ | refine Below.alloc ?_ (by first | (simp; done) | omega | (simp; omega)) _)))).mono ?_
  rintro e w16 ⟨rfl, hb⟩
  have W16 := Lib.hid (blw_trans (show Below w.heap.size w _ by repeat (first | exact W15.out | refine blw_drewN ?_ _ | refine Below.setCell ?_ (by first | (simp; done) | omega | (simp; omega)) _ | refine Below.alloc ?_ (by first | (simp; done) | omega | (simp; omega)) _)) hb)
  have n16 := hb.size
  try simp at n16
  have k16_x0 := cell_keep (a := ⟨w11.heap.size, 0, none⟩) (v := .int .i64 0) (by first | (go_keep; done) | (simp [go_sem, *]; done)) hb
  have k16_x1 := cell_keep (a := ⟨w11.heap.size, 1, none⟩) (v := .int .i64 0) (by first | (go_keep; done) | (simp [go_sem, *]; done)) hb
  have k16_x2 := cell_keep (a := ⟨w11.heap.size, 2, none⟩) (v := .int .i64 0) (by first | (go_keep; done) | (simp [go_sem, *]; done)) hb
  have l16_x := World.block_lt_of_cell? _ _ k16_x0
  try simp only at l16_x
  have k16_b0 := cell_keep (a := ⟨w12.heap.size, 0, none⟩) (v := .int .i64 0) (by first | (go_keep; done) | (simp [go_sem, *]; done)) hb
  have k16_b1 := cell_keep (a := ⟨w12.heap.size, 1, none⟩) (v := .int .i64 0) (by first | (go_keep; done) | (simp [go_sem, *]; done)) hb
  have k16_b2 := cell_keep (a := ⟨w12.heap.size, 2, none⟩) (v := .int .i64 0) (by first | (go_keep; done) | (simp [go_sem, *]; done)) hb
  have l16_b := World.block_lt_of_cell? _ _ k16_b0
  try simp only at l16_b
  have k16_u0 := cell_keep (a := ⟨w14.heap.size, 0, none⟩) (v := .int .i64 y1) (by first | (go_keep; done) | (simp [go_sem, *]; done)) hb
  have k16_u1 := cell_keep (a := ⟨w14.heap.size, 1, none⟩) (v := .int .i64 y2) (by first | (go_keep; done) | (simp [go_sem, *]; done)) hb
  have k16_u2 := cell_keep (a := ⟨w14.heap.size, 2, none⟩) (v := .int .i64 y3) (by first | (go_keep; done) | (simp [go_sem, *]; done)) hb
  have l16_u := World.block_lt_of_cell? _ _ k16_u0
  try simp only at l16_u
  have k16_p0 := cell_keep (a := ⟨w15.heap.size, 0, none⟩) (v := .int .i64 y1) (by first | (go_keep; done) | (simp [go_sem, *]; done)) hb
  have k16_p1 := cell_keep (a := ⟨w15.heap.size, 1, none⟩) (v := .int .i64 y2) (by first | (go_keep; done) | (simp [go_sem, *]; done)) hb
  have k16_p2 := cell_keep (a := ⟨w15.heap.size, 2, none⟩) (v := .int .i64 y3) (by first | (go_keep; done) | (simp [go_sem, *]; done)) hb
  have l16_p := World.block_lt_of_cell? _ _ k16_p0
  try simp only at l16_p
  clear hb k15_x0 k15_x1 k15_x2 l15_x k15_b0 k15_b1 k15_b2 l15_b k15_u0 k15_u1 k15_u2 l15_u W15
  go_wp2
  go_ret
  exact ⟨ret_bool (by simp), by repeat (first | exact W16.out | refine blw_drewN ?_ _ | refine Below.setCell ?_ (by first | (simp; done) | omega | (simp; omega)) _ | refine Below.alloc ?_ (by first | (simp; done) | omega | (simp; omega)) _)⟩

set_option maxRecDepth 100000 in
set_option maxHeartbeats 4000000 in
theorem dateTells_nyn (y m d n y1 y2 y3 : Int) (s : List UInt8) (w : World) (hT : PMH w)
    (CF : Hid (∀ w : World, PMH w → Calls Tryz.prog 5 #[.agg #[.int .i64 y, .int .i64 m, .int .i64 d]] w fun e w' => e = .returned (.bool true) ∧ Below w.heap.size w w'))
    (CK : Hid (∀ w : World, PMH w → Calls Tryz.prog 9 #[.agg #[.int .i64 y, .int .i64 m, .int .i64 d]] w fun e w' => e = .returned (errV 1) ∧ Below w.heap.size w w'))
    (CN : Hid (∀ w : World, PMH w → Calls Tryz.prog 10 #[.agg #[.int .i64 y, .int .i64 m, .int .i64 d]] w fun e w' => e = .returned (.tuple #[.int .i64 0, errV 1]) ∧ Below w.heap.size w w'))
    (CT : Hid (∀ w : World, PMH w → Calls Tryz.prog 11 #[.agg #[.int .i64 y, .int .i64 m, .int .i64 d]] w fun e w' => e = .returned (.tuple #[.string ⟨#[]⟩, errV 1]) ∧ Below w.heap.size w w'))
    (CX : Hid (∀ w : World, PMH w → Calls Tryz.prog 12 #[.int .i64 n] w fun e w' => e = .returned (.tuple #[.agg #[.int .i64 0, .int .i64 0, .int .i64 0], .bool false]) ∧ Below w.heap.size w w'))
    (CB : Hid (∀ w : World, PMH w → Calls Tryz.prog 13 #[.int .i64 n] w fun e w' => e = .returned (.tuple #[.agg #[.int .i64 0, .int .i64 0, .int .i64 0], errV 1]) ∧ Below w.heap.size w w'))
    (CY : Hid (∀ w : World, PMH w → Calls Tryz.prog 14 #[.string ⟨s.toArray⟩] w fun e w' => e = .returned (.tuple #[.agg #[.int .i64 y1, .int .i64 y2, .int .i64 y3], .bool true]) ∧ Below w.heap.size w w'))
    (CP : Hid (∀ w : World, PMH w → Calls Tryz.prog 15 #[.string ⟨s.toArray⟩] w fun e w' => e = .returned (.tuple #[.agg #[.int .i64 y1, .int .i64 y2, .int .i64 y3], .nilIface]) ∧ Below w.heap.size w w')) :
    Calls Tryz.prog 3 #[.agg #[.int .i64 y, .int .i64 m, .int .i64 d], .int .i64 n, .string ⟨s.toArray⟩] w fun e w' => e = .returned (.bool true) ∧ Below w.heap.size w w' := by
  have C0 := Lib.hid fun w (hT : PMH w) => dated_any w hT.p.t
  have E0 := Lib.hid fun w (hT : PMH w) => sameErr_yes ErrNo.nil w hT.h
  have E1 := Lib.hid fun w (hT : PMH w) => sameErr_yes (ErrNo.no 1) w hT.h
  have E3 := Lib.hid fun w (hT : PMH w) => sameErr_yes (ErrNo.no 3) w hT.h
  go_enter Tryz.func3, Tryz.ntmps3
  go_wp2_with fail
  refine (C0.out _ (hT.below (by repeat (first | exact (Below.refl _ _) | refine blw_drewN ?_ _ | refine Below.setCell ?_ (by first | (simp; done) | omega | (simp; omega)) _ | refine Below.alloc ?_ (by first | (simp; done) | omega | (simp; omega)) _)))).mono ?_
  rintro e w1 ⟨rfl, hb⟩
  have W1 := Lib.hid (blw_trans (show Below w.heap.size w _ by repeat (first | exact (Below.refl _ _) | refine blw_drewN ?_ _ | refine Below.setCell ?_ (by first | (simp; done) | omega | (simp; omega)) _ | refine Below.alloc ?_ (by first | (simp; done) | omega | (simp; omega)) _)) hb)
  have n1 := hb.size
  try simp at n1
  have k1_d0 := cell_keep (a := ⟨w.heap.size, 0, none⟩) (v := .int .i64 y) (by first | (go_keep; done) | (simp [go_sem, *]; done)) hb
  have k1_d1 := cell_keep (a := ⟨w.heap.size, 1, none⟩) (v := .int .i64 m) (by first | (go_keep; done) | (simp [go_sem, *]; done)) hb
  have k1_d2 := cell_keep (a := ⟨w.heap.size, 2, none⟩) (v := .int .i64 d) (by first | (go_keep; done) | (simp [go_sem, *]; done)) hb
  have l1_d := World.block_lt_of_cell? _ _ k1_d0
  try simp only at l1_d
  clear hb
  go_wp2_with fail
  refine (CF.out _ (hT.below (by repeat (first | exact W1.out | refine blw_drewN ?_ _ | refine Below.setCell ?_ (by first | (simp; done) | omega | (simp; omega)) _ | refine Below.alloc ?_ (by first | (simp; done) | omega | (simp; omega)) _)))).mono ?_
  rintro e w2 ⟨rfl, hb⟩
  have W2 := Lib.hid (blw_trans (show Below w.heap.size w _ by repeat (first | exact W1.out | refine blw_drewN ?_ _ | refine Below.setCell ?_ (by first | (simp; done) | omega | (simp; omega)) _ | refine Below.alloc ?_ (by first | (simp; done) | omega | (simp; omega)) _)) hb)
  have n2 := hb.size
  try simp at n2
  have k2_d0 := cell_keep (a := ⟨w.heap.size, 0, none⟩) (v := .int .i64 y) (by first | (go_keep; done) | (simp [go_sem, *]; done)) hb
  have k2_d1 := cell_keep (a := ⟨w.heap.size, 1, none⟩) (v := .int .i64 m) (by first | (go_keep; done) | (simp [go_sem, *]; done)) hb
  have k2_d2 := cell_keep (a := ⟨w.heap.size, 2, none⟩) (v := .int .i64 d) (by first | (go_keep; done) | (simp [go_sem, *]; done)) hb
  have l2_d := World.block_lt_of_cell? _ _ k2_d0
  try simp only at l2_d
  clear hb k1_d0 k1_d1 k1_d2 l1_d W1
  go_wp2_with fail
  refine (CK.out _ (hT.below (by repeat (first | exact W2.out | refine blw_drewN ?_ _ | refine Below.setCell ?_ (by first | (simp; done) | omega | (simp; omega)) _ | refine Below.alloc ?_ (by first | (simp; done) | omega | (simp; omega)) _)))).mono ?_
  rintro e w3 ⟨rfl, hb⟩
  have W3 := Lib.hid (blw_trans (show Below w.heap.size w _ by repeat (first | exact W2.out | refine blw_drewN ?_ _ | refine Below.setCell ?_ (by first | (simp; done) | omega | (simp; omega)) _ | refine Below.alloc ?_ (by first | (simp; done) | omega | (simp; omega)) _)) hb)
  have n3 := hb.size
  try simp at n3
  have k3_d0 := cell_keep (a := ⟨w.heap.size, 0, none⟩) (v := .int .i64 y) (by first | (go_keep; done) | (simp [go_sem, *]; done)) hb
  have k3_d1 := cell_keep (a := ⟨w.heap.size, 1, none⟩) (v := .int .i64 m) (by first | (go_keep; done) | (simp [go_sem, *]; done)) hb
  have k3_d2 := cell_keep (a := ⟨w.heap.size, 2, none⟩) (v := .int .i64 d) (by first | (go_keep; done) | (simp [go_sem, *]; done)) hb
  have l3_d := World.block_lt_of_cell? _ _ k3_d0
  try simp only at l3_d
  clear hb k2_d0 k2_d1 k2_d2 l2_d W2
  go_wp2_with fail
  refine (E1.out _ (hT.below (by repeat (first | exact W3.out | refine blw_drewN ?_ _ | refine Below.setCell ?_ (by first | (simp; done) | omega | (simp; omega)) _ | refine Below.alloc ?_ (by first | (simp; done) | omega | (simp; omega)) _)))).mono ?_
  rintro e w4 ⟨rfl, hb⟩
  have W4 := Lib.hid (blw_trans (show Below w.heap.size w _ by repeat (first | exact W3.out | refine blw_drewN ?_ _ | refine Below.setCell ?_ (by first | (simp; done) | omega | (simp; omega)) _ | refine Below.alloc ?_ (by first | (simp; done) | omega | (simp; omega)) _)) hb)
  have n4 := hb.size
  try simp at n4
  have k4_d0 := cell_keep (a := ⟨w.heap.size, 0, none⟩) (v := .int .i64 y) (by first | (go_keep; done) | (simp [go_sem, *]; done)) hb
  have k4_d1 := cell_keep (a := ⟨w.heap.size, 1, none⟩) (v := .int .i64 m) (by first | (go_keep; done) | (simp [go_sem, *]; done)) hb
  have k4_d2 := cell_keep (a := ⟨w.heap.size, 2, none⟩) (v := .int .i64 d) (by first | (go_keep; done) | (simp [go_sem, *]; done)) hb
  have l4_d := World.block_lt_of_cell? _ _ k4_d0
  try simp only at l4_d
  clear hb k3_d0 k3_d1 k3_d2 l3_d W3
  go_wp2_with fail
  refine (CN.out _ (hT.below (by repeat (first | exact W4.out | refine blw_drewN ?_ _ | refine Below.setCell ?_ (by first | (simp; done) | omega | (simp; omega)) _ | refine Below.alloc ?_ (by first | (simp; done) | omega | (simp; omega)) _)))).mono ?_
  rintro e w5 ⟨rfl, hb⟩
  have W5 := Lib.hid (blw_trans (show Below w.heap.size w _ by repeat (first | exact W4.out | refine blw_drewN ?_ _ | refine Below.setCell ?_ (by first | (simp; done) | omega | (simp; omega)) _ | refine Below.alloc ?_ (by first | (simp; done) | omega | (simp; omega)) _)) hb)
  have n5 := hb.size
  try simp at n5
  have k5_d0 := cell_keep (a := ⟨w.heap.size, 0, none⟩) (v := .int .i64 y) (by first | (go_keep; done) | (simp [go_sem, *]; done)) hb
  have k5_d1 := cell_keep (a := ⟨w.heap.size, 1, none⟩) (v := .int .i64 m) (by first | (go_keep; done) | (simp [go_sem, *]; done)) hb
  have k5_d2 := cell_keep (a := ⟨w.heap.size, 2, none⟩) (v := .int .i64 d) (by first | (go_keep; done) | (simp [go_sem, *]; done)) hb
  have l5_d := World.block_lt_of_cell? _ _ k5_d0
  try simp only at l5_d
  clear hb k4_d0 k4_d1 k4_d2 l4_d W4
  go_wp2_with fail
  refine (E1.out _ (hT.below (by repeat (first | exact W5.out | refine blw_drewN ?_ _ | refine Below.setCell ?_ (by first | (simp; done) | omega | (simp; omega)) _ | refine Below.alloc ?_ (by first | (simp; done) | omega | (simp; omega)) _)))).mono ?_
  rintro e w6 ⟨rfl, hb⟩
  have W6 := Lib.hid (blw_trans (show Below w.heap.size w _ by repeat (first | exact W5.out | refine blw_drewN ?_ _ | refine Below.setCell ?_ (by first | (simp; done) | omega | (simp; omega)) _ | refine Below.alloc ?_ (by first | (simp; done) | omega | (simp; omega)) _)) hb)
  have n6 := hb.size
  try simp at n6
  have k6_d0 := cell_keep (a := ⟨w.heap.size, 0, none⟩) (v := .int .i64 y) (by first | (go_keep; done) | (simp [go_sem, *]; done)) hb
  have k6_d1 := cell_keep (a := ⟨w.heap.size, 1, none⟩) (v := .int .i64 m) (by first | (go_keep; done) | (simp [go_sem, *]; done)) hb
  have k6_d2 := cell_keep (a := ⟨w.heap.size, 2, none⟩) (v := .int .i64 d) (by first | (go_keep; done) | (simp [go_sem, *]; done)) hb
  have l6_d := World.block_lt_of_cell? _ _ k6_d0
  try simp only at l6_d
  clear hb k5_d0 k5_d1 k5_d2 l5_d W5
  go_wp2_with fail
  refine (CT.out _ (hT.below (by repeat (first | exact W6.out | refine blw_drewN ?_ _ | refine Below.setCell ?_ (by first | (simp; done) | omega | (simp; omega)) _ | refine Below.alloc ?_ (by first | (simp; done) | omega | (simp; omega)) _)))).mono ?_
  rintro e w7 ⟨rfl, hb⟩
  have W7 := Lib.hid (blw_trans (show Below w.heap.size w _ by repeat (first | exact W6.out | refine blw_drewN ?_ _ | refine Below.setCell ?_ (by first | (simp; done) | omega | (simp; omega)) _ | refine Below.alloc ?_ (by first | (simp; done) | omega | (simp; omega)) _)) hb)
  have n7 := hb.size
  try simp at n7
  clear hb k6_d0 k6_d1 k6_d2 l6_d W6
  go_wp2_with fail
  refine (E1.out _ (hT.below (by repeat (first | exact W7.out | refine blw_drewN ?_ _ | refine Below.setCell ?_ (by first | (simp; done) | omega | (simp; omega)) _ | refine Below.alloc ?_ (by first | (simp; done) | omega | (simp; omega)) _)))).mono ?_
  rintro e w8 ⟨rfl, hb⟩
  have W8 := Lib.hid (blw_trans (show Below w.heap.size w _ by repeat (first | exact W7.out | refine blw_drewN ?_ _ | refine Below.setCell ?_ (by first | (simp; done) | omega | (simp; omega)) _ | refine Below.alloc ?_ (by first | (simp; done) | omega | (simp; omega)) _)) hb)
  have n8 := hb.size
  try simp at n8
  clear hb W7
  go_wp2_with fail
  refine (CX.out _ (hT.below (by repeat (first | exact W8.out | refine blw_drewN ?_ _ | refine Below.setCell ?_ (by first | (simp; done) | omega | (simp; omega)) _ | refine Below.alloc ?_ (by first | (simp; done) | omega | (simp; omega)) _)))).mono ?_
  rintro e w9 ⟨rfl, hb⟩
  have W9 := Lib.hid (blw_trans (show Below w.heap.size w _ by repeat (first | exact W8.out | refine blw_drewN ?_ _ | refine Below.setCell ?_ (by first | (simp; done) | omega | (simp; omega)) _ | refine Below.alloc ?_ (by first | (simp; done) | omega | (simp; omega)) _)) hb)
  have n9 := hb.size
  try simp at n9
  clear hb W8
  go_wp2_with fail
  refine (CB.out _ (hT.below (by repeat (first | exact W9.out | refine blw_drewN ?_ _ | refine Below.setCell ?_ (by first | (simp; done) | omega | (simp; omega)) _ | refine Below.alloc ?_ (by first | (simp; done) | omega | (simp; omega)) _)))).mono ?_
  rintro e w10 ⟨rfl, hb⟩
  have W10 := Lib.hid (blw_trans (show Below w.heap.size w _ by repeat (first | exact W9.out | refine blw_drewN ?_ _ | refine Below.setCell ?_ (by first | (simp; done) | omega | (simp; omega)) _ | refine Below.alloc ?_ (by first | (simp; done) | omega | (simp; omega)) _)) hb)
  have n10 := hb.size
  try simp at n10
  have k10_x0 := cell_keep (a := ⟨w9.heap.size, 0, none⟩) (v := .int .i64 0) (by first | (go_keep; done) | (simp [go_sem, *]; done)) hb
  have k10_x1 := cell_keep (a := ⟨w9.heap.size, 1, none⟩) (v := .int .i64 0) (by first | (go_keep; done) | (simp [go_sem, *]; done)) hb
  have k10_x2 := cell_keep (a := ⟨w9.heap.size, 2, none⟩) (v := .int .i64 0) (by first | (go_keep; done) | (simp [go_sem, *]; done)) hb
  have l10_x := World.block_lt_of_cell? _ _ k10_x0
  try simp only at l10_x
  clear hb W9
  go_wp2_with fail
  refine (E1.out _ (hT.below (by repeat (first | exact W10.out | refine blw_drewN ?_ _ | refine Below.setCell ?_ (by first | (simp; done) | omega | (simp; omega)) _ | refine Below.alloc ?_ (by first | (simp; done) | omega | (simp; omega)) _)))).mono ?_
  rintro e w11 ⟨rfl, hb⟩
  have W11 := Lib.hid (blw_trans (show Below w.heap.size w _ by repeat (first | exact W10.out | refine blw_drewN ?_ _ | refine Below.setCell ?_ (by first | (simp; done) | omega | (simp; omega)) _ | refine Below.alloc ?_ (by first | (simp; done) | omega | (simp; omega)) _)) hb)
  have n11 := hb.size
  try simp at n11
  have k11_x0 := cell_keep (a := ⟨w9.heap.size, 0, none⟩) (v := .int .i64 0) (by first | (go_keep; done) | (simp [go_sem, *]; done)) hb
  have k11_x1 := cell_keep (a := ⟨w9.heap.size, 1, none⟩) (v := .int .i64 0) (by first | (go_keep; done) | (simp [go_sem, *]; done)) hb
  have k11_x2 := cell_keep (a := ⟨w9.heap.size, 2, none⟩) (v := .int .i64 0) (by first | (go_keep; done) | (simp [go_sem, *]; done)) hb
  have l11_x := World.block_lt_of_cell? _ _ k11_x0
  try simp only at l11_x
  have k11_b0 := cell_keep (a := ⟨w10.heap.size, 0, none⟩) (v := .int .i64 0) (by first | (go_keep; done) | (simp [go_sem, *]; done)) hb
  have k11_b1 := cell_keep (a := ⟨w10.heap.size, 1, none⟩) (v := .int .i64 0) (by first | (go_keep; done) | (simp [go_sem, *]; done)) hb
  have k11_b2 := cell_keep (a := ⟨w10.heap.size, 2, none⟩) (v := .int .i64 0) (by first | (go_keep; done) | (simp [go_sem, *]; done)) hb
  have l11_b := World.block_lt_of_cell? _ _ k11_b0
  try simp only at l11_b
  clear hb k10_x0 k10_x1 k10_x2 l10_x W10
  go_wp2_with fail
  refine (CY.out _ (hT.below (by repeat (first | exact W11.out | refine blw_drewN ?_ _ | refine Below.setCell ?_ (by first | (simp; done) | omega | (simp; omega)) _ | refine Below.alloc ?_ (by first | (simp; done) | omega | (simp; omega)) _)))).mono ?_
  rintro e w12 ⟨rfl, hb⟩
  have W12 := Lib.hid (blw_trans (show Below w.heap.size w _ by repeat (first | exact W11.out | refine blw_drewN ?_ _ | refine Below.setCell ?_ (by first | (simp; done) | omega | (simp; omega)) _ | refine Below.alloc ?_ (by first | (simp; done) | omega | (simp; omega)) _)) hb)
  have n12 := hb.size
  try simp at n12
  have k12_x0 := cell_keep (a := ⟨w9.heap.size, 0, none⟩) (v := .int .i64 0) (by first | (go_keep; done) | (simp [go_sem, *]; done)) hb
  have k12_x1 := cell_keep (a := ⟨w9.heap.size, 1, none⟩) (v := .int .i64 0) (by first | (go_keep; done) | (simp [go_sem, *]; done)) hb
  have k12_x2 := cell_keep (a := ⟨w9.heap.size, 2, none⟩) (v := .int .i64 0) (by first | (go_keep; done) | (simp [go_sem, *]; done)) hb
  have l12_x := World.block_lt_of_cell? _ _ k12_x0
  try simp only at l12_x
  have k12_b0 := cell_keep (a := ⟨w10.heap.size, 0, none⟩) (v := .int .i64 0) (by first | (go_keep; done) | (simp [go_sem, *]; done)) hb
  have k12_b1 := cell_keep (a := ⟨w10.heap.size, 1, none⟩) (v := .int .i64 0) (by first | (go_keep; done) | (simp [go_sem, *]; done)) hb
  have k12_b2 := cell_keep (a := ⟨w10.heap.size, 2, none⟩) (v := .int .i64 0) (by first | (go_keep; done) | (simp [go_sem, *]; done)) hb
  have l12_b := World.block_lt_of_cell? _ _ k12_b0
  try simp only at l12_b
  clear hb k11_x0 k11_x1 k11_x2 l11_x k11_b0 k11_b1 k11_b2 l11_b W11
  go_wp2_with fail
  refine (CP.out _ (hT.below (by repeat (first | exact W12.out | refine blw_drewN ?_ _ | refine Below.setCell ?_ (by first | (simp; done) | omega | (simp; omega)) _ | refine Below.alloc ?_ (by first | (simp; done) | omega | (simp; omega)) _)))).mono ?_
  rintro e w13 ⟨rfl, hb⟩
  have W13 := Lib.hid (blw_trans (show Below w.heap.size w _ by repeat (first | exact W12.out | refine blw_drewN ?_ _ | refine Below.setCell ?_ (by first | (simp; done) | omega | (simp; omega)) _ | refine Below.alloc ?_ (by first | (simp; done) | omega | (simp; omega)) _)) hb)
  have n13 := hb.size
  try simp at n13
  have k13_x0 := cell_keep (a := ⟨w9.heap.size, 0, none⟩) (v := .int .i64 0) (by first | (go_keep; done) | (simp [go_sem, *]; done)) hb
  have k13_x1 := cell_keep (a := ⟨w9.heap.size, 1, none⟩) (v := .int .i64 0) (by first | (go_keep; done) | (simp [go_sem, *]; done)) hb
  have k13_x2 := cell_keep (a := ⟨w9.heap.size, 2, none⟩) (v := .int .i64 0) (by first | (go_keep; done) | (simp [go_sem, *]; done)) hb
  have l13_x := World.block_lt_of_cell? _ _ k13_x0
  try simp only at l13_x
  have k13_b0 := cell_keep (a := ⟨w10.heap.size, 0, none⟩) (v := .int .i64 0) (by first | (go_keep; done) | (simp [go_sem, *]; done)) hb
  have k13_b1 := cell_keep (a := ⟨w10.heap.size, 1, none⟩) (v := .int .i64 0) (by first | (go_keep; done) | (simp [go_sem, *]; done)) hb
  have k13_b2 := cell_keep (a := ⟨w10.heap.size, 2, none⟩) (v := .int .i64 0) (by first | (go_keep; done) | (simp [go_sem, *]; done)) hb
  have l13_b := World.block_lt_of_cell? _ _ k13_b0
  try simp only at l13_b
  have k13_u0 := cell_keep (a := ⟨w12.heap.size, 0, none⟩) (v := .int .i64 y1) (by first | (go_keep; done) | (simp [go_sem, *]; done)) hb
  have k13_u1 := cell_keep (a := ⟨w12.heap.size, 1, none⟩) (v := .int .i64 y2) (by first | (go_keep; done) | (simp [go_sem, *]; done)) hb
  have k13_u2 := cell_keep (a := ⟨w12.heap.size, 2, none⟩) (v := .int .i64 y3) (by first | (go_keep; done) | (simp [go_sem, *]; done)) hb
  have l13_u := World.block_lt_of_cell? _ _ k13_u0
  try simp only at l13_u
  clear hb k12_x0 k12_x1 k12_x2 l12_x k12_b0 k12_b1 k12_b2 l12_b W12
  go_wp2_with fail
  refine (E0.out _ (hT.below (by repeat (first | exact W13.out | refine blw_drewN ?_ _ | refine Below.setCell ?_ (by first | (simp; done) | omega | (simp; omega)) _ | refine Below.alloc ?_ (by first | (simp; done) | omega | (simp; omega)) _)))).mono ?_
  rintro e w14 ⟨rfl, hb⟩
  have W14 := Lib.hid (blw_trans (show Below w.heap.size w _ by repeat (first | exact W13.out | refine blw_drewN ?_ _ | refine Below.setCell ?_ (by first | (simp; done) | omega | (simp; omega)) _ | refine Below.alloc ?_ (by first | (simp; done) | omega | (simp; omega)) _)) hb)
  have n14 := hb.size
  try simp at n14
  have k14_x0 := cell_keep (a := ⟨w9.heap.size, 0, none⟩) (v := .int .i64 0) (by first | (go_keep; done) | (simp [go_sem, *]; done)) hb
  have k14_x1 := cell_keep (a := ⟨w9.heap.size, 1, none⟩) (v := .int .i64 0) (by first | (go_keep; done) | (simp [go_sem, *]; done)) hb
  have k14_x2 := cell_keep (a := ⟨w9.heap.size, 2, none⟩) (v := .int .i64 0) (by first | (go_keep; done) | (simp [go_sem, *]; done)) hb
  have l14_x := World.block_lt_of_cell? _ _ k14_x0
  try simp only at l14_x
  have k14_b0 := cell_keep (a := ⟨w10.heap.size, 0, none⟩) (v := .int .i64 0) (by first | (go_keep; done) | (simp [go_sem, *]; done)) hb
  have k14_b1 := cell_keep (a := ⟨w10.heap.size, 1, none⟩) (v := .int .i64 0) (by first | (go_keep; done) | (simp [go_sem, *]; done)) hb
  have k14_b2 := cell_keep (a := ⟨w10.heap.size, 2, none⟩) (v := .int .i64 0) (by first | (go_keep; done) | (simp [go_sem, *]; done)) hb
  have l14_b := World.block_lt_of_cell? _ _ k14_b0
  try simp only at l14_b
  have k14_u0 := cell_keep (a := ⟨w12.heap.size, 0, none⟩) (v := .int .i64 y1) (by first | (go_keep; done) | (simp [go_sem, *]; done)) hb
  have k14_u1 := cell_keep (a := ⟨w12.heap.size, 1, none⟩) (v := .int .i64 y2) (by first | (go_keep; done) | (simp [go_sem, *]; done)) hb
  have k14_u2 := cell_keep (a := ⟨w12.heap.size, 2, none⟩) (v := .int .i64 y3) (by first | (go_keep; done) | (simp [go_sem, *]; done)) hb
  have l14_u := World.block_lt_of_cell? _ _ k14_u0
  try simp only at l14_u
  have k14_p0 := cell_keep (a := ⟨w13.heap.size, 0, none⟩) (v := .int .i64 y1) (by first | (go_keep; done) | (simp [go_sem, *]; done)) hb
  have k14_p1 := cell_keep (a := ⟨w13.heap.size, 1, none⟩) (v := .int .i64 y2) (by first | (go_keep; done) | (simp [go_sem, *]; done)) hb
  have k14_p2 := cell_keep (a := ⟨w13.heap.size, 2, none⟩) (v := .int .i64 y3) (by first | (go_keep; done) | (simp [go_sem, *]; done)) hb
  have l14_p := World.block_lt_of_cell? _ _ k14_p0
  try simp only at l14_p
  clear hb k13_x0 k13_x1 k13_x2 l13_x k13_b0 k13_b1 k13_b2 l13_b k13_u0 k13_u1 k13_u2 l13_u W13
  go_wp2
  go_ret
  exact ⟨ret_bool (by simp), by repeat (first | exact W14.out | refine blw_drewN ?_ _ | refine Below.setCell ?_ (by first | (simp; done) | omega | (simp; omega)) _ | refine Below.alloc ?_ (by first | (simp; done) | omega | (simp; omega)) _)⟩

set_option maxRecDepth 100000 in
set_option maxHeartbeats 4000000 in
theorem dateTells_nny (y m d n k : Int) (s D : List UInt8) (w : World) (hT : PMH w)
    (CF : Hid (∀ w : World, PMH w → Calls Tryz.prog 5 #[.agg #[.int .i64 y, .int .i64 m, .int .i64 d]] w fun e w' => e = .returned (.bool false) ∧ Below w.heap.size w w'))
    (CU : Hid (∀ w : World, PMH w → Calls Tryz.prog 6 #[.agg #[.int .i64 y, .int .i64 m, .int .i64 d]] w fun e w' => e = .returned (.int .i64 k) ∧ Below w.heap.size w w'))
    (CV : Hid (∀ w : World, PMH w → Calls Tryz.prog 7 #[.agg #[.int .i64 y, .int .i64 m, .int .i64 d]] w fun e w' => e = .returned (.string ⟨D.toArray⟩) ∧ Below w.heap.size w w'))
    (CK : Hid (∀ w : World, PMH w → Calls Tryz.prog 9 #[.agg #[.int .i64 y, .int .i64 m, .int .i64 d]] w fun e w' => e = .returned (.nilIface) ∧ Below w.heap.size w w'))
    (CN : Hid (∀ w : World, PMH w → Calls Tryz.prog 10 #[.agg #[.int .i64 y, .int .i64 m, .int .i64 d]] w fun e w' => e = .returned (.tuple #[.int .i64 k, .nilIface]) ∧ Below w.heap.size w w'))
    (CT : Hid (∀ w : World, PMH w → Calls Tryz.prog 11 #[.agg #[.int .i64 y, .int .i64 m, .int .i64 d]] w fun e w' => e = .returned (.tuple #[.string ⟨D.toArray⟩, .nilIface]) ∧ Below w.heap.size w w'))
    (CX : Hid (∀ w : World, PMH w → Calls Tryz.prog 12 #[.int .i64 n] w fun e w' => e = .returned (.tuple #[.agg #[.int .i64 0, .int .i64 0, .int .i64 0], .bool false]) ∧ Below w.heap.size w w'))
    (CB : Hid (∀ w : World, PMH w → Calls Tryz.prog 13 #[.int .i64 n] w fun e w' => e = .returned (.tuple #[.agg #[.int .i64 0, .int .i64 0, .int .i64 0], errV 1]) ∧ Below w.heap.size w w'))
    (CY : Hid (∀ w : World, Calls Tryz.prog 14 #[.string ⟨s.toArray⟩] w (NoDay w)))
    (CP : Hid (∀ w : World, PMH w → Calls Tryz.prog 15 #[.string ⟨s.toArray⟩] w fun e w' => e = .returned (.tuple #[.agg #[.int .i64 0, .int .i64 0, .int .i64 0], errV 3]) ∧ Below w.heap.size w w')) :
    Calls Tryz.prog 3 #[.agg #[.int .i64 y, .int .i64 m, .int .i64 d], .int .i64 n, .string ⟨s.toArray⟩] w fun e w' => e = .returned (.bool true) ∧ Below w.heap.size w w' := by
  have C0 := Lib.hid fun w (hT : PMH w) => dated_any w hT.p.t
  have E0 := Lib.hid fun w (hT : PMH w) => sameErr_yes ErrNo.nil w hT.h
  have E1 := Lib.hid fun w (hT : PMH w) => sameErr_yes (ErrNo.no 1) w hT.h
  have E3 := Lib.hid fun w (hT : PMH w) => sameErr_yes (ErrNo.no 3) w hT.h
  go_enter Tryz.func3, Tryz.ntmps3
  go_wp2_with fail
  refine (C0.out _ (hT.below (by repeat (first | exact (Below.refl _ _) | refine blw_drewN ?_ _ | refine Below.setCell ?_ (by first | (simp; done) | omega | (simp; omega)) _ | refine Below.alloc ?_ (by first | (simp; done) | omega | (simp; omega)) _)))).mono ?_
  rintro e w1 ⟨rfl, hb⟩
  have W1 := Lib.hid (blw_trans (show Below w.heap.size w _ by repeat (first | exact (Below.refl _ _) | refine blw_drewN ?_ _ | refine Below.setCell ?_ (by first | (simp; done) | omega | (simp; omega)) _ | refine Below.alloc ?_ (by first | (simp; done) | omega | (simp; omega)) _)) hb)
  have n1 := hb.size
  try simp at n1
  have k1_d0 := cell_keep (a := ⟨w.heap.size, 0, none⟩) (v := .int .i64 y) (by first | (go_keep; done) | (simp [go_sem, *]; done)) hb
  have k1_d1 := cell_keep (a := ⟨w.heap.size, 1, none⟩) (v := .int .i64 m) (by first | (go_keep; done) | (simp [go_sem, *]; done)) hb
  have k1_d2 := cell_keep (a := ⟨w.heap.size, 2, none⟩) (v := .int .i64 d) (by first | (go_keep; done) | (simp [go_sem, *]; done)) hb
  have l1_d := World.block_lt_of_cell? _ _ k1_d0
  try simp only at l1_d
  clear hb
  go_wp2_with fail
  refine (CF.out _ (hT.below (by repeat (first | exact W1.out | refine blw_drewN ?_ _ | refine Below.setCell ?_ (by first | (simp; done) | omega | (simp; omega)) _ | refine Below.alloc ?_ (by first | (simp; done) | omega | (simp; omega)) _)))).mono ?_
  rintro e w2 ⟨rfl, hb⟩
  have W2 := Lib.hid (blw_trans (show Below w.heap.size w _ by repeat (first | exact W1.out | refine blw_drewN ?_ _ | refine Below.setCell ?_ (by first | (simp; done) | omega | (simp; omega)) _ | refine Below.alloc ?_ (by first | (simp; done) | omega | (simp; omega)) _)) hb)
  have n2 := hb.size
  try simp at n2
  have k2_d0 := cell_keep (a := ⟨w.heap.size, 0, none⟩) (v := .int .i64 y) (by first | (go_keep; done) | (simp [go_sem, *]; done)) hb
  have k2_d1 := cell_keep (a := ⟨w.heap.size, 1, none⟩) (v := .int .i64 m) (by first | (go_keep; done) | (simp [go_sem, *]; done)) hb
  have k2_d2 := cell_keep (a := ⟨w.heap.size, 2, none⟩) (v := .int .i64 d) (by first | (go_keep; done) | (simp [go_sem, *]; done)) hb
  have l2_d := World.block_lt_of_cell? _ _ k2_d0
  try simp only at l2_d
  clear hb k1_d0 k1_d1 k1_d2 l1_d W1
  go_wp2_with fail
  refine (CU.out _ (hT.below (by repeat (first | exact W2.out | refine blw_drewN ?_ _ | refine Below.setCell ?_ (by first | (simp; done) | omega | (simp; omega)) _ | refine Below.alloc ?_ (by first | (simp; done) | omega | (simp; omega)) _)))).mono ?_
  rintro e w3 ⟨rfl, hb⟩
  have W3 := Lib.hid (blw_trans (show Below w.heap.size w _ by repeat (first | exact W2.out | refine blw_drewN ?_ _ | refine Below.setCell ?_ (by first | (simp; done) | omega | (simp; omega)) _ | refine Below.alloc ?_ (by first | (simp; done) | omega | (simp; omega)) _)) hb)
  have n3 := hb.size
  try simp at n3
  have k3_d0 := cell_keep (a := ⟨w.heap.size, 0, none⟩) (v := .int .i64 y) (by first | (go_keep; done) | (simp [go_sem, *]; done)) hb
  have k3_d1 := cell_keep (a := ⟨w.heap.size, 1, none⟩) (v := .int .i64 m) (by first | (go_keep; done) | (simp [go_sem, *]; done)) hb
  have k3_d2 := cell_keep (a := ⟨w.heap.size, 2, none⟩) (v := .int .i64 d) (by first | (go_keep; done) | (simp [go_sem, *]; done)) hb
  have l3_d := World.block_lt_of_cell? _ _ k3_d0
  try simp only at l3_d
  clear hb k2_d0 k2_d1 k2_d2 l2_d W2
  go_wp2_with fail
  refine (CV.out _ (hT.below (by repeat (first | exact W3.out | refine blw_drewN ?_ _ | refine Below.setCell ?_ (by first | (simp; done) | omega | (simp; omega)) _ | refine Below.alloc ?_ (by first | (simp; done) | omega | (simp; omega)) _)))).mono ?_
  rintro e w4 ⟨rfl, hb⟩
  have W4 := Lib.hid (blw_trans (show Below w.heap.size w _ by repeat (first | exact W3.out | refine blw_drewN ?_ _ | refine Below.setCell ?_ (by first | (simp; done) | omega | (simp; omega)) _ | refine Below.alloc ?_ (by first | (simp; done) | omega | (simp; omega)) _)) hb)
  have n4 := hb.size
  try simp at n4
  have k4_d0 := cell_keep (a := ⟨w.heap.size, 0, none⟩) (v := .int .i64 y) (by first | (go_keep; done) | (simp [go_sem, *]; done)) hb
  have k4_d1 := cell_keep (a := ⟨w.heap.size, 1, none⟩) (v := .int .i64 m) (by first | (go_keep; done) | (simp [go_sem, *]; done)) hb
  have k4_d2 := cell_keep (a := ⟨w.heap.size, 2, none⟩) (v := .int .i64 d) (by first | (go_keep; done) | (simp [go_sem, *]; done)) hb
  have l4_d := World.block_lt_of_cell? _ _ k4_d0
  try simp only at l4_d
  clear hb k3_d0 k3_d1 k3_d2 l3_d W3
  go_wp2_with fail
  refine (CK.out _ (hT.below (by repeat (first | exact W4.out | refine blw_drewN ?_ _ | refine Below.setCell ?_ (by first | (simp; done) | omega | (simp; omega)) _ | refine Below.alloc ?_ (by first | (simp; done) | omega | (simp; omega)) _)))).mono ?_
  rintro e w5 ⟨rfl, hb⟩
  have W5 := Lib.hid (blw_trans (show Below w.heap.size w _ by repeat (first | exact W4.out | refine blw_drewN ?_ _ | refine Below.setCell ?_ (by first | (simp; done) | omega | (simp; omega)) _ | refine Below.alloc ?_ (by first | (simp; done) | omega | (simp; omega)) _)) hb)
  have n5 := hb.size
  try simp at n5
  have k5_d0 := cell_keep (a := ⟨w.heap.size, 0, none⟩) (v := .int .i64 y) (by first | (go_keep; done) | (simp [go_sem, *]; done)) hb
  have k5_d1 := cell_keep (a := ⟨w.heap.size, 1, none⟩) (v := .int .i64 m) (by first | (go_keep; done) | (simp [go_sem, *]; done)) hb
  have k5_d2 := cell_keep (a := ⟨w.heap.size, 2, none⟩) (v := .int .i64 d) (by first | (go_keep; done) | (simp [go_sem, *]; done)) hb
  have l5_d := World.block_lt_of_cell? _ _ k5_d0
  try simp only at l5_d
  clear hb k4_d0 k4_d1 k4_d2 l4_d W4
  go_wp2_with fail
  refine (E0.out _ (hT.below (by repeat (first | exact W5.out | refine blw_drewN ?_ _ | refine Below.setCell ?_ (by first | (simp; done) | omega | (simp; omega)) _ | refine Below.alloc ?_ (by first | (simp; done) | omega | (simp; omega)) _)))).mono ?_
  rintro e w6 ⟨rfl, hb⟩
  have W6 := Lib.hid (blw_trans (show Below w.heap.size w _ by repeat (first | exact W5.out | refine blw_drewN ?_ _ | refine Below.setCell ?_ (by first | (simp; done) | omega | (simp; omega)) _ | refine Below.alloc ?_ (by first | (simp; done) | omega | (simp; omega)) _)) hb)
  have n6 := hb.size
  try simp at n6
  have k6_d0 := cell_keep (a := ⟨w.heap.size, 0, none⟩) (v := .int .i64 y) (by first | (go_keep; done) | (simp [go_sem, *]; done)) hb
  have k6_d1 := cell_keep (a := ⟨w.heap.size, 1, none⟩) (v := .int .i64 m) (by first | (go_keep; done) | (simp [go_sem, *]; done)) hb
  have k6_d2 := cell_keep (a := ⟨w.heap.size, 2, none⟩) (v := .int .i64 d) (by first | (go_keep; done) | (simp [go_sem, *]; done)) hb
  have l6_d := World.block_lt_of_cell? _ _ k6_d0
  try simp only at l6_d
  clear hb k5_d0 k5_d1 k5_d2 l5_d W5
  go_wp2_with fail
  refine (CN.out _ (hT.below (by repeat (first | exact W6.out | refine blw_drewN ?_ _ | refine Below.setCell ?_ (by first | (simp; done) | omega | (simp; omega)) _ | refine Below.alloc ?_ (by first | (simp; done) | omega | (simp; omega)) _)))).mono ?_
  rintro e w7 ⟨rfl, hb⟩
  have W7 := Lib.hid (blw_trans (show Below w.heap.size w _ by repeat (first | exact W6.out | refine blw_drewN ?_ _ | refine Below.setCell ?_ (by first | (simp; done) | omega | (simp; omega)) _ | refine Below.alloc ?_ (by first | (simp; done) | omega | (simp; omega)) _)) hb)
  have n7 := hb.size
  try simp at n7
  have k7_d0 := cell_keep (a := ⟨w.heap.size, 0, none⟩) (v := .int .i64 y) (by first | (go_keep; done) | (simp [go_sem, *]; done)) hb
  have k7_d1 := cell_keep (a := ⟨w.heap.size, 1, none⟩) (v := .int .i64 m) (by first | (go_keep; done) | (simp [go_sem, *]; done)) hb
  have k7_d2 := cell_keep (a := ⟨w.heap.size, 2, none⟩) (v := .int .i64 d) (by first | (go_keep; done) | (simp [go_sem, *]; done)) hb
  have l7_d := World.block_lt_of_cell? _ _ k7_d0
  try simp only at l7_d
  clear hb k6_d0 k6_d1 k6_d2 l6_d W6
  go_wp2_with fail
  refine (E0.out _ (hT.below (by repeat (first | exact W7.out | refine blw_drewN ?_ _ | refine Below.setCell ?_ (by first | (simp; done) | omega | (simp; omega)) _ | refine Below.alloc ?_ (by first | (simp; done) | omega | (simp; omega)) _)))).mono ?_
  rintro e w8 ⟨rfl, hb⟩
  have W8 := Lib.hid (blw_trans (show Below w.heap.size w _ by repeat (first | exact W7.out | refine blw_drewN ?_ _ | refine Below.setCell ?_ (by first | (simp; done) | omega | (simp; omega)) _ | refine Below.alloc ?_ (by first | (simp; done) | omega | (simp; omega)) _)) hb)
  have n8 := hb.size
  try simp at n8
  have k8_d0 := cell_keep (a := ⟨w.heap.size, 0, none⟩) (v := .int .i64 y) (by first | (go_keep; done) | (simp [go_sem, *]; done)) hb
  have k8_d1 := cell_keep (a := ⟨w.heap.size, 1, none⟩) (v := .int .i64 m) (by first | (go_keep; done) | (simp [go_sem, *]; done)) hb
  have k8_d2 := cell_keep (a := ⟨w.heap.size, 2, none⟩) (v := .int .i64 d) (by first | (go_keep; done) | (simp [go_sem, *]; done)) hb
  have l8_d := World.block_lt_of_cell? _ _ k8_d0
  try simp only at l8_d
  clear hb k7_d0 k7_d1 k7_d2 l7_d W7
  go_wp2_with fail
  refine (CT.out _ (hT.below (by repeat (first | exact W8.out | refine blw_drewN ?_ _ | refine Below.setCell ?_ (by first | (simp; done) | omega | (simp; omega)) _ | refine Below.alloc ?_ (by first | (simp; done) | omega | (simp; omega)) _)))).mono ?_
  rintro e w9 ⟨rfl, hb⟩
  have W9 := Lib.hid (blw_trans (show Below w.heap.size w _ by repeat (first | exact W8.out | refine blw_drewN ?_ _ | refine Below.setCell ?_ (by first | (simp; done) | omega | (simp; omega)) _ | refine Below.alloc ?_ (by first | (simp; done) | omega | (simp; omega)) _)) hb)
  have n9 := hb.size
  try simp at n9
  clear hb k8_d0 k8_d1 k8_d2 l8_d W8
  go_wp2_with fail
  refine (E0.out _ (hT.below (by repeat (first | exact W9.out | refine blw_drewN ?_ _ | refine Below.setCell ?_ (by first | (simp; done) | omega | (simp; omega)) _ | refine Below.alloc ?_ (by first | (simp; done) | omega | (simp; omega)) _)))).mono ?_
  rintro e w10 ⟨rfl, hb⟩
  have W10 := Lib.hid (blw_trans (show Below w.heap.size w _ by repeat (first | exact W9.out | refine blw_drewN ?_ _ | refine Below.setCell ?_ (by first | (simp; done) | omega | (simp; omega)) _ | refine Below.alloc ?_ (by first | (simp; done) | omega | (simp; omega)) _)) hb)
  have n10 := hb.size
  try simp at n10
  clear hb W9
  go_wp2_with fail
  refine (CX.out _ (hT.below (by repeat (first | exact W10.out | refine blw_drewN ?_ _ | refine Below.setCell ?_ (by first | (simp; done) | omega | (simp; omega)) _ | refine Below.alloc ?_ (by first | (simp; done) | omega | (simp; omega)) _)))).mono ?_
  rintro e w11 ⟨rfl, hb⟩
  have W11 := Lib.hid (blw_trans (show Below w.heap.size w _ by repeat (first | exact W10.out | refine blw_drewN ?_ _ | refine Below.setCell ?_ (by first | (simp; done) | omega | (simp; omega)) _ | refine Below.alloc ?_ (by first | (simp; done) | omega | (simp; omega)) _)) hb)
  have n11 := hb.size
  try simp at n11
  clear hb W10
  go_wp2_with fail
  refine (CB.out _ (hT.below (by repeat (first | exact W11.out | refine blw_drewN ?_ _ | refine Below.setCell ?_ (by first | (simp; done) | omega | (simp; omega)) _ | refine Below.alloc ?_ (by first | (simp; done) | omega | (simp; omega)) _)))).mono ?_
  rintro e w12 ⟨rfl, hb⟩
  have W12 := Lib.hid (blw_trans (show Below w.heap.size w _ by repeat (first | exact W11.out | refine blw_drewN ?_ _ | refine Below.setCell ?_ (by first | (simp; done) | omega | (simp; omega)) _ | refine Below.alloc ?_ (by first | (simp; done) | omega | (simp; omega)) _)) hb)
  have n12 := hb.size
  try simp at n12
  have k12_x0 := cell_keep (a := ⟨w11.heap.size, 0, none⟩) (v := .int .i64 0) (by first | (go_keep; done) | (simp [go_sem, *]; done)) hb
  have k12_x1 := cell_keep (a := ⟨w11.heap.size, 1, none⟩) (v := .int .i64 0) (by first | (go_keep; done) | (simp [go_sem, *]; done)) hb
  have k12_x2 := cell_keep (a := ⟨w11.heap.size, 2, none⟩) (v := .int .i64 0) (by first | (go_keep; done) | (simp [go_sem, *]; done)) hb
  have l12_x := World.block_lt_of_cell? _ _ k12_x0
  try simp only at l12_x
  clear hb W11
  go_wp2_with fail
  refine (E1.out _ (hT.below (by repeat (first | exact W12.out | refine blw_drewN ?_ _ | refine Below.setCell ?_ (by first | (simp; done) | omega | (simp; omega)) _ | refine Below.alloc ?_ (by first | (simp; done) | omega | (simp; omega)) _)))).mono ?_
  rintro e w13 ⟨rfl, hb⟩
  have W13 := Lib.hid (blw_trans (show Below w.heap.size w _ by repeat (first | exact W12.out | refine blw_drewN ?_ _ | refine Below.setCell ?_ (by first | (simp; done) | omega | (simp; omega)) _ | refine Below.alloc ?_ (by first | (simp; done) | omega | (simp; omega)) _)) hb)
  have n13 := hb.size
  try simp at n13
  have k13_x0 := cell_keep (a := ⟨w11.heap.size, 0, none⟩) (v := .int .i64 0) (by first | (go_keep; done) | (simp [go_sem, *]; done)) hb
  have k13_x1 := cell_keep (a := ⟨w11.heap.size, 1, none⟩) (v := .int .i64 0) (by first | (go_keep; done) | (simp [go_sem, *]; done)) hb
  have k13_x2 := cell_keep (a := ⟨w11.heap.size, 2, none⟩) (v := .int .i64 0) (by first | (go_keep; done) | (simp [go_sem, *]; done)) hb
  have l13_x := World.block_lt_of_cell? _ _ k13_x0
  try simp only at l13_x
  have k13_b0 := cell_keep (a := ⟨w12.heap.size, 0, none⟩) (v := .int .i64 0) (by first | (go_keep; done) | (simp [go_sem, *]; done)) hb
  have k13_b1 := cell_keep (a := ⟨w12.heap.size, 1, none⟩) (v := .int .i64 0) (by first | (go_keep; done) | (simp [go_sem, *]; done)) hb
  have k13_b2 := cell_keep (a := ⟨w12.heap.size, 2, none⟩) (v := .int .i64 0) (by first | (go_keep; done) | (simp [go_sem, *]; done)) hb
  have l13_b := World.block_lt_of_cell? _ _ k13_b0
  try simp only at l13_b
  clear hb k12_x0 k12_x1 k12_x2 l12_x W12
  go_wp2_with fail
  refine (CY.out _).mono ?_
  rintro e w14 ⟨g1, g2, g3, rfl, hb⟩
  have W14 := Lib.hid (blw_trans (show Below w.heap.size w _ by repeat (first | exact W13.out | refine blw_drewN ?_ _ | refine Below.setCell ?_ (by first | (simp; done) | omega | (simp; omega)) _ | refine Below.alloc ?_ (by first | (simp; done) | omega | (simp; omega)) _)) hb)
  have n14 := hb.size
  try simp at n14
  have k14_x0 := cell_keep (a := ⟨w11.heap.size, 0, none⟩) (v := .int .i64 0) (by first | (go_keep; done) | (simp [go_sem, *]; done)) hb
  have k14_x1 := cell_keep (a := ⟨w11.heap.size, 1, none⟩) (v := .int .i64 0) (by first | (go_keep; done) | (simp [go_sem, *]; done)) hb
  have k14_x2 := cell_keep (a := ⟨w11.heap.size, 2, none⟩) (v := .int .i64 0) (by first | (go_keep; done) | (simp [go_sem, *]; done)) hb
  have l14_x := World.block_lt_of_cell? _ _ k14_x0
  try simp only at l14_x
  have k14_b0 := cell_keep (a := ⟨w12.heap.size, 0, none⟩) (v := .int .i64 0) (by first | (go_keep; done) | (simp [go_sem, *]; done)) hb
  have k14_b1 := cell_keep (a := ⟨w12.heap.size, 1, none⟩) (v := .int .i64 0) (by first | (go_keep; done) | (simp [go_sem, *]; done)) hb
  have k14_b2 := cell_keep (a := ⟨w12.heap.size, 2, none⟩) (v := .int .i64 0) (by first | (go_keep; done) | (simp [go_sem, *]; done)) hb
  have l14_b := World.block_lt_of_cell? _ _ k14_b0
  try simp only at l14_b
  clear hb k13_x0 k13_x1 k13_x2 l13_x k13_b0 k13_b1 k13_b2 l13_b W13
  have ne1 : ¬ w14.heap.size = w11.heap.size := by omega
  have me1 : ¬ w11.heap.size = w14.heap.size := by omega
  have ne2 : ¬ w14.heap.size = w12.heap.size := by omega
  have me2 : ¬ w12.heap.size = w14.heap.size := by omega
  go_wp2_with fail
  refine (CP.out _ (hT.below (by repeat (first | exact W14.out | refine blw_drewN ?_ _ | refine Below.setCell ?_ (by first | (simp; done) | omega | (simp; omega)) _ | refine Below.alloc ?_ (by first | (simp; done) | omega | (simp; omega)) _)))).mono ?_
  rintro e w15 ⟨rfl, hb⟩
  have W15 := Lib.hid (blw_trans (show Below w.heap.size w _ by repeat (first | exact W14.out | refine blw_drewN ?_ _ | refine Below.setCell ?_ (by first | (simp; done) | omega | (simp; omega)) _ | refine Below.alloc ?_ (by first | (simp; done) | omega | (simp; omega)) _)) hb)
  have n15 := hb.size
  try simp at n15
  have k15_x0 := cell_keep (a := ⟨w11.heap.size, 0, none⟩) (v := .int .i64 0) (by first | (go_keep; done) | (simp [go_sem, *]; done)) hb
  have k15_x1 := cell_keep (a := ⟨w11.heap.size, 1, none⟩) (v := .int .i64 0) (by first | (go_keep; done) | (simp [go_sem, *]; done)) hb
  have k15_x2 := cell_keep (a := ⟨w11.heap.size, 2, none⟩) (v := .int .i64 0) (by first | (go_keep; done) | (simp [go_sem, *]; done)) hb
  have l15_x := World.block_lt_of_cell? _ _ k15_x0
  try simp only at l15_x
  have k15_b0 := cell_keep (a := ⟨w12.heap.size, 0, none⟩) (v := .int .i64 0) (by first | (go_keep; done) | (simp [go_sem, *]; done)) hb
  have k15_b1 := cell_keep (a := ⟨w12.heap.size, 1, none⟩) (v := .int .i64 0) (by first | (go_keep; done) | (simp [go_sem, *]; done)) hb
  have k15_b2 := cell_keep (a := ⟨w12.heap.size, 2, none⟩) (v := .int .i64 0) (by first | (go_keep; done) | (simp [go_sem, *]; done)) hb
  have l15_b := World.block_lt_of_cell? _ _ k15_b0
  try simp only at l15_b
  have k15_u0 := cell_keep (a := ⟨w14.heap.size, 0, none⟩) (v := .int .i64 0) (by first | (go_keep; done) | (simp [go_sem, *]; done)) hb
  have k15_u1 := cell_keep (a := ⟨w14.heap.size, 1, none⟩) (v := .int .i64 0) (by first | (go_keep; done) | (simp [go_sem, *]; done)) hb
  have k15_u2 := cell_keep (a := ⟨w14.heap.size, 2, none⟩) (v := .int .i64 0) (by first | (go_keep; done) | (simp [go_sem, *]; done)) hb
  have l15_u := World.block_lt_of_cell? _ _ k15_u0
  try simp only at l15_u
  clear hb k14_x0 k14_x1 k14_x2 l14_x k14_b0 k14_b1 k14_b2 l14_b W14
  go_wp2_with fail
  refine (E3.out _ (hT.below (by repeat (first | exact W15.out | refine blw_drewN ?_ _ | refine Below.setCell ?_ (by first | (simp; done) | omega | (simp; omega)) _ | refine Below.alloc ?_ (by first | (simp; done) | omega | (simp; omega)) _)))).mono ?_
  rintro e w16 ⟨rfl, hb⟩
  have W16 := Lib.hid (blw_trans (show Below w.heap.size w _ by repeat (first | exact W15.out | refine blw_drewN ?_ _ | refine Below.setCell ?_ (by first | (simp; done) | omega | (simp; omega)) _ | refine Below.alloc ?_ (by first | (simp; done) | omega | (simp; omega)) _)) hb)
  have n16 := hb.size
  try simp at n16
  have k16_x0 := cell_keep (a := ⟨w11.heap.size, 0, none⟩) (v := .int .i64 0) (by first | (go_keep; done) | (simp [go_sem, *]; done)) hb
  have k16_x1 := cell_keep (a := ⟨w11.heap.size, 1, none⟩) (v := .int .i64 0) (by first | (go_keep; done) | (simp [go_sem, *]; done)) hb
  have k16_x2 := cell_keep (a := ⟨w11.heap.size, 2, none⟩) (v := .int .i64 0) (by first | (go_keep; done) | (simp [go_sem, *]; done)) hb
  have l16_x := World.block_lt_of_cell? _ _ k16_x0
  try simp only at l16_x
  have k16_b0 := cell_keep (a := ⟨w12.heap.size, 0, none⟩) (v := .int .i64 0) (by first | (go_keep; done) | (simp [go_sem, *]; done)) hb
  have k16_b1 := cell_keep (a := ⟨w12.heap.size, 1, none⟩) (v := .int .i64 0) (by first | (go_keep; done) | (simp [go_sem, *]; done)) hb
  have k16_b2 := cell_keep (a := ⟨w12.heap.size, 2, none⟩) (v := .int .i64 0) (by first | (go_keep; done) | (simp [go_sem, *]; done)) hb
  have l16_b := World.block_lt_of_cell? _ _ k16_b0
  try simp only at l16_b
  have k16_u0 := cell_keep (a := ⟨w14.heap.size, 0, none⟩) (v := .int .i64 0) (by first | (go_keep; done) | (simp [go_sem, *]; done)) hb
  have k16_u1 := cell_keep (a := ⟨w14.heap.size, 1, none⟩) (v := .int .i64 0) (by first | (go_keep; done) | (simp [go_sem, *]; done)) hb
  have k16_u2 := cell_keep (a := ⟨w14.heap.size, 2, none⟩) (v := .int .i64 0) (by first | (go_keep; done) | (simp [go_sem, *]; done)) hb
  have l16_u := World.block_lt_of_cell? _ _ k16_u0
  try simp only at l16_u
  have k16_p0 := cell_keep (a := ⟨w15.heap.size, 0, none⟩) (v := .int .i64 0) (by first | (go_keep; done) | (simp [go_sem, *]; done)) hb
  have k16_p1 := cell_keep (a := ⟨w15.heap.size, 1, none⟩) (v := .int .i64 0) (by first | (go_keep; done) | (simp [go_sem, *]; done)) hb
  have k16_p2 := cell_keep (a := ⟨w15.heap.size, 2, none⟩) (v := .int .i64 0) (by first | (go_keep; done) | (simp [go_sem, *]; done)) hb
  have l16_p := World.block_lt_of_cell? _ _ k16_p0
  try simp only at l16_p
  clear hb k15_x0 k15_x1 k15_x2 l15_x k15_b0 k15_b1 k15_b2 l15_b k15_u0 k15_u1 k15_u2 l15_u W15
  go_wp2
  go_ret
  exact ⟨ret_bool (by simp), by repeat (first | exact W16.out | refine blw_drewN ?_ _ | refine Below.setCell ?_ (by first | (simp; done) | omega | (simp; omega)) _ | refine Below.alloc ?_ (by first | (simp; done) | omega | (simp; omega)) _)⟩

set_option maxRecDepth 100000 in
set_option maxHeartbeats 4000000 in
theorem dateTells_nnn (y m d n : Int) (s : List UInt8) (w : World) (hT : PMH w)
    (CF : Hid (∀ w : World, PMH w → Calls Tryz.prog 5 #[.agg #[.int .i64 y, .int .i64 m, .int .i64 d]] w fun e w' => e = .returned (.bool true) ∧ Below w.heap.size w w'))
    (CK : Hid (∀ w : World, PMH w → Calls Tryz.prog 9 #[.agg #[.int .i64 y, .int .i64 m, .int .i64 d]] w fun e w' => e = .returned (errV 1) ∧ Below w.heap.size w w'))
    (CN : Hid (∀ w : World, PMH w → Calls Tryz.prog 10 #[.agg #[.int .i64 y, .int .i64 m, .int .i64 d]] w fun e w' => e = .returned (.tuple #[.int .i64 0, errV 1]) ∧ Below w.heap.size w w'))
    (CT : Hid (∀ w : World, PMH w → Calls Tryz.prog 11 #[.agg #[.int .i64 y, .int .i64 m, .int .i64 d]] w fun e w' => e = .returned (.tuple #[.string ⟨#[]⟩, errV 1]) ∧ Below w.heap.size w w'))
    (CX : Hid (∀ w : World, PMH w → Calls Tryz.prog 12 #[.int .i64 n] w fun e w' => e = .returned (.tuple #[.agg #[.int .i64 0, .int .i64 0, .int .i64 0], .bool false]) ∧ Below w.heap.size w w'))
    (CB : Hid (∀ w : World, PMH w → Calls Tryz.prog 13 #[.int .i64 n] w fun e w' => e = .returned (.tuple #[.agg #[.int .i64 0, .int .i64 0, .int .i64 0], errV 1]) ∧ Below w.heap.size w w'))
    (CY : Hid (∀ w : World, Calls Tryz.prog 14 #[.string ⟨s.toArray⟩] w (NoDay w)))
    (CP : Hid (∀ w : World, PMH w → Calls Tryz.prog 15 #[.string ⟨s.toArray⟩] w fun e w' => e = .returned (.tuple #[.agg #[.int .i64 0, .int .i64 0, .int .i64 0], errV 3]) ∧ Below w.heap.size w w')) :
    Calls Tryz.prog 3 #[.agg #[.int .i64 y, .int .i64 m, .int .i64 d], .int .i64 n, .string ⟨s.toArray⟩] w fun e w' => e = .returned (.bool true) ∧ Below w.heap.size w w' := by
  have C0 := Lib.hid fun w (hT : PMH w) => dated_any w hT.p.t
  have E0 := Lib.hid fun w (hT : PMH w) => sameErr_yes ErrNo.nil w hT.h
  have E1 := Lib.hid fun w (hT : PMH w) => sameErr_yes (ErrNo.no 1) w hT.h
  have E3 := Lib.hid fun w (hT : PMH w) => sameErr_yes (ErrNo.no 3) w hT.h
  go_enter Tryz.func3, Tryz.ntmps3
  go_wp2_with fail
  refine (C0.out _ (hT.below (by repeat (first | exact (Below.refl _ _) | refine blw_drewN ?_ _ | refine Below.setCell ?_ (by first | (simp; done) | omega | (simp; omega)) _ | refine Below.alloc ?_ (by first | (simp; done) | omega | (simp; omega)) _)))).mono ?_
  rintro e w1 ⟨rfl, hb⟩
  have W1 := Lib.hid (blw_trans (show Below w.heap.size w _ by repeat (first | exact (Below.refl _ _) | refine blw_drewN ?_ _ | refine Below.setCell ?_ (by first | (simp; done) | omega | (simp; omega)) _ | refine Below.alloc ?_ (by first | (simp; done) | omega | (simp; omega)) _)) hb)
  have n1 := hb.size
  try simp at n1
  have k1_d0 := cell_keep (a := ⟨w.heap.size, 0, none⟩) (v := .int .i64 y) (by first | (go_keep; done) | (simp [go_sem, *]; done)) hb
  have k1_d1 := cell_keep (a := ⟨w.heap.size, 1, none⟩) (v := .int .i64 m) (by first | (go_keep; done) | (simp [go_sem, *]; done)) hb
  have k1_d2 := cell_keep (a := ⟨w.heap.size, 2, none⟩) (v := .int .i64 d) (by first | (go_keep; done) | (simp [go_sem, *]; done)) hb
  have l1_d := World.block_lt_of_cell? _ _ k1_d0
  try simp only at l1_d
  clear hb
  go_wp2_with fail
  refine (CF.out _ (hT.below (by repeat (first | exact W1.out | refine blw_drewN ?_ _ | refine Below.setCell ?_ (by first | (simp; done) | omega | (simp; omega)) _ | refine Below.alloc ?_ (by first | (simp; done) | omega | (simp; omega)) _)))).mono ?_
  rintro e w2 ⟨rfl, hb⟩
  have W2 := Lib.hid (blw_trans (show Below w.heap.size w _ by repeat (first | exact W1.out | refine blw_drewN ?_ _ | refine Below.setCell ?_ (by first | (simp; done) | omega | (simp; omega)) _ | refine Below.alloc ?_ (by first | (simp; done) | omega | (simp; omega)) _)) hb)
  have n2 := hb.size
  try simp at n2
  have k2_d0 := cell_keep (a := ⟨w.heap.size, 0, none⟩) (v := .int .i64 y) (by first | (go_keep; done) | (simp [go_sem, *]; done)) hb
  have k2_d1 := cell_keep (a := ⟨w.heap.size, 1, none⟩) (v := .int .i64 m) (by first | (go_keep; done) | (simp [go_sem, *]; done)) hb
  have k2_d2 := cell_keep (a := ⟨w.heap.size, 2, none⟩) (v := .int .i64 d) (by first | (go_keep; done) | (simp [go_sem, *]; done)) hb
  have l2_d := World.block_lt_of_cell? _ _ k2_d0
  try simp only at l2_d
  clear hb k1_d0 k1_d1 k1_d2 l1_d W1
  go_wp2_with fail
  refine (CK.out _ (hT.below (by repeat (first | exact W2.out | refine blw_drewN ?_ _ | refine Below.setCell ?_ (by first | (simp; done) | omega | (simp; omega)) _ | refine Below.alloc ?_ (by first | (simp; done) | omega | (simp; omega)) _)))).mono ?_
  rintro e w3 ⟨rfl, hb⟩
  have W3 := Lib.hid (blw_trans (show Below w.heap.size w _ by repeat (first | exact W2.out | refine blw_drewN ?_ _ | refine Below.setCell ?_ (by first | (simp; done) | omega | (simp; omega)) _ | refine Below.alloc ?_ (by first | (simp; done) | omega | (simp; omega)) _)) hb)
  have n3 := hb.size
  try simp at n3
  have k3_d0 := cell_keep (a := ⟨w.heap.size, 0, none⟩) (v := .int .i64 y) (by first | (go_keep; done) | (simp [go_sem, *]; done)) hb
  have k3_d1 := cell_keep (a := ⟨w.heap.size, 1, none⟩) (v := .int .i64 m) (by first | (go_keep; done) | (simp [go_sem, *]; done)) hb
  have k3_d2 := cell_keep (a := ⟨w.heap.size, 2, none⟩) (v := .int .i64 d) (by first | (go_keep; done) | (simp [go_sem, *]; done)) hb
  have l3_d := World.block_lt_of_cell? _ _ k3_d0
  try simp only at l3_d
  clear hb k2_d0 k2_d1 k2_d2 l2_d W2
  go_wp2_with fail
  refine (E1.out _ (hT.below (by repeat (first | exact W3.out | refine blw_drewN ?_ _ | refine Below.setCell ?_ (by first | (simp; done) | omega | (simp; omega)) _ | refine Below.alloc ?_ (by first | (simp; done) | omega | (simp; omega)) _)))).mono ?_
  rintro e w4 ⟨rfl, hb⟩
  have W4 := Lib.hid (blw_trans (show Below w.heap.size w _ by repeat (first | exact W3.out | refine blw_drewN ?_ _ | refine Below.setCell ?_ (by first | (simp; done) | omega | (simp; omega)) _ | refine Below.alloc ?_ (by first | (simp; done) | omega | (simp; omega)) _)) hb)
  have n4 := hb.size
  try simp at n4
  have k4_d0 := cell_keep (a := ⟨w.heap.size, 0, none⟩) (v := .int .i64 y) (by first | (go_keep; done) | (simp [go_sem, *]; done)) hb
  have k4_d1 := cell_keep (a := ⟨w.heap.size, 1, none⟩) (v := .int .i64 m) (by first | (go_keep; done) | (simp [go_sem, *]; done)) hb
  have k4_d2 := cell_keep (a := ⟨w.heap.size, 2, none⟩) (v := .int .i64 d) (by first | (go_keep; done) | (simp [go_sem, *]; done)) hb
  have l4_d := World.block_lt_of_cell? _ _ k4_d0
  try simp only at l4_d
  clear hb k3_d0 k3_d1 k3_d2 l3_d W3
  go_wp2_with fail
  refine (CN.out _ (hT.below (by repeat (first | exact W4.out | refine blw_drewN ?_ _ | refine Below.setCell ?_ (by first | (simp; done) | omega | (simp; omega)) _ | refine Below.alloc ?_ (by first | (simp; done) | omega | (simp; omega)) _)))).mono ?_
  rintro e w5 ⟨rfl, hb⟩
  have W5 := Lib.hid (blw_trans (show Below w.heap.size w _ by repeat (first | exact W4.out | refine blw_drewN ?_ _ | refine Below.setCell ?_ (by first | (simp; done) | omega | (simp; omega)) _ | refine Below.alloc ?_ (by first | (simp; done) | omega | (simp; omega)) _)) hb)
  have n5 := hb.size
  try simp at n5
  have k5_d0 := cell_keep (a := ⟨w.heap.size, 0, none⟩) (v := .int .i64 y) (by first | (go_keep; done) | (simp [go_sem, *]; done)) hb
  have k5_d1 := cell_keep (a := ⟨w.heap.size, 1, none⟩) (v := .int .i64 m) (by first | (go_keep; done) | (simp [go_sem, *]; done)) hb
  have k5_d2 := cell_keep (a := ⟨w.heap.size, 2, none⟩) (v := .int .i64 d) (by first | (go_keep; done) | (simp [go_sem, *]; done)) hb
  have l5_d := World.block_lt_of_cell? _ _ k5_d0
  try simp only at l5_d
  clear hb k4_d0 k4_d1 k4_d2 l4_d W4
  go_wp2_with fail
  refine (E1.out _ (hT.below (by repeat (first | exact W5.out | refine blw_drewN ?_ _ | refine Below.setCell ?_ (by first | (simp; done) | omega | (simp; omega)) _ | refine Below.alloc ?_ (by first | (simp; done) | omega | (simp; omega)) _)))).mono ?_
  rintro e w6 ⟨rfl, hb⟩
  have W6 := Lib.hid (blw_trans (show Below w.heap.size w _ by repeat (first | exact W5.out | refine blw_drewN ?_ _ | refine Below.setCell ?_ (by first | (simp; done) | omega | (simp; omega)) _ | refine Below.alloc ?_ (by first | (simp; done) | omega | (simp; omega)) _)) hb)
  have n6 := hb.size
  try simp at n6
  have k6_d0 := cell_keep (a := ⟨w.heap.size, 0, none⟩) (v := .int .i64 y) (by first | (go_keep; done) | (simp [go_sem, *]; done)) hb
  have k6_d1 := cell_keep (a := ⟨w.heap.size, 1, none⟩) (v := .int .i64 m) (by first | (go_keep; done) | (simp [go_sem, *]; done)) hb
  have k6_d2 := cell_keep (a := ⟨w.heap.size, 2, none⟩) (v := .int .i64 d) (by first | (go_keep; done) | (simp [go_sem, *]; done)) hb
  have l6_d := World.block_lt_of_cell? _ _ k6_d0
  try simp only at l6_d
  clear hb k5_d0 k5_d1 k5_d2 l5_d W5
  go_wp2_with fail
  refine (CT.out _ (hT.below (by repeat (first | exact W6.out | refine blw_drewN ?_ _ | refine Below.setCell ?_ (by first | (simp; done) | omega | (simp; omega)) _ | refine Below.alloc ?_ (by first | (simp; done) | omega | (simp; omega)) _)))).mono ?_
  rintro e w7 ⟨rfl, hb⟩
  have W7 := Lib.hid (blw_trans (show Below w.heap.size w _ by repeat (first | exact W6.out | refine blw_drewN ?_ _ | refine Below.setCell ?_ (by first | (simp; done) | omega | (simp; omega)) _ | refine Below.alloc ?_ (by first | (simp; done) | omega | (simp; omega)) _)) hb)
  have n7 := hb.size
  try simp at n7
  clear hb k6_d0 k6_d1 k6_d2 l6_d W6
  go_wp2_with fail
  refine (E1.out _ (hT.below (by repeat (first | exact W7.out | refine blw_drewN ?_ _ | refine Below.setCell ?_ (by first | (simp; done) | omega | (simp; omega)) _ | refine Below.alloc ?_ (by first | (simp; done) | omega | (simp; omega)) _)))).mono ?_
  rintro e w8 ⟨rfl, hb⟩
  have W8 := Lib.hid (blw_trans (show Below w.heap.size w _ by repeat (first | exact W7.out | refine blw_drewN ?_ _ | refine Below.setCell ?_ (by first | (simp; done) | omega | (simp; omega)) _ | refine Below.alloc ?_ (by first | (simp; done) | omega | (simp; omega)) _)) hb)
  have n8 := hb.size
  try simp at n8
  clear hb W7
  go_wp2_with fail
  refine (CX.out _ (hT.below (by repeat (first | exact W8.out | refine blw_drewN ?_ _ | refine Below.setCell ?_ (by first | (simp; done) | omega | (simp; omega)) _ | refine Below.alloc ?_ (by first | (simp; done) | omega | (simp; omega)) _)))).mono ?_
  rintro e w9 ⟨rfl, hb⟩
  have W9 := Lib.hid (blw_trans (show Below w.heap.size w _ by repeat (first | exact W8.out | refine blw_drewN ?_ _ | refine Below.setCell ?_ (by first | (simp; done) | omega | (simp; omega)) _ | refine Below.alloc ?_ (by first | (simp; done) | omega | (simp; omega)) _)) hb)
  have n9 := hb.size
  try simp at n9
  clear hb W8
  go_wp2_with fail
  refine (CB.out _ (hT.below (by repeat (first | exact W9.out | refine blw_drewN ?_ _ | refine Below.setCell ?_ (by first | (simp; done) | omega | (simp; omega)) _ | refine Below.alloc ?_ (by first | (simp; done) | omega | (simp; omega)) _)))).mono ?_
  rintro e w10 ⟨rfl, hb⟩
  have W10 := Lib.hid (blw_trans (show Below w.heap.size w _ by repeat (first | exact W9.out | refine blw_drewN ?_ _ | refine Below.setCell ?_ (by first | (simp; done) | omega | (simp; omega)) _ | refine Below.alloc ?_ (by first | (simp; done) | omega | (simp; omega)) _)) hb)
  have n10 := hb.size
  try simp at n10
  have k10_x0 := cell_keep (a := ⟨w9.heap.size, 0, none⟩) (v := .int .i64 0) (by first | (go_keep; done) | (simp [go_sem, *]; done)) hb
  have k10_x1 := cell_keep (a := ⟨w9.heap.size, 1, none⟩) (v := .int .i64 0) (by first | (go_keep; done) | (simp [go_sem, *]; done)) hb
  have k10_x2 := cell_keep (a := ⟨w9.heap.size, 2, none⟩) (v := .int .i64 0) (by first | (go_keep; done) | (simp [go_sem, *]; done)) hb
  have l10_x := World.block_lt_of_cell? _ _ k10_x0
  try simp only at l10_x
  clear hb W9
  go_wp2_with fail
  refine (E1.out _ (hT.below (by repeat (first | exact W10.out | refine blw_drewN ?_ _ | refine Below.setCell ?_ (by first | (simp; done) | omega | (simp; omega)) _ | refine Below.alloc ?_ (by first | (simp; done) | omega | (simp; omega)) _)))).mono ?_
  rintro e w11 ⟨rfl, hb⟩
  have W11 := Lib.hid (blw_trans (show Below w.heap.size w _ by repeat (first | exact W10.out | refine blw_drewN ?_ _ | refine Below.setCell ?_ (by first | (simp; done) | omega | (simp; omega)) _ | refine Below.alloc ?_ (by first | (simp; done) | omega | (simp; omega)) _)) hb)
  have n11 := hb.size
  try simp at n11
  have k11_x0 := cell_keep (a := ⟨w9.heap.size, 0, none⟩) (v := .int .i64 0) (by first | (go_keep; done) | (simp [go_sem, *]; done)) hb
  have k11_x1 := cell_keep (a := ⟨w9.heap.size, 1, none⟩) (v := .int .i64 0) (by first | (go_keep; done) | (simp [go_sem, *]; done)) hb
  have k11_x2 := cell_keep (a := ⟨w9.heap.size, 2, none⟩) (v := .int .i64 0) (by first | (go_keep; done) | (simp [go_sem, *]; done)) hb
  have l11_x := World.block_lt_of_cell? _ _ k11_x0
  try simp only at l11_x
  have k11_b0 := cell_keep (a := ⟨w10.heap.size, 0, none⟩) (v := .int .i64 0) (by first | (go_keep; done) | (simp [go_sem, *]; done)) hb
  have k11_b1 := cell_keep (a := ⟨w10.heap.size, 1, none⟩) (v := .int .i64 0) (by first | (go_keep; done) | (simp [go_sem, *]; done)) hb
  have k11_b2 := cell_keep (a := ⟨w10.heap.size, 2, none⟩) (v := .int .i64 0) (by first | (go_keep; done) | (simp [go_sem, *]; done)) hb
  have l11_b := World.block_lt_of_cell? _ _ k11_b0
  try simp only at l11_b
  clear hb k10_x0 k10_x1 k10_x2 l10_x W10
  go_wp2_with fail
  refine (CY.out _).mono ?_
  rintro e w12 ⟨g1, g2, g3, rfl, hb⟩
  have W12 := Lib.hid (blw_trans (show Below w.heap.size w _ by repeat (first | exact W11.out | refine blw_drewN ?_ _ | refine Below.setCell ?_ (by first | (simp; done) | omega | (simp; omega)) _ | refine Below.alloc ?_ (by first | (simp; done) | omega | (simp; omega)) _)) hb)
  have n12 := hb.size
  try simp at n12
  have k12_x0 := cell_keep (a := ⟨w9.heap.size, 0, none⟩) (v := .int .i64 0) (by first | (go_keep; done) | (simp [go_sem, *]; done)) hb
  have k12_x1 := cell_keep (a := ⟨w9.heap.size, 1, none⟩) (v := .int .i64 0) (by first | (go_keep; done) | (simp [go_sem, *]; done)) hb
  have k12_x2 := cell_keep (a := ⟨w9.heap.size, 2, none⟩) (v := .int .i64 0) (by first | (go_keep; done) | (simp [go_sem, *]; done)) hb
  have l12_x := World.block_lt_of_cell? _ _ k12_x0
  try simp only at l12_x
  have k12_b0 := cell_keep (a := ⟨w10.heap.size, 0, none⟩) (v := .int .i64 0) (by first | (go_keep; done) | (simp [go_sem, *]; done)) hb
  have k12_b1 := cell_keep (a := ⟨w10.heap.size, 1, none⟩) (v := .int .i64 0) (by first | (go_keep; done) | (simp [go_sem, *]; done)) hb
  have k12_b2 := cell_keep (a := ⟨w10.heap.size, 2, none⟩) (v := .int .i64 0) (by first | (go_keep; done) | (simp [go_sem, *]; done)) hb
  have l12_b := World.block_lt_of_cell? _ _ k12_b0
  try simp only at l12_b
  clear hb k11_x0 k11_x1 k11_x2 l11_x k11_b0 k11_b1 k11_b2 l11_b W11
  have ne1 : ¬ w12.heap.size = w9.heap.size := by omega
  have me1 : ¬ w9.heap.size = w12.heap.size := by omega
  have ne2 : ¬ w12.heap.size = w10.heap.size := by omega
  have me2 : ¬ w10.heap.size = w12.heap.size := by omega
  go_wp2_with fail
  refine (CP.out _ (hT.below (by repeat (first | exact W12.out | refine blw_drewN ?_ _ | refine Below.setCell ?_ (by first | (simp; done) | omega | (simp; omega)) _ | refine Below.alloc ?_ (by first | (simp; done) | omega | (simp; omega)) _)))).mono ?_
  rintro e w13 ⟨rfl, hb⟩
  have W13 := Lib.hid (blw_trans (show Below w.heap.size w _ by repeat (first | exact W12.out | refine blw_drewN ?_ _ | refine Below.setCell ?_ (by first | (simp; done) | omega | (simp; omega)) _ | refine Below.alloc ?_ (by first | (simp; done) | omega | (simp; omega)) _)) hb)
  have n13 := hb.size
  try simp at n13
  have k13_x0 := cell_keep (a := ⟨w9.heap.size, 0, none⟩) (v := .int .i64 0) (by first | (go_keep; done) | (simp [go_sem, *]; done)) hb
  have k13_x1 := cell_keep (a := ⟨w9.heap.size, 1, none⟩) (v := .int .i64 0) (by first | (go_keep; done) | (simp [go_sem, *]; done)) hb
  have k13_x2 := cell_keep (a := ⟨w9.heap.size, 2, none⟩) (v := .int .i64 0) (by first | (go_keep; done) | (simp [go_sem, *]; done)) hb
  have l13_x := World.block_lt_of_cell? _ _ k13_x0
  try simp only at l13_x
  have k13_b0 := cell_keep (a := ⟨w10.heap.size, 0, none⟩) (v := .int .i64 0) (by first | (go_keep; done) | (simp [go_sem, *]; done)) hb
  have k13_b1 := cell_keep (a := ⟨w10.heap.size, 1, none⟩) (v := .int .i64 0) (by first | (go_keep; done) | (simp [go_sem, *]; done)) hb
  have k13_b2 := cell_keep (a := ⟨w10.heap.size, 2, none⟩) (v := .int .i64 0) (by first | (go_keep; done) | (simp [go_sem, *]; done)) hb
  have l13_b := World.block_lt_of_cell? _ _ k13_b0
  try simp only at l13_b
  have k13_u0 := cell_keep (a := ⟨w12.heap.size, 0, none⟩) (v := .int .i64 0) (by first | (go_keep; done) | (simp [go_sem, *]; done)) hb
  have k13_u1 := cell_keep (a := ⟨w12.heap.size, 1, none⟩) (v := .int .i64 0) (by first | (go_keep; done) | (simp [go_sem, *]; done)) hb
  have k13_u2 := cell_keep (a := ⟨w12.heap.size, 2, none⟩) (v := .int .i64 0) (by first | (go_keep; done) | (simp [go_sem, *]; done)) hb
  have l13_u := World.block_lt_of_cell? _ _ k13_u0
  try simp only at l13_u
  clear hb k12_x0 k12_x1 k12_x2 l12_x k12_b0 k12_b1 k12_b2 l12_b W12
  go_wp2_with fail
  refine (E3.out _ (hT.below (by repeat (first | exact W13.out | refine blw_drewN ?_ _ | refine Below.setCell ?_ (by first | (simp; done) | omega | (simp; omega)) _ | refine Below.alloc ?_ (by first | (simp; done) | omega | (simp; omega)) _)))).mono ?_
  rintro e w14 ⟨rfl, hb⟩
  have W14 := Lib.hid (blw_trans (show Below w.heap.size w _ by repeat (first | exact W13.out | refine blw_drewN ?_ _ | refine Below.setCell ?_ (by first | (simp; done) | omega | (simp; omega)) _ | refine Below.alloc ?_ (by first | (simp; done) | omega | (simp; omega)) _)) hb)
  have n14 := hb.size
  try simp at n14
  have k14_x0 := cell_keep (a := ⟨w9.heap.size, 0, none⟩) (v := .int .i64 0) (by first | (go_keep; done) | (simp [go_sem, *]; done)) hb
  have k14_x1 := cell_keep (a := ⟨w9.heap.size, 1, none⟩) (v := .int .i64 0) (by first | (go_keep; done) | (simp [go_sem, *]; done)) hb
  have k14_x2 := cell_keep (a := ⟨w9.heap.size, 2, none⟩) (v := .int .i64 0) (by first | (go_keep; done) | (simp [go_sem, *]; done)) hb
  have l14_x := World.block_lt_of_cell? _ _ k14_x0
  try simp only at l14_x
  have k14_b0 := cell_keep (a := ⟨w10.heap.size, 0, none⟩) (v := .int .i64 0) (by first | (go_keep; done) | (simp [go_sem, *]; done)) hb
  have k14_b1 := cell_keep (a := ⟨w10.heap.size, 1, none⟩) (v := .int .i64 0) (by first | (go_keep; done) | (simp [go_sem, *]; done)) hb
  have k14_b2 := cell_keep (a := ⟨w10.heap.size, 2, none⟩) (v := .int .i64 0) (by first | (go_keep; done) | (simp [go_sem, *]; done)) hb
  have l14_b := World.block_lt_of_cell? _ _ k14_b0
  try simp only at l14_b
  have k14_u0 := cell_keep (a := ⟨w12.heap.size, 0, none⟩) (v := .int .i64 0) (by first | (go_keep; done) | (simp [go_sem, *]; done)) hb
  have k14_u1 := cell_keep (a := ⟨w12.heap.size, 1, none⟩) (v := .int .i64 0) (by first | (go_keep; done) | (simp [go_sem, *]; done)) hb
  have k14_u2 := cell_keep (a := ⟨w12.heap.size, 2, none⟩) (v := .int .i64 0) (by first | (go_keep; done) | (simp [go_sem, *]; done)) hb
  have l14_u := World.block_lt_of_cell? _ _ k14_u0
  try simp only at l14_u
  have k14_p0 := cell_keep (a := ⟨w13.heap.size, 0, none⟩) (v := .int .i64 0) (by first | (go_keep; done) | (simp [go_sem, *]; done)) hb
  have k14_p1 := cell_keep (a := ⟨w13.heap.size, 1, none⟩) (v := .int .i64 0) (by first | (go_keep; done) | (simp [go_sem, *]; done)) hb
  have k14_p2 := cell_keep (a := ⟨w13.heap.size, 2, none⟩) (v := .int .i64 0) (by first | (go_keep; done) | (simp [go_sem, *]; done)) hb
  have l14_p := World.block_lt_of_cell? _ _ k14_p0
  try simp only at l14_p
  clear hb k13_x0 k13_x1 k13_x2 l13_x k13_b0 k13_b1 k13_b2 l13_b k13_u0 k13_u1 k13_u2 l13_u W13
  go_wp2
  go_ret
  exact ⟨ret_bool (by simp), by repeat (first | exact W14.out | refine blw_drewN ?_ _ | refine Below.setCell ?_ (by first | (simp; done) | omega | (simp; omega)) _ | refine Below.alloc ?_ (by first | (simp; done) | omega | (simp; omega)) _)⟩

theorem dateTells_any (y m d n : Int) (s : List UInt8) (w : World) (hT : PMH w) (hs : s.length ≤ 4000000000) :
    Calls Tryz.prog 3 #[.agg #[.int .i64 y, .int .i64 m, .int .i64 d], .int .i64 n, .string ⟨s.toArray⟩] w fun e w' => e = .returned (.bool true) ∧ Below w.heap.size w w' := by
  by_cases h : Cal.vld y m d
  · skip
    by_cases g : ∃ a b c : Int, Cal.vld a b c ∧ dtxt a b c = s
    · obtain ⟨a, b, c, hv, rfl⟩ := g
      by_cases q : n < 0 ∨ 3652059 ≤ n
      · exact dateTells_nyy y m d n _ _ _ _ (dtxt a b c) _ w hT (Lib.hid fun w (_ : PMH w) => rfault_yes y m d w h) (Lib.hid fun w (_ : PMH w) => rnumber_any y m d w h) (Lib.hid fun w (_ : PMH w) => rdtext_any y m d w h) (Lib.hid fun w (hT : PMH w) => check_yes y m d w h hT.p.t) (Lib.hid fun w (hT : PMH w) => number_yes y m d w h hT.p.t) (Lib.hid fun w (hT : PMH w) => dtext_yes y m d w hT.p.t hT.p.p h) (Lib.hid fun w (_ : PMH w) => rdof_no n w q) (Lib.hid fun w (_ : PMH w) => of_no n w q) (Lib.hid fun w (_ : PMH w) => dayof_yes a b c w hv) (Lib.hid fun w (hT : PMH w) => parse_yes a b c w hT.p hv)
      · obtain ⟨x1, x2, x3, xv, rfl⟩ := Cal.has_day n (by omega) (by omega)
        exact dateTells_yyy y m d _ _ _ _ _ _ _ _ (dtxt a b c) _ w hT (Lib.hid fun w (_ : PMH w) => rfault_yes y m d w h) (Lib.hid fun w (_ : PMH w) => rnumber_any y m d w h) (Lib.hid fun w (_ : PMH w) => rdtext_any y m d w h) (Lib.hid fun w (hT : PMH w) => check_yes y m d w h hT.p.t) (Lib.hid fun w (hT : PMH w) => number_yes y m d w h hT.p.t) (Lib.hid fun w (hT : PMH w) => dtext_yes y m d w hT.p.t hT.p.p h) (Lib.hid fun w (_ : PMH w) => rdof_yes _ x1 x2 x3 w xv rfl) (Lib.hid fun w (hT : PMH w) => of_day x1 x2 x3 w hT.p.t xv) (Lib.hid fun w (_ : PMH w) => dayof_yes a b c w hv) (Lib.hid fun w (hT : PMH w) => parse_yes a b c w hT.p hv)
    · skip
      by_cases q : n < 0 ∨ 3652059 ≤ n
      · exact dateTells_nny y m d n _ s _ w hT (Lib.hid fun w (_ : PMH w) => rfault_yes y m d w h) (Lib.hid fun w (_ : PMH w) => rnumber_any y m d w h) (Lib.hid fun w (_ : PMH w) => rdtext_any y m d w h) (Lib.hid fun w (hT : PMH w) => check_yes y m d w h hT.p.t) (Lib.hid fun w (hT : PMH w) => number_yes y m d w h hT.p.t) (Lib.hid fun w (hT : PMH w) => dtext_yes y m d w hT.p.t hT.p.p h) (Lib.hid fun w (_ : PMH w) => rdof_no n w q) (Lib.hid fun w (_ : PMH w) => of_no n w q) (Lib.hid fun w => dayof_no s w g) (Lib.hid fun w (hT : PMH w) => parse_no s w hT.p hs g)
      · obtain ⟨x1, x2, x3, xv, rfl⟩ := Cal.has_day n (by omega) (by omega)
        exact dateTells_yny y m d _ _ _ _ _ s _ w hT (Lib.hid fun w (_ : PMH w) => rfault_yes y m d w h) (Lib.hid fun w (_ : PMH w) => rnumber_any y m d w h) (Lib.hid fun w (_ : PMH w) => rdtext_any y m d w h) (Lib.hid fun w (hT : PMH w) => check_yes y m d w h hT.p.t) (Lib.hid fun w (hT : PMH w) => number_yes y m d w h hT.p.t) (Lib.hid fun w (hT : PMH w) => dtext_yes y m d w hT.p.t hT.p.p h) (Lib.hid fun w (_ : PMH w) => rdof_yes _ x1 x2 x3 w xv rfl) (Lib.hid fun w (hT : PMH w) => of_day x1 x2 x3 w hT.p.t xv) (Lib.hid fun w => dayof_no s w g) (Lib.hid fun w (hT : PMH w) => parse_no s w hT.p hs g)
  · skip
    by_cases g : ∃ a b c : Int, Cal.vld a b c ∧ dtxt a b c = s
    · obtain ⟨a, b, c, hv, rfl⟩ := g
      by_cases q : n < 0 ∨ 3652059 ≤ n
      · exact dateTells_nyn y m d n _ _ _ (dtxt a b c) w hT (Lib.hid fun w (_ : PMH w) => rfault_no y m d w h) (Lib.hid fun w (hT : PMH w) => check_no y m d w h hT.p.t) (Lib.hid fun w (hT : PMH w) => number_no y m d w h hT.p.t) (Lib.hid fun w (hT : PMH w) => dtext_no y m d w hT.p.t h) (Lib.hid fun w (_ : PMH w) => rdof_no n w q) (Lib.hid fun w (_ : PMH w) => of_no n w q) (Lib.hid fun w (_ : PMH w) => dayof_yes a b c w hv) (Lib.hid fun w (hT : PMH w) => parse_yes a b c w hT.p hv)
      · obtain ⟨x1, x2, x3, xv, rfl⟩ := Cal.has_day n (by omega) (by omega)
        exact dateTells_yyn y m d _ _ _ _ _ _ _ (dtxt a b c) w hT (Lib.hid fun w (_ : PMH w) => rfault_no y m d w h) (Lib.hid fun w (hT : PMH w) => check_no y m d w h hT.p.t) (Lib.hid fun w (hT : PMH w) => number_no y m d w h hT.p.t) (Lib.hid fun w (hT : PMH w) => dtext_no y m d w hT.p.t h) (Lib.hid fun w (_ : PMH w) => rdof_yes _ x1 x2 x3 w xv rfl) (Lib.hid fun w (hT : PMH w) => of_day x1 x2 x3 w hT.p.t xv) (Lib.hid fun w (_ : PMH w) => dayof_yes a b c w hv) (Lib.hid fun w (hT : PMH w) => parse_yes a b c w hT.p hv)
    · skip
      by_cases q : n < 0 ∨ 3652059 ≤ n
      · exact dateTells_nnn y m d n  s w hT (Lib.hid fun w (_ : PMH w) => rfault_no y m d w h) (Lib.hid fun w (hT : PMH w) => check_no y m d w h hT.p.t) (Lib.hid fun w (hT : PMH w) => number_no y m d w h hT.p.t) (Lib.hid fun w (hT : PMH w) => dtext_no y m d w hT.p.t h) (Lib.hid fun w (_ : PMH w) => rdof_no n w q) (Lib.hid fun w (_ : PMH w) => of_no n w q) (Lib.hid fun w => dayof_no s w g) (Lib.hid fun w (hT : PMH w) => parse_no s w hT.p hs g)
      · obtain ⟨x1, x2, x3, xv, rfl⟩ := Cal.has_day n (by omega) (by omega)
        exact dateTells_ynn y m d _ _ _ _ s w hT (Lib.hid fun w (_ : PMH w) => rfault_no y m d w h) (Lib.hid fun w (hT : PMH w) => check_no y m d w h hT.p.t) (Lib.hid fun w (hT : PMH w) => number_no y m d w h hT.p.t) (Lib.hid fun w (hT : PMH w) => dtext_no y m d w hT.p.t h) (Lib.hid fun w (_ : PMH w) => rdof_yes _ x1 x2 x3 w xv rfl) (Lib.hid fun w (hT : PMH w) => of_day x1 x2 x3 w hT.p.t xv) (Lib.hid fun w => dayof_no s w g) (Lib.hid fun w (hT : PMH w) => parse_no s w hT.p hs g)
end Go.Proofs.YtdcemkfljhdceaaGreatDoor
