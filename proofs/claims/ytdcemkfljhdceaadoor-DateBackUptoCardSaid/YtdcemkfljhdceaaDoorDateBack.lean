/- The walk of the law DateBack: it returns true of whatever day, number and text that is short of 4000000000 bytes. -/
import Derived.Test.YtdcemkfljhdceaaDoorParse
import Derived.Test.YtdcemkfljhdceaaDoorHasDay
import Derived.Test.YtdcemkfljhdceaaDoorDated
import Derived.Test.YtdcemkfljhdceaaDoorOf
namespace Go.Proofs.YtdcemkfljhdceaaDoor
open Go.RowKit

/-- a day's text tells that day -/
theorem parse_yes (y m d : Int) (w : World) (hT : PM w) (h : Cal.vld y m d) :
    Calls Tryd.prog 19 #[.string ⟨(dtxt y m d).toArray⟩] w fun e w' => e = .returned (.tuple #[.agg #[.int .i64 y, .int .i64 m, .int .i64 d], .nilIface]) ∧ Below w.heap.size w w' := by
  refine (dparse_any (dtxt y m d) w hT (by rw [dtxt_len h]; omega)).mono ?_
  rintro e w' (⟨y', m', d', hv, he, rfl, hb⟩ | ⟨hno, _⟩)
  · have a := dtxt_nums h rfl
    have b := dtxt_nums hv (show Lib.splitN (dtxt y' m' d') [45] 3 = Lib.splitN (dtxt y m d) [45] 3 by rw [he])
    obtain ⟨_, _, a1, a2, a3⟩ := a
    obtain ⟨_, _, b1, b2, b3⟩ := b
    have e1 : y' = y := b1.symm.trans a1
    have e2 : m' = m := b2.symm.trans a2
    have e3 : d' = d := b3.symm.trans a3
    subst e1 e2 e3
    exact ⟨rfl, hb⟩
  · exact absurd rfl (hno y m d h)
theorem parse_no (s : List UInt8) (w : World) (hT : PM w) (hs : s.length ≤ 4000000000) (h : ¬ ∃ y m d : Int, Cal.vld y m d ∧ dtxt y m d = s) :
    Calls Tryd.prog 19 #[.string ⟨s.toArray⟩] w fun e w' => e = .returned (.tuple #[.agg #[.int .i64 0, .int .i64 0, .int .i64 0], errV 3]) ∧ Below w.heap.size w w' := by
  refine (dparse_any s w hT hs).mono ?_
  rintro e w' (⟨y', m', d', hv, he, rfl, hb⟩ | ⟨_, rfl, hb⟩)
  · exact absurd ⟨y', m', d', hv, he⟩ h
  · exact ⟨rfl, hb⟩
theorem of_day (y m d : Int) (w : World) (hT : TabW w) (h : Cal.vld y m d) :
    Calls Tryd.prog 17 #[.int .i64 (Cal.num y m d)] w fun e w' => e = .returned (.tuple #[.agg #[.int .i64 y, .int .i64 m, .int .i64 d], .nilIface]) ∧ Below w.heap.size w w' := by
  have hr := Cal.num_rng y m d h
  refine (of_yes _ w hr.1 hr.2 hT).mono ?_
  rintro e w' ⟨y', m', d', rfl, hv, he, hb⟩
  obtain ⟨rfl, rfl, rfl⟩ := Cal.num_inj h hv he.symm
  exact ⟨rfl, hb⟩

set_option maxRecDepth 100000 in
set_option maxHeartbeats 2000000 in
theorem dateBack_yyy (y m d n x1 x2 x3 y1 y2 y3 k : Int) (s D : List UInt8) (w : World) (hT : PM w)
    (CO : Hid (∀ w : World, PM w → Calls Tryd.prog 17 #[.int .i64 n] w fun e w' => e = .returned (.tuple #[.agg #[.int .i64 x1, .int .i64 x2, .int .i64 x3], .nilIface]) ∧ Below w.heap.size w w'))
    (CX : Hid (∀ w : World, PM w → Calls Tryd.prog 18 #[.agg #[.int .i64 x1, .int .i64 x2, .int .i64 x3]] w fun e w' => e = .returned (.tuple #[.int .i64 n, .nilIface]) ∧ Below w.heap.size w w'))
    (CP : Hid (∀ w : World, PM w → Calls Tryd.prog 19 #[.string ⟨s.toArray⟩] w fun e w' => e = .returned (.tuple #[.agg #[.int .i64 y1, .int .i64 y2, .int .i64 y3], .nilIface]) ∧ Below w.heap.size w w'))
    (CY : Hid (∀ w : World, PM w → Calls Tryd.prog 20 #[.agg #[.int .i64 y1, .int .i64 y2, .int .i64 y3]] w fun e w' => e = .returned (.tuple #[.string ⟨s.toArray⟩, .nilIface]) ∧ Below w.heap.size w w'))
    (CN : Hid (∀ w : World, PM w → Calls Tryd.prog 18 #[.agg #[.int .i64 y, .int .i64 m, .int .i64 d]] w fun e w' => e = .returned (.tuple #[.int .i64 k, .nilIface]) ∧ Below w.heap.size w w'))
    (CT : Hid (∀ w : World, PM w → Calls Tryd.prog 20 #[.agg #[.int .i64 y, .int .i64 m, .int .i64 d]] w fun e w' => e = .returned (.tuple #[.string ⟨D.toArray⟩, .nilIface]) ∧ Below w.heap.size w w'))
    (CZ : Hid (∀ w : World, PM w → Calls Tryd.prog 17 #[.int .i64 k] w fun e w' => e = .returned (.tuple #[.agg #[.int .i64 y, .int .i64 m, .int .i64 d], .nilIface]) ∧ Below w.heap.size w w'))
    (CW : Hid (∀ w : World, PM w → Calls Tryd.prog 19 #[.string ⟨D.toArray⟩] w fun e w' => e = .returned (.tuple #[.agg #[.int .i64 y, .int .i64 m, .int .i64 d], .nilIface]) ∧ Below w.heap.size w w')) :
    Calls Tryd.prog 4 #[.agg #[.int .i64 y, .int .i64 m, .int .i64 d], .int .i64 n, .string ⟨s.toArray⟩] w fun e w' => e = .returned (.bool true) ∧ Below w.heap.size w w' := by
  have C0 := Lib.hid fun w (hT : PM w) => dated_any w hT.t
  go_enter Tryd.func4, Tryd.ntmps4
  go_wp2_with fail
  refine (C0.out _ (hT.below (by repeat (first | exact (Below.refl _ _) | refine blw_drewN ?_ _ | refine Below.setCell ?_ (by first | (simp; done) | omega | (simp; omega)) _ | refine Below.alloc ?_ (by first | (simp; done) | omega | (simp; omega)) _)))).mono ?_
  rintro e w1 ⟨rfl, hb⟩
  have W1 := Lib.hid (blw_trans (show Below w.heap.size w _ by repeat (first | exact (Below.refl _ _) | refine blw_drewN ?_ _ | refine Below.setCell ?_ (by first | (simp; done) | omega | (simp; omega)) _ | refine Below.alloc ?_ (by first | (simp; done) | omega | (simp; omega)) _)) hb)
  have n1 := hb.size
  try simp at n1
  have k1_d0 := cell_keep (a := ⟨w.heap.size, 0, none⟩) (v := .int .i64 y) (by first | (go_keep; done) | (simp [go_sem, *]; done)) hb
  have k1_d1 := cell_keep (a := ⟨w.heap.size, 1, none⟩) (v := .int .i64 m) (by first | (go_keep; done) | (simp [go_sem, *]; done)) hb
  have k1_d2 := cell_keep (a := ⟨w.heap.size, 2, none⟩) (v := .int .i64 d) (by first | (go_keep; done) | (simp [go_sem, *]; done)) hb
  have l1_d := World.block_lt_of_cell? _ _ k1_d0
  try simp only at l1_d
  clear hb
  go_wp2_with fail
  refine (CO.out _ (hT.below (by repeat (first | exact W1.out | refine blw_drewN ?_ _ | refine Below.setCell ?_ (by first | (simp; done) | omega | (simp; omega)) _ | refine Below.alloc ?_ (by first | (simp; done) | omega | (simp; omega)) _)))).mono ?_
  rintro e w2 ⟨rfl, hb⟩
  have W2 := Lib.hid (blw_trans (show Below w.heap.size w _ by repeat (first | exact W1.out | refine blw_drewN ?_ _ | refine Below.setCell ?_ (by first | (simp; done) | omega | (simp; omega)) _ | refine Below.alloc ?_ (by first | (simp; done) | omega | (simp; omega)) _)) hb)
  have n2 := hb.size
  try simp at n2
  have k2_d0 := cell_keep (a := ⟨w.heap.size, 0, none⟩) (v := .int .i64 y) (by first | (go_keep; done) | (simp [go_sem, *]; done)) hb
  have k2_d1 := cell_keep (a := ⟨w.heap.size, 1, none⟩) (v := .int .i64 m) (by first | (go_keep; done) | (simp [go_sem, *]; done)) hb
  have k2_d2 := cell_keep (a := ⟨w.heap.size, 2, none⟩) (v := .int .i64 d) (by first | (go_keep; done) | (simp [go_sem, *]; done)) hb
  have l2_d := World.block_lt_of_cell? _ _ k2_d0
  try simp only at l2_d
  clear hb k1_d0 k1_d1 k1_d2 l1_d W1
  go_wp2_with fail
  refine (CX.out _ (hT.below (by repeat (first | exact W2.out | refine blw_drewN ?_ _ | refine Below.setCell ?_ (by first | (simp; done) | omega | (simp; omega)) _ | refine Below.alloc ?_ (by first | (simp; done) | omega | (simp; omega)) _)))).mono ?_
  rintro e w3 ⟨rfl, hb⟩
  have W3 := Lib.hid (blw_trans (show Below w.heap.size w _ by repeat (first | exact W2.out | refine blw_drewN ?_ _ | refine Below.setCell ?_ (by first | (simp; done) | omega | (simp; omega)) _ | refine Below.alloc ?_ (by first | (simp; done) | omega | (simp; omega)) _)) hb)
  have n3 := hb.size
  try simp at n3
  have k3_d0 := cell_keep (a := ⟨w.heap.size, 0, none⟩) (v := .int .i64 y) (by first | (go_keep; done) | (simp [go_sem, *]; done)) hb
  have k3_d1 := cell_keep (a := ⟨w.heap.size, 1, none⟩) (v := .int .i64 m) (by first | (go_keep; done) | (simp [go_sem, *]; done)) hb
  have k3_d2 := cell_keep (a := ⟨w.heap.size, 2, none⟩) (v := .int .i64 d) (by first | (go_keep; done) | (simp [go_sem, *]; done)) hb
  have l3_d := World.block_lt_of_cell? _ _ k3_d0
  try simp only at l3_d
  clear hb k2_d0 k2_d1 k2_d2 l2_d W2
  go_wp2_with fail
  refine (CP.out _ (hT.below (by repeat (first | exact W3.out | refine blw_drewN ?_ _ | refine Below.setCell ?_ (by first | (simp; done) | omega | (simp; omega)) _ | refine Below.alloc ?_ (by first | (simp; done) | omega | (simp; omega)) _)))).mono ?_
  rintro e w4 ⟨rfl, hb⟩
  have W4 := Lib.hid (blw_trans (show Below w.heap.size w _ by repeat (first | exact W3.out | refine blw_drewN ?_ _ | refine Below.setCell ?_ (by first | (simp; done) | omega | (simp; omega)) _ | refine Below.alloc ?_ (by first | (simp; done) | omega | (simp; omega)) _)) hb)
  have n4 := hb.size
  try simp at n4
  have k4_d0 := cell_keep (a := ⟨w.heap.size, 0, none⟩) (v := .int .i64 y) (by first | (go_keep; done) | (simp [go_sem, *]; done)) hb
  have k4_d1 := cell_keep (a := ⟨w.heap.size, 1, none⟩) (v := .int .i64 m) (by first | (go_keep; done) | (simp [go_sem, *]; done)) hb
  have k4_d2 := cell_keep (a := ⟨w.heap.size, 2, none⟩) (v := .int .i64 d) (by first | (go_keep; done) | (simp [go_sem, *]; done)) hb
  have l4_d := World.block_lt_of_cell? _ _ k4_d0
  try simp only at l4_d
  clear hb k3_d0 k3_d1 k3_d2 l3_d W3
  go_wp2_with fail
  refine (CY.out _ (hT.below (by repeat (first | exact W4.out | refine blw_drewN ?_ _ | refine Below.setCell ?_ (by first | (simp; done) | omega | (simp; omega)) _ | refine Below.alloc ?_ (by first | (simp; done) | omega | (simp; omega)) _)))).mono ?_
  rintro e w5 ⟨rfl, hb⟩
  have W5 := Lib.hid (blw_trans (show Below w.heap.size w _ by repeat (first | exact W4.out | refine blw_drewN ?_ _ | refine Below.setCell ?_ (by first | (simp; done) | omega | (simp; omega)) _ | refine Below.alloc ?_ (by first | (simp; done) | omega | (simp; omega)) _)) hb)
  have n5 := hb.size
  try simp at n5
  have k5_d0 := cell_keep (a := ⟨w.heap.size, 0, none⟩) (v := .int .i64 y) (by first | (go_keep; done) | (simp [go_sem, *]; done)) hb
  have k5_d1 := cell_keep (a := ⟨w.heap.size, 1, none⟩) (v := .int .i64 m) (by first | (go_keep; done) | (simp [go_sem, *]; done)) hb
  have k5_d2 := cell_keep (a := ⟨w.heap.size, 2, none⟩) (v := .int .i64 d) (by first | (go_keep; done) | (simp [go_sem, *]; done)) hb
  have l5_d := World.block_lt_of_cell? _ _ k5_d0
  try simp only at l5_d
  clear hb k4_d0 k4_d1 k4_d2 l4_d W4
  go_wp2_with fail
  refine (CN.out _ (hT.below (by repeat (first | exact W5.out | refine blw_drewN ?_ _ | refine Below.setCell ?_ (by first | (simp; done) | omega | (simp; omega)) _ | refine Below.alloc ?_ (by first | (simp; done) | omega | (simp; omega)) _)))).mono ?_
  rintro e w6 ⟨rfl, hb⟩
  have W6 := Lib.hid (blw_trans (show Below w.heap.size w _ by repeat (first | exact W5.out | refine blw_drewN ?_ _ | refine Below.setCell ?_ (by first | (simp; done) | omega | (simp; omega)) _ | refine Below.alloc ?_ (by first | (simp; done) | omega | (simp; omega)) _)) hb)
  have n6 := hb.size
  try simp at n6
  have k6_d0 := cell_keep (a := ⟨w.heap.size, 0, none⟩) (v := .int .i64 y) (by first | (go_keep; done) | (simp [go_sem, *]; done)) hb
  have k6_d1 := cell_keep (a := ⟨w.heap.size, 1, none⟩) (v := .int .i64 m) (by first | (go_keep; done) | (simp [go_sem, *]; done)) hb
  have k6_d2 := cell_keep (a := ⟨w.heap.size, 2, none⟩) (v := .int .i64 d) (by first | (go_keep; done) | (simp [go_sem, *]; done)) hb
  have l6_d := World.block_lt_of_cell? _ _ k6_d0
  try simp only at l6_d
  clear hb k5_d0 k5_d1 k5_d2 l5_d W5
  go_wp2_with fail
  refine (CT.out _ (hT.below (by repeat (first | exact W6.out | refine blw_drewN ?_ _ | refine Below.setCell ?_ (by first | (simp; done) | omega | (simp; omega)) _ | refine Below.alloc ?_ (by first | (simp; done) | omega | (simp; omega)) _)))).mono ?_
  rintro e w7 ⟨rfl, hb⟩
  have W7 := Lib.hid (blw_trans (show Below w.heap.size w _ by repeat (first | exact W6.out | refine blw_drewN ?_ _ | refine Below.setCell ?_ (by first | (simp; done) | omega | (simp; omega)) _ | refine Below.alloc ?_ (by first | (simp; done) | omega | (simp; omega)) _)) hb)
  have n7 := hb.size
  try simp at n7
  have k7_d0 := cell_keep (a := ⟨w.heap.size, 0, none⟩) (v := .int .i64 y) (by first | (go_keep; done) | (simp [go_sem, *]; done)) hb
  have k7_d1 := cell_keep (a := ⟨w.heap.size, 1, none⟩) (v := .int .i64 m) (by first | (go_keep; done) | (simp [go_sem, *]; done)) hb
  have k7_d2 := cell_keep (a := ⟨w.heap.size, 2, none⟩) (v := .int .i64 d) (by first | (go_keep; done) | (simp [go_sem, *]; done)) hb
  have l7_d := World.block_lt_of_cell? _ _ k7_d0
  try simp only at l7_d
  clear hb k6_d0 k6_d1 k6_d2 l6_d W6
  go_wp2_with fail
  refine (CZ.out _ (hT.below (by repeat (first | exact W7.out | refine blw_drewN ?_ _ | refine Below.setCell ?_ (by first | (simp; done) | omega | (simp; omega)) _ | refine Below.alloc ?_ (by first | (simp; done) | omega | (simp; omega)) _)))).mono ?_
  rintro e w8 ⟨rfl, hb⟩
  have W8 := Lib.hid (blw_trans (show Below w.heap.size w _ by repeat (first | exact W7.out | refine blw_drewN ?_ _ | refine Below.setCell ?_ (by first | (simp; done) | omega | (simp; omega)) _ | refine Below.alloc ?_ (by first | (simp; done) | omega | (simp; omega)) _)) hb)
  have n8 := hb.size
  try simp at n8
  have k8_d0 := cell_keep (a := ⟨w.heap.size, 0, none⟩) (v := .int .i64 y) (by first | (go_keep; done) | (simp [go_sem, *]; done)) hb
  have k8_d1 := cell_keep (a := ⟨w.heap.size, 1, none⟩) (v := .int .i64 m) (by first | (go_keep; done) | (simp [go_sem, *]; done)) hb
  have k8_d2 := cell_keep (a := ⟨w.heap.size, 2, none⟩) (v := .int .i64 d) (by first | (go_keep; done) | (simp [go_sem, *]; done)) hb
  have l8_d := World.block_lt_of_cell? _ _ k8_d0
  try simp only at l8_d
  clear hb k7_d0 k7_d1 k7_d2 l7_d W7
  go_wp2_with fail
  refine (CW.out _ (hT.below (by repeat (first | exact W8.out | refine blw_drewN ?_ _ | refine Below.setCell ?_ (by first | (simp; done) | omega | (simp; omega)) _ | refine Below.alloc ?_ (by first | (simp; done) | omega | (simp; omega)) _)))).mono ?_
  rintro e w9 ⟨rfl, hb⟩
  have W9 := Lib.hid (blw_trans (show Below w.heap.size w _ by repeat (first | exact W8.out | refine blw_drewN ?_ _ | refine Below.setCell ?_ (by first | (simp; done) | omega | (simp; omega)) _ | refine Below.alloc ?_ (by first | (simp; done) | omega | (simp; omega)) _)) hb)
  have n9 := hb.size
  try simp at n9
  have k9_d0 := cell_keep (a := ⟨w.heap.size, 0, none⟩) (v := .int .i64 y) (by first | (go_keep; done) | (simp [go_sem, *]; done)) hb
  have k9_d1 := cell_keep (a := ⟨w.heap.size, 1, none⟩) (v := .int .i64 m) (by first | (go_keep; done) | (simp [go_sem, *]; done)) hb
  have k9_d2 := cell_keep (a := ⟨w.heap.size, 2, none⟩) (v := .int .i64 d) (by first | (go_keep; done) | (simp [go_sem, *]; done)) hb
  have l9_d := World.block_lt_of_cell? _ _ k9_d0
  try simp only at l9_d
  have k9_z0 := cell_keep (a := ⟨w8.heap.size, 0, none⟩) (v := .int .i64 y) (by first | (go_keep; done) | (simp [go_sem, *]; done)) hb
  have k9_z1 := cell_keep (a := ⟨w8.heap.size, 1, none⟩) (v := .int .i64 m) (by first | (go_keep; done) | (simp [go_sem, *]; done)) hb
  have k9_z2 := cell_keep (a := ⟨w8.heap.size, 2, none⟩) (v := .int .i64 d) (by first | (go_keep; done) | (simp [go_sem, *]; done)) hb
  have l9_z := World.block_lt_of_cell? _ _ k9_z0
  try simp only at l9_z
  clear hb k8_d0 k8_d1 k8_d2 l8_d W8
  go_wp2
  go_ret
  exact ⟨ret_bool (by simp), by repeat (first | exact W9.out | refine blw_drewN ?_ _ | refine Below.setCell ?_ (by first | (simp; done) | omega | (simp; omega)) _ | refine Below.alloc ?_ (by first | (simp; done) | omega | (simp; omega)) _)⟩

set_option maxRecDepth 100000 in
set_option maxHeartbeats 2000000 in
theorem dateBack_yyn (y m d n x1 x2 x3 y1 y2 y3 : Int) (s : List UInt8) (w : World) (hT : PM w)
    (CO : Hid (∀ w : World, PM w → Calls Tryd.prog 17 #[.int .i64 n] w fun e w' => e = .returned (.tuple #[.agg #[.int .i64 x1, .int .i64 x2, .int .i64 x3], .nilIface]) ∧ Below w.heap.size w w'))
    (CX : Hid (∀ w : World, PM w → Calls Tryd.prog 18 #[.agg #[.int .i64 x1, .int .i64 x2, .int .i64 x3]] w fun e w' => e = .returned (.tuple #[.int .i64 n, .nilIface]) ∧ Below w.heap.size w w'))
    (CP : Hid (∀ w : World, PM w → Calls Tryd.prog 19 #[.string ⟨s.toArray⟩] w fun e w' => e = .returned (.tuple #[.agg #[.int .i64 y1, .int .i64 y2, .int .i64 y3], .nilIface]) ∧ Below w.heap.size w w'))
    (CY : Hid (∀ w : World, PM w → Calls Tryd.prog 20 #[.agg #[.int .i64 y1, .int .i64 y2, .int .i64 y3]] w fun e w' => e = .returned (.tuple #[.string ⟨s.toArray⟩, .nilIface]) ∧ Below w.heap.size w w'))
    (CN : Hid (∀ w : World, PM w → Calls Tryd.prog 18 #[.agg #[.int .i64 y, .int .i64 m, .int .i64 d]] w fun e w' => e = .returned (.tuple #[.int .i64 0, errV 1]) ∧ Below w.heap.size w w'))
    (CK : Hid (∀ w : World, PM w → Calls Tryd.prog 21 #[.agg #[.int .i64 y, .int .i64 m, .int .i64 d]] w fun e w' => e = .returned (errV 1) ∧ Below w.heap.size w w')) :
    Calls Tryd.prog 4 #[.agg #[.int .i64 y, .int .i64 m, .int .i64 d], .int .i64 n, .string ⟨s.toArray⟩] w fun e w' => e = .returned (.bool true) ∧ Below w.heap.size w w' := by
  have C0 := Lib.hid fun w (hT : PM w) => dated_any w hT.t
  go_enter Tryd.func4, Tryd.ntmps4
  go_wp2_with fail
  refine (C0.out _ (hT.below (by repeat (first | exact (Below.refl _ _) | refine blw_drewN ?_ _ | refine Below.setCell ?_ (by first | (simp; done) | omega | (simp; omega)) _ | refine Below.alloc ?_ (by first | (simp; done) | omega | (simp; omega)) _)))).mono ?_
  rintro e w1 ⟨rfl, hb⟩
  have W1 := Lib.hid (blw_trans (show Below w.heap.size w _ by repeat (first | exact (Below.refl _ _) | refine blw_drewN ?_ _ | refine Below.setCell ?_ (by first | (simp; done) | omega | (simp; omega)) _ | refine Below.alloc ?_ (by first | (simp; done) | omega | (simp; omega)) _)) hb)
  have n1 := hb.size
  try simp at n1
  have k1_d0 := cell_keep (a := ⟨w.heap.size, 0, none⟩) (v := .int .i64 y) (by first | (go_keep; done) | (simp [go_sem, *]; done)) hb
  have k1_d1 := cell_keep (a := ⟨w.heap.size, 1, none⟩) (v := .int .i64 m) (by first | (go_keep; done) | (simp [go_sem, *]; done)) hb
  have k1_d2 := cell_keep (a := ⟨w.heap.size, 2, none⟩) (v := .int .i64 d) (by first | (go_keep; done) | (simp [go_sem, *]; done)) hb
  have l1_d := World.block_lt_of_cell? _ _ k1_d0
  try simp only at l1_d
  clear hb
  go_wp2_with fail
  refine (CO.out _ (hT.below (by repeat (first | exact W1.out | refine blw_drewN ?_ _ | refine Below.setCell ?_ (by first | (simp; done) | omega | (simp; omega)) _ | refine Below.alloc ?_ (by first | (simp; done) | omega | (simp; omega)) _)))).mono ?_
  rintro e w2 ⟨rfl, hb⟩
  have W2 := Lib.hid (blw_trans (show Below w.heap.size w _ by repeat (first | exact W1.out | refine blw_drewN ?_ _ | refine Below.setCell ?_ (by first | (simp; done) | omega | (simp; omega)) _ | refine Below.alloc ?_ (by first | (simp; done) | omega | (simp; omega)) _)) hb)
  have n2 := hb.size
  try simp at n2
  have k2_d0 := cell_keep (a := ⟨w.heap.size, 0, none⟩) (v := .int .i64 y) (by first | (go_keep; done) | (simp [go_sem, *]; done)) hb
  have k2_d1 := cell_keep (a := ⟨w.heap.size, 1, none⟩) (v := .int .i64 m) (by first | (go_keep; done) | (simp [go_sem, *]; done)) hb
  have k2_d2 := cell_keep (a := ⟨w.heap.size, 2, none⟩) (v := .int .i64 d) (by first | (go_keep; done) | (simp [go_sem, *]; done)) hb
  have l2_d := World.block_lt_of_cell? _ _ k2_d0
  try simp only at l2_d
  clear hb k1_d0 k1_d1 k1_d2 l1_d W1
  go_wp2_with fail
  refine (CX.out _ (hT.below (by repeat (first | exact W2.out | refine blw_drewN ?_ _ | refine Below.setCell ?_ (by first | (simp; done) | omega | (simp; omega)) _ | refine Below.alloc ?_ (by first | (simp; done) | omega | (simp; omega)) _)))).mono ?_
  rintro e w3 ⟨rfl, hb⟩
  have W3 := Lib.hid (blw_trans (show Below w.heap.size w _ by repeat (first | exact W2.out | refine blw_drewN ?_ _ | refine Below.setCell ?_ (by first | (simp; done) | omega | (simp; omega)) _ | refine Below.alloc ?_ (by first | (simp; done) | omega | (simp; omega)) _)) hb)
  have n3 := hb.size
  try simp at n3
  have k3_d0 := cell_keep (a := ⟨w.heap.size, 0, none⟩) (v := .int .i64 y) (by first | (go_keep; done) | (simp [go_sem, *]; done)) hb
  have k3_d1 := cell_keep (a := ⟨w.heap.size, 1, none⟩) (v := .int .i64 m) (by first | (go_keep; done) | (simp [go_sem, *]; done)) hb
  have k3_d2 := cell_keep (a := ⟨w.heap.size, 2, none⟩) (v := .int .i64 d) (by first | (go_keep; done) | (simp [go_sem, *]; done)) hb
  have l3_d := World.block_lt_of_cell? _ _ k3_d0
  try simp only at l3_d
  clear hb k2_d0 k2_d1 k2_d2 l2_d W2
  go_wp2_with fail
  refine (CP.out _ (hT.below (by repeat (first | exact W3.out | refine blw_drewN ?_ _ | refine Below.setCell ?_ (by first | (simp; done) | omega | (simp; omega)) _ | refine Below.alloc ?_ (by first | (simp; done) | omega | (simp; omega)) _)))).mono ?_
  rintro e w4 ⟨rfl, hb⟩
  have W4 := Lib.hid (blw_trans (show Below w.heap.size w _ by repeat (first | exact W3.out | refine blw_drewN ?_ _ | refine Below.setCell ?_ (by first | (simp; done) | omega | (simp; omega)) _ | refine Below.alloc ?_ (by first | (simp; done) | omega | (simp; omega)) _)) hb)
  have n4 := hb.size
  try simp at n4
  have k4_d0 := cell_keep (a := ⟨w.heap.size, 0, none⟩) (v := .int .i64 y) (by first | (go_keep; done) | (simp [go_sem, *]; done)) hb
  have k4_d1 := cell_keep (a := ⟨w.heap.size, 1, none⟩) (v := .int .i64 m) (by first | (go_keep; done) | (simp [go_sem, *]; done)) hb
  have k4_d2 := cell_keep (a := ⟨w.heap.size, 2, none⟩) (v := .int .i64 d) (by first | (go_keep; done) | (simp [go_sem, *]; done)) hb
  have l4_d := World.block_lt_of_cell? _ _ k4_d0
  try simp only at l4_d
  clear hb k3_d0 k3_d1 k3_d2 l3_d W3
  go_wp2_with fail
  refine (CY.out _ (hT.below (by repeat (first | exact W4.out | refine blw_drewN ?_ _ | refine Below.setCell ?_ (by first | (simp; done) | omega | (simp; omega)) _ | refine Below.alloc ?_ (by first | (simp; done) | omega | (simp; omega)) _)))).mono ?_
  rintro e w5 ⟨rfl, hb⟩
  have W5 := Lib.hid (blw_trans (show Below w.heap.size w _ by repeat (first | exact W4.out | refine blw_drewN ?_ _ | refine Below.setCell ?_ (by first | (simp; done) | omega | (simp; omega)) _ | refine Below.alloc ?_ (by first | (simp; done) | omega | (simp; omega)) _)) hb)
  have n5 := hb.size
  try simp at n5
  have k5_d0 := cell_keep (a := ⟨w.heap.size, 0, none⟩) (v := .int .i64 y) (by first | (go_keep; done) | (simp [go_sem, *]; done)) hb
  have k5_d1 := cell_keep (a := ⟨w.heap.size, 1, none⟩) (v := .int .i64 m) (by first | (go_keep; done) | (simp [go_sem, *]; done)) hb
  have k5_d2 := cell_keep (a := ⟨w.heap.size, 2, none⟩) (v := .int .i64 d) (by first | (go_keep; done) | (simp [go_sem, *]; done)) hb
  have l5_d := World.block_lt_of_cell? _ _ k5_d0
  try simp only at l5_d
  clear hb k4_d0 k4_d1 k4_d2 l4_d W4
  go_wp2_with fail
  refine (CN.out _ (hT.below (by repeat (first | exact W5.out | refine blw_drewN ?_ _ | refine Below.setCell ?_ (by first | (simp; done) | omega | (simp; omega)) _ | refine Below.alloc ?_ (by first | (simp; done) | omega | (simp; omega)) _)))).mono ?_
  rintro e w6 ⟨rfl, hb⟩
  have W6 := Lib.hid (blw_trans (show Below w.heap.size w _ by repeat (first | exact W5.out | refine blw_drewN ?_ _ | refine Below.setCell ?_ (by first | (simp; done) | omega | (simp; omega)) _ | refine Below.alloc ?_ (by first | (simp; done) | omega | (simp; omega)) _)) hb)
  have n6 := hb.size
  try simp at n6
  have k6_d0 := cell_keep (a := ⟨w.heap.size, 0, none⟩) (v := .int .i64 y) (by first | (go_keep; done) | (simp [go_sem, *]; done)) hb
  have k6_d1 := cell_keep (a := ⟨w.heap.size, 1, none⟩) (v := .int .i64 m) (by first | (go_keep; done) | (simp [go_sem, *]; done)) hb
  have k6_d2 := cell_keep (a := ⟨w.heap.size, 2, none⟩) (v := .int .i64 d) (by first | (go_keep; done) | (simp [go_sem, *]; done)) hb
  have l6_d := World.block_lt_of_cell? _ _ k6_d0
  try simp only at l6_d
  clear hb k5_d0 k5_d1 k5_d2 l5_d W5
  go_wp2_with fail
  refine (CK.out _ (hT.below (by repeat (first | exact W6.out | refine blw_drewN ?_ _ | refine Below.setCell ?_ (by first | (simp; done) | omega | (simp; omega)) _ | refine Below.alloc ?_ (by first | (simp; done) | omega | (simp; omega)) _)))).mono ?_
  rintro e w7 ⟨rfl, hb⟩
  have W7 := Lib.hid (blw_trans (show Below w.heap.size w _ by repeat (first | exact W6.out | refine blw_drewN ?_ _ | refine Below.setCell ?_ (by first | (simp; done) | omega | (simp; omega)) _ | refine Below.alloc ?_ (by first | (simp; done) | omega | (simp; omega)) _)) hb)
  have n7 := hb.size
  try simp at n7
  clear hb k6_d0 k6_d1 k6_d2 l6_d W6
  go_wp2
  go_ret
  exact ⟨ret_bool (by simp), by repeat (first | exact W7.out | refine blw_drewN ?_ _ | refine Below.setCell ?_ (by first | (simp; done) | omega | (simp; omega)) _ | refine Below.alloc ?_ (by first | (simp; done) | omega | (simp; omega)) _)⟩

set_option maxRecDepth 100000 in
set_option maxHeartbeats 2000000 in
theorem dateBack_yny (y m d n x1 x2 x3 k : Int) (s D : List UInt8) (w : World) (hT : PM w)
    (CO : Hid (∀ w : World, PM w → Calls Tryd.prog 17 #[.int .i64 n] w fun e w' => e = .returned (.tuple #[.agg #[.int .i64 x1, .int .i64 x2, .int .i64 x3], .nilIface]) ∧ Below w.heap.size w w'))
    (CX : Hid (∀ w : World, PM w → Calls Tryd.prog 18 #[.agg #[.int .i64 x1, .int .i64 x2, .int .i64 x3]] w fun e w' => e = .returned (.tuple #[.int .i64 n, .nilIface]) ∧ Below w.heap.size w w'))
    (CP : Hid (∀ w : World, PM w → Calls Tryd.prog 19 #[.string ⟨s.toArray⟩] w fun e w' => e = .returned (.tuple #[.agg #[.int .i64 0, .int .i64 0, .int .i64 0], errV 3]) ∧ Below w.heap.size w w'))
    (CN : Hid (∀ w : World, PM w → Calls Tryd.prog 18 #[.agg #[.int .i64 y, .int .i64 m, .int .i64 d]] w fun e w' => e = .returned (.tuple #[.int .i64 k, .nilIface]) ∧ Below w.heap.size w w'))
    (CT : Hid (∀ w : World, PM w → Calls Tryd.prog 20 #[.agg #[.int .i64 y, .int .i64 m, .int .i64 d]] w fun e w' => e = .returned (.tuple #[.string ⟨D.toArray⟩, .nilIface]) ∧ Below w.heap.size w w'))
    (CZ : Hid (∀ w : World, PM w → Calls Tryd.prog 17 #[.int .i64 k] w fun e w' => e = .returned (.tuple #[.agg #[.int .i64 y, .int .i64 m, .int .i64 d], .nilIface]) ∧ Below w.heap.size w w'))
    (CW : Hid (∀ w : World, PM w → Calls Tryd.prog 19 #[.string ⟨D.toArray⟩] w fun e w' => e = .returned (.tuple #[.agg #[.int .i64 y, .int .i64 m, .int .i64 d], .nilIface]) ∧ Below w.heap.size w w')) :
    Calls Tryd.prog 4 #[.agg #[.int .i64 y, .int .i64 m, .int .i64 d], .int .i64 n, .string ⟨s.toArray⟩] w fun e w' => e = .returned (.bool true) ∧ Below w.heap.size w w' := by
  have C0 := Lib.hid fun w (hT : PM w) => dated_any w hT.t
  go_enter Tryd.func4, Tryd.ntmps4
  go_wp2_with fail
  refine (C0.out _ (hT.below (by repeat (first | exact (Below.refl _ _) | refine blw_drewN ?_ _ | refine Below.setCell ?_ (by first | (simp; done) | omega | (simp; omega)) _ | refine Below.alloc ?_ (by first | (simp; done) | omega | (simp; omega)) _)))).mono ?_
  rintro e w1 ⟨rfl, hb⟩
  have W1 := Lib.hid (blw_trans (show Below w.heap.size w _ by repeat (first | exact (Below.refl _ _) | refine blw_drewN ?_ _ | refine Below.setCell ?_ (by first | (simp; done) | omega | (simp; omega)) _ | refine Below.alloc ?_ (by first | (simp; done) | omega | (simp; omega)) _)) hb)
  have n1 := hb.size
  try simp at n1
  have k1_d0 := cell_keep (a := ⟨w.heap.size, 0, none⟩) (v := .int .i64 y) (by first | (go_keep; done) | (simp [go_sem, *]; done)) hb
  have k1_d1 := cell_keep (a := ⟨w.heap.size, 1, none⟩) (v := .int .i64 m) (by first | (go_keep; done) | (simp [go_sem, *]; done)) hb
  have k1_d2 := cell_keep (a := ⟨w.heap.size, 2, none⟩) (v := .int .i64 d) (by first | (go_keep; done) | (simp [go_sem, *]; done)) hb
  have l1_d := World.block_lt_of_cell? _ _ k1_d0
  try simp only at l1_d
  clear hb
  go_wp2_with fail
  refine (CO.out _ (hT.below (by repeat (first | exact W1.out | refine blw_drewN ?_ _ | refine Below.setCell ?_ (by first | (simp; done) | omega | (simp; omega)) _ | refine Below.alloc ?_ (by first | (simp; done) | omega | (simp; omega)) _)))).mono ?_
  rintro e w2 ⟨rfl, hb⟩
  have W2 := Lib.hid (blw_trans (show Below w.heap.size w _ by repeat (first | exact W1.out | refine blw_drewN ?_ _ | refine Below.setCell ?_ (by first | (simp; done) | omega | (simp; omega)) _ | refine Below.alloc ?_ (by first | (simp; done) | omega | (simp; omega)) _)) hb)
  have n2 := hb.size
  try simp at n2
  have k2_d0 := cell_keep (a := ⟨w.heap.size, 0, none⟩) (v := .int .i64 y) (by first | (go_keep; done) | (simp [go_sem, *]; done)) hb
  have k2_d1 := cell_keep (a := ⟨w.heap.size, 1, none⟩) (v := .int .i64 m) (by first | (go_keep; done) | (simp [go_sem, *]; done)) hb
  have k2_d2 := cell_keep (a := ⟨w.heap.size, 2, none⟩) (v := .int .i64 d) (by first | (go_keep; done) | (simp [go_sem, *]; done)) hb
  have l2_d := World.block_lt_of_cell? _ _ k2_d0
  try simp only at l2_d
  clear hb k1_d0 k1_d1 k1_d2 l1_d W1
  go_wp2_with fail
  refine (CX.out _ (hT.below (by repeat (first | exact W2.out | refine blw_drewN ?_ _ | refine Below.setCell ?_ (by first | (simp; done) | omega | (simp; omega)) _ | refine Below.alloc ?_ (by first | (simp; done) | omega | (simp; omega)) _)))).mono ?_
  rintro e w3 ⟨rfl, hb⟩
  have W3 := Lib.hid (blw_trans (show Below w.heap.size w _ by repeat (first | exact W2.out | refine blw_drewN ?_ _ | refine Below.setCell ?_ (by first | (simp; done) | omega | (simp; omega)) _ | refine Below.alloc ?_ (by first | (simp; done) | omega | (simp; omega)) _)) hb)
  have n3 := hb.size
  try simp at n3
  have k3_d0 := cell_keep (a := ⟨w.heap.size, 0, none⟩) (v := .int .i64 y) (by first | (go_keep; done) | (simp [go_sem, *]; done)) hb
  have k3_d1 := cell_keep (a := ⟨w.heap.size, 1, none⟩) (v := .int .i64 m) (by first | (go_keep; done) | (simp [go_sem, *]; done)) hb
  have k3_d2 := cell_keep (a := ⟨w.heap.size, 2, none⟩) (v := .int .i64 d) (by first | (go_keep; done) | (simp [go_sem, *]; done)) hb
  have l3_d := World.block_lt_of_cell? _ _ k3_d0
  try simp only at l3_d
  clear hb k2_d0 k2_d1 k2_d2 l2_d W2
  go_wp2_with fail
  refine (CP.out _ (hT.below (by repeat (first | exact W3.out | refine blw_drewN ?_ _ | refine Below.setCell ?_ (by first | (simp; done) | omega | (simp; omega)) _ | refine Below.alloc ?_ (by first | (simp; done) | omega | (simp; omega)) _)))).mono ?_
  rintro e w4 ⟨rfl, hb⟩
  have W4 := Lib.hid (blw_trans (show Below w.heap.size w _ by repeat (first | exact W3.out | refine blw_drewN ?_ _ | refine Below.setCell ?_ (by first | (simp; done) | omega | (simp; omega)) _ | refine Below.alloc ?_ (by first | (simp; done) | omega | (simp; omega)) _)) hb)
  have n4 := hb.size
  try simp at n4
  have k4_d0 := cell_keep (a := ⟨w.heap.size, 0, none⟩) (v := .int .i64 y) (by first | (go_keep; done) | (simp [go_sem, *]; done)) hb
  have k4_d1 := cell_keep (a := ⟨w.heap.size, 1, none⟩) (v := .int .i64 m) (by first | (go_keep; done) | (simp [go_sem, *]; done)) hb
  have k4_d2 := cell_keep (a := ⟨w.heap.size, 2, none⟩) (v := .int .i64 d) (by first | (go_keep; done) | (simp [go_sem, *]; done)) hb
  have l4_d := World.block_lt_of_cell? _ _ k4_d0
  try simp only at l4_d
  clear hb k3_d0 k3_d1 k3_d2 l3_d W3
  go_wp2_with fail
  refine (CN.out _ (hT.below (by repeat (first | exact W4.out | refine blw_drewN ?_ _ | refine Below.setCell ?_ (by first | (simp; done) | omega | (simp; omega)) _ | refine Below.alloc ?_ (by first | (simp; done) | omega | (simp; omega)) _)))).mono ?_
  rintro e w5 ⟨rfl, hb⟩
  have W5 := Lib.hid (blw_trans (show Below w.heap.size w _ by repeat (first | exact W4.out | refine blw_drewN ?_ _ | refine Below.setCell ?_ (by first | (simp; done) | omega | (simp; omega)) _ | refine Below.alloc ?_ (by first | (simp; done) | omega | (simp; omega)) _)) hb)
  have n5 := hb.size
  try simp at n5
  have k5_d0 := cell_keep (a := ⟨w.heap.size, 0, none⟩) (v := .int .i64 y) (by first | (go_keep; done) | (simp [go_sem, *]; done)) hb
  have k5_d1 := cell_keep (a := ⟨w.heap.size, 1, none⟩) (v := .int .i64 m) (by first | (go_keep; done) | (simp [go_sem, *]; done)) hb
  have k5_d2 := cell_keep (a := ⟨w.heap.size, 2, none⟩) (v := .int .i64 d) (by first | (go_keep; done) | (simp [go_sem, *]; done)) hb
  have l5_d := World.block_lt_of_cell? _ _ k5_d0
  try simp only at l5_d
  clear hb k4_d0 k4_d1 k4_d2 l4_d W4
  go_wp2_with fail
  refine (CT.out _ (hT.below (by repeat (first | exact W5.out | refine blw_drewN ?_ _ | refine Below.setCell ?_ (by first | (simp; done) | omega | (simp; omega)) _ | refine Below.alloc ?_ (by first | (simp; done) | omega | (simp; omega)) _)))).mono ?_
  rintro e w6 ⟨rfl, hb⟩
  have W6 := Lib.hid (blw_trans (show Below w.heap.size w _ by repeat (first | exact W5.out | refine blw_drewN ?_ _ | refine Below.setCell ?_ (by first | (simp; done) | omega | (simp; omega)) _ | refine Below.alloc ?_ (by first | (simp; done) | omega | (simp; omega)) _)) hb)
  have n6 := hb.size
  try simp at n6
  have k6_d0 := cell_keep (a := ⟨w.heap.size, 0, none⟩) (v := .int .i64 y) (by first | (go_keep; done) | (simp [go_sem, *]; done)) hb
  have k6_d1 := cell_keep (a := ⟨w.heap.size, 1, none⟩) (v := .int .i64 m) (by first | (go_keep; done) | (simp [go_sem, *]; done)) hb
  have k6_d2 := cell_keep (a := ⟨w.heap.size, 2, none⟩) (v := .int .i64 d) (by first | (go_keep; done) | (simp [go_sem, *]; done)) hb
  have l6_d := World.block_lt_of_cell? _ _ k6_d0
  try simp only at l6_d
  clear hb k5_d0 k5_d1 k5_d2 l5_d W5
  go_wp2_with fail
  refine (CZ.out _ (hT.below (by repeat (first | exact W6.out | refine blw_drewN ?_ _ | refine Below.setCell ?_ (by first | (simp; done) | omega | (simp; omega)) _ | refine Below.alloc ?_ (by first | (simp; done) | omega | (simp; omega)) _)))).mono ?_
  rintro e w7 ⟨rfl, hb⟩
  have W7 := Lib.hid (blw_trans (show Below w.heap.size w _ by repeat (first | exact W6.out | refine blw_drewN ?_ _ | refine Below.setCell ?_ (by first | (simp; done) | omega | (simp; omega)) _ | refine Below.alloc ?_ (by first | (simp; done) | omega | (simp; omega)) _)) hb)
  have n7 := hb.size
  try simp at n7
  have k7_d0 := cell_keep (a := ⟨w.heap.size, 0, none⟩) (v := .int .i64 y) (by first | (go_keep; done) | (simp [go_sem, *]; done)) hb
  have k7_d1 := cell_keep (a := ⟨w.heap.size, 1, none⟩) (v := .int .i64 m) (by first | (go_keep; done) | (simp [go_sem, *]; done)) hb
  have k7_d2 := cell_keep (a := ⟨w.heap.size, 2, none⟩) (v := .int .i64 d) (by first | (go_keep; done) | (simp [go_sem, *]; done)) hb
  have l7_d := World.block_lt_of_cell? _ _ k7_d0
  try simp only at l7_d
  clear hb k6_d0 k6_d1 k6_d2 l6_d W6
  go_wp2_with fail
  refine (CW.out _ (hT.below (by repeat (first | exact W7.out | refine blw_drewN ?_ _ | refine Below.setCell ?_ (by first | (simp; done) | omega | (simp; omega)) _ | refine Below.alloc ?_ (by first | (simp; done) | omega | (simp; omega)) _)))).mono ?_
  rintro e w8 ⟨rfl, hb⟩
  have W8 := Lib.hid (blw_trans (show Below w.heap.size w _ by repeat (first | exact W7.out | refine blw_drewN ?_ _ | refine Below.setCell ?_ (by first | (simp; done) | omega | (simp; omega)) _ | refine Below.alloc ?_ (by first | (simp; done) | omega | (simp; omega)) _)) hb)
  have n8 := hb.size
  try simp at n8
  have k8_d0 := cell_keep (a := ⟨w.heap.size, 0, none⟩) (v := .int .i64 y) (by first | (go_keep; done) | (simp [go_sem, *]; done)) hb
  have k8_d1 := cell_keep (a := ⟨w.heap.size, 1, none⟩) (v := .int .i64 m) (by first | (go_keep; done) | (simp [go_sem, *]; done)) hb
  have k8_d2 := cell_keep (a := ⟨w.heap.size, 2, none⟩) (v := .int .i64 d) (by first | (go_keep; done) | (simp [go_sem, *]; done)) hb
  have l8_d := World.block_lt_of_cell? _ _ k8_d0
  try simp only at l8_d
  have k8_z0 := cell_keep (a := ⟨w7.heap.size, 0, none⟩) (v := .int .i64 y) (by first | (go_keep; done) | (simp [go_sem, *]; done)) hb
  have k8_z1 := cell_keep (a := ⟨w7.heap.size, 1, none⟩) (v := .int .i64 m) (by first | (go_keep; done) | (simp [go_sem, *]; done)) hb
  have k8_z2 := cell_keep (a := ⟨w7.heap.size, 2, none⟩) (v := .int .i64 d) (by first | (go_keep; done) | (simp [go_sem, *]; done)) hb
  have l8_z := World.block_lt_of_cell? _ _ k8_z0
  try simp only at l8_z
  clear hb k7_d0 k7_d1 k7_d2 l7_d W7
  go_wp2
  go_ret
  exact ⟨ret_bool (by simp), by repeat (first | exact W8.out | refine blw_drewN ?_ _ | refine Below.setCell ?_ (by first | (simp; done) | omega | (simp; omega)) _ | refine Below.alloc ?_ (by first | (simp; done) | omega | (simp; omega)) _)⟩

set_option maxRecDepth 100000 in
set_option maxHeartbeats 2000000 in
theorem dateBack_ynn (y m d n x1 x2 x3 : Int) (s : List UInt8) (w : World) (hT : PM w)
    (CO : Hid (∀ w : World, PM w → Calls Tryd.prog 17 #[.int .i64 n] w fun e w' => e = .returned (.tuple #[.agg #[.int .i64 x1, .int .i64 x2, .int .i64 x3], .nilIface]) ∧ Below w.heap.size w w'))
    (CX : Hid (∀ w : World, PM w → Calls Tryd.prog 18 #[.agg #[.int .i64 x1, .int .i64 x2, .int .i64 x3]] w fun e w' => e = .returned (.tuple #[.int .i64 n, .nilIface]) ∧ Below w.heap.size w w'))
    (CP : Hid (∀ w : World, PM w → Calls Tryd.prog 19 #[.string ⟨s.toArray⟩] w fun e w' => e = .returned (.tuple #[.agg #[.int .i64 0, .int .i64 0, .int .i64 0], errV 3]) ∧ Below w.heap.size w w'))
    (CN : Hid (∀ w : World, PM w → Calls Tryd.prog 18 #[.agg #[.int .i64 y, .int .i64 m, .int .i64 d]] w fun e w' => e = .returned (.tuple #[.int .i64 0, errV 1]) ∧ Below w.heap.size w w'))
    (CK : Hid (∀ w : World, PM w → Calls Tryd.prog 21 #[.agg #[.int .i64 y, .int .i64 m, .int .i64 d]] w fun e w' => e = .returned (errV 1) ∧ Below w.heap.size w w')) :
    Calls Tryd.prog 4 #[.agg #[.int .i64 y, .int .i64 m, .int .i64 d], .int .i64 n, .string ⟨s.toArray⟩] w fun e w' => e = .returned (.bool true) ∧ Below w.heap.size w w' := by
  have C0 := Lib.hid fun w (hT : PM w) => dated_any w hT.t
  go_enter Tryd.func4, Tryd.ntmps4
  go_wp2_with fail
  refine (C0.out _ (hT.below (by repeat (first | exact (Below.refl _ _) | refine blw_drewN ?_ _ | refine Below.setCell ?_ (by first | (simp; done) | omega | (simp; omega)) _ | refine Below.alloc ?_ (by first | (simp; done) | omega | (simp; omega)) _)))).mono ?_
  rintro e w1 ⟨rfl, hb⟩
  have W1 := Lib.hid (blw_trans (show Below w.heap.size w _ by repeat (first | exact (Below.refl _ _) | refine blw_drewN ?_ _ | refine Below.setCell ?_ (by first | (simp; done) | omega | (simp; omega)) _ | refine Below.alloc ?_ (by first | (simp; done) | omega | (simp; omega)) _)) hb)
  have n1 := hb.size
  try simp at n1
  have k1_d0 := cell_keep (a := ⟨w.heap.size, 0, none⟩) (v := .int .i64 y) (by first | (go_keep; done) | (simp [go_sem, *]; done)) hb
  have k1_d1 := cell_keep (a := ⟨w.heap.size, 1, none⟩) (v := .int .i64 m) (by first | (go_keep; done) | (simp [go_sem, *]; done)) hb
  have k1_d2 := cell_keep (a := ⟨w.heap.size, 2, none⟩) (v := .int .i64 d) (by first | (go_keep; done) | (simp [go_sem, *]; done)) hb
  have l1_d := World.block_lt_of_cell? _ _ k1_d0
  try simp only at l1_d
  clear hb
  go_wp2_with fail
  refine (CO.out _ (hT.below (by repeat (first | exact W1.out | refine blw_drewN ?_ _ | refine Below.setCell ?_ (by first | (simp; done) | omega | (simp; omega)) _ | refine Below.alloc ?_ (by first | (simp; done) | omega | (simp; omega)) _)))).mono ?_
  rintro e w2 ⟨rfl, hb⟩
  have W2 := Lib.hid (blw_trans (show Below w.heap.size w _ by repeat (first | exact W1.out | refine blw_drewN ?_ _ | refine Below.setCell ?_ (by first | (simp; done) | omega | (simp; omega)) _ | refine Below.alloc ?_ (by first | (simp; done) | omega | (simp; omega)) _)) hb)
  have n2 := hb.size
  try simp at n2
  have k2_d0 := cell_keep (a := ⟨w.heap.size, 0, none⟩) (v := .int .i64 y) (by first | (go_keep; done) | (simp [go_sem, *]; done)) hb
  have k2_d1 := cell_keep (a := ⟨w.heap.size, 1, none⟩) (v := .int .i64 m) (by first | (go_keep; done) | (simp [go_sem, *]; done)) hb
  have k2_d2 := cell_keep (a := ⟨w.heap.size, 2, none⟩) (v := .int .i64 d) (by first | (go_keep; done) | (simp [go_sem, *]; done)) hb
  have l2_d := World.block_lt_of_cell? _ _ k2_d0
  try simp only at l2_d
  clear hb k1_d0 k1_d1 k1_d2 l1_d W1
  go_wp2_with fail
  refine (CX.out _ (hT.below (by repeat (first | exact W2.out | refine blw_drewN ?_ _ | refine Below.setCell ?_ (by first | (simp; done) | omega | (simp; omega)) _ | refine Below.alloc ?_ (by first | (simp; done) | omega | (simp; omega)) _)))).mono ?_
  rintro e w3 ⟨rfl, hb⟩
  have W3 := Lib.hid (blw_trans (show Below w.heap.size w _ by repeat (first | exact W2.out | refine blw_drewN ?_ _ | refine Below.setCell ?_ (by first | (simp; done) | omega | (simp; omega)) _ | refine Below.alloc ?_ (by first | (simp; done) | omega | (simp; omega)) _)) hb)
  have n3 := hb.size
  try simp at n3
  have k3_d0 := cell_keep (a := ⟨w.heap.size, 0, none⟩) (v := .int .i64 y) (by first | (go_keep; done) | (simp [go_sem, *]; done)) hb
  have k3_d1 := cell_keep (a := ⟨w.heap.size, 1, none⟩) (v := .int .i64 m) (by first | (go_keep; done) | (simp [go_sem, *]; done)) hb
  have k3_d2 := cell_keep (a := ⟨w.heap.size, 2, none⟩) (v := .int .i64 d) (by first | (go_keep; done) | (simp [go_sem, *]; done)) hb
  have l3_d := World.block_lt_of_cell? _ _ k3_d0
  try simp only at l3_d
  clear hb k2_d0 k2_d1 k2_d2 l2_d W2
  go_wp2_with fail
  refine (CP.out _ (hT.below (by repeat (first | exact W3.out | refine blw_drewN ?_ _ | refine Below.setCell ?_ (by first | (simp; done) | omega | (simp; omega)) _ | refine Below.alloc ?_ (by first | (simp; done) | omega | (simp; omega)) _)))).mono ?_
  rintro e w4 ⟨rfl, hb⟩
  have W4 := Lib.hid (blw_trans (show Below w.heap.size w _ by repeat (first | exact W3.out | refine blw_drewN ?_ _ | refine Below.setCell ?_ (by first | (simp; done) | omega | (simp; omega)) _ | refine Below.alloc ?_ (by first | (simp; done) | omega | (simp; omega)) _)) hb)
  have n4 := hb.size
  try simp at n4
  have k4_d0 := cell_keep (a := ⟨w.heap.size, 0, none⟩) (v := .int .i64 y) (by first | (go_keep; done) | (simp [go_sem, *]; done)) hb
  have k4_d1 := cell_keep (a := ⟨w.heap.size, 1, none⟩) (v := .int .i64 m) (by first | (go_keep; done) | (simp [go_sem, *]; done)) hb
  have k4_d2 := cell_keep (a := ⟨w.heap.size, 2, none⟩) (v := .int .i64 d) (by first | (go_keep; done) | (simp [go_sem, *]; done)) hb
  have l4_d := World.block_lt_of_cell? _ _ k4_d0
  try simp only at l4_d
  clear hb k3_d0 k3_d1 k3_d2 l3_d W3
  go_wp2_with fail
  refine (CN.out _ (hT.below (by repeat (first | exact W4.out | refine blw_drewN ?_ _ | refine Below.setCell ?_ (by first | (simp; done) | omega | (simp; omega)) _ | refine Below.alloc ?_ (by first | (simp; done) | omega | (simp; omega)) _)))).mono ?_
  rintro e w5 ⟨rfl, hb⟩
  have W5 := Lib.hid (blw_trans (show Below w.heap.size w _ by repeat (first | exact W4.out | refine blw_drewN ?_ _ | refine Below.setCell ?_ (by first | (simp; done) | omega | (simp; omega)) _ | refine Below.alloc ?_ (by first | (simp; done) | omega | (simp; omega)) _)) hb)
  have n5 := hb.size
  try simp at n5
  have k5_d0 := cell_keep (a := ⟨w.heap.size, 0, none⟩) (v := .int .i64 y) (by first | (go_keep; done) | (simp [go_sem, *]; done)) hb
  have k5_d1 := cell_keep (a := ⟨w.heap.size, 1, none⟩) (v := .int .i64 m) (by first | (go_keep; done) | (simp [go_sem, *]; done)) hb
  have k5_d2 := cell_keep (a := ⟨w.heap.size, 2, none⟩) (v := .int .i64 d) (by first | (go_keep; done) | (simp [go_sem, *]; done)) hb
  have l5_d := World.block_lt_of_cell? _ _ k5_d0
  try simp only at l5_d
  clear hb k4_d0 k4_d1 k4_d2 l4_d W4
  go_wp2_with fail
  refine (CK.out _ (hT.below (by repeat (first | exact W5.out | refine blw_drewN ?_ _ | refine Below.setCell ?_ (by first | (simp; done) | omega | (simp; omega)) _ | refine Below.alloc ?_ (by first | (simp; done) | omega | (simp; omega)) _)))).mono ?_
  rintro e w6 ⟨rfl, hb⟩
  have W6 := Lib.hid (blw_trans (show Below w.heap.size w _ by repeat (first | exact W5.out | refine blw_drewN ?_ _ | refine Below.setCell ?_ (by first | (simp; done) | omega | (simp; omega)) _ | refine Below.alloc ?_ (by first | (simp; done) | omega | (simp; omega)) _)) hb)
  have n6 := hb.size
  try simp at n6
  clear hb k5_d0 k5_d1 k5_d2 l5_d W5
  go_wp2
  go_ret
  exact ⟨ret_bool (by simp), by repeat (first | exact W6.out | refine blw_drewN ?_ _ | refine Below.setCell ?_ (by first | (simp; done) | omega | (simp; omega)) _ | refine Below.alloc ?_ (by first | (simp; done) | omega | (simp; omega)) _)⟩

set_option maxRecDepth 100000 in
set_option maxHeartbeats 2000000 in
theorem dateBack_nyy (y m d n y1 y2 y3 k : Int) (s D : List UInt8) (w : World) (hT : PM w)
    (CO : Hid (∀ w : World, PM w → Calls Tryd.prog 17 #[.int .i64 n] w fun e w' => e = .returned (.tuple #[.agg #[.int .i64 0, .int .i64 0, .int .i64 0], errV 1]) ∧ Below w.heap.size w w'))
    (CP : Hid (∀ w : World, PM w → Calls Tryd.prog 19 #[.string ⟨s.toArray⟩] w fun e w' => e = .returned (.tuple #[.agg #[.int .i64 y1, .int .i64 y2, .int .i64 y3], .nilIface]) ∧ Below w.heap.size w w'))
    (CY : Hid (∀ w : World, PM w → Calls Tryd.prog 20 #[.agg #[.int .i64 y1, .int .i64 y2, .int .i64 y3]] w fun e w' => e = .returned (.tuple #[.string ⟨s.toArray⟩, .nilIface]) ∧ Below w.heap.size w w'))
    (CN : Hid (∀ w : World, PM w → Calls Tryd.prog 18 #[.agg #[.int .i64 y, .int .i64 m, .int .i64 d]] w fun e w' => e = .returned (.tuple #[.int .i64 k, .nilIface]) ∧ Below w.heap.size w w'))
    (CT : Hid (∀ w : World, PM w → Calls Tryd.prog 20 #[.agg #[.int .i64 y, .int .i64 m, .int .i64 d]] w fun e w' => e = .returned (.tuple #[.string ⟨D.toArray⟩, .nilIface]) ∧ Below w.heap.size w w'))
    (CZ : Hid (∀ w : World, PM w → Calls Tryd.prog 17 #[.int .i64 k] w fun e w' => e = .returned (.tuple #[.agg #[.int .i64 y, .int .i64 m, .int .i64 d], .nilIface]) ∧ Below w.heap.size w w'))
    (CW : Hid (∀ w : World, PM w → Calls Tryd.prog 19 #[.string ⟨D.toArray⟩] w fun e w' => e = .returned (.tuple #[.agg #[.int .i64 y, .int .i64 m, .int .i64 d], .nilIface]) ∧ Below w.heap.size w w')) :
    Calls Tryd.prog 4 #[.agg #[.int .i64 y, .int .i64 m, .int .i64 d], .int .i64 n, .string ⟨s.toArray⟩] w fun e w' => e = .returned (.bool true) ∧ Below w.heap.size w w' := by
  have C0 := Lib.hid fun w (hT : PM w) => dated_any w hT.t
  go_enter Tryd.func4, Tryd.ntmps4
  go_wp2_with fail
  refine (C0.out _ (hT.below (by repeat (first | exact (Below.refl _ _) | refine blw_drewN ?_ _ | refine Below.setCell ?_ (by first | (simp; done) | omega | (simp; omega)) _ | refine Below.alloc ?_ (by first | (simp; done) | omega | (simp; omega)) _)))).mono ?_
  rintro e w1 ⟨rfl, hb⟩
  have W1 := Lib.hid (blw_trans (show Below w.heap.size w _ by repeat (first | exact (Below.refl _ _) | refine blw_drewN ?_ _ | refine Below.setCell ?_ (by first | (simp; done) | omega | (simp; omega)) _ | refine Below.alloc ?_ (by first | (simp; done) | omega | (simp; omega)) _)) hb)
  have n1 := hb.size
  try simp at n1
  have k1_d0 := cell_keep (a := ⟨w.heap.size, 0, none⟩) (v := .int .i64 y) (by first | (go_keep; done) | (simp [go_sem, *]; done)) hb
  have k1_d1 := cell_keep (a := ⟨w.heap.size, 1, none⟩) (v := .int .i64 m) (by first | (go_keep; done) | (simp [go_sem, *]; done)) hb
  have k1_d2 := cell_keep (a := ⟨w.heap.size, 2, none⟩) (v := .int .i64 d) (by first | (go_keep; done) | (simp [go_sem, *]; done)) hb
  have l1_d := World.block_lt_of_cell? _ _ k1_d0
  try simp only at l1_d
  clear hb
  go_wp2_with fail
  refine (CO.out _ (hT.below (by repeat (first | exact W1.out | refine blw_drewN ?_ _ | refine Below.setCell ?_ (by first | (simp; done) | omega | (simp; omega)) _ | refine Below.alloc ?_ (by first | (simp; done) | omega | (simp; omega)) _)))).mono ?_
  rintro e w2 ⟨rfl, hb⟩
  have W2 := Lib.hid (blw_trans (show Below w.heap.size w _ by repeat (first | exact W1.out | refine blw_drewN ?_ _ | refine Below.setCell ?_ (by first | (simp; done) | omega | (simp; omega)) _ | refine Below.alloc ?_ (by first | (simp; done) | omega | (simp; omega)) _)) hb)
  have n2 := hb.size
  try simp at n2
  have k2_d0 := cell_keep (a := ⟨w.heap.size, 0, none⟩) (v := .int .i64 y) (by first | (go_keep; done) | (simp [go_sem, *]; done)) hb
  have k2_d1 := cell_keep (a := ⟨w.heap.size, 1, none⟩) (v := .int .i64 m) (by first | (go_keep; done) | (simp [go_sem, *]; done)) hb
  have k2_d2 := cell_keep (a := ⟨w.heap.size, 2, none⟩) (v := .int .i64 d) (by first | (go_keep; done) | (simp [go_sem, *]; done)) hb
  have l2_d := World.block_lt_of_cell? _ _ k2_d0
  try simp only at l2_d
  clear hb k1_d0 k1_d1 k1_d2 l1_d W1
  go_wp2_with fail
  refine (CP.out _ (hT.below (by repeat (first | exact W2.out | refine blw_drewN ?_ _ | refine Below.setCell ?_ (by first | (simp; done) | omega | (simp; omega)) _ | refine Below.alloc ?_ (by first | (simp; done) | omega | (simp; omega)) _)))).mono ?_
  rintro e w3 ⟨rfl, hb⟩
  have W3 := Lib.hid (blw_trans (show Below w.heap.size w _ by repeat (first | exact W2.out | refine blw_drewN ?_ _ | refine Below.setCell ?_ (by first | (simp; done) | omega | (simp; omega)) _ | refine Below.alloc ?_ (by first | (simp; done) | omega | (simp; omega)) _)) hb)
  have n3 := hb.size
  try simp at n3
  have k3_d0 := cell_keep (a := ⟨w.heap.size, 0, none⟩) (v := .int .i64 y) (by first | (go_keep; done) | (simp [go_sem, *]; done)) hb
  have k3_d1 := cell_keep (a := ⟨w.heap.size, 1, none⟩) (v := .int .i64 m) (by first | (go_keep; done) | (simp [go_sem, *]; done)) hb
  have k3_d2 := cell_keep (a := ⟨w.heap.size, 2, none⟩) (v := .int .i64 d) (by first | (go_keep; done) | (simp [go_sem, *]; done)) hb
  have l3_d := World.block_lt_of_cell? _ _ k3_d0
  try simp only at l3_d
  clear hb k2_d0 k2_d1 k2_d2 l2_d W2
  go_wp2_with fail
  refine (CY.out _ (hT.below (by repeat (first | exact W3.out | refine blw_drewN ?_ _ | refine Below.setCell ?_ (by first | (simp; done) | omega | (simp; omega)) _ | refine Below.alloc ?_ (by first | (simp; done) | omega | (simp; omega)) _)))).mono ?_
  rintro e w4 ⟨rfl, hb⟩
  have W4 := Lib.hid (blw_trans (show Below w.heap.size w _ by repeat (first | exact W3.out | refine blw_drewN ?_ _ | refine Below.setCell ?_ (by first | (simp; done) | omega | (simp; omega)) _ | refine Below.alloc ?_ (by first | (simp; done) | omega | (simp; omega)) _)) hb)
  have n4 := hb.size
  try simp at n4
  have k4_d0 := cell_keep (a := ⟨w.heap.size, 0, none⟩) (v := .int .i64 y) (by first | (go_keep; done) | (simp [go_sem, *]; done)) hb
  have k4_d1 := cell_keep (a := ⟨w.heap.size, 1, none⟩) (v := .int .i64 m) (by first | (go_keep; done) | (simp [go_sem, *]; done)) hb
  have k4_d2 := cell_keep (a := ⟨w.heap.size, 2, none⟩) (v := .int .i64 d) (by first | (go_keep; done) | (simp [go_sem, *]; done)) hb
  have l4_d := World.block_lt_of_cell? _ _ k4_d0
  try simp only at l4_d
  clear hb k3_d0 k3_d1 k3_d2 l3_d W3
  go_wp2_with fail
  refine (CN.out _ (hT.below (by repeat (first | exact W4.out | refine blw_drewN ?_ _ | refine Below.setCell ?_ (by first | (simp; done) | omega | (simp; omega)) _ | refine Below.alloc ?_ (by first | (simp; done) | omega | (simp; omega)) _)))).mono ?_
  rintro e w5 ⟨rfl, hb⟩
  have W5 := Lib.hid (blw_trans (show Below w.heap.size w _ by repeat (first | exact W4.out | refine blw_drewN ?_ _ | refine Below.setCell ?_ (by first | (simp; done) | omega | (simp; omega)) _ | refine Below.alloc ?_ (by first | (simp; done) | omega | (simp; omega)) _)) hb)
  have n5 := hb.size
  try simp at n5
  have k5_d0 := cell_keep (a := ⟨w.heap.size, 0, none⟩) (v := .int .i64 y) (by first | (go_keep; done) | (simp [go_sem, *]; done)) hb
  have k5_d1 := cell_keep (a := ⟨w.heap.size, 1, none⟩) (v := .int .i64 m) (by first | (go_keep; done) | (simp [go_sem, *]; done)) hb
  have k5_d2 := cell_keep (a := ⟨w.heap.size, 2, none⟩) (v := .int .i64 d) (by first | (go_keep; done) | (simp [go_sem, *]; done)) hb
  have l5_d := World.block_lt_of_cell? _ _ k5_d0
  try simp only at l5_d
  clear hb k4_d0 k4_d1 k4_d2 l4_d W4
  go_wp2_with fail
  refine (CT.out _ (hT.below (by repeat (first | exact W5.out | refine blw_drewN ?_ _ | refine Below.setCell ?_ (by first | (simp; done) | omega | (simp; omega)) _ | refine Below.alloc ?_ (by first | (simp; done) | omega | (simp; omega)) _)))).mono ?_
  rintro e w6 ⟨rfl, hb⟩
  have W6 := Lib.hid (blw_trans (show Below w.heap.size w _ by repeat (first | exact W5.out | refine blw_drewN ?_ _ | refine Below.setCell ?_ (by first | (simp; done) | omega | (simp; omega)) _ | refine Below.alloc ?_ (by first | (simp; done) | omega | (simp; omega)) _)) hb)
  have n6 := hb.size
  try simp at n6
  have k6_d0 := cell_keep (a := ⟨w.heap.size, 0, none⟩) (v := .int .i64 y) (by first | (go_keep; done) | (simp [go_sem, *]; done)) hb
  have k6_d1 := cell_keep (a := ⟨w.heap.size, 1, none⟩) (v := .int .i64 m) (by first | (go_keep; done) | (simp [go_sem, *]; done)) hb
  have k6_d2 := cell_keep (a := ⟨w.heap.size, 2, none⟩) (v := .int .i64 d) (by first | (go_keep; done) | (simp [go_sem, *]; done)) hb
  have l6_d := World.block_lt_of_cell? _ _ k6_d0
  try simp only at l6_d
  clear hb k5_d0 k5_d1 k5_d2 l5_d W5
  go_wp2_with fail
  refine (CZ.out _ (hT.below (by repeat (first | exact W6.out | refine blw_drewN ?_ _ | refine Below.setCell ?_ (by first | (simp; done) | omega | (simp; omega)) _ | refine Below.alloc ?_ (by first | (simp; done) | omega | (simp; omega)) _)))).mono ?_
  rintro e w7 ⟨rfl, hb⟩
  have W7 := Lib.hid (blw_trans (show Below w.heap.size w _ by repeat (first | exact W6.out | refine blw_drewN ?_ _ | refine Below.setCell ?_ (by first | (simp; done) | omega | (simp; omega)) _ | refine Below.alloc ?_ (by first | (simp; done) | omega | (simp; omega)) _)) hb)
  have n7 := hb.size
  try simp at n7
  have k7_d0 := cell_keep (a := ⟨w.heap.size, 0, none⟩) (v := .int .i64 y) (by first | (go_keep; done) | (simp [go_sem, *]; done)) hb
  have k7_d1 := cell_keep (a := ⟨w.heap.size, 1, none⟩) (v := .int .i64 m) (by first | (go_keep; done) | (simp [go_sem, *]; done)) hb
  have k7_d2 := cell_keep (a := ⟨w.heap.size, 2, none⟩) (v := .int .i64 d) (by first | (go_keep; done) | (simp [go_sem, *]; done)) hb
  have l7_d := World.block_lt_of_cell? _ _ k7_d0
  try simp only at l7_d
  clear hb k6_d0 k6_d1 k6_d2 l6_d W6
  go_wp2_with fail
  refine (CW.out _ (hT.below (by repeat (first | exact W7.out | refine blw_drewN ?_ _ | refine Below.setCell ?_ (by first | (simp; done) | omega | (simp; omega)) _ | refine Below.alloc ?_ (by first | (simp; done) | omega | (simp; omega)) _)))).mono ?_
  rintro e w8 ⟨rfl, hb⟩
  have W8 := Lib.hid (blw_trans (show Below w.heap.size w _ by repeat (first | exact W7.out | refine blw_drewN ?_ _ | refine Below.setCell ?_ (by first | (simp; done) | omega | (simp; omega)) _ | refine Below.alloc ?_ (by first | (simp; done) | omega | (simp; omega)) _)) hb)
  have n8 := hb.size
  try simp at n8
  have k8_d0 := cell_keep (a := ⟨w.heap.size, 0, none⟩) (v := .int .i64 y) (by first | (go_keep; done) | (simp [go_sem, *]; done)) hb
  have k8_d1 := cell_keep (a := ⟨w.heap.size, 1, none⟩) (v := .int .i64 m) (by first | (go_keep; done) | (simp [go_sem, *]; done)) hb
  have k8_d2 := cell_keep (a := ⟨w.heap.size, 2, none⟩) (v := .int .i64 d) (by first | (go_keep; done) | (simp [go_sem, *]; done)) hb
  have l8_d := World.block_lt_of_cell? _ _ k8_d0
  try simp only at l8_d
  have k8_z0 := cell_keep (a := ⟨w7.heap.size, 0, none⟩) (v := .int .i64 y) (by first | (go_keep; done) | (simp [go_sem, *]; done)) hb
  have k8_z1 := cell_keep (a := ⟨w7.heap.size, 1, none⟩) (v := .int .i64 m) (by first | (go_keep; done) | (simp [go_sem, *]; done)) hb
  have k8_z2 := cell_keep (a := ⟨w7.heap.size, 2, none⟩) (v := .int .i64 d) (by first | (go_keep; done) | (simp [go_sem, *]; done)) hb
  have l8_z := World.block_lt_of_cell? _ _ k8_z0
  try simp only at l8_z
  clear hb k7_d0 k7_d1 k7_d2 l7_d W7
  go_wp2
  go_ret
  exact ⟨ret_bool (by simp), by repeat (first | exact W8.out | refine blw_drewN ?_ _ | refine Below.setCell ?_ (by first | (simp; done) | omega | (simp; omega)) _ | refine Below.alloc ?_ (by first | (simp; done) | omega | (simp; omega)) _)⟩

set_option maxRecDepth 100000 in
set_option maxHeartbeats 2000000 in
theorem dateBack_nyn (y m d n y1 y2 y3 : Int) (s : List UInt8) (w : World) (hT : PM w)
    (CO : Hid (∀ w : World, PM w → Calls Tryd.prog 17 #[.int .i64 n] w fun e w' => e = .returned (.tuple #[.agg #[.int .i64 0, .int .i64 0, .int .i64 0], errV 1]) ∧ Below w.heap.size w w'))
    (CP : Hid (∀ w : World, PM w → Calls Tryd.prog 19 #[.string ⟨s.toArray⟩] w fun e w' => e = .returned (.tuple #[.agg #[.int .i64 y1, .int .i64 y2, .int .i64 y3], .nilIface]) ∧ Below w.heap.size w w'))
    (CY : Hid (∀ w : World, PM w → Calls Tryd.prog 20 #[.agg #[.int .i64 y1, .int .i64 y2, .int .i64 y3]] w fun e w' => e = .returned (.tuple #[.string ⟨s.toArray⟩, .nilIface]) ∧ Below w.heap.size w w'))
    (CN : Hid (∀ w : World, PM w → Calls Tryd.prog 18 #[.agg #[.int .i64 y, .int .i64 m, .int .i64 d]] w fun e w' => e = .returned (.tuple #[.int .i64 0, errV 1]) ∧ Below w.heap.size w w'))
    (CK : Hid (∀ w : World, PM w → Calls Tryd.prog 21 #[.agg #[.int .i64 y, .int .i64 m, .int .i64 d]] w fun e w' => e = .returned (errV 1) ∧ Below w.heap.size w w')) :
    Calls Tryd.prog 4 #[.agg #[.int .i64 y, .int .i64 m, .int .i64 d], .int .i64 n, .string ⟨s.toArray⟩] w fun e w' => e = .returned (.bool true) ∧ Below w.heap.size w w' := by
  have C0 := Lib.hid fun w (hT : PM w) => dated_any w hT.t
  go_enter Tryd.func4, Tryd.ntmps4
  go_wp2_with fail
  refine (C0.out _ (hT.below (by repeat (first | exact (Below.refl _ _) | refine blw_drewN ?_ _ | refine Below.setCell ?_ (by first | (simp; done) | omega | (simp; omega)) _ | refine Below.alloc ?_ (by first | (simp; done) | omega | (simp; omega)) _)))).mono ?_
  rintro e w1 ⟨rfl, hb⟩
  have W1 := Lib.hid (blw_trans (show Below w.heap.size w _ by repeat (first | exact (Below.refl _ _) | refine blw_drewN ?_ _ | refine Below.setCell ?_ (by first | (simp; done) | omega | (simp; omega)) _ | refine Below.alloc ?_ (by first | (simp; done) | omega | (simp; omega)) _)) hb)
  have n1 := hb.size
  try simp at n1
  have k1_d0 := cell_keep (a := ⟨w.heap.size, 0, none⟩) (v := .int .i64 y) (by first | (go_keep; done) | (simp [go_sem, *]; done)) hb
  have k1_d1 := cell_keep (a := ⟨w.heap.size, 1, none⟩) (v := .int .i64 m) (by first | (go_keep; done) | (simp [go_sem, *]; done)) hb
  have k1_d2 := cell_keep (a := ⟨w.heap.size, 2, none⟩) (v := .int .i64 d) (by first | (go_keep; done) | (simp [go_sem, *]; done)) hb
  have l1_d := World.block_lt_of_cell? _ _ k1_d0
  try simp only at l1_d
  clear hb
  go_wp2_with fail
  refine (CO.out _ (hT.below (by repeat (first | exact W1.out | refine blw_drewN ?_ _ | refine Below.setCell ?_ (by first | (simp; done) | omega | (simp; omega)) _ | refine Below.alloc ?_ (by first | (simp; done) | omega | (simp; omega)) _)))).mono ?_
  rintro e w2 ⟨rfl, hb⟩
  have W2 := Lib.hid (blw_trans (show Below w.heap.size w _ by repeat (first | exact W1.out | refine blw_drewN ?_ _ | refine Below.setCell ?_ (by first | (simp; done) | omega | (simp; omega)) _ | refine Below.alloc ?_ (by first | (simp; done) | omega | (simp; omega)) _)) hb)
  have n2 := hb.size
  try simp at n2
  have k2_d0 := cell_keep (a := ⟨w.heap.size, 0, none⟩) (v := .int .i64 y) (by first | (go_keep; done) | (simp [go_sem, *]; done)) hb
  have k2_d1 := cell_keep (a := ⟨w.heap.size, 1, none⟩) (v := .int .i64 m) (by first | (go_keep; done) | (simp [go_sem, *]; done)) hb
  have k2_d2 := cell_keep (a := ⟨w.heap.size, 2, none⟩) (v := .int .i64 d) (by first | (go_keep; done) | (simp [go_sem, *]; done)) hb
  have l2_d := World.block_lt_of_cell? _ _ k2_d0
  try simp only at l2_d
  clear hb k1_d0 k1_d1 k1_d2 l1_d W1
  go_wp2_with fail
  refine (CP.out _ (hT.below (by repeat (first | exact W2.out | refine blw_drewN ?_ _ | refine Below.setCell ?_ (by first | (simp; done) | omega | (simp; omega)) _ | refine Below.alloc ?_ (by first | (simp; done) | omega | (simp; omega)) _)))).mono ?_
  rintro e w3 ⟨rfl, hb⟩
  have W3 := Lib.hid (blw_trans (show Below w.heap.size w _ by repeat (first | exact W2.out | refine blw_drewN ?_ _ | refine Below.setCell ?_ (by first | (simp; done) | omega | (simp; omega)) _ | refine Below.alloc ?_ (by first | (simp; done) | omega | (simp; omega)) _)) hb)
  have n3 := hb.size
  try simp at n3
  have k3_d0 := cell_keep (a := ⟨w.heap.size, 0, none⟩) (v := .int .i64 y) (by first | (go_keep; done) | (simp [go_sem, *]; done)) hb
  have k3_d1 := cell_keep (a := ⟨w.heap.size, 1, none⟩) (v := .int .i64 m) (by first | (go_keep; done) | (simp [go_sem, *]; done)) hb
  have k3_d2 := cell_keep (a := ⟨w.heap.size, 2, none⟩) (v := .int .i64 d) (by first | (go_keep; done) | (simp [go_sem, *]; done)) hb
  have l3_d := World.block_lt_of_cell? _ _ k3_d0
  try simp only at l3_d
  clear hb k2_d0 k2_d1 k2_d2 l2_d W2
  go_wp2_with fail
  refine (CY.out _ (hT.below (by repeat (first | exact W3.out | refine blw_drewN ?_ _ | refine Below.setCell ?_ (by first | (simp; done) | omega | (simp; omega)) _ | refine Below.alloc ?_ (by first | (simp; done) | omega | (simp; omega)) _)))).mono ?_
  rintro e w4 ⟨rfl, hb⟩
  have W4 := Lib.hid (blw_trans (show Below w.heap.size w _ by repeat (first | exact W3.out | refine blw_drewN ?_ _ | refine Below.setCell ?_ (by first | (simp; done) | omega | (simp; omega)) _ | refine Below.alloc ?_ (by first | (simp; done) | omega | (simp; omega)) _)) hb)
  have n4 := hb.size
  try simp at n4
  have k4_d0 := cell_keep (a := ⟨w.heap.size, 0, none⟩) (v := .int .i64 y) (by first | (go_keep; done) | (simp [go_sem, *]; done)) hb
  have k4_d1 := cell_keep (a := ⟨w.heap.size, 1, none⟩) (v := .int .i64 m) (by first | (go_keep; done) | (simp [go_sem, *]; done)) hb
  have k4_d2 := cell_keep (a := ⟨w.heap.size, 2, none⟩) (v := .int .i64 d) (by first | (go_keep; done) | (simp [go_sem, *]; done)) hb
  have l4_d := World.block_lt_of_cell? _ _ k4_d0
  try simp only at l4_d
  clear hb k3_d0 k3_d1 k3_d2 l3_d W3
  go_wp2_with fail
  refine (CN.out _ (hT.below (by repeat (first | exact W4.out | refine blw_drewN ?_ _ | refine Below.setCell ?_ (by first | (simp; done) | omega | (simp; omega)) _ | refine Below.alloc ?_ (by first | (simp; done) | omega | (simp; omega)) _)))).mono ?_
  rintro e w5 ⟨rfl, hb⟩
  have W5 := Lib.hid (blw_trans (show Below w.heap.size w _ by repeat (first | exact W4.out | refine blw_drewN ?_ _ | refine Below.setCell ?_ (by first | (simp; done) | omega | (simp; omega)) _ | refine Below.alloc ?_ (by first | (simp; done) | omega | (simp; omega)) _)) hb)
  have n5 := hb.size
  try simp at n5
  have k5_d0 := cell_keep (a := ⟨w.heap.size, 0, none⟩) (v := .int .i64 y) (by first | (go_keep; done) | (simp [go_sem, *]; done)) hb
  have k5_d1 := cell_keep (a := ⟨w.heap.size, 1, none⟩) (v := .int .i64 m) (by first | (go_keep; done) | (simp [go_sem, *]; done)) hb
  have k5_d2 := cell_keep (a := ⟨w.heap.size, 2, none⟩) (v := .int .i64 d) (by first | (go_keep; done) | (simp [go_sem, *]; done)) hb
  have l5_d := World.block_lt_of_cell? _ _ k5_d0
  try simp only at l5_d
  clear hb k4_d0 k4_d1 k4_d2 l4_d W4
  go_wp2_with fail
  refine (CK.out _ (hT.below (by repeat (first | exact W5.out | refine blw_drewN ?_ _ | refine Below.setCell ?_ (by first | (simp; done) | omega | (simp; omega)) _ | refine Below.alloc ?_ (by first | (simp; done) | omega | (simp; omega)) _)))).mono ?_
  rintro e w6 ⟨rfl, hb⟩
  have W6 := Lib.hid (blw_trans (show Below w.heap.size w _ by repeat (first | exact W5.out | refine blw_drewN ?_ _ | refine Below.setCell ?_ (by first | (simp; done) | omega | (simp; omega)) _ | refine Below.alloc ?_ (by first | (simp; done) | omega | (simp; omega)) _)) hb)
  have n6 := hb.size
  try simp at n6
  clear hb k5_d0 k5_d1 k5_d2 l5_d W5
  go_wp2
  go_ret
  exact ⟨ret_bool (by simp), by repeat (first | exact W6.out | refine blw_drewN ?_ _ | refine Below.setCell ?_ (by first | (simp; done) | omega | (simp; omega)) _ | refine Below.alloc ?_ (by first | (simp; done) | omega | (simp; omega)) _)⟩

set_option maxRecDepth 100000 in
set_option maxHeartbeats 2000000 in
theorem dateBack_nny (y m d n k : Int) (s D : List UInt8) (w : World) (hT : PM w)
    (CO : Hid (∀ w : World, PM w → Calls Tryd.prog 17 #[.int .i64 n] w fun e w' => e = .returned (.tuple #[.agg #[.int .i64 0, .int .i64 0, .int .i64 0], errV 1]) ∧ Below w.heap.size w w'))
    (CP : Hid (∀ w : World, PM w → Calls Tryd.prog 19 #[.string ⟨s.toArray⟩] w fun e w' => e = .returned (.tuple #[.agg #[.int .i64 0, .int .i64 0, .int .i64 0], errV 3]) ∧ Below w.heap.size w w'))
    (CN : Hid (∀ w : World, PM w → Calls Tryd.prog 18 #[.agg #[.int .i64 y, .int .i64 m, .int .i64 d]] w fun e w' => e = .returned (.tuple #[.int .i64 k, .nilIface]) ∧ Below w.heap.size w w'))
    (CT : Hid (∀ w : World, PM w → Calls Tryd.prog 20 #[.agg #[.int .i64 y, .int .i64 m, .int .i64 d]] w fun e w' => e = .returned (.tuple #[.string ⟨D.toArray⟩, .nilIface]) ∧ Below w.heap.size w w'))
    (CZ : Hid (∀ w : World, PM w → Calls Tryd.prog 17 #[.int .i64 k] w fun e w' => e = .returned (.tuple #[.agg #[.int .i64 y, .int .i64 m, .int .i64 d], .nilIface]) ∧ Below w.heap.size w w'))
    (CW : Hid (∀ w : World, PM w → Calls Tryd.prog 19 #[.string ⟨D.toArray⟩] w fun e w' => e = .returned (.tuple #[.agg #[.int .i64 y, .int .i64 m, .int .i64 d], .nilIface]) ∧ Below w.heap.size w w')) :
    Calls Tryd.prog 4 #[.agg #[.int .i64 y, .int .i64 m, .int .i64 d], .int .i64 n, .string ⟨s.toArray⟩] w fun e w' => e = .returned (.bool true) ∧ Below w.heap.size w w' := by
  have C0 := Lib.hid fun w (hT : PM w) => dated_any w hT.t
  go_enter Tryd.func4, Tryd.ntmps4
  go_wp2_with fail
  refine (C0.out _ (hT.below (by repeat (first | exact (Below.refl _ _) | refine blw_drewN ?_ _ | refine Below.setCell ?_ (by first | (simp; done) | omega | (simp; omega)) _ | refine Below.alloc ?_ (by first | (simp; done) | omega | (simp; omega)) _)))).mono ?_
  rintro e w1 ⟨rfl, hb⟩
  have W1 := Lib.hid (blw_trans (show Below w.heap.size w _ by repeat (first | exact (Below.refl _ _) | refine blw_drewN ?_ _ | refine Below.setCell ?_ (by first | (simp; done) | omega | (simp; omega)) _ | refine Below.alloc ?_ (by first | (simp; done) | omega | (simp; omega)) _)) hb)
  have n1 := hb.size
  try simp at n1
  have k1_d0 := cell_keep (a := ⟨w.heap.size, 0, none⟩) (v := .int .i64 y) (by first | (go_keep; done) | (simp [go_sem, *]; done)) hb
  have k1_d1 := cell_keep (a := ⟨w.heap.size, 1, none⟩) (v := .int .i64 m) (by first | (go_keep; done) | (simp [go_sem, *]; done)) hb
  have k1_d2 := cell_keep (a := ⟨w.heap.size, 2, none⟩) (v := .int .i64 d) (by first | (go_keep; done) | (simp [go_sem, *]; done)) hb
  have l1_d := World.block_lt_of_cell? _ _ k1_d0
  try simp only at l1_d
  clear hb
  go_wp2_with fail
  refine (CO.out _ (hT.below (by repeat (first | exact W1.out | refine blw_drewN ?_ _ | refine Below.setCell ?_ (by first | (simp; done) | omega | (simp; omega)) _ | refine Below.alloc ?_ (by first | (simp; done) | omega | (simp; omega)) _)))).mono ?_
  rintro e w2 ⟨rfl, hb⟩
  have W2 := Lib.hid (blw_trans (show Below w.heap.size w _ by repeat (first | exact W1.out | refine blw_drewN ?_ _ | refine Below.setCell ?_ (by first | (simp; done) | omega | (simp; omega)) _ | refine Below.alloc ?_ (by first | (simp; done) | omega | (simp; omega)) _)) hb)
  have n2 := hb.size
  try simp at n2
  have k2_d0 := cell_keep (a := ⟨w.heap.size, 0, none⟩) (v := .int .i64 y) (by first | (go_keep; done) | (simp [go_sem, *]; done)) hb
  have k2_d1 := cell_keep (a := ⟨w.heap.size, 1, none⟩) (v := .int .i64 m) (by first | (go_keep; done) | (simp [go_sem, *]; done)) hb
  have k2_d2 := cell_keep (a := ⟨w.heap.size, 2, none⟩) (v := .int .i64 d) (by first | (go_keep; done) | (simp [go_sem, *]; done)) hb
  have l2_d := World.block_lt_of_cell? _ _ k2_d0
  try simp only at l2_d
  clear hb k1_d0 k1_d1 k1_d2 l1_d W1
  go_wp2_with fail
  refine (CP.out _ (hT.below (by repeat (first | exact W2.out | refine blw_drewN ?_ _ | refine Below.setCell ?_ (by first | (simp; done) | omega | (simp; omega)) _ | refine Below.alloc ?_ (by first | (simp; done) | omega | (simp; omega)) _)))).mono ?_
  rintro e w3 ⟨rfl, hb⟩
  have W3 := Lib.hid (blw_trans (show Below w.heap.size w _ by repeat (first | exact W2.out | refine blw_drewN ?_ _ | refine Below.setCell ?_ (by first | (simp; done) | omega | (simp; omega)) _ | refine Below.alloc ?_ (by first | (simp; done) | omega | (simp; omega)) _)) hb)
  have n3 := hb.size
  try simp at n3
  have k3_d0 := cell_keep (a := ⟨w.heap.size, 0, none⟩) (v := .int .i64 y) (by first | (go_keep; done) | (simp [go_sem, *]; done)) hb
  have k3_d1 := cell_keep (a := ⟨w.heap.size, 1, none⟩) (v := .int .i64 m) (by first | (go_keep; done) | (simp [go_sem, *]; done)) hb
  have k3_d2 := cell_keep (a := ⟨w.heap.size, 2, none⟩) (v := .int .i64 d) (by first | (go_keep; done) | (simp [go_sem, *]; done)) hb
  have l3_d := World.block_lt_of_cell? _ _ k3_d0
  try simp only at l3_d
  clear hb k2_d0 k2_d1 k2_d2 l2_d W2
  go_wp2_with fail
  refine (CN.out _ (hT.below (by repeat (first | exact W3.out | refine blw_drewN ?_ _ | refine Below.setCell ?_ (by first | (simp; done) | omega | (simp; omega)) _ | refine Below.alloc ?_ (by first | (simp; done) | omega | (simp; omega)) _)))).mono ?_
  rintro e w4 ⟨rfl, hb⟩
  have W4 := Lib.hid (blw_trans (show Below w.heap.size w _ by repeat (first | exact W3.out | refine blw_drewN ?_ _ | refine Below.setCell ?_ (by first | (simp; done) | omega | (simp; omega)) _ | refine Below.alloc ?_ (by first | (simp; done) | omega | (simp; omega)) _)) hb)
  have n4 := hb.size
  try simp at n4
  have k4_d0 := cell_keep (a := ⟨w.heap.size, 0, none⟩) (v := .int .i64 y) (by first | (go_keep; done) | (simp [go_sem, *]; done)) hb
  have k4_d1 := cell_keep (a := ⟨w.heap.size, 1, none⟩) (v := .int .i64 m) (by first | (go_keep; done) | (simp [go_sem, *]; done)) hb
  have k4_d2 := cell_keep (a := ⟨w.heap.size, 2, none⟩) (v := .int .i64 d) (by first | (go_keep; done) | (simp [go_sem, *]; done)) hb
  have l4_d := World.block_lt_of_cell? _ _ k4_d0
  try simp only at l4_d
  clear hb k3_d0 k3_d1 k3_d2 l3_d W3
  go_wp2_with fail
  refine (CT.out _ (hT.below (by repeat (first | exact W4.out | refine blw_drewN ?_ _ | refine Below.setCell ?_ (by first | (simp; done) | omega | (simp; omega)) _ | refine Below.alloc ?_ (by first | (simp; done) | omega | (simp; omega)) _)))).mono ?_
  rintro e w5 ⟨rfl, hb⟩
  have W5 := Lib.hid (blw_trans (show Below w.heap.size w _ by repeat (first | exact W4.out | refine blw_drewN ?_ _ | refine Below.setCell ?_ (by first | (simp; done) | omega | (simp; omega)) _ | refine Below.alloc ?_ (by first | (simp; done) | omega | (simp; omega)) _)) hb)
  have n5 := hb.size
  try simp at n5
  have k5_d0 := cell_keep (a := ⟨w.heap.size, 0, none⟩) (v := .int .i64 y) (by first | (go_keep; done) | (simp [go_sem, *]; done)) hb
  have k5_d1 := cell_keep (a := ⟨w.heap.size, 1, none⟩) (v := .int .i64 m) (by first | (go_keep; done) | (simp [go_sem, *]; done)) hb
  have k5_d2 := cell_keep (a := ⟨w.heap.size, 2, none⟩) (v := .int .i64 d) (by first | (go_keep; done) | (simp [go_sem, *]; done)) hb
  have l5_d := World.block_lt_of_cell? _ _ k5_d0
  try simp only at l5_d
  clear hb k4_d0 k4_d1 k4_d2 l4_d W4
  go_wp2_with fail
  refine (CZ.out _ (hT.below (by repeat (first | exact W5.out | refine blw_drewN ?_ _ | refine Below.setCell ?_ (by first | (simp; done) | omega | (simp; omega)) _ | refine Below.alloc ?_ (by first | (simp; done) | omega | (simp; omega)) _)))).mono ?_
  rintro e w6 ⟨rfl, hb⟩
  have W6 := Lib.hid (blw_trans (show Below w.heap.size w _ by repeat (first | exact W5.out | refine blw_drewN ?_ _ | refine Below.setCell ?_ (by first | (simp; done) | omega | (simp; omega)) _ | refine Below.alloc ?_ (by first | (simp; done) | omega | (simp; omega)) _)) hb)
  have n6 := hb.size
  try simp at n6
  have k6_d0 := cell_keep (a := ⟨w.heap.size, 0, none⟩) (v := .int .i64 y) (by first | (go_keep; done) | (simp [go_sem, *]; done)) hb
  have k6_d1 := cell_keep (a := ⟨w.heap.size, 1, none⟩) (v := .int .i64 m) (by first | (go_keep; done) | (simp [go_sem, *]; done)) hb
  have k6_d2 := cell_keep (a := ⟨w.heap.size, 2, none⟩) (v := .int .i64 d) (by first | (go_keep; done) | (simp [go_sem, *]; done)) hb
  have l6_d := World.block_lt_of_cell? _ _ k6_d0
  try simp only at l6_d
  clear hb k5_d0 k5_d1 k5_d2 l5_d W5
  go_wp2_with fail
  refine (CW.out _ (hT.below (by repeat (first | exact W6.out | refine blw_drewN ?_ _ | refine Below.setCell ?_ (by first | (simp; done) | omega | (simp; omega)) _ | refine Below.alloc ?_ (by first | (simp; done) | omega | (simp; omega)) _)))).mono ?_
  rintro e w7 ⟨rfl, hb⟩
  have W7 := Lib.hid (blw_trans (show Below w.heap.size w _ by repeat (first | exact W6.out | refine blw_drewN ?_ _ | refine Below.setCell ?_ (by first | (simp; done) | omega | (simp; omega)) _ | refine Below.alloc ?_ (by first | (simp; done) | omega | (simp; omega)) _)) hb)
  have n7 := hb.size
  try simp at n7
  have k7_d0 := cell_keep (a := ⟨w.heap.size, 0, none⟩) (v := .int .i64 y) (by first | (go_keep; done) | (simp [go_sem, *]; done)) hb
  have k7_d1 := cell_keep (a := ⟨w.heap.size, 1, none⟩) (v := .int .i64 m) (by first | (go_keep; done) | (simp [go_sem, *]; done)) hb
  have k7_d2 := cell_keep (a := ⟨w.heap.size, 2, none⟩) (v := .int .i64 d) (by first | (go_keep; done) | (simp [go_sem, *]; done)) hb
  have l7_d := World.block_lt_of_cell? _ _ k7_d0
  try simp only at l7_d
  have k7_z0 := cell_keep (a := ⟨w6.heap.size, 0, none⟩) (v := .int .i64 y) (by first | (go_keep; done) | (simp [go_sem, *]; done)) hb
  have k7_z1 := cell_keep (a := ⟨w6.heap.size, 1, none⟩) (v := .int .i64 m) (by first | (go_keep; done) | (simp [go_sem, *]; done)) hb
  have k7_z2 := cell_keep (a := ⟨w6.heap.size, 2, none⟩) (v := .int .i64 d) (by first | (go_keep; done) | (simp [go_sem, *]; done)) hb
  have l7_z := World.block_lt_of_cell? _ _ k7_z0
  try simp only at l7_z
  clear hb k6_d0 k6_d1 k6_d2 l6_d W6
  go_wp2
  go_ret
  exact ⟨ret_bool (by simp), by repeat (first | exact W7.out | refine blw_drewN ?_ _ | refine Below.setCell ?_ (by first | (simp; done) | omega | (simp; omega)) _ | refine Below.alloc ?_ (by first | (simp; done) | omega | (simp; omega)) _)⟩

set_option maxRecDepth 100000 in
set_option maxHeartbeats 2000000 in
theorem dateBack_nnn (y m d n : Int) (s : List UInt8) (w : World) (hT : PM w)
    (CO : Hid (∀ w : World, PM w → Calls Tryd.prog 17 #[.int .i64 n] w fun e w' => e = .returned (.tuple #[.agg #[.int .i64 0, .int .i64 0, .int .i64 0], errV 1]) ∧ Below w.heap.size w w'))
    (CP : Hid (∀ w : World, PM w → Calls Tryd.prog 19 #[.string ⟨s.toArray⟩] w fun e w' => e = .returned (.tuple #[.agg #[.int .i64 0, .int .i64 0, .int .i64 0], errV 3]) ∧ Below w.heap.size w w'))
    (CN : Hid (∀ w : World, PM w → Calls Tryd.prog 18 #[.agg #[.int .i64 y, .int .i64 m, .int .i64 d]] w fun e w' => e = .returned (.tuple #[.int .i64 0, errV 1]) ∧ Below w.heap.size w w'))
    (CK : Hid (∀ w : World, PM w → Calls Tryd.prog 21 #[.agg #[.int .i64 y, .int .i64 m, .int .i64 d]] w fun e w' => e = .returned (errV 1) ∧ Below w.heap.size w w')) :
    Calls Tryd.prog 4 #[.agg #[.int .i64 y, .int .i64 m, .int .i64 d], .int .i64 n, .string ⟨s.toArray⟩] w fun e w' => e = .returned (.bool true) ∧ Below w.heap.size w w' := by
  have C0 := Lib.hid fun w (hT : PM w) => dated_any w hT.t
  go_enter Tryd.func4, Tryd.ntmps4
  go_wp2_with fail
  refine (C0.out _ (hT.below (by repeat (first | exact (Below.refl _ _) | refine blw_drewN ?_ _ | refine Below.setCell ?_ (by first | (simp; done) | omega | (simp; omega)) _ | refine Below.alloc ?_ (by first | (simp; done) | omega | (simp; omega)) _)))).mono ?_
  rintro e w1 ⟨rfl, hb⟩
  have W1 := Lib.hid (blw_trans (show Below w.heap.size w _ by repeat (first | exact (Below.refl _ _) | refine blw_drewN ?_ _ | refine Below.setCell ?_ (by first | (simp; done) | omega | (simp; omega)) _ | refine Below.alloc ?_ (by first | (simp; done) | omega | (simp; omega)) _)) hb)
  have n1 := hb.size
  try simp at n1
  have k1_d0 := cell_keep (a := ⟨w.heap.size, 0, none⟩) (v := .int .i64 y) (by first | (go_keep; done) | (simp [go_sem, *]; done)) hb
  have k1_d1 := cell_keep (a := ⟨w.heap.size, 1, none⟩) (v := .int .i64 m) (by first | (go_keep; done) | (simp [go_sem, *]; done)) hb
  have k1_d2 := cell_keep (a := ⟨w.heap.size, 2, none⟩) (v := .int .i64 d) (by first | (go_keep; done) | (simp [go_sem, *]; done)) hb
  have l1_d := World.block_lt_of_cell? _ _ k1_d0
  try simp only at l1_d
  clear hb
  go_wp2_with fail
  refine (CO.out _ (hT.below (by repeat (first | exact W1.out | refine blw_drewN ?_ _ | refine Below.setCell ?_ (by first | (simp; done) | omega | (simp; omega)) _ | refine Below.alloc ?_ (by first | (simp; done) | omega | (simp; omega)) _)))).mono ?_
  rintro e w2 ⟨rfl, hb⟩
  have W2 := Lib.hid (blw_trans (show Below w.heap.size w _ by repeat (first | exact W1.out | refine blw_drewN ?_ _ | refine Below.setCell ?_ (by first | (simp; done) | omega | (simp; omega)) _ | refine Below.alloc ?_ (by first | (simp; done) | omega | (simp; omega)) _)) hb)
  have n2 := hb.size
  try simp at n2
  have k2_d0 := cell_keep (a := ⟨w.heap.size, 0, none⟩) (v := .int .i64 y) (by first | (go_keep; done) | (simp [go_sem, *]; done)) hb
  have k2_d1 := cell_keep (a := ⟨w.heap.size, 1, none⟩) (v := .int .i64 m) (by first | (go_keep; done) | (simp [go_sem, *]; done)) hb
  have k2_d2 := cell_keep (a := ⟨w.heap.size, 2, none⟩) (v := .int .i64 d) (by first | (go_keep; done) | (simp [go_sem, *]; done)) hb
  have l2_d := World.block_lt_of_cell? _ _ k2_d0
  try simp only at l2_d
  clear hb k1_d0 k1_d1 k1_d2 l1_d W1
  go_wp2_with fail
  refine (CP.out _ (hT.below (by repeat (first | exact W2.out | refine blw_drewN ?_ _ | refine Below.setCell ?_ (by first | (simp; done) | omega | (simp; omega)) _ | refine Below.alloc ?_ (by first | (simp; done) | omega | (simp; omega)) _)))).mono ?_
  rintro e w3 ⟨rfl, hb⟩
  have W3 := Lib.hid (blw_trans (show Below w.heap.size w _ by repeat (first | exact W2.out | refine blw_drewN ?_ _ | refine Below.setCell ?_ (by first | (simp; done) | omega | (simp; omega)) _ | refine Below.alloc ?_ (by first | (simp; done) | omega | (simp; omega)) _)) hb)
  have n3 := hb.size
  try simp at n3
  have k3_d0 := cell_keep (a := ⟨w.heap.size, 0, none⟩) (v := .int .i64 y) (by first | (go_keep; done) | (simp [go_sem, *]; done)) hb
  have k3_d1 := cell_keep (a := ⟨w.heap.size, 1, none⟩) (v := .int .i64 m) (by first | (go_keep; done) | (simp [go_sem, *]; done)) hb
  have k3_d2 := cell_keep (a := ⟨w.heap.size, 2, none⟩) (v := .int .i64 d) (by first | (go_keep; done) | (simp [go_sem, *]; done)) hb
  have l3_d := World.block_lt_of_cell? _ _ k3_d0
  try simp only at l3_d
  clear hb k2_d0 k2_d1 k2_d2 l2_d W2
  go_wp2_with fail
  refine (CN.out _ (hT.below (by repeat (first | exact W3.out | refine blw_drewN ?_ _ | refine Below.setCell ?_ (by first | (simp; done) | omega | (simp; omega)) _ | refine Below.alloc ?_ (by first | (simp; done) | omega | (simp; omega)) _)))).mono ?_
  rintro e w4 ⟨rfl, hb⟩
  have W4 := Lib.hid (blw_trans (show Below w.heap.size w _ by repeat (first | exact W3.out | refine blw_drewN ?_ _ | refine Below.setCell ?_ (by first | (simp; done) | omega | (simp; omega)) _ | refine Below.alloc ?_ (by first | (simp; done) | omega | (simp; omega)) _)) hb)
  have n4 := hb.size
  try simp at n4
  have k4_d0 := cell_keep (a := ⟨w.heap.size, 0, none⟩) (v := .int .i64 y) (by first | (go_keep; done) | (simp [go_sem, *]; done)) hb
  have k4_d1 := cell_keep (a := ⟨w.heap.size, 1, none⟩) (v := .int .i64 m) (by first | (go_keep; done) | (simp [go_sem, *]; done)) hb
  have k4_d2 := cell_keep (a := ⟨w.heap.size, 2, none⟩) (v := .int .i64 d) (by first | (go_keep; done) | (simp [go_sem, *]; done)) hb
  have l4_d := World.block_lt_of_cell? _ _ k4_d0
  try simp only at l4_d
  clear hb k3_d0 k3_d1 k3_d2 l3_d W3
  go_wp2_with fail
  refine (CK.out _ (hT.below (by repeat (first | exact W4.out | refine blw_drewN ?_ _ | refine Below.setCell ?_ (by first | (simp; done) | omega | (simp; omega)) _ | refine Below.alloc ?_ (by first | (simp; done) | omega | (simp; omega)) _)))).mono ?_
  rintro e w5 ⟨rfl, hb⟩
  have W5 := Lib.hid (blw_trans (show Below w.heap.size w _ by repeat (first | exact W4.out | refine blw_drewN ?_ _ | refine Below.setCell ?_ (by first | (simp; done) | omega | (simp; omega)) _ | refine Below.alloc ?_ (by first | (simp; done) | omega | (simp; omega)) _)) hb)
  have n5 := hb.size
  try simp at n5
  clear hb k4_d0 k4_d1 k4_d2 l4_d W4
  go_wp2
  go_ret
  exact ⟨ret_bool (by simp), by repeat (first | exact W5.out | refine blw_drewN ?_ _ | refine Below.setCell ?_ (by first | (simp; done) | omega | (simp; omega)) _ | refine Below.alloc ?_ (by first | (simp; done) | omega | (simp; omega)) _)⟩

theorem dateBack_any (y m d n : Int) (s : List UInt8) (w : World) (hT : PM w) (hs : s.length ≤ 4000000000) :
    Calls Tryd.prog 4 #[.agg #[.int .i64 y, .int .i64 m, .int .i64 d], .int .i64 n, .string ⟨s.toArray⟩] w fun e w' => e = .returned (.bool true) ∧ Below w.heap.size w w' := by
  by_cases h : Cal.vld y m d
  · have cn := fun w (hT : PM w) => number_yes y m d w h hT.t
    have ct := fun w (hT : PM w) => dtext_yes y m d w hT.t hT.p h
    have cz := fun w (hT : PM w) => of_day y m d w hT.t h
    have cw := fun w (hT : PM w) => parse_yes y m d w hT h
    by_cases g : ∃ a b c : Int, Cal.vld a b c ∧ dtxt a b c = s
    · obtain ⟨a, b, c, hv, rfl⟩ := g
      have cp := fun w (hT : PM w) => parse_yes a b c w hT hv
      have cy := fun w (hT : PM w) => dtext_yes a b c w hT.t hT.p hv
      by_cases q : n < 0 ∨ 3652059 ≤ n
      · exact dateBack_nyy y m d n _ _ _ _ (dtxt a b c) _ w hT (Lib.hid fun w _ => of_no n w q) (Lib.hid cp) (Lib.hid cy) (Lib.hid cn) (Lib.hid ct) (Lib.hid cz) (Lib.hid cw)
      · obtain ⟨x1, x2, x3, xv, rfl⟩ := Cal.has_day n (by omega) (by omega)
        exact dateBack_yyy y m d _ _ _ _ _ _ _ _ (dtxt a b c) _ w hT (Lib.hid fun w (hT : PM w) => of_day x1 x2 x3 w hT.t xv) (Lib.hid fun w (hT : PM w) => number_yes x1 x2 x3 w xv hT.t) (Lib.hid cp) (Lib.hid cy) (Lib.hid cn) (Lib.hid ct) (Lib.hid cz) (Lib.hid cw)
    · skip
      by_cases q : n < 0 ∨ 3652059 ≤ n
      · exact dateBack_nny y m d n _ s _ w hT (Lib.hid fun w _ => of_no n w q) (Lib.hid fun w (hT : PM w) => parse_no s w hT hs g) (Lib.hid cn) (Lib.hid ct) (Lib.hid cz) (Lib.hid cw)
      · obtain ⟨x1, x2, x3, xv, rfl⟩ := Cal.has_day n (by omega) (by omega)
        exact dateBack_yny y m d _ _ _ _ _ s _ w hT (Lib.hid fun w (hT : PM w) => of_day x1 x2 x3 w hT.t xv) (Lib.hid fun w (hT : PM w) => number_yes x1 x2 x3 w xv hT.t) (Lib.hid fun w (hT : PM w) => parse_no s w hT hs g) (Lib.hid cn) (Lib.hid ct) (Lib.hid cz) (Lib.hid cw)
  · skip
    by_cases g : ∃ a b c : Int, Cal.vld a b c ∧ dtxt a b c = s
    · obtain ⟨a, b, c, hv, rfl⟩ := g
      have cp := fun w (hT : PM w) => parse_yes a b c w hT hv
      have cy := fun w (hT : PM w) => dtext_yes a b c w hT.t hT.p hv
      by_cases q : n < 0 ∨ 3652059 ≤ n
      · exact dateBack_nyn y m d n _ _ _ (dtxt a b c) w hT (Lib.hid fun w _ => of_no n w q) (Lib.hid cp) (Lib.hid cy) (Lib.hid fun w (hT : PM w) => number_no y m d w h hT.t) (Lib.hid fun w (hT : PM w) => check_no y m d w h hT.t)
      · obtain ⟨x1, x2, x3, xv, rfl⟩ := Cal.has_day n (by omega) (by omega)
        exact dateBack_yyn y m d _ _ _ _ _ _ _ (dtxt a b c) w hT (Lib.hid fun w (hT : PM w) => of_day x1 x2 x3 w hT.t xv) (Lib.hid fun w (hT : PM w) => number_yes x1 x2 x3 w xv hT.t) (Lib.hid cp) (Lib.hid cy) (Lib.hid fun w (hT : PM w) => number_no y m d w h hT.t) (Lib.hid fun w (hT : PM w) => check_no y m d w h hT.t)
    · skip
      by_cases q : n < 0 ∨ 3652059 ≤ n
      · exact dateBack_nnn y m d n  s w hT (Lib.hid fun w _ => of_no n w q) (Lib.hid fun w (hT : PM w) => parse_no s w hT hs g) (Lib.hid fun w (hT : PM w) => number_no y m d w h hT.t) (Lib.hid fun w (hT : PM w) => check_no y m d w h hT.t)
      · obtain ⟨x1, x2, x3, xv, rfl⟩ := Cal.has_day n (by omega) (by omega)
        exact dateBack_ynn y m d _ _ _ _ s w hT (Lib.hid fun w (hT : PM w) => of_day x1 x2 x3 w hT.t xv) (Lib.hid fun w (hT : PM w) => number_yes x1 x2 x3 w xv hT.t) (Lib.hid fun w (hT : PM w) => parse_no s w hT hs g) (Lib.hid fun w (hT : PM w) => number_no y m d w h hT.t) (Lib.hid fun w (hT : PM w) => check_no y m d w h hT.t)
end Go.Proofs.YtdcemkfljhdceaaDoor
