/- The walk of the law DecTells, some of its ways. Conditions: the listed variables hold what the program lays. -/
import Derived.Test.YtdmenoimamnldaaGreatDoorDz26
namespace Go.Proofs.YtdmenoimamnldaaGreatDoor
open Go.RowKit
open Dcm (P10 okD mag)

set_option maxRecDepth 100000 in
set_option maxHeartbeats 2000000 in
theorem dt_bad_ok (a s b u sc wy x1 x2 : Int) (t : List UInt8) (is : Bool) (ev : Value) (X : List UInt8) (r1 : Int) (w : World) (hT : TM w)
    (CF : Hid (∀ w : World, Calls Tryz.prog 5 #[.agg #[.int .i64 a, .int .i64 s]] w fun e w' => e = .returned (.bool false) ∧ Below w.heap.size w w'))
    (CK : Hid (∀ w : World, Calls Tryz.prog 7 #[.agg #[.int .i64 a, .int .i64 s]] w fun e w' => e = .returned (.nilIface) ∧ Below w.heap.size w w'))
    (CO : Hid (∀ w : World, Calls Tryz.prog 8 #[.string ⟨t.toArray⟩] w fun e w' => e = .returned (.tuple #[.agg #[.int .i64 x1, .int .i64 x2], .bool is]) ∧ Below w.heap.size w w'))
    (CP : Hid (∀ w : World, TM w → Calls Tryz.prog 9 #[.string ⟨t.toArray⟩] w fun e w' => e = .returned (.tuple #[.agg #[.int .i64 x1, .int .i64 x2], ev]) ∧ Below w.heap.size w w'))
    (hev : ErrNo ev (isE is))
    (CG : Hid (∀ w : World, Calls Tryz.prog 5 #[.agg #[.int .i64 b, .int .i64 u]] w fun e w' => e = .returned (.bool true) ∧ Below w.heap.size w w'))
    (CL : Hid (∀ w : World, Calls Tryz.prog 10 #[.agg #[.int .i64 a, .int .i64 s], .agg #[.int .i64 b, .int .i64 u]] w fun e w' => e = .returned (.bool false) ∧ Below w.heap.size w w'))
    (CS : Hid (∀ w : World, Calls Tryz.prog 12 #[.agg #[.int .i64 a, .int .i64 s], .agg #[.int .i64 b, .int .i64 u]] w fun e w' => e = .returned (.bool false) ∧ Below w.heap.size w w'))
    (CX : Hid (∀ w : World, TM w → Calls Tryz.prog 13 #[.agg #[.int .i64 a, .int .i64 s]] w fun e w' => e = .returned (.string ⟨X.toArray⟩) ∧ Below w.heap.size w w'))
    (CY : Hid (∀ w : World, Calls Tryz.prog 14 #[.agg #[.int .i64 a, .int .i64 s]] w fun e w' => e = .returned (.string ⟨X.toArray⟩) ∧ Below w.heap.size w w'))
    (CU : Hid (∀ w : World, Calls Tryz.prog 15 #[.agg #[.int .i64 a, .int .i64 s], .int .i64 sc, .int .i64 wy] w fun e w' => e = .returned (.tuple #[.agg #[.int .i64 r1, .int .i64 sc], .bool true]) ∧ Below w.heap.size w w'))
    (CV : Hid (∀ w : World, Calls Tryz.prog 16 #[.agg #[.int .i64 a, .int .i64 s], .int .i64 sc, .int .i64 wy] w fun e w' => e = .returned (.tuple #[.agg #[.int .i64 r1, .int .i64 sc], .nilIface]) ∧ Below w.heap.size w w'))
    (CA : Hid (∀ w : World, Calls Tryz.prog 18 #[.agg #[.int .i64 a, .int .i64 s], .agg #[.int .i64 b, .int .i64 u]] w fun e w' => e = .returned (.tuple #[.agg #[.int .i64 0, .int .i64 0], errV 1]) ∧ Below w.heap.size w w'))
    (hs0 : 0 ≤ sc) (hs9 : sc ≤ 9) (hw1 : 1 ≤ wy) (hw5 : wy ≤ 5) :
    Calls Tryz.prog 3 #[.agg #[.int .i64 a, .int .i64 s], .agg #[.int .i64 b, .int .i64 u], .string ⟨t.toArray⟩, .int .i64 sc, .int .i64 wy] w fun e w' => e = .returned (.bool true) ∧ Below w.heap.size w w' := by
  have e1 : decide (sc < 0) = false := dec_no (by omega)
  have e2 : decide (9 < sc) = false := dec_no (by omega)
  have e3 : decide (wy < 1) = false := dec_no (by omega)
  have e4 : decide (5 < wy) = false := dec_no (by omega)
  have xx : (X != X) = false := by simp
  cases is
  all_goals
    unfold isE at hev
    go_enter Tryz.func3, Tryz.ntmps3
    go_wp2_with fail
    refine (half_any _).mono ?_
    rintro e w1 ⟨rfl, hb⟩
    have W1 := Lib.hid (blw_trans (show Below w.heap.size w _ by repeat (first | exact (Below.refl _ _) | refine blw_drewN ?_ _ | refine Below.setCell ?_ (by first | (simp; done) | omega | (simp; omega)) _ | refine Below.alloc ?_ (by first | (simp; done) | omega | (simp; omega)) _)) hb)
    have n1 := hb.size
    try simp at n1
    have k1_a0 := cell_keep (a := ⟨w.heap.size, 0, none⟩) (v := .int .i64 a) (by first | (go_keep; done) | (simp [go_sem, *]; done)) hb
    have k1_a1 := cell_keep (a := ⟨w.heap.size, 1, none⟩) (v := .int .i64 s) (by first | (go_keep; done) | (simp [go_sem, *]; done)) hb
    have l1_a := World.block_lt_of_cell? _ _ k1_a0
    try simp only at l1_a
    have k1_b0 := cell_keep (a := ⟨w.heap.size + 1, 0, none⟩) (v := .int .i64 b) (by first | (go_keep; done) | (simp [go_sem, *]; done)) hb
    have k1_b1 := cell_keep (a := ⟨w.heap.size + 1, 1, none⟩) (v := .int .i64 u) (by first | (go_keep; done) | (simp [go_sem, *]; done)) hb
    have l1_b := World.block_lt_of_cell? _ _ k1_b0
    try simp only at l1_b
    clear hb
    go_wp2_with fail
    refine (CF.out _).mono ?_
    rintro e w2 ⟨rfl, hb⟩
    have W2 := Lib.hid (blw_trans (show Below w.heap.size w _ by repeat (first | exact W1.out | refine blw_drewN ?_ _ | refine Below.setCell ?_ (by first | (simp; done) | omega | (simp; omega)) _ | refine Below.alloc ?_ (by first | (simp; done) | omega | (simp; omega)) _)) hb)
    have n2 := hb.size
    try simp at n2
    have k2_a0 := cell_keep (a := ⟨w.heap.size, 0, none⟩) (v := .int .i64 a) (by first | (go_keep; done) | (simp [go_sem, *]; done)) hb
    have k2_a1 := cell_keep (a := ⟨w.heap.size, 1, none⟩) (v := .int .i64 s) (by first | (go_keep; done) | (simp [go_sem, *]; done)) hb
    have l2_a := World.block_lt_of_cell? _ _ k2_a0
    try simp only at l2_a
    have k2_b0 := cell_keep (a := ⟨w.heap.size + 1, 0, none⟩) (v := .int .i64 b) (by first | (go_keep; done) | (simp [go_sem, *]; done)) hb
    have k2_b1 := cell_keep (a := ⟨w.heap.size + 1, 1, none⟩) (v := .int .i64 u) (by first | (go_keep; done) | (simp [go_sem, *]; done)) hb
    have l2_b := World.block_lt_of_cell? _ _ k2_b0
    try simp only at l2_b
    clear hb k1_a0 k1_a1 l1_a k1_b0 k1_b1 l1_b W1
    go_wp2_with fail
    refine (CK.out _).mono ?_
    rintro e w3 ⟨rfl, hb⟩
    have W3 := Lib.hid (blw_trans (show Below w.heap.size w _ by repeat (first | exact W2.out | refine blw_drewN ?_ _ | refine Below.setCell ?_ (by first | (simp; done) | omega | (simp; omega)) _ | refine Below.alloc ?_ (by first | (simp; done) | omega | (simp; omega)) _)) hb)
    have n3 := hb.size
    try simp at n3
    have k3_a0 := cell_keep (a := ⟨w.heap.size, 0, none⟩) (v := .int .i64 a) (by first | (go_keep; done) | (simp [go_sem, *]; done)) hb
    have k3_a1 := cell_keep (a := ⟨w.heap.size, 1, none⟩) (v := .int .i64 s) (by first | (go_keep; done) | (simp [go_sem, *]; done)) hb
    have l3_a := World.block_lt_of_cell? _ _ k3_a0
    try simp only at l3_a
    have k3_b0 := cell_keep (a := ⟨w.heap.size + 1, 0, none⟩) (v := .int .i64 b) (by first | (go_keep; done) | (simp [go_sem, *]; done)) hb
    have k3_b1 := cell_keep (a := ⟨w.heap.size + 1, 1, none⟩) (v := .int .i64 u) (by first | (go_keep; done) | (simp [go_sem, *]; done)) hb
    have l3_b := World.block_lt_of_cell? _ _ k3_b0
    try simp only at l3_b
    clear hb k2_a0 k2_a1 l2_a k2_b0 k2_b1 l2_b W2
    go_wp2_with fail
    refine (sameErr_yes (ErrNo.nil) _ (hT.below (by repeat (first | exact W3.out | refine blw_drewN ?_ _ | refine Below.setCell ?_ (by first | (simp; done) | omega | (simp; omega)) _ | refine Below.alloc ?_ (by first | (simp; done) | omega | (simp; omega)) _))).h).mono ?_
    rintro e w4 ⟨rfl, hb⟩
    have W4 := Lib.hid (blw_trans (show Below w.heap.size w _ by repeat (first | exact W3.out | refine blw_drewN ?_ _ | refine Below.setCell ?_ (by first | (simp; done) | omega | (simp; omega)) _ | refine Below.alloc ?_ (by first | (simp; done) | omega | (simp; omega)) _)) hb)
    have n4 := hb.size
    try simp at n4
    have k4_a0 := cell_keep (a := ⟨w.heap.size, 0, none⟩) (v := .int .i64 a) (by first | (go_keep; done) | (simp [go_sem, *]; done)) hb
    have k4_a1 := cell_keep (a := ⟨w.heap.size, 1, none⟩) (v := .int .i64 s) (by first | (go_keep; done) | (simp [go_sem, *]; done)) hb
    have l4_a := World.block_lt_of_cell? _ _ k4_a0
    try simp only at l4_a
    have k4_b0 := cell_keep (a := ⟨w.heap.size + 1, 0, none⟩) (v := .int .i64 b) (by first | (go_keep; done) | (simp [go_sem, *]; done)) hb
    have k4_b1 := cell_keep (a := ⟨w.heap.size + 1, 1, none⟩) (v := .int .i64 u) (by first | (go_keep; done) | (simp [go_sem, *]; done)) hb
    have l4_b := World.block_lt_of_cell? _ _ k4_b0
    try simp only at l4_b
    clear hb k3_a0 k3_a1 l3_a k3_b0 k3_b1 l3_b W3
    go_wp2_with fail
    refine (CO.out _).mono ?_
    rintro e w5 ⟨rfl, hb⟩
    have W5 := Lib.hid (blw_trans (show Below w.heap.size w _ by repeat (first | exact W4.out | refine blw_drewN ?_ _ | refine Below.setCell ?_ (by first | (simp; done) | omega | (simp; omega)) _ | refine Below.alloc ?_ (by first | (simp; done) | omega | (simp; omega)) _)) hb)
    have n5 := hb.size
    try simp at n5
    have k5_a0 := cell_keep (a := ⟨w.heap.size, 0, none⟩) (v := .int .i64 a) (by first | (go_keep; done) | (simp [go_sem, *]; done)) hb
    have k5_a1 := cell_keep (a := ⟨w.heap.size, 1, none⟩) (v := .int .i64 s) (by first | (go_keep; done) | (simp [go_sem, *]; done)) hb
    have l5_a := World.block_lt_of_cell? _ _ k5_a0
    try simp only at l5_a
    have k5_b0 := cell_keep (a := ⟨w.heap.size + 1, 0, none⟩) (v := .int .i64 b) (by first | (go_keep; done) | (simp [go_sem, *]; done)) hb
    have k5_b1 := cell_keep (a := ⟨w.heap.size + 1, 1, none⟩) (v := .int .i64 u) (by first | (go_keep; done) | (simp [go_sem, *]; done)) hb
    have l5_b := World.block_lt_of_cell? _ _ k5_b0
    try simp only at l5_b
    clear hb k4_a0 k4_a1 l4_a k4_b0 k4_b1 l4_b W4
    go_wp2_with fail
    refine (CP.out _ (hT.below (by repeat (first | exact W5.out | refine blw_drewN ?_ _ | refine Below.setCell ?_ (by first | (simp; done) | omega | (simp; omega)) _ | refine Below.alloc ?_ (by first | (simp; done) | omega | (simp; omega)) _)))).mono ?_
    rintro e w6 ⟨rfl, hb⟩
    have W6 := Lib.hid (blw_trans (show Below w.heap.size w _ by repeat (first | exact W5.out | refine blw_drewN ?_ _ | refine Below.setCell ?_ (by first | (simp; done) | omega | (simp; omega)) _ | refine Below.alloc ?_ (by first | (simp; done) | omega | (simp; omega)) _)) hb)
    have n6 := hb.size
    try simp at n6
    have k6_a0 := cell_keep (a := ⟨w.heap.size, 0, none⟩) (v := .int .i64 a) (by first | (go_keep; done) | (simp [go_sem, *]; done)) hb
    have k6_a1 := cell_keep (a := ⟨w.heap.size, 1, none⟩) (v := .int .i64 s) (by first | (go_keep; done) | (simp [go_sem, *]; done)) hb
    have l6_a := World.block_lt_of_cell? _ _ k6_a0
    try simp only at l6_a
    have k6_b0 := cell_keep (a := ⟨w.heap.size + 1, 0, none⟩) (v := .int .i64 b) (by first | (go_keep; done) | (simp [go_sem, *]; done)) hb
    have k6_b1 := cell_keep (a := ⟨w.heap.size + 1, 1, none⟩) (v := .int .i64 u) (by first | (go_keep; done) | (simp [go_sem, *]; done)) hb
    have l6_b := World.block_lt_of_cell? _ _ k6_b0
    try simp only at l6_b
    have k6_x0 := cell_keep (a := ⟨w5.heap.size, 0, none⟩) (v := .int .i64 x1) (by first | (go_keep; done) | (simp [go_sem, *]; done)) hb
    have k6_x1 := cell_keep (a := ⟨w5.heap.size, 1, none⟩) (v := .int .i64 x2) (by first | (go_keep; done) | (simp [go_sem, *]; done)) hb
    have l6_x := World.block_lt_of_cell? _ _ k6_x0
    try simp only at l6_x
    clear hb k5_a0 k5_a1 l5_a k5_b0 k5_b1 l5_b W5
    go_wp2_with fail
    refine (sameErr_yes hev _ (hT.below (by repeat (first | exact W6.out | refine blw_drewN ?_ _ | refine Below.setCell ?_ (by first | (simp; done) | omega | (simp; omega)) _ | refine Below.alloc ?_ (by first | (simp; done) | omega | (simp; omega)) _))).h).mono ?_
    rintro e w7 ⟨rfl, hb⟩
    have W7 := Lib.hid (blw_trans (show Below w.heap.size w _ by repeat (first | exact W6.out | refine blw_drewN ?_ _ | refine Below.setCell ?_ (by first | (simp; done) | omega | (simp; omega)) _ | refine Below.alloc ?_ (by first | (simp; done) | omega | (simp; omega)) _)) hb)
    have n7 := hb.size
    try simp at n7
    have k7_a0 := cell_keep (a := ⟨w.heap.size, 0, none⟩) (v := .int .i64 a) (by first | (go_keep; done) | (simp [go_sem, *]; done)) hb
    have k7_a1 := cell_keep (a := ⟨w.heap.size, 1, none⟩) (v := .int .i64 s) (by first | (go_keep; done) | (simp [go_sem, *]; done)) hb
    have l7_a := World.block_lt_of_cell? _ _ k7_a0
    try simp only at l7_a
    have k7_b0 := cell_keep (a := ⟨w.heap.size + 1, 0, none⟩) (v := .int .i64 b) (by first | (go_keep; done) | (simp [go_sem, *]; done)) hb
    have k7_b1 := cell_keep (a := ⟨w.heap.size + 1, 1, none⟩) (v := .int .i64 u) (by first | (go_keep; done) | (simp [go_sem, *]; done)) hb
    have l7_b := World.block_lt_of_cell? _ _ k7_b0
    try simp only at l7_b
    have k7_x0 := cell_keep (a := ⟨w5.heap.size, 0, none⟩) (v := .int .i64 x1) (by first | (go_keep; done) | (simp [go_sem, *]; done)) hb
    have k7_x1 := cell_keep (a := ⟨w5.heap.size, 1, none⟩) (v := .int .i64 x2) (by first | (go_keep; done) | (simp [go_sem, *]; done)) hb
    have l7_x := World.block_lt_of_cell? _ _ k7_x0
    try simp only at l7_x
    have k7_y0 := cell_keep (a := ⟨w6.heap.size, 0, none⟩) (v := .int .i64 x1) (by first | (go_keep; done) | (simp [go_sem, *]; done)) hb
    have k7_y1 := cell_keep (a := ⟨w6.heap.size, 1, none⟩) (v := .int .i64 x2) (by first | (go_keep; done) | (simp [go_sem, *]; done)) hb
    have l7_y := World.block_lt_of_cell? _ _ k7_y0
    try simp only at l7_y
    clear hb k6_a0 k6_a1 l6_a k6_b0 k6_b1 l6_b k6_x0 k6_x1 l6_x W6
    go_wp2_with fail
    refine (CG.out _).mono ?_
    rintro e w8 ⟨rfl, hb⟩
    have W8 := Lib.hid (blw_trans (show Below w.heap.size w _ by repeat (first | exact W7.out | refine blw_drewN ?_ _ | refine Below.setCell ?_ (by first | (simp; done) | omega | (simp; omega)) _ | refine Below.alloc ?_ (by first | (simp; done) | omega | (simp; omega)) _)) hb)
    have n8 := hb.size
    try simp at n8
    have k8_a0 := cell_keep (a := ⟨w.heap.size, 0, none⟩) (v := .int .i64 a) (by first | (go_keep; done) | (simp [go_sem, *]; done)) hb
    have k8_a1 := cell_keep (a := ⟨w.heap.size, 1, none⟩) (v := .int .i64 s) (by first | (go_keep; done) | (simp [go_sem, *]; done)) hb
    have l8_a := World.block_lt_of_cell? _ _ k8_a0
    try simp only at l8_a
    have k8_b0 := cell_keep (a := ⟨w.heap.size + 1, 0, none⟩) (v := .int .i64 b) (by first | (go_keep; done) | (simp [go_sem, *]; done)) hb
    have k8_b1 := cell_keep (a := ⟨w.heap.size + 1, 1, none⟩) (v := .int .i64 u) (by first | (go_keep; done) | (simp [go_sem, *]; done)) hb
    have l8_b := World.block_lt_of_cell? _ _ k8_b0
    try simp only at l8_b
    have k8_x0 := cell_keep (a := ⟨w5.heap.size, 0, none⟩) (v := .int .i64 x1) (by first | (go_keep; done) | (simp [go_sem, *]; done)) hb
    have k8_x1 := cell_keep (a := ⟨w5.heap.size, 1, none⟩) (v := .int .i64 x2) (by first | (go_keep; done) | (simp [go_sem, *]; done)) hb
    have l8_x := World.block_lt_of_cell? _ _ k8_x0
    try simp only at l8_x
    have k8_y0 := cell_keep (a := ⟨w6.heap.size, 0, none⟩) (v := .int .i64 x1) (by first | (go_keep; done) | (simp [go_sem, *]; done)) hb
    have k8_y1 := cell_keep (a := ⟨w6.heap.size, 1, none⟩) (v := .int .i64 x2) (by first | (go_keep; done) | (simp [go_sem, *]; done)) hb
    have l8_y := World.block_lt_of_cell? _ _ k8_y0
    try simp only at l8_y
    clear hb k7_a0 k7_a1 l7_a k7_b0 k7_b1 l7_b k7_x0 k7_x1 l7_x k7_y0 k7_y1 l7_y W7
    go_wp2_with fail
    refine (CL.out _).mono ?_
    rintro e w9 ⟨rfl, hb⟩
    have W9 := Lib.hid (blw_trans (show Below w.heap.size w _ by repeat (first | exact W8.out | refine blw_drewN ?_ _ | refine Below.setCell ?_ (by first | (simp; done) | omega | (simp; omega)) _ | refine Below.alloc ?_ (by first | (simp; done) | omega | (simp; omega)) _)) hb)
    have n9 := hb.size
    try simp at n9
    have k9_a0 := cell_keep (a := ⟨w.heap.size, 0, none⟩) (v := .int .i64 a) (by first | (go_keep; done) | (simp [go_sem, *]; done)) hb
    have k9_a1 := cell_keep (a := ⟨w.heap.size, 1, none⟩) (v := .int .i64 s) (by first | (go_keep; done) | (simp [go_sem, *]; done)) hb
    have l9_a := World.block_lt_of_cell? _ _ k9_a0
    try simp only at l9_a
    have k9_b0 := cell_keep (a := ⟨w.heap.size + 1, 0, none⟩) (v := .int .i64 b) (by first | (go_keep; done) | (simp [go_sem, *]; done)) hb
    have k9_b1 := cell_keep (a := ⟨w.heap.size + 1, 1, none⟩) (v := .int .i64 u) (by first | (go_keep; done) | (simp [go_sem, *]; done)) hb
    have l9_b := World.block_lt_of_cell? _ _ k9_b0
    try simp only at l9_b
    have k9_x0 := cell_keep (a := ⟨w5.heap.size, 0, none⟩) (v := .int .i64 x1) (by first | (go_keep; done) | (simp [go_sem, *]; done)) hb
    have k9_x1 := cell_keep (a := ⟨w5.heap.size, 1, none⟩) (v := .int .i64 x2) (by first | (go_keep; done) | (simp [go_sem, *]; done)) hb
    have l9_x := World.block_lt_of_cell? _ _ k9_x0
    try simp only at l9_x
    have k9_y0 := cell_keep (a := ⟨w6.heap.size, 0, none⟩) (v := .int .i64 x1) (by first | (go_keep; done) | (simp [go_sem, *]; done)) hb
    have k9_y1 := cell_keep (a := ⟨w6.heap.size, 1, none⟩) (v := .int .i64 x2) (by first | (go_keep; done) | (simp [go_sem, *]; done)) hb
    have l9_y := World.block_lt_of_cell? _ _ k9_y0
    try simp only at l9_y
    clear hb k8_a0 k8_a1 l8_a k8_b0 k8_b1 l8_b k8_x0 k8_x1 l8_x k8_y0 k8_y1 l8_y W8
    go_wp2_with fail
    refine (CS.out _).mono ?_
    rintro e w10 ⟨rfl, hb⟩
    have W10 := Lib.hid (blw_trans (show Below w.heap.size w _ by repeat (first | exact W9.out | refine blw_drewN ?_ _ | refine Below.setCell ?_ (by first | (simp; done) | omega | (simp; omega)) _ | refine Below.alloc ?_ (by first | (simp; done) | omega | (simp; omega)) _)) hb)
    have n10 := hb.size
    try simp at n10
    have k10_a0 := cell_keep (a := ⟨w.heap.size, 0, none⟩) (v := .int .i64 a) (by first | (go_keep; done) | (simp [go_sem, *]; done)) hb
    have k10_a1 := cell_keep (a := ⟨w.heap.size, 1, none⟩) (v := .int .i64 s) (by first | (go_keep; done) | (simp [go_sem, *]; done)) hb
    have l10_a := World.block_lt_of_cell? _ _ k10_a0
    try simp only at l10_a
    have k10_b0 := cell_keep (a := ⟨w.heap.size + 1, 0, none⟩) (v := .int .i64 b) (by first | (go_keep; done) | (simp [go_sem, *]; done)) hb
    have k10_b1 := cell_keep (a := ⟨w.heap.size + 1, 1, none⟩) (v := .int .i64 u) (by first | (go_keep; done) | (simp [go_sem, *]; done)) hb
    have l10_b := World.block_lt_of_cell? _ _ k10_b0
    try simp only at l10_b
    have k10_x0 := cell_keep (a := ⟨w5.heap.size, 0, none⟩) (v := .int .i64 x1) (by first | (go_keep; done) | (simp [go_sem, *]; done)) hb
    have k10_x1 := cell_keep (a := ⟨w5.heap.size, 1, none⟩) (v := .int .i64 x2) (by first | (go_keep; done) | (simp [go_sem, *]; done)) hb
    have l10_x := World.block_lt_of_cell? _ _ k10_x0
    try simp only at l10_x
    have k10_y0 := cell_keep (a := ⟨w6.heap.size, 0, none⟩) (v := .int .i64 x1) (by first | (go_keep; done) | (simp [go_sem, *]; done)) hb
    have k10_y1 := cell_keep (a := ⟨w6.heap.size, 1, none⟩) (v := .int .i64 x2) (by first | (go_keep; done) | (simp [go_sem, *]; done)) hb
    have l10_y := World.block_lt_of_cell? _ _ k10_y0
    try simp only at l10_y
    clear hb k9_a0 k9_a1 l9_a k9_b0 k9_b1 l9_b k9_x0 k9_x1 l9_x k9_y0 k9_y1 l9_y W9
    go_wp2_with fail
  focus
    refine wp_region_held_drew (S := fun w' => w'.cell? ⟨w.heap.size, 0, none⟩ = some (.int .i64 a) ∧ w'.cell? ⟨w.heap.size, 1, none⟩ = some (.int .i64 s) ∧ w'.cell? ⟨w.heap.size + 1, 0, none⟩ = some (.int .i64 b) ∧ w'.cell? ⟨w.heap.size + 1, 1, none⟩ = some (.int .i64 u) ∧ Hid (Below w.heap.size w w')) (by kernel_rfl) (by exact ⟨by simpa using k10_a0, by simpa using k10_a1, by simpa using k10_b0, by simpa using k10_b1, Lib.hid (blw_drewN W10.out 1)⟩) (fun hHeld => ?_)
    refine take_run (d := (some 103)) (v := ?v1) 0 rfl rfl (by kernel_rfl) (by kernel_rfl) (by kernel_rfl) (fun _ _ _ h => h) (by rfl) hHeld ?hy1 ?rs1
    case hy1 => (intro w hSw; (try dsimp only at hSw); go_simp) <;> (try with_reducible rfl)
    (try simp only [Act.put, List.setIfInBounds_toArray, List.set_cons_zero, List.set_cons_succ])
    refine take_run (d := (some 104)) (v := ?v2) 1 rfl rfl (by kernel_rfl) (by kernel_rfl) (by kernel_rfl) (fun _ _ _ h => h) (by rfl) hHeld ?hy2 ?rs2
    case hy2 => (intro w hSw; (try dsimp only at hSw); go_simp) <;> (try with_reducible rfl)
    (try simp only [Act.put, List.setIfInBounds_toArray, List.set_cons_zero, List.set_cons_succ])
    refine take_run (d := (some 105)) (v := ?v3) 2 rfl rfl (by kernel_rfl) (by kernel_rfl) (by kernel_rfl) (fun _ _ _ h => h) (by rfl) hHeld ?hy3 ?rs3
    case hy3 => (intro w hSw; (try dsimp only at hSw); go_simp) <;> (try with_reducible rfl)
    (try simp only [Act.put, List.setIfInBounds_toArray, List.set_cons_zero, List.set_cons_succ])
    refine take_run (d := (some 106)) (v := ?v4) 3 rfl rfl (by kernel_rfl) (by kernel_rfl) (by kernel_rfl) (fun _ _ _ h => h) (by rfl) hHeld ?hy4 ?rs4
    case hy4 => (intro w hSw; (try dsimp only at hSw); go_simp) <;> (try with_reducible rfl)
    (try simp only [Act.put, List.setIfInBounds_toArray, List.set_cons_zero, List.set_cons_succ])
    refine take_run (d := (some 108)) (v := ?v5) 5 rfl rfl (by kernel_rfl) (by kernel_rfl) (by kernel_rfl) (fun _ _ _ h => h) (by rfl) hHeld ?hy5 ?rs5
    case hy5 => (intro w hSw; (try dsimp only at hSw); go_simp) <;> (try with_reducible rfl)
    (try simp only [Act.put, List.setIfInBounds_toArray, List.set_cons_zero, List.set_cons_succ])
    refine take_call 4 rfl (by kernel_rfl) (by rfl) (fun K hK => ?_)
    go_simp
    refine (CX.out _ (hT.below hHeld.2.2.2.2.out)).mono ?_
    rintro e w' ⟨rfl, hb⟩
    refine hK.out _ _ (by obtain ⟨h0, h1, h2, h3, hw⟩ := hHeld; exact ⟨cell_keep h0 hb, cell_keep h1 hb, cell_keep h2 hb, cell_keep h3 hb, Lib.hid (blw_trans hw.out hb)⟩) (fun hHeld => ?_)
    clear hK K
    (try simp only [Act.put, List.setIfInBounds_toArray, List.set_cons_zero, List.set_cons_succ])
    refine take_call 6 rfl (by kernel_rfl) (by rfl) (fun K hK => ?_)
    go_simp
    refine (CY.out _).mono ?_
    rintro e w' ⟨rfl, hb⟩
    refine hK.out _ _ (by obtain ⟨h0, h1, h2, h3, hw⟩ := hHeld; exact ⟨cell_keep h0 hb, cell_keep h1 hb, cell_keep h2 hb, cell_keep h3 hb, Lib.hid (blw_trans hw.out hb)⟩) (fun hHeld => ?_)
    clear hK K
    (try simp only [Act.put, List.setIfInBounds_toArray, List.set_cons_zero, List.set_cons_succ])
    refine take_run (d := (some 110)) (v := ?v8) 7 rfl rfl (by kernel_rfl) (by kernel_rfl) (by kernel_rfl) (fun _ _ _ h => h) (by rfl) hHeld ?hy8 ?rs8
    case hy8 => (intro w hSw; (try dsimp only at hSw); go_simp) <;> (try with_reducible rfl)
    (try simp only [Act.put, List.setIfInBounds_toArray, List.set_cons_zero, List.set_cons_succ])
    refine take_run (d := (some 111)) (v := ?v9) 8 rfl rfl (by kernel_rfl) (by kernel_rfl) (by kernel_rfl) (fun _ _ _ h => h) (by rfl) hHeld ?hy9 ?rs9
    case hy9 => (intro w hSw; (try dsimp only at hSw); go_simp) <;> (try with_reducible rfl)
    (try simp only [Act.put, List.setIfInBounds_toArray, List.set_cons_zero, List.set_cons_succ])
    refine wpAnyH_done (by kernel_rfl) ?_ _
    obtain ⟨z0, z1, z2, z3, zW⟩ := hHeld
  rotate_left
  focus
    refine wp_region_held_drew (S := fun w' => w'.cell? ⟨w.heap.size, 0, none⟩ = some (.int .i64 a) ∧ w'.cell? ⟨w.heap.size, 1, none⟩ = some (.int .i64 s) ∧ w'.cell? ⟨w.heap.size + 1, 0, none⟩ = some (.int .i64 b) ∧ w'.cell? ⟨w.heap.size + 1, 1, none⟩ = some (.int .i64 u) ∧ Hid (Below w.heap.size w w')) (by kernel_rfl) (by exact ⟨by simpa using k10_a0, by simpa using k10_a1, by simpa using k10_b0, by simpa using k10_b1, Lib.hid (blw_drewN W10.out 1)⟩) (fun hHeld => ?_)
    refine take_run (d := (some 103)) (v := ?v10) 0 rfl rfl (by kernel_rfl) (by kernel_rfl) (by kernel_rfl) (fun _ _ _ h => h) (by rfl) hHeld ?hy10 ?rs10
    case hy10 => (intro w hSw; (try dsimp only at hSw); go_simp) <;> (try with_reducible rfl)
    (try simp only [Act.put, List.setIfInBounds_toArray, List.set_cons_zero, List.set_cons_succ])
    refine take_run (d := (some 104)) (v := ?v11) 1 rfl rfl (by kernel_rfl) (by kernel_rfl) (by kernel_rfl) (fun _ _ _ h => h) (by rfl) hHeld ?hy11 ?rs11
    case hy11 => (intro w hSw; (try dsimp only at hSw); go_simp) <;> (try with_reducible rfl)
    (try simp only [Act.put, List.setIfInBounds_toArray, List.set_cons_zero, List.set_cons_succ])
    refine take_run (d := (some 105)) (v := ?v12) 2 rfl rfl (by kernel_rfl) (by kernel_rfl) (by kernel_rfl) (fun _ _ _ h => h) (by rfl) hHeld ?hy12 ?rs12
    case hy12 => (intro w hSw; (try dsimp only at hSw); go_simp) <;> (try with_reducible rfl)
    (try simp only [Act.put, List.setIfInBounds_toArray, List.set_cons_zero, List.set_cons_succ])
    refine take_run (d := (some 106)) (v := ?v13) 3 rfl rfl (by kernel_rfl) (by kernel_rfl) (by kernel_rfl) (fun _ _ _ h => h) (by rfl) hHeld ?hy13 ?rs13
    case hy13 => (intro w hSw; (try dsimp only at hSw); go_simp) <;> (try with_reducible rfl)
    (try simp only [Act.put, List.setIfInBounds_toArray, List.set_cons_zero, List.set_cons_succ])
    refine take_run (d := (some 108)) (v := ?v14) 5 rfl rfl (by kernel_rfl) (by kernel_rfl) (by kernel_rfl) (fun _ _ _ h => h) (by rfl) hHeld ?hy14 ?rs14
    case hy14 => (intro w hSw; (try dsimp only at hSw); go_simp) <;> (try with_reducible rfl)
    (try simp only [Act.put, List.setIfInBounds_toArray, List.set_cons_zero, List.set_cons_succ])
    refine take_call 4 rfl (by kernel_rfl) (by rfl) (fun K hK => ?_)
    go_simp
    refine (CX.out _ (hT.below hHeld.2.2.2.2.out)).mono ?_
    rintro e w' ⟨rfl, hb⟩
    refine hK.out _ _ (by obtain ⟨h0, h1, h2, h3, hw⟩ := hHeld; exact ⟨cell_keep h0 hb, cell_keep h1 hb, cell_keep h2 hb, cell_keep h3 hb, Lib.hid (blw_trans hw.out hb)⟩) (fun hHeld => ?_)
    clear hK K
    (try simp only [Act.put, List.setIfInBounds_toArray, List.set_cons_zero, List.set_cons_succ])
    refine take_call 6 rfl (by kernel_rfl) (by rfl) (fun K hK => ?_)
    go_simp
    refine (CY.out _).mono ?_
    rintro e w' ⟨rfl, hb⟩
    refine hK.out _ _ (by obtain ⟨h0, h1, h2, h3, hw⟩ := hHeld; exact ⟨cell_keep h0 hb, cell_keep h1 hb, cell_keep h2 hb, cell_keep h3 hb, Lib.hid (blw_trans hw.out hb)⟩) (fun hHeld => ?_)
    clear hK K
    (try simp only [Act.put, List.setIfInBounds_toArray, List.set_cons_zero, List.set_cons_succ])
    refine take_run (d := (some 110)) (v := ?v17) 7 rfl rfl (by kernel_rfl) (by kernel_rfl) (by kernel_rfl) (fun _ _ _ h => h) (by rfl) hHeld ?hy17 ?rs17
    case hy17 => (intro w hSw; (try dsimp only at hSw); go_simp) <;> (try with_reducible rfl)
    (try simp only [Act.put, List.setIfInBounds_toArray, List.set_cons_zero, List.set_cons_succ])
    refine take_run (d := (some 111)) (v := ?v18) 8 rfl rfl (by kernel_rfl) (by kernel_rfl) (by kernel_rfl) (fun _ _ _ h => h) (by rfl) hHeld ?hy18 ?rs18
    case hy18 => (intro w hSw; (try dsimp only at hSw); go_simp) <;> (try with_reducible rfl)
    (try simp only [Act.put, List.setIfInBounds_toArray, List.set_cons_zero, List.set_cons_succ])
    refine wpAnyH_done (by kernel_rfl) ?_ _
    obtain ⟨z0, z1, z2, z3, zW⟩ := hHeld
  rotate_left
  all_goals
    clear k10_a0 k10_a1 l10_a k10_b0 k10_b1 l10_b k10_x0 k10_x1 l10_x k10_y0 k10_y1 l10_y W10
    obtain ⟨wh, hwh⟩ : ∃ wh, wh = w' := ⟨_, rfl⟩
    subst hwh
    have k10_a0 := z0
    have k10_a1 := z1
    have l10_a := World.block_lt_of_cell? _ _ k10_a0
    try simp only at l10_a
    have k10_b0 := z2
    have k10_b1 := z3
    have l10_b := World.block_lt_of_cell? _ _ k10_b0
    try simp only at l10_b
    clear z0 z1 z2 z3
    have ne1 : ¬ w.heap.size = wh.heap.size := by omega
    have me1 : ¬ wh.heap.size = w.heap.size := by omega
    have ne2 : ¬ w.heap.size + 1 = wh.heap.size := by omega
    have me2 : ¬ wh.heap.size = w.heap.size + 1 := by omega
    have leq : w.heap.size ≤ wh.heap.size := by omega
    go_wp2_with fail
    refine (CU.out _).mono ?_
    rintro e w11 ⟨rfl, hb⟩
    have W11 := Lib.hid (blw_trans (show Below w.heap.size w _ by repeat (first | exact zW.out | refine blw_drewN ?_ _ | refine Below.setCell ?_ (by first | (simp; done) | omega | (simp; omega)) _ | refine Below.alloc ?_ (by first | (simp; done) | omega | (simp; omega)) _)) hb)
    have n11 := hb.size
    try simp at n11
    have k11_a0 := cell_keep (a := ⟨w.heap.size, 0, none⟩) (v := .int .i64 a) (by first | (go_keep; done) | (simp [go_sem, *]; done)) hb
    have k11_a1 := cell_keep (a := ⟨w.heap.size, 1, none⟩) (v := .int .i64 s) (by first | (go_keep; done) | (simp [go_sem, *]; done)) hb
    have l11_a := World.block_lt_of_cell? _ _ k11_a0
    try simp only at l11_a
    have k11_b0 := cell_keep (a := ⟨w.heap.size + 1, 0, none⟩) (v := .int .i64 b) (by first | (go_keep; done) | (simp [go_sem, *]; done)) hb
    have k11_b1 := cell_keep (a := ⟨w.heap.size + 1, 1, none⟩) (v := .int .i64 u) (by first | (go_keep; done) | (simp [go_sem, *]; done)) hb
    have l11_b := World.block_lt_of_cell? _ _ k11_b0
    try simp only at l11_b
    have k11_q0 := cell_keep (a := ⟨wh.heap.size, 0, none⟩) (v := .int .i64 0) (by first | (go_keep; done) | (simp [go_sem, *]; done)) hb
    have f11_q0 := (hb.frozen (p := ⟨wh.heap.size, 0, none⟩) (by first | (simp; done) | omega | (simp; omega))).trans (show _ = false by first | (simp; done) | (simp [go_sem]; done))
    have k11_q1 := cell_keep (a := ⟨wh.heap.size, 1, none⟩) (v := .int .i64 0) (by first | (go_keep; done) | (simp [go_sem, *]; done)) hb
    have f11_q1 := (hb.frozen (p := ⟨wh.heap.size, 1, none⟩) (by first | (simp; done) | omega | (simp; omega))).trans (show _ = false by first | (simp; done) | (simp [go_sem]; done))
    have l11_q := World.block_lt_of_cell? _ _ k11_q0
    try simp only at l11_q
    clear hb k10_a0 k10_a1 k10_b0 k10_b1 l10_a l10_b zW
    go_wp2_with fail
    refine (CV.out _).mono ?_
    rintro e w12 ⟨rfl, hb⟩
    have W12 := Lib.hid (blw_trans (show Below w.heap.size w _ by repeat (first | exact W11.out | refine blw_drewN ?_ _ | refine Below.setCell ?_ (by first | (simp; done) | omega | (simp; omega)) _ | refine Below.alloc ?_ (by first | (simp; done) | omega | (simp; omega)) _)) hb)
    have n12 := hb.size
    try simp at n12
    have k12_a0 := cell_keep (a := ⟨w.heap.size, 0, none⟩) (v := .int .i64 a) (by first | (go_keep; done) | (simp [go_sem, *]; done)) hb
    have k12_a1 := cell_keep (a := ⟨w.heap.size, 1, none⟩) (v := .int .i64 s) (by first | (go_keep; done) | (simp [go_sem, *]; done)) hb
    have l12_a := World.block_lt_of_cell? _ _ k12_a0
    try simp only at l12_a
    have k12_b0 := cell_keep (a := ⟨w.heap.size + 1, 0, none⟩) (v := .int .i64 b) (by first | (go_keep; done) | (simp [go_sem, *]; done)) hb
    have k12_b1 := cell_keep (a := ⟨w.heap.size + 1, 1, none⟩) (v := .int .i64 u) (by first | (go_keep; done) | (simp [go_sem, *]; done)) hb
    have l12_b := World.block_lt_of_cell? _ _ k12_b0
    try simp only at l12_b
    have k12_q0 := cell_keep (a := ⟨wh.heap.size, 0, none⟩) (v := .int .i64 r1) (by first | (go_keep; done) | (simp [go_sem, *]; done)) hb
    have k12_q1 := cell_keep (a := ⟨wh.heap.size, 1, none⟩) (v := .int .i64 sc) (by first | (go_keep; done) | (simp [go_sem, *]; done)) hb
    have l12_q := World.block_lt_of_cell? _ _ k12_q0
    try simp only at l12_q
    clear hb k11_a0 k11_a1 l11_a k11_b0 k11_b1 l11_b k11_q0 f11_q0 k11_q1 f11_q1 l11_q W11
    go_wp2_with fail
    refine (sameErr_yes (ErrNo.nil) _ (hT.below (by repeat (first | exact W12.out | refine blw_drewN ?_ _ | refine Below.setCell ?_ (by first | (simp; done) | omega | (simp; omega)) _ | refine Below.alloc ?_ (by first | (simp; done) | omega | (simp; omega)) _))).h).mono ?_
    rintro e w13 ⟨rfl, hb⟩
    have W13 := Lib.hid (blw_trans (show Below w.heap.size w _ by repeat (first | exact W12.out | refine blw_drewN ?_ _ | refine Below.setCell ?_ (by first | (simp; done) | omega | (simp; omega)) _ | refine Below.alloc ?_ (by first | (simp; done) | omega | (simp; omega)) _)) hb)
    have n13 := hb.size
    try simp at n13
    have k13_a0 := cell_keep (a := ⟨w.heap.size, 0, none⟩) (v := .int .i64 a) (by first | (go_keep; done) | (simp [go_sem, *]; done)) hb
    have k13_a1 := cell_keep (a := ⟨w.heap.size, 1, none⟩) (v := .int .i64 s) (by first | (go_keep; done) | (simp [go_sem, *]; done)) hb
    have l13_a := World.block_lt_of_cell? _ _ k13_a0
    try simp only at l13_a
    have k13_b0 := cell_keep (a := ⟨w.heap.size + 1, 0, none⟩) (v := .int .i64 b) (by first | (go_keep; done) | (simp [go_sem, *]; done)) hb
    have k13_b1 := cell_keep (a := ⟨w.heap.size + 1, 1, none⟩) (v := .int .i64 u) (by first | (go_keep; done) | (simp [go_sem, *]; done)) hb
    have l13_b := World.block_lt_of_cell? _ _ k13_b0
    try simp only at l13_b
    have k13_q0 := cell_keep (a := ⟨wh.heap.size, 0, none⟩) (v := .int .i64 r1) (by first | (go_keep; done) | (simp [go_sem, *]; done)) hb
    have k13_q1 := cell_keep (a := ⟨wh.heap.size, 1, none⟩) (v := .int .i64 sc) (by first | (go_keep; done) | (simp [go_sem, *]; done)) hb
    have l13_q := World.block_lt_of_cell? _ _ k13_q0
    try simp only at l13_q
    have k13_r0 := cell_keep (a := ⟨w12.heap.size, 0, none⟩) (v := .int .i64 r1) (by first | (go_keep; done) | (simp [go_sem, *]; done)) hb
    have k13_r1 := cell_keep (a := ⟨w12.heap.size, 1, none⟩) (v := .int .i64 sc) (by first | (go_keep; done) | (simp [go_sem, *]; done)) hb
    have l13_r := World.block_lt_of_cell? _ _ k13_r0
    try simp only at l13_r
    clear hb k12_a0 k12_a1 l12_a k12_b0 k12_b1 l12_b k12_q0 k12_q1 l12_q W12
    go_wp2_with fail
    refine (CA.out _).mono ?_
    rintro e w14 ⟨rfl, hb⟩
    have W14 := Lib.hid (blw_trans (show Below w.heap.size w _ by repeat (first | exact W13.out | refine blw_drewN ?_ _ | refine Below.setCell ?_ (by first | (simp; done) | omega | (simp; omega)) _ | refine Below.alloc ?_ (by first | (simp; done) | omega | (simp; omega)) _)) hb)
    have n14 := hb.size
    try simp at n14
    have k14_a0 := cell_keep (a := ⟨w.heap.size, 0, none⟩) (v := .int .i64 a) (by first | (go_keep; done) | (simp [go_sem, *]; done)) hb
    have k14_a1 := cell_keep (a := ⟨w.heap.size, 1, none⟩) (v := .int .i64 s) (by first | (go_keep; done) | (simp [go_sem, *]; done)) hb
    have l14_a := World.block_lt_of_cell? _ _ k14_a0
    try simp only at l14_a
    have k14_b0 := cell_keep (a := ⟨w.heap.size + 1, 0, none⟩) (v := .int .i64 b) (by first | (go_keep; done) | (simp [go_sem, *]; done)) hb
    have k14_b1 := cell_keep (a := ⟨w.heap.size + 1, 1, none⟩) (v := .int .i64 u) (by first | (go_keep; done) | (simp [go_sem, *]; done)) hb
    have l14_b := World.block_lt_of_cell? _ _ k14_b0
    try simp only at l14_b
    have k14_q0 := cell_keep (a := ⟨wh.heap.size, 0, none⟩) (v := .int .i64 r1) (by first | (go_keep; done) | (simp [go_sem, *]; done)) hb
    have k14_q1 := cell_keep (a := ⟨wh.heap.size, 1, none⟩) (v := .int .i64 sc) (by first | (go_keep; done) | (simp [go_sem, *]; done)) hb
    have l14_q := World.block_lt_of_cell? _ _ k14_q0
    try simp only at l14_q
    have k14_r0 := cell_keep (a := ⟨w12.heap.size, 0, none⟩) (v := .int .i64 r1) (by first | (go_keep; done) | (simp [go_sem, *]; done)) hb
    have k14_r1 := cell_keep (a := ⟨w12.heap.size, 1, none⟩) (v := .int .i64 sc) (by first | (go_keep; done) | (simp [go_sem, *]; done)) hb
    have l14_r := World.block_lt_of_cell? _ _ k14_r0
    try simp only at l14_r
    have k14_m0 := cell_keep (a := ⟨w13.heap.size, 0, none⟩) (v := .int .i64 0) (by first | (go_keep; done) | (simp [go_sem, *]; done)) hb
    have k14_m1 := cell_keep (a := ⟨w13.heap.size, 1, none⟩) (v := .int .i64 0) (by first | (go_keep; done) | (simp [go_sem, *]; done)) hb
    have l14_m := World.block_lt_of_cell? _ _ k14_m0
    try simp only at l14_m
    clear hb k13_a0 k13_a1 l13_a k13_b0 k13_b1 l13_b k13_q0 k13_q1 l13_q k13_r0 k13_r1 l13_r W13
    go_wp2_with fail
    refine (sameErr_yes (ErrNo.no 1) _ (hT.below (by repeat (first | exact W14.out | refine blw_drewN ?_ _ | refine Below.setCell ?_ (by first | (simp; done) | omega | (simp; omega)) _ | refine Below.alloc ?_ (by first | (simp; done) | omega | (simp; omega)) _))).h).mono ?_
    rintro e w15 ⟨rfl, hb⟩
    have W15 := Lib.hid (blw_trans (show Below w.heap.size w _ by repeat (first | exact W14.out | refine blw_drewN ?_ _ | refine Below.setCell ?_ (by first | (simp; done) | omega | (simp; omega)) _ | refine Below.alloc ?_ (by first | (simp; done) | omega | (simp; omega)) _)) hb)
    have n15 := hb.size
    try simp at n15
    have k15_a0 := cell_keep (a := ⟨w.heap.size, 0, none⟩) (v := .int .i64 a) (by first | (go_keep; done) | (simp [go_sem, *]; done)) hb
    have k15_a1 := cell_keep (a := ⟨w.heap.size, 1, none⟩) (v := .int .i64 s) (by first | (go_keep; done) | (simp [go_sem, *]; done)) hb
    have l15_a := World.block_lt_of_cell? _ _ k15_a0
    try simp only at l15_a
    have k15_b0 := cell_keep (a := ⟨w.heap.size + 1, 0, none⟩) (v := .int .i64 b) (by first | (go_keep; done) | (simp [go_sem, *]; done)) hb
    have k15_b1 := cell_keep (a := ⟨w.heap.size + 1, 1, none⟩) (v := .int .i64 u) (by first | (go_keep; done) | (simp [go_sem, *]; done)) hb
    have l15_b := World.block_lt_of_cell? _ _ k15_b0
    try simp only at l15_b
    have k15_q0 := cell_keep (a := ⟨wh.heap.size, 0, none⟩) (v := .int .i64 r1) (by first | (go_keep; done) | (simp [go_sem, *]; done)) hb
    have k15_q1 := cell_keep (a := ⟨wh.heap.size, 1, none⟩) (v := .int .i64 sc) (by first | (go_keep; done) | (simp [go_sem, *]; done)) hb
    have l15_q := World.block_lt_of_cell? _ _ k15_q0
    try simp only at l15_q
    have k15_r0 := cell_keep (a := ⟨w12.heap.size, 0, none⟩) (v := .int .i64 r1) (by first | (go_keep; done) | (simp [go_sem, *]; done)) hb
    have k15_r1 := cell_keep (a := ⟨w12.heap.size, 1, none⟩) (v := .int .i64 sc) (by first | (go_keep; done) | (simp [go_sem, *]; done)) hb
    have l15_r := World.block_lt_of_cell? _ _ k15_r0
    try simp only at l15_r
    have k15_m0 := cell_keep (a := ⟨w13.heap.size, 0, none⟩) (v := .int .i64 0) (by first | (go_keep; done) | (simp [go_sem, *]; done)) hb
    have k15_m1 := cell_keep (a := ⟨w13.heap.size, 1, none⟩) (v := .int .i64 0) (by first | (go_keep; done) | (simp [go_sem, *]; done)) hb
    have l15_m := World.block_lt_of_cell? _ _ k15_m0
    try simp only at l15_m
    have k15_n0 := cell_keep (a := ⟨w14.heap.size, 0, none⟩) (v := .int .i64 0) (by first | (go_keep; done) | (simp [go_sem, *]; done)) hb
    have k15_n1 := cell_keep (a := ⟨w14.heap.size, 1, none⟩) (v := .int .i64 0) (by first | (go_keep; done) | (simp [go_sem, *]; done)) hb
    have l15_n := World.block_lt_of_cell? _ _ k15_n0
    try simp only at l15_n
    clear hb k14_a0 k14_a1 l14_a k14_b0 k14_b1 l14_b k14_q0 k14_q1 l14_q k14_r0 k14_r1 l14_r k14_m0 k14_m1 l14_m W14
    go_wp2_with fail
    go_ret
    exact ⟨ret_bool (by first | rfl | (simp; done)), by repeat (first | exact W15.out | refine blw_drewN ?_ _ | refine Below.setCell ?_ (by first | (simp; done) | omega | (simp; omega)) _ | refine Below.alloc ?_ (by first | (simp; done) | omega | (simp; omega)) _)⟩

set_option maxRecDepth 100000 in
set_option maxHeartbeats 2000000 in
theorem dt_bad_full (a s b u sc wy x1 x2 : Int) (t : List UInt8) (is : Bool) (ev : Value) (X : List UInt8) (w : World) (hT : TM w)
    (CF : Hid (∀ w : World, Calls Tryz.prog 5 #[.agg #[.int .i64 a, .int .i64 s]] w fun e w' => e = .returned (.bool false) ∧ Below w.heap.size w w'))
    (CK : Hid (∀ w : World, Calls Tryz.prog 7 #[.agg #[.int .i64 a, .int .i64 s]] w fun e w' => e = .returned (.nilIface) ∧ Below w.heap.size w w'))
    (CO : Hid (∀ w : World, Calls Tryz.prog 8 #[.string ⟨t.toArray⟩] w fun e w' => e = .returned (.tuple #[.agg #[.int .i64 x1, .int .i64 x2], .bool is]) ∧ Below w.heap.size w w'))
    (CP : Hid (∀ w : World, TM w → Calls Tryz.prog 9 #[.string ⟨t.toArray⟩] w fun e w' => e = .returned (.tuple #[.agg #[.int .i64 x1, .int .i64 x2], ev]) ∧ Below w.heap.size w w'))
    (hev : ErrNo ev (isE is))
    (CG : Hid (∀ w : World, Calls Tryz.prog 5 #[.agg #[.int .i64 b, .int .i64 u]] w fun e w' => e = .returned (.bool true) ∧ Below w.heap.size w w'))
    (CL : Hid (∀ w : World, Calls Tryz.prog 10 #[.agg #[.int .i64 a, .int .i64 s], .agg #[.int .i64 b, .int .i64 u]] w fun e w' => e = .returned (.bool false) ∧ Below w.heap.size w w'))
    (CS : Hid (∀ w : World, Calls Tryz.prog 12 #[.agg #[.int .i64 a, .int .i64 s], .agg #[.int .i64 b, .int .i64 u]] w fun e w' => e = .returned (.bool false) ∧ Below w.heap.size w w'))
    (CX : Hid (∀ w : World, TM w → Calls Tryz.prog 13 #[.agg #[.int .i64 a, .int .i64 s]] w fun e w' => e = .returned (.string ⟨X.toArray⟩) ∧ Below w.heap.size w w'))
    (CY : Hid (∀ w : World, Calls Tryz.prog 14 #[.agg #[.int .i64 a, .int .i64 s]] w fun e w' => e = .returned (.string ⟨X.toArray⟩) ∧ Below w.heap.size w w'))
    (CU : Hid (∀ w : World, Calls Tryz.prog 15 #[.agg #[.int .i64 a, .int .i64 s], .int .i64 sc, .int .i64 wy] w fun e w' => e = .returned (.tuple #[.agg #[.int .i64 0, .int .i64 0], .bool false]) ∧ Below w.heap.size w w'))
    (CV : Hid (∀ w : World, Calls Tryz.prog 16 #[.agg #[.int .i64 a, .int .i64 s], .int .i64 sc, .int .i64 wy] w fun e w' => e = .returned (.tuple #[.agg #[.int .i64 0, .int .i64 0], errV 1]) ∧ Below w.heap.size w w'))
    (CA : Hid (∀ w : World, Calls Tryz.prog 18 #[.agg #[.int .i64 a, .int .i64 s], .agg #[.int .i64 b, .int .i64 u]] w fun e w' => e = .returned (.tuple #[.agg #[.int .i64 0, .int .i64 0], errV 1]) ∧ Below w.heap.size w w'))
    (hs0 : 0 ≤ sc) (hs9 : sc ≤ 9) (hw1 : 1 ≤ wy) (hw5 : wy ≤ 5) :
    Calls Tryz.prog 3 #[.agg #[.int .i64 a, .int .i64 s], .agg #[.int .i64 b, .int .i64 u], .string ⟨t.toArray⟩, .int .i64 sc, .int .i64 wy] w fun e w' => e = .returned (.bool true) ∧ Below w.heap.size w w' := by
  have e1 : decide (sc < 0) = false := dec_no (by omega)
  have e2 : decide (9 < sc) = false := dec_no (by omega)
  have e3 : decide (wy < 1) = false := dec_no (by omega)
  have e4 : decide (5 < wy) = false := dec_no (by omega)
  have xx : (X != X) = false := by simp
  cases is
  all_goals
    unfold isE at hev
    go_enter Tryz.func3, Tryz.ntmps3
    go_wp2_with fail
    refine (half_any _).mono ?_
    rintro e w1 ⟨rfl, hb⟩
    have W1 := Lib.hid (blw_trans (show Below w.heap.size w _ by repeat (first | exact (Below.refl _ _) | refine blw_drewN ?_ _ | refine Below.setCell ?_ (by first | (simp; done) | omega | (simp; omega)) _ | refine Below.alloc ?_ (by first | (simp; done) | omega | (simp; omega)) _)) hb)
    have n1 := hb.size
    try simp at n1
    have k1_a0 := cell_keep (a := ⟨w.heap.size, 0, none⟩) (v := .int .i64 a) (by first | (go_keep; done) | (simp [go_sem, *]; done) | (simp (config := { maxDischargeDepth := 10 }) [go_sem, *]; done)) hb
    have k1_a1 := cell_keep (a := ⟨w.heap.size, 1, none⟩) (v := .int .i64 s) (by first | (go_keep; done) | (simp [go_sem, *]; done) | (simp (config := { maxDischargeDepth := 10 }) [go_sem, *]; done)) hb
    have l1_a := World.block_lt_of_cell? _ _ k1_a0
    try simp only at l1_a
    have k1_b0 := cell_keep (a := ⟨w.heap.size + 1, 0, none⟩) (v := .int .i64 b) (by first | (go_keep; done) | (simp [go_sem, *]; done) | (simp (config := { maxDischargeDepth := 10 }) [go_sem, *]; done)) hb
    have k1_b1 := cell_keep (a := ⟨w.heap.size + 1, 1, none⟩) (v := .int .i64 u) (by first | (go_keep; done) | (simp [go_sem, *]; done) | (simp (config := { maxDischargeDepth := 10 }) [go_sem, *]; done)) hb
    have l1_b := World.block_lt_of_cell? _ _ k1_b0
    try simp only at l1_b
    clear hb
    go_wp2_with fail
    refine (CF.out _).mono ?_
    rintro e w2 ⟨rfl, hb⟩
    have W2 := Lib.hid (blw_trans (show Below w.heap.size w _ by repeat (first | exact W1.out | refine blw_drewN ?_ _ | refine Below.setCell ?_ (by first | (simp; done) | omega | (simp; omega)) _ | refine Below.alloc ?_ (by first | (simp; done) | omega | (simp; omega)) _)) hb)
    have n2 := hb.size
    try simp at n2
    have k2_a0 := cell_keep (a := ⟨w.heap.size, 0, none⟩) (v := .int .i64 a) (by first | (go_keep; done) | (simp [go_sem, *]; done) | (simp (config := { maxDischargeDepth := 10 }) [go_sem, *]; done)) hb
    have k2_a1 := cell_keep (a := ⟨w.heap.size, 1, none⟩) (v := .int .i64 s) (by first | (go_keep; done) | (simp [go_sem, *]; done) | (simp (config := { maxDischargeDepth := 10 }) [go_sem, *]; done)) hb
    have l2_a := World.block_lt_of_cell? _ _ k2_a0
    try simp only at l2_a
    have k2_b0 := cell_keep (a := ⟨w.heap.size + 1, 0, none⟩) (v := .int .i64 b) (by first | (go_keep; done) | (simp [go_sem, *]; done) | (simp (config := { maxDischargeDepth := 10 }) [go_sem, *]; done)) hb
    have k2_b1 := cell_keep (a := ⟨w.heap.size + 1, 1, none⟩) (v := .int .i64 u) (by first | (go_keep; done) | (simp [go_sem, *]; done) | (simp (config := { maxDischargeDepth := 10 }) [go_sem, *]; done)) hb
    have l2_b := World.block_lt_of_cell? _ _ k2_b0
    try simp only at l2_b
    clear hb k1_a0 k1_a1 l1_a k1_b0 k1_b1 l1_b W1
    go_wp2_with fail
    refine (CK.out _).mono ?_
    rintro e w3 ⟨rfl, hb⟩
    have W3 := Lib.hid (blw_trans (show Below w.heap.size w _ by repeat (first | exact W2.out | refine blw_drewN ?_ _ | refine Below.setCell ?_ (by first | (simp; done) | omega | (simp; omega)) _ | refine Below.alloc ?_ (by first | (simp; done) | omega | (simp; omega)) _)) hb)
    have n3 := hb.size
    try simp at n3
    have k3_a0 := cell_keep (a := ⟨w.heap.size, 0, none⟩) (v := .int .i64 a) (by first | (go_keep; done) | (simp [go_sem, *]; done) | (simp (config := { maxDischargeDepth := 10 }) [go_sem, *]; done)) hb
    have k3_a1 := cell_keep (a := ⟨w.heap.size, 1, none⟩) (v := .int .i64 s) (by first | (go_keep; done) | (simp [go_sem, *]; done) | (simp (config := { maxDischargeDepth := 10 }) [go_sem, *]; done)) hb
    have l3_a := World.block_lt_of_cell? _ _ k3_a0
    try simp only at l3_a
    have k3_b0 := cell_keep (a := ⟨w.heap.size + 1, 0, none⟩) (v := .int .i64 b) (by first | (go_keep; done) | (simp [go_sem, *]; done) | (simp (config := { maxDischargeDepth := 10 }) [go_sem, *]; done)) hb
    have k3_b1 := cell_keep (a := ⟨w.heap.size + 1, 1, none⟩) (v := .int .i64 u) (by first | (go_keep; done) | (simp [go_sem, *]; done) | (simp (config := { maxDischargeDepth := 10 }) [go_sem, *]; done)) hb
    have l3_b := World.block_lt_of_cell? _ _ k3_b0
    try simp only at l3_b
    clear hb k2_a0 k2_a1 l2_a k2_b0 k2_b1 l2_b W2
    go_wp2_with fail
    refine (sameErr_yes (ErrNo.nil) _ (hT.below (by repeat (first | exact W3.out | refine blw_drewN ?_ _ | refine Below.setCell ?_ (by first | (simp; done) | omega | (simp; omega)) _ | refine Below.alloc ?_ (by first | (simp; done) | omega | (simp; omega)) _))).h).mono ?_
    rintro e w4 ⟨rfl, hb⟩
    have W4 := Lib.hid (blw_trans (show Below w.heap.size w _ by repeat (first | exact W3.out | refine blw_drewN ?_ _ | refine Below.setCell ?_ (by first | (simp; done) | omega | (simp; omega)) _ | refine Below.alloc ?_ (by first | (simp; done) | omega | (simp; omega)) _)) hb)
    have n4 := hb.size
    try simp at n4
    have k4_a0 := cell_keep (a := ⟨w.heap.size, 0, none⟩) (v := .int .i64 a) (by first | (go_keep; done) | (simp [go_sem, *]; done) | (simp (config := { maxDischargeDepth := 10 }) [go_sem, *]; done)) hb
    have k4_a1 := cell_keep (a := ⟨w.heap.size, 1, none⟩) (v := .int .i64 s) (by first | (go_keep; done) | (simp [go_sem, *]; done) | (simp (config := { maxDischargeDepth := 10 }) [go_sem, *]; done)) hb
    have l4_a := World.block_lt_of_cell? _ _ k4_a0
    try simp only at l4_a
    have k4_b0 := cell_keep (a := ⟨w.heap.size + 1, 0, none⟩) (v := .int .i64 b) (by first | (go_keep; done) | (simp [go_sem, *]; done) | (simp (config := { maxDischargeDepth := 10 }) [go_sem, *]; done)) hb
    have k4_b1 := cell_keep (a := ⟨w.heap.size + 1, 1, none⟩) (v := .int .i64 u) (by first | (go_keep; done) | (simp [go_sem, *]; done) | (simp (config := { maxDischargeDepth := 10 }) [go_sem, *]; done)) hb
    have l4_b := World.block_lt_of_cell? _ _ k4_b0
    try simp only at l4_b
    clear hb k3_a0 k3_a1 l3_a k3_b0 k3_b1 l3_b W3
    go_wp2_with fail
    refine (CO.out _).mono ?_
    rintro e w5 ⟨rfl, hb⟩
    have W5 := Lib.hid (blw_trans (show Below w.heap.size w _ by repeat (first | exact W4.out | refine blw_drewN ?_ _ | refine Below.setCell ?_ (by first | (simp; done) | omega | (simp; omega)) _ | refine Below.alloc ?_ (by first | (simp; done) | omega | (simp; omega)) _)) hb)
    have n5 := hb.size
    try simp at n5
    have k5_a0 := cell_keep (a := ⟨w.heap.size, 0, none⟩) (v := .int .i64 a) (by first | (go_keep; done) | (simp [go_sem, *]; done) | (simp (config := { maxDischargeDepth := 10 }) [go_sem, *]; done)) hb
    have k5_a1 := cell_keep (a := ⟨w.heap.size, 1, none⟩) (v := .int .i64 s) (by first | (go_keep; done) | (simp [go_sem, *]; done) | (simp (config := { maxDischargeDepth := 10 }) [go_sem, *]; done)) hb
    have l5_a := World.block_lt_of_cell? _ _ k5_a0
    try simp only at l5_a
    have k5_b0 := cell_keep (a := ⟨w.heap.size + 1, 0, none⟩) (v := .int .i64 b) (by first | (go_keep; done) | (simp [go_sem, *]; done) | (simp (config := { maxDischargeDepth := 10 }) [go_sem, *]; done)) hb
    have k5_b1 := cell_keep (a := ⟨w.heap.size + 1, 1, none⟩) (v := .int .i64 u) (by first | (go_keep; done) | (simp [go_sem, *]; done) | (simp (config := { maxDischargeDepth := 10 }) [go_sem, *]; done)) hb
    have l5_b := World.block_lt_of_cell? _ _ k5_b0
    try simp only at l5_b
    clear hb k4_a0 k4_a1 l4_a k4_b0 k4_b1 l4_b W4
    go_wp2_with fail
    refine (CP.out _ (hT.below (by repeat (first | exact W5.out | refine blw_drewN ?_ _ | refine Below.setCell ?_ (by first | (simp; done) | omega | (simp; omega)) _ | refine Below.alloc ?_ (by first | (simp; done) | omega | (simp; omega)) _)))).mono ?_
    rintro e w6 ⟨rfl, hb⟩
    have W6 := Lib.hid (blw_trans (show Below w.heap.size w _ by repeat (first | exact W5.out | refine blw_drewN ?_ _ | refine Below.setCell ?_ (by first | (simp; done) | omega | (simp; omega)) _ | refine Below.alloc ?_ (by first | (simp; done) | omega | (simp; omega)) _)) hb)
    have n6 := hb.size
    try simp at n6
    have k6_a0 := cell_keep (a := ⟨w.heap.size, 0, none⟩) (v := .int .i64 a) (by first | (go_keep; done) | (simp [go_sem, *]; done) | (simp (config := { maxDischargeDepth := 10 }) [go_sem, *]; done)) hb
    have k6_a1 := cell_keep (a := ⟨w.heap.size, 1, none⟩) (v := .int .i64 s) (by first | (go_keep; done) | (simp [go_sem, *]; done) | (simp (config := { maxDischargeDepth := 10 }) [go_sem, *]; done)) hb
    have l6_a := World.block_lt_of_cell? _ _ k6_a0
    try simp only at l6_a
    have k6_b0 := cell_keep (a := ⟨w.heap.size + 1, 0, none⟩) (v := .int .i64 b) (by first | (go_keep; done) | (simp [go_sem, *]; done) | (simp (config := { maxDischargeDepth := 10 }) [go_sem, *]; done)) hb
    have k6_b1 := cell_keep (a := ⟨w.heap.size + 1, 1, none⟩) (v := .int .i64 u) (by first | (go_keep; done) | (simp [go_sem, *]; done) | (simp (config := { maxDischargeDepth := 10 }) [go_sem, *]; done)) hb
    have l6_b := World.block_lt_of_cell? _ _ k6_b0
    try simp only at l6_b
    have k6_x0 := cell_keep (a := ⟨w5.heap.size, 0, none⟩) (v := .int .i64 x1) (by first | (go_keep; done) | (simp [go_sem, *]; done) | (simp (config := { maxDischargeDepth := 10 }) [go_sem, *]; done)) hb
    have k6_x1 := cell_keep (a := ⟨w5.heap.size, 1, none⟩) (v := .int .i64 x2) (by first | (go_keep; done) | (simp [go_sem, *]; done) | (simp (config := { maxDischargeDepth := 10 }) [go_sem, *]; done)) hb
    have l6_x := World.block_lt_of_cell? _ _ k6_x0
    try simp only at l6_x
    clear hb k5_a0 k5_a1 l5_a k5_b0 k5_b1 l5_b W5
    go_wp2_with fail
    refine (sameErr_yes hev _ (hT.below (by repeat (first | exact W6.out | refine blw_drewN ?_ _ | refine Below.setCell ?_ (by first | (simp; done) | omega | (simp; omega)) _ | refine Below.alloc ?_ (by first | (simp; done) | omega | (simp; omega)) _))).h).mono ?_
    rintro e w7 ⟨rfl, hb⟩
    have W7 := Lib.hid (blw_trans (show Below w.heap.size w _ by repeat (first | exact W6.out | refine blw_drewN ?_ _ | refine Below.setCell ?_ (by first | (simp; done) | omega | (simp; omega)) _ | refine Below.alloc ?_ (by first | (simp; done) | omega | (simp; omega)) _)) hb)
    have n7 := hb.size
    try simp at n7
    have k7_a0 := cell_keep (a := ⟨w.heap.size, 0, none⟩) (v := .int .i64 a) (by first | (go_keep; done) | (simp [go_sem, *]; done) | (simp (config := { maxDischargeDepth := 10 }) [go_sem, *]; done)) hb
    have k7_a1 := cell_keep (a := ⟨w.heap.size, 1, none⟩) (v := .int .i64 s) (by first | (go_keep; done) | (simp [go_sem, *]; done) | (simp (config := { maxDischargeDepth := 10 }) [go_sem, *]; done)) hb
    have l7_a := World.block_lt_of_cell? _ _ k7_a0
    try simp only at l7_a
    have k7_b0 := cell_keep (a := ⟨w.heap.size + 1, 0, none⟩) (v := .int .i64 b) (by first | (go_keep; done) | (simp [go_sem, *]; done) | (simp (config := { maxDischargeDepth := 10 }) [go_sem, *]; done)) hb
    have k7_b1 := cell_keep (a := ⟨w.heap.size + 1, 1, none⟩) (v := .int .i64 u) (by first | (go_keep; done) | (simp [go_sem, *]; done) | (simp (config := { maxDischargeDepth := 10 }) [go_sem, *]; done)) hb
    have l7_b := World.block_lt_of_cell? _ _ k7_b0
    try simp only at l7_b
    have k7_x0 := cell_keep (a := ⟨w5.heap.size, 0, none⟩) (v := .int .i64 x1) (by first | (go_keep; done) | (simp [go_sem, *]; done) | (simp (config := { maxDischargeDepth := 10 }) [go_sem, *]; done)) hb
    have k7_x1 := cell_keep (a := ⟨w5.heap.size, 1, none⟩) (v := .int .i64 x2) (by first | (go_keep; done) | (simp [go_sem, *]; done) | (simp (config := { maxDischargeDepth := 10 }) [go_sem, *]; done)) hb
    have l7_x := World.block_lt_of_cell? _ _ k7_x0
    try simp only at l7_x
    have k7_y0 := cell_keep (a := ⟨w6.heap.size, 0, none⟩) (v := .int .i64 x1) (by first | (go_keep; done) | (simp [go_sem, *]; done) | (simp (config := { maxDischargeDepth := 10 }) [go_sem, *]; done)) hb
    have k7_y1 := cell_keep (a := ⟨w6.heap.size, 1, none⟩) (v := .int .i64 x2) (by first | (go_keep; done) | (simp [go_sem, *]; done) | (simp (config := { maxDischargeDepth := 10 }) [go_sem, *]; done)) hb
    have l7_y := World.block_lt_of_cell? _ _ k7_y0
    try simp only at l7_y
    clear hb k6_a0 k6_a1 l6_a k6_b0 k6_b1 l6_b k6_x0 k6_x1 l6_x W6
    go_wp2_with fail
    refine (CG.out _).mono ?_
    rintro e w8 ⟨rfl, hb⟩
    have W8 := Lib.hid (blw_trans (show Below w.heap.size w _ by repeat (first | exact W7.out | refine blw_drewN ?_ _ | refine Below.setCell ?_ (by first | (simp; done) | omega | (simp; omega)) _ | refine Below.alloc ?_ (by first | (simp; done) | omega | (simp; omega)) _)) hb)
    have n8 := hb.size
    try simp at n8
    have k8_a0 := cell_keep (a := ⟨w.heap.size, 0, none⟩) (v := .int .i64 a) (by first | (go_keep; done) | (simp [go_sem, *]; done) | (simp (config := { maxDischargeDepth := 10 }) [go_sem, *]; done)) hb
    have k8_a1 := cell_keep (a := ⟨w.heap.size, 1, none⟩) (v := .int .i64 s) (by first | (go_keep; done) | (simp [go_sem, *]; done) | (simp (config := { maxDischargeDepth := 10 }) [go_sem, *]; done)) hb
    have l8_a := World.block_lt_of_cell? _ _ k8_a0
    try simp only at l8_a
    have k8_b0 := cell_keep (a := ⟨w.heap.size + 1, 0, none⟩) (v := .int .i64 b) (by first | (go_keep; done) | (simp [go_sem, *]; done) | (simp (config := { maxDischargeDepth := 10 }) [go_sem, *]; done)) hb
    have k8_b1 := cell_keep (a := ⟨w.heap.size + 1, 1, none⟩) (v := .int .i64 u) (by first | (go_keep; done) | (simp [go_sem, *]; done) | (simp (config := { maxDischargeDepth := 10 }) [go_sem, *]; done)) hb
    have l8_b := World.block_lt_of_cell? _ _ k8_b0
    try simp only at l8_b
    have k8_x0 := cell_keep (a := ⟨w5.heap.size, 0, none⟩) (v := .int .i64 x1) (by first | (go_keep; done) | (simp [go_sem, *]; done) | (simp (config := { maxDischargeDepth := 10 }) [go_sem, *]; done)) hb
    have k8_x1 := cell_keep (a := ⟨w5.heap.size, 1, none⟩) (v := .int .i64 x2) (by first | (go_keep; done) | (simp [go_sem, *]; done) | (simp (config := { maxDischargeDepth := 10 }) [go_sem, *]; done)) hb
    have l8_x := World.block_lt_of_cell? _ _ k8_x0
    try simp only at l8_x
    have k8_y0 := cell_keep (a := ⟨w6.heap.size, 0, none⟩) (v := .int .i64 x1) (by first | (go_keep; done) | (simp [go_sem, *]; done) | (simp (config := { maxDischargeDepth := 10 }) [go_sem, *]; done)) hb
    have k8_y1 := cell_keep (a := ⟨w6.heap.size, 1, none⟩) (v := .int .i64 x2) (by first | (go_keep; done) | (simp [go_sem, *]; done) | (simp (config := { maxDischargeDepth := 10 }) [go_sem, *]; done)) hb
    have l8_y := World.block_lt_of_cell? _ _ k8_y0
    try simp only at l8_y
    clear hb k7_a0 k7_a1 l7_a k7_b0 k7_b1 l7_b k7_x0 k7_x1 l7_x k7_y0 k7_y1 l7_y W7
    go_wp2_with fail
    refine (CL.out _).mono ?_
    rintro e w9 ⟨rfl, hb⟩
    have W9 := Lib.hid (blw_trans (show Below w.heap.size w _ by repeat (first | exact W8.out | refine blw_drewN ?_ _ | refine Below.setCell ?_ (by first | (simp; done) | omega | (simp; omega)) _ | refine Below.alloc ?_ (by first | (simp; done) | omega | (simp; omega)) _)) hb)
    have n9 := hb.size
    try simp at n9
    have k9_a0 := cell_keep (a := ⟨w.heap.size, 0, none⟩) (v := .int .i64 a) (by first | (go_keep; done) | (simp [go_sem, *]; done) | (simp (config := { maxDischargeDepth := 10 }) [go_sem, *]; done)) hb
    have k9_a1 := cell_keep (a := ⟨w.heap.size, 1, none⟩) (v := .int .i64 s) (by first | (go_keep; done) | (simp [go_sem, *]; done) | (simp (config := { maxDischargeDepth := 10 }) [go_sem, *]; done)) hb
    have l9_a := World.block_lt_of_cell? _ _ k9_a0
    try simp only at l9_a
    have k9_b0 := cell_keep (a := ⟨w.heap.size + 1, 0, none⟩) (v := .int .i64 b) (by first | (go_keep; done) | (simp [go_sem, *]; done) | (simp (config := { maxDischargeDepth := 10 }) [go_sem, *]; done)) hb
    have k9_b1 := cell_keep (a := ⟨w.heap.size + 1, 1, none⟩) (v := .int .i64 u) (by first | (go_keep; done) | (simp [go_sem, *]; done) | (simp (config := { maxDischargeDepth := 10 }) [go_sem, *]; done)) hb
    have l9_b := World.block_lt_of_cell? _ _ k9_b0
    try simp only at l9_b
    have k9_x0 := cell_keep (a := ⟨w5.heap.size, 0, none⟩) (v := .int .i64 x1) (by first | (go_keep; done) | (simp [go_sem, *]; done) | (simp (config := { maxDischargeDepth := 10 }) [go_sem, *]; done)) hb
    have k9_x1 := cell_keep (a := ⟨w5.heap.size, 1, none⟩) (v := .int .i64 x2) (by first | (go_keep; done) | (simp [go_sem, *]; done) | (simp (config := { maxDischargeDepth := 10 }) [go_sem, *]; done)) hb
    have l9_x := World.block_lt_of_cell? _ _ k9_x0
    try simp only at l9_x
    have k9_y0 := cell_keep (a := ⟨w6.heap.size, 0, none⟩) (v := .int .i64 x1) (by first | (go_keep; done) | (simp [go_sem, *]; done) | (simp (config := { maxDischargeDepth := 10 }) [go_sem, *]; done)) hb
    have k9_y1 := cell_keep (a := ⟨w6.heap.size, 1, none⟩) (v := .int .i64 x2) (by first | (go_keep; done) | (simp [go_sem, *]; done) | (simp (config := { maxDischargeDepth := 10 }) [go_sem, *]; done)) hb
    have l9_y := World.block_lt_of_cell? _ _ k9_y0
    try simp only at l9_y
    clear hb k8_a0 k8_a1 l8_a k8_b0 k8_b1 l8_b k8_x0 k8_x1 l8_x k8_y0 k8_y1 l8_y W8
    go_wp2_with fail
    refine (CS.out _).mono ?_
    rintro e w10 ⟨rfl, hb⟩
    have W10 := Lib.hid (blw_trans (show Below w.heap.size w _ by repeat (first | exact W9.out | refine blw_drewN ?_ _ | refine Below.setCell ?_ (by first | (simp; done) | omega | (simp; omega)) _ | refine Below.alloc ?_ (by first | (simp; done) | omega | (simp; omega)) _)) hb)
    have n10 := hb.size
    try simp at n10
    have k10_a0 := cell_keep (a := ⟨w.heap.size, 0, none⟩) (v := .int .i64 a) (by first | (go_keep; done) | (simp [go_sem, *]; done) | (simp (config := { maxDischargeDepth := 10 }) [go_sem, *]; done)) hb
    have k10_a1 := cell_keep (a := ⟨w.heap.size, 1, none⟩) (v := .int .i64 s) (by first | (go_keep; done) | (simp [go_sem, *]; done) | (simp (config := { maxDischargeDepth := 10 }) [go_sem, *]; done)) hb
    have l10_a := World.block_lt_of_cell? _ _ k10_a0
    try simp only at l10_a
    have k10_b0 := cell_keep (a := ⟨w.heap.size + 1, 0, none⟩) (v := .int .i64 b) (by first | (go_keep; done) | (simp [go_sem, *]; done) | (simp (config := { maxDischargeDepth := 10 }) [go_sem, *]; done)) hb
    have k10_b1 := cell_keep (a := ⟨w.heap.size + 1, 1, none⟩) (v := .int .i64 u) (by first | (go_keep; done) | (simp [go_sem, *]; done) | (simp (config := { maxDischargeDepth := 10 }) [go_sem, *]; done)) hb
    have l10_b := World.block_lt_of_cell? _ _ k10_b0
    try simp only at l10_b
    have k10_x0 := cell_keep (a := ⟨w5.heap.size, 0, none⟩) (v := .int .i64 x1) (by first | (go_keep; done) | (simp [go_sem, *]; done) | (simp (config := { maxDischargeDepth := 10 }) [go_sem, *]; done)) hb
    have k10_x1 := cell_keep (a := ⟨w5.heap.size, 1, none⟩) (v := .int .i64 x2) (by first | (go_keep; done) | (simp [go_sem, *]; done) | (simp (config := { maxDischargeDepth := 10 }) [go_sem, *]; done)) hb
    have l10_x := World.block_lt_of_cell? _ _ k10_x0
    try simp only at l10_x
    have k10_y0 := cell_keep (a := ⟨w6.heap.size, 0, none⟩) (v := .int .i64 x1) (by first | (go_keep; done) | (simp [go_sem, *]; done) | (simp (config := { maxDischargeDepth := 10 }) [go_sem, *]; done)) hb
    have k10_y1 := cell_keep (a := ⟨w6.heap.size, 1, none⟩) (v := .int .i64 x2) (by first | (go_keep; done) | (simp [go_sem, *]; done) | (simp (config := { maxDischargeDepth := 10 }) [go_sem, *]; done)) hb
    have l10_y := World.block_lt_of_cell? _ _ k10_y0
    try simp only at l10_y
    clear hb k9_a0 k9_a1 l9_a k9_b0 k9_b1 l9_b k9_x0 k9_x1 l9_x k9_y0 k9_y1 l9_y W9
    go_wp2_with fail
  focus
    refine wp_region_held_drew (S := fun w' => w'.cell? ⟨w.heap.size, 0, none⟩ = some (.int .i64 a) ∧ w'.cell? ⟨w.heap.size, 1, none⟩ = some (.int .i64 s) ∧ w'.cell? ⟨w.heap.size + 1, 0, none⟩ = some (.int .i64 b) ∧ w'.cell? ⟨w.heap.size + 1, 1, none⟩ = some (.int .i64 u) ∧ Hid (Below w.heap.size w w')) (by kernel_rfl) (by exact ⟨by simpa using k10_a0, by simpa using k10_a1, by simpa using k10_b0, by simpa using k10_b1, Lib.hid (blw_drewN W10.out 1)⟩) (fun hHeld => ?_)
    refine take_run (d := (some 103)) (v := ?v19) 0 rfl rfl (by kernel_rfl) (by kernel_rfl) (by kernel_rfl) (fun _ _ _ h => h) (by rfl) hHeld ?hy19 ?rs19
    case hy19 => (intro w hSw; (try dsimp only at hSw); go_simp) <;> (try with_reducible rfl)
    (try simp only [Act.put, List.setIfInBounds_toArray, List.set_cons_zero, List.set_cons_succ])
    refine take_run (d := (some 104)) (v := ?v20) 1 rfl rfl (by kernel_rfl) (by kernel_rfl) (by kernel_rfl) (fun _ _ _ h => h) (by rfl) hHeld ?hy20 ?rs20
    case hy20 => (intro w hSw; (try dsimp only at hSw); go_simp) <;> (try with_reducible rfl)
    (try simp only [Act.put, List.setIfInBounds_toArray, List.set_cons_zero, List.set_cons_succ])
    refine take_run (d := (some 105)) (v := ?v21) 2 rfl rfl (by kernel_rfl) (by kernel_rfl) (by kernel_rfl) (fun _ _ _ h => h) (by rfl) hHeld ?hy21 ?rs21
    case hy21 => (intro w hSw; (try dsimp only at hSw); go_simp) <;> (try with_reducible rfl)
    (try simp only [Act.put, List.setIfInBounds_toArray, List.set_cons_zero, List.set_cons_succ])
    refine take_run (d := (some 106)) (v := ?v22) 3 rfl rfl (by kernel_rfl) (by kernel_rfl) (by kernel_rfl) (fun _ _ _ h => h) (by rfl) hHeld ?hy22 ?rs22
    case hy22 => (intro w hSw; (try dsimp only at hSw); go_simp) <;> (try with_reducible rfl)
    (try simp only [Act.put, List.setIfInBounds_toArray, List.set_cons_zero, List.set_cons_succ])
    refine take_run (d := (some 108)) (v := ?v23) 5 rfl rfl (by kernel_rfl) (by kernel_rfl) (by kernel_rfl) (fun _ _ _ h => h) (by rfl) hHeld ?hy23 ?rs23
    case hy23 => (intro w hSw; (try dsimp only at hSw); go_simp) <;> (try with_reducible rfl)
    (try simp only [Act.put, List.setIfInBounds_toArray, List.set_cons_zero, List.set_cons_succ])
    refine take_call 4 rfl (by kernel_rfl) (by rfl) (fun K hK => ?_)
    go_simp
    refine (CX.out _ (hT.below hHeld.2.2.2.2.out)).mono ?_
    rintro e w' ⟨rfl, hb⟩
    refine hK.out _ _ (by obtain ⟨h0, h1, h2, h3, hw⟩ := hHeld; exact ⟨cell_keep h0 hb, cell_keep h1 hb, cell_keep h2 hb, cell_keep h3 hb, Lib.hid (blw_trans hw.out hb)⟩) (fun hHeld => ?_)
    clear hK K
    (try simp only [Act.put, List.setIfInBounds_toArray, List.set_cons_zero, List.set_cons_succ])
    refine take_call 6 rfl (by kernel_rfl) (by rfl) (fun K hK => ?_)
    go_simp
    refine (CY.out _).mono ?_
    rintro e w' ⟨rfl, hb⟩
    refine hK.out _ _ (by obtain ⟨h0, h1, h2, h3, hw⟩ := hHeld; exact ⟨cell_keep h0 hb, cell_keep h1 hb, cell_keep h2 hb, cell_keep h3 hb, Lib.hid (blw_trans hw.out hb)⟩) (fun hHeld => ?_)
    clear hK K
    (try simp only [Act.put, List.setIfInBounds_toArray, List.set_cons_zero, List.set_cons_succ])
    refine take_run (d := (some 110)) (v := ?v26) 7 rfl rfl (by kernel_rfl) (by kernel_rfl) (by kernel_rfl) (fun _ _ _ h => h) (by rfl) hHeld ?hy26 ?rs26
    case hy26 => (intro w hSw; (try dsimp only at hSw); go_simp) <;> (try with_reducible rfl)
    (try simp only [Act.put, List.setIfInBounds_toArray, List.set_cons_zero, List.set_cons_succ])
    refine take_run (d := (some 111)) (v := ?v27) 8 rfl rfl (by kernel_rfl) (by kernel_rfl) (by kernel_rfl) (fun _ _ _ h => h) (by rfl) hHeld ?hy27 ?rs27
    case hy27 => (intro w hSw; (try dsimp only at hSw); go_simp) <;> (try with_reducible rfl)
    (try simp only [Act.put, List.setIfInBounds_toArray, List.set_cons_zero, List.set_cons_succ])
    refine wpAnyH_done (by kernel_rfl) ?_ _
    obtain ⟨z0, z1, z2, z3, zW⟩ := hHeld
  rotate_left
  focus
    refine wp_region_held_drew (S := fun w' => w'.cell? ⟨w.heap.size, 0, none⟩ = some (.int .i64 a) ∧ w'.cell? ⟨w.heap.size, 1, none⟩ = some (.int .i64 s) ∧ w'.cell? ⟨w.heap.size + 1, 0, none⟩ = some (.int .i64 b) ∧ w'.cell? ⟨w.heap.size + 1, 1, none⟩ = some (.int .i64 u) ∧ Hid (Below w.heap.size w w')) (by kernel_rfl) (by exact ⟨by simpa using k10_a0, by simpa using k10_a1, by simpa using k10_b0, by simpa using k10_b1, Lib.hid (blw_drewN W10.out 1)⟩) (fun hHeld => ?_)
    refine take_run (d := (some 103)) (v := ?v28) 0 rfl rfl (by kernel_rfl) (by kernel_rfl) (by kernel_rfl) (fun _ _ _ h => h) (by rfl) hHeld ?hy28 ?rs28
    case hy28 => (intro w hSw; (try dsimp only at hSw); go_simp) <;> (try with_reducible rfl)
    (try simp only [Act.put, List.setIfInBounds_toArray, List.set_cons_zero, List.set_cons_succ])
    refine take_run (d := (some 104)) (v := ?v29) 1 rfl rfl (by kernel_rfl) (by kernel_rfl) (by kernel_rfl) (fun _ _ _ h => h) (by rfl) hHeld ?hy29 ?rs29
    case hy29 => (intro w hSw; (try dsimp only at hSw); go_simp) <;> (try with_reducible rfl)
    (try simp only [Act.put, List.setIfInBounds_toArray, List.set_cons_zero, List.set_cons_succ])
    refine take_run (d := (some 105)) (v := ?v30) 2 rfl rfl (by kernel_rfl) (by kernel_rfl) (by kernel_rfl) (fun _ _ _ h => h) (by rfl) hHeld ?hy30 ?rs30
    case hy30 => (intro w hSw; (try dsimp only at hSw); go_simp) <;> (try with_reducible rfl)
    (try simp only [Act.put, List.setIfInBounds_toArray, List.set_cons_zero, List.set_cons_succ])
    refine take_run (d := (some 106)) (v := ?v31) 3 rfl rfl (by kernel_rfl) (by kernel_rfl) (by kernel_rfl) (fun _ _ _ h => h) (by rfl) hHeld ?hy31 ?rs31
    case hy31 => (intro w hSw; (try dsimp only at hSw); go_simp) <;> (try with_reducible rfl)
    (try simp only [Act.put, List.setIfInBounds_toArray, List.set_cons_zero, List.set_cons_succ])
    refine take_run (d := (some 108)) (v := ?v32) 5 rfl rfl (by kernel_rfl) (by kernel_rfl) (by kernel_rfl) (fun _ _ _ h => h) (by rfl) hHeld ?hy32 ?rs32
    case hy32 => (intro w hSw; (try dsimp only at hSw); go_simp) <;> (try with_reducible rfl)
    (try simp only [Act.put, List.setIfInBounds_toArray, List.set_cons_zero, List.set_cons_succ])
    refine take_call 4 rfl (by kernel_rfl) (by rfl) (fun K hK => ?_)
    go_simp
    refine (CX.out _ (hT.below hHeld.2.2.2.2.out)).mono ?_
    rintro e w' ⟨rfl, hb⟩
    refine hK.out _ _ (by obtain ⟨h0, h1, h2, h3, hw⟩ := hHeld; exact ⟨cell_keep h0 hb, cell_keep h1 hb, cell_keep h2 hb, cell_keep h3 hb, Lib.hid (blw_trans hw.out hb)⟩) (fun hHeld => ?_)
    clear hK K
    (try simp only [Act.put, List.setIfInBounds_toArray, List.set_cons_zero, List.set_cons_succ])
    refine take_call 6 rfl (by kernel_rfl) (by rfl) (fun K hK => ?_)
    go_simp
    refine (CY.out _).mono ?_
    rintro e w' ⟨rfl, hb⟩
    refine hK.out _ _ (by obtain ⟨h0, h1, h2, h3, hw⟩ := hHeld; exact ⟨cell_keep h0 hb, cell_keep h1 hb, cell_keep h2 hb, cell_keep h3 hb, Lib.hid (blw_trans hw.out hb)⟩) (fun hHeld => ?_)
    clear hK K
    (try simp only [Act.put, List.setIfInBounds_toArray, List.set_cons_zero, List.set_cons_succ])
    refine take_run (d := (some 110)) (v := ?v35) 7 rfl rfl (by kernel_rfl) (by kernel_rfl) (by kernel_rfl) (fun _ _ _ h => h) (by rfl) hHeld ?hy35 ?rs35
    case hy35 => (intro w hSw; (try dsimp only at hSw); go_simp) <;> (try with_reducible rfl)
    (try simp only [Act.put, List.setIfInBounds_toArray, List.set_cons_zero, List.set_cons_succ])
    refine take_run (d := (some 111)) (v := ?v36) 8 rfl rfl (by kernel_rfl) (by kernel_rfl) (by kernel_rfl) (fun _ _ _ h => h) (by rfl) hHeld ?hy36 ?rs36
    case hy36 => (intro w hSw; (try dsimp only at hSw); go_simp) <;> (try with_reducible rfl)
    (try simp only [Act.put, List.setIfInBounds_toArray, List.set_cons_zero, List.set_cons_succ])
    refine wpAnyH_done (by kernel_rfl) ?_ _
    obtain ⟨z0, z1, z2, z3, zW⟩ := hHeld
  rotate_left
  all_goals
    clear k10_a0 k10_a1 l10_a k10_b0 k10_b1 l10_b k10_x0 k10_x1 l10_x k10_y0 k10_y1 l10_y W10
    obtain ⟨wh, hwh⟩ : ∃ wh, wh = w' := ⟨_, rfl⟩
    subst hwh
    have k10_a0 := z0
    have k10_a1 := z1
    have l10_a := World.block_lt_of_cell? _ _ k10_a0
    try simp only at l10_a
    have k10_b0 := z2
    have k10_b1 := z3
    have l10_b := World.block_lt_of_cell? _ _ k10_b0
    try simp only at l10_b
    clear z0 z1 z2 z3
    have ne1 : ¬ w.heap.size = wh.heap.size := by omega
    have me1 : ¬ wh.heap.size = w.heap.size := by omega
    have ne2 : ¬ w.heap.size + 1 = wh.heap.size := by omega
    have me2 : ¬ wh.heap.size = w.heap.size + 1 := by omega
    have leq : w.heap.size ≤ wh.heap.size := by omega
    go_wp2_with fail
    refine (CU.out _).mono ?_
    rintro e w11 ⟨rfl, hb⟩
    have W11 := Lib.hid (blw_trans (show Below w.heap.size w _ by repeat (first | exact zW.out | refine blw_drewN ?_ _ | refine Below.setCell ?_ (by first | (simp; done) | omega | (simp; omega)) _ | refine Below.alloc ?_ (by first | (simp; done) | omega | (simp; omega)) _)) hb)
    have n11 := hb.size
    try simp at n11
    have k11_a0 := cell_keep (a := ⟨w.heap.size, 0, none⟩) (v := .int .i64 a) (by first | (go_keep; done) | (simp [go_sem, *]; done) | (simp (config := { maxDischargeDepth := 10 }) [go_sem, *]; done)) hb
    have k11_a1 := cell_keep (a := ⟨w.heap.size, 1, none⟩) (v := .int .i64 s) (by first | (go_keep; done) | (simp [go_sem, *]; done) | (simp (config := { maxDischargeDepth := 10 }) [go_sem, *]; done)) hb
    have l11_a := World.block_lt_of_cell? _ _ k11_a0
    try simp only at l11_a
    have k11_b0 := cell_keep (a := ⟨w.heap.size + 1, 0, none⟩) (v := .int .i64 b) (by first | (go_keep; done) | (simp [go_sem, *]; done) | (simp (config := { maxDischargeDepth := 10 }) [go_sem, *]; done)) hb
    have k11_b1 := cell_keep (a := ⟨w.heap.size + 1, 1, none⟩) (v := .int .i64 u) (by first | (go_keep; done) | (simp [go_sem, *]; done) | (simp (config := { maxDischargeDepth := 10 }) [go_sem, *]; done)) hb
    have l11_b := World.block_lt_of_cell? _ _ k11_b0
    try simp only at l11_b
    have k11_q0 := cell_keep (a := ⟨wh.heap.size, 0, none⟩) (v := .int .i64 0) (by first | (go_keep; done) | (simp [go_sem, *]; done) | (simp (config := { maxDischargeDepth := 10 }) [go_sem, *]; done)) hb
    have f11_q0 := (hb.frozen (p := ⟨wh.heap.size, 0, none⟩) (by first | (simp; done) | omega | (simp; omega))).trans (show _ = false by first | (simp; done) | (simp [go_sem]; done))
    have k11_q1 := cell_keep (a := ⟨wh.heap.size, 1, none⟩) (v := .int .i64 0) (by first | (go_keep; done) | (simp [go_sem, *]; done) | (simp (config := { maxDischargeDepth := 10 }) [go_sem, *]; done)) hb
    have f11_q1 := (hb.frozen (p := ⟨wh.heap.size, 1, none⟩) (by first | (simp; done) | omega | (simp; omega))).trans (show _ = false by first | (simp; done) | (simp [go_sem]; done))
    have l11_q := World.block_lt_of_cell? _ _ k11_q0
    try simp only at l11_q
    clear hb k10_a0 k10_a1 k10_b0 k10_b1 l10_a l10_b zW
    go_wp2_with fail
    refine (CV.out _).mono ?_
    rintro e w12 ⟨rfl, hb⟩
    have W12 := Lib.hid (blw_trans (show Below w.heap.size w _ by repeat (first | exact W11.out | refine blw_drewN ?_ _ | refine Below.setCell ?_ (by first | (simp; done) | omega | (simp; omega)) _ | refine Below.alloc ?_ (by first | (simp; done) | omega | (simp; omega)) _)) hb)
    have n12 := hb.size
    try simp at n12
    have k12_a0 := cell_keep (a := ⟨w.heap.size, 0, none⟩) (v := .int .i64 a) (by first | (go_keep; done) | (simp [go_sem, *]; done) | (simp (config := { maxDischargeDepth := 10 }) [go_sem, *]; done)) hb
    have k12_a1 := cell_keep (a := ⟨w.heap.size, 1, none⟩) (v := .int .i64 s) (by first | (go_keep; done) | (simp [go_sem, *]; done) | (simp (config := { maxDischargeDepth := 10 }) [go_sem, *]; done)) hb
    have l12_a := World.block_lt_of_cell? _ _ k12_a0
    try simp only at l12_a
    have k12_b0 := cell_keep (a := ⟨w.heap.size + 1, 0, none⟩) (v := .int .i64 b) (by first | (go_keep; done) | (simp [go_sem, *]; done) | (simp (config := { maxDischargeDepth := 10 }) [go_sem, *]; done)) hb
    have k12_b1 := cell_keep (a := ⟨w.heap.size + 1, 1, none⟩) (v := .int .i64 u) (by first | (go_keep; done) | (simp [go_sem, *]; done) | (simp (config := { maxDischargeDepth := 10 }) [go_sem, *]; done)) hb
    have l12_b := World.block_lt_of_cell? _ _ k12_b0
    try simp only at l12_b
    have k12_q0 := cell_keep (a := ⟨wh.heap.size, 0, none⟩) (v := .int .i64 0) (by first | (go_keep; done) | (simp [go_sem, *]; done) | (simp (config := { maxDischargeDepth := 10 }) [go_sem, *]; done)) hb
    have k12_q1 := cell_keep (a := ⟨wh.heap.size, 1, none⟩) (v := .int .i64 0) (by first | (go_keep; done) | (simp [go_sem, *]; done) | (simp (config := { maxDischargeDepth := 10 }) [go_sem, *]; done)) hb
    have l12_q := World.block_lt_of_cell? _ _ k12_q0
    try simp only at l12_q
    clear hb k11_a0 k11_a1 l11_a k11_b0 k11_b1 l11_b k11_q0 f11_q0 k11_q1 f11_q1 l11_q W11
    go_wp2_with fail
    refine (sameErr_yes (ErrNo.no 1) _ (hT.below (by repeat (first | exact W12.out | refine blw_drewN ?_ _ | refine Below.setCell ?_ (by first | (simp; done) | omega | (simp; omega)) _ | refine Below.alloc ?_ (by first | (simp; done) | omega | (simp; omega)) _))).h).mono ?_
    rintro e w13 ⟨rfl, hb⟩
    have W13 := Lib.hid (blw_trans (show Below w.heap.size w _ by repeat (first | exact W12.out | refine blw_drewN ?_ _ | refine Below.setCell ?_ (by first | (simp; done) | omega | (simp; omega)) _ | refine Below.alloc ?_ (by first | (simp; done) | omega | (simp; omega)) _)) hb)
    have n13 := hb.size
    try simp at n13
    have k13_a0 := cell_keep (a := ⟨w.heap.size, 0, none⟩) (v := .int .i64 a) (by first | (go_keep; done) | (simp [go_sem, *]; done) | (simp (config := { maxDischargeDepth := 10 }) [go_sem, *]; done)) hb
    have k13_a1 := cell_keep (a := ⟨w.heap.size, 1, none⟩) (v := .int .i64 s) (by first | (go_keep; done) | (simp [go_sem, *]; done) | (simp (config := { maxDischargeDepth := 10 }) [go_sem, *]; done)) hb
    have l13_a := World.block_lt_of_cell? _ _ k13_a0
    try simp only at l13_a
    have k13_b0 := cell_keep (a := ⟨w.heap.size + 1, 0, none⟩) (v := .int .i64 b) (by first | (go_keep; done) | (simp [go_sem, *]; done) | (simp (config := { maxDischargeDepth := 10 }) [go_sem, *]; done)) hb
    have k13_b1 := cell_keep (a := ⟨w.heap.size + 1, 1, none⟩) (v := .int .i64 u) (by first | (go_keep; done) | (simp [go_sem, *]; done) | (simp (config := { maxDischargeDepth := 10 }) [go_sem, *]; done)) hb
    have l13_b := World.block_lt_of_cell? _ _ k13_b0
    try simp only at l13_b
    have k13_q0 := cell_keep (a := ⟨wh.heap.size, 0, none⟩) (v := .int .i64 0) (by first | (go_keep; done) | (simp [go_sem, *]; done) | (simp (config := { maxDischargeDepth := 10 }) [go_sem, *]; done)) hb
    have k13_q1 := cell_keep (a := ⟨wh.heap.size, 1, none⟩) (v := .int .i64 0) (by first | (go_keep; done) | (simp [go_sem, *]; done) | (simp (config := { maxDischargeDepth := 10 }) [go_sem, *]; done)) hb
    have l13_q := World.block_lt_of_cell? _ _ k13_q0
    try simp only at l13_q
    have k13_r0 := cell_keep (a := ⟨w12.heap.size, 0, none⟩) (v := .int .i64 0) (by first | (go_keep; done) | (simp [go_sem, *]; done) | (simp (config := { maxDischargeDepth := 10 }) [go_sem, *]; done)) hb
    have k13_r1 := cell_keep (a := ⟨w12.heap.size, 1, none⟩) (v := .int .i64 0) (by first | (go_keep; done) | (simp [go_sem, *]; done) | (simp (config := { maxDischargeDepth := 10 }) [go_sem, *]; done)) hb
    have l13_r := World.block_lt_of_cell? _ _ k13_r0
    try simp only at l13_r
    clear hb k12_a0 k12_a1 l12_a k12_b0 k12_b1 l12_b k12_q0 k12_q1 l12_q W12
    go_wp2_with fail
    refine (CA.out _).mono ?_
    rintro e w14 ⟨rfl, hb⟩
    have W14 := Lib.hid (blw_trans (show Below w.heap.size w _ by repeat (first | exact W13.out | refine blw_drewN ?_ _ | refine Below.setCell ?_ (by first | (simp; done) | omega | (simp; omega)) _ | refine Below.alloc ?_ (by first | (simp; done) | omega | (simp; omega)) _)) hb)
    have n14 := hb.size
    try simp at n14
    have k14_a0 := cell_keep (a := ⟨w.heap.size, 0, none⟩) (v := .int .i64 a) (by first | (go_keep; done) | (simp [go_sem, *]; done) | (simp (config := { maxDischargeDepth := 10 }) [go_sem, *]; done)) hb
    have k14_a1 := cell_keep (a := ⟨w.heap.size, 1, none⟩) (v := .int .i64 s) (by first | (go_keep; done) | (simp [go_sem, *]; done) | (simp (config := { maxDischargeDepth := 10 }) [go_sem, *]; done)) hb
    have l14_a := World.block_lt_of_cell? _ _ k14_a0
    try simp only at l14_a
    have k14_b0 := cell_keep (a := ⟨w.heap.size + 1, 0, none⟩) (v := .int .i64 b) (by first | (go_keep; done) | (simp [go_sem, *]; done) | (simp (config := { maxDischargeDepth := 10 }) [go_sem, *]; done)) hb
    have k14_b1 := cell_keep (a := ⟨w.heap.size + 1, 1, none⟩) (v := .int .i64 u) (by first | (go_keep; done) | (simp [go_sem, *]; done) | (simp (config := { maxDischargeDepth := 10 }) [go_sem, *]; done)) hb
    have l14_b := World.block_lt_of_cell? _ _ k14_b0
    try simp only at l14_b
    have k14_q0 := cell_keep (a := ⟨wh.heap.size, 0, none⟩) (v := .int .i64 0) (by first | (go_keep; done) | (simp [go_sem, *]; done) | (simp (config := { maxDischargeDepth := 10 }) [go_sem, *]; done)) hb
    have k14_q1 := cell_keep (a := ⟨wh.heap.size, 1, none⟩) (v := .int .i64 0) (by first | (go_keep; done) | (simp [go_sem, *]; done) | (simp (config := { maxDischargeDepth := 10 }) [go_sem, *]; done)) hb
    have l14_q := World.block_lt_of_cell? _ _ k14_q0
    try simp only at l14_q
    have k14_r0 := cell_keep (a := ⟨w12.heap.size, 0, none⟩) (v := .int .i64 0) (by first | (go_keep; done) | (simp [go_sem, *]; done) | (simp (config := { maxDischargeDepth := 10 }) [go_sem, *]; done)) hb
    have k14_r1 := cell_keep (a := ⟨w12.heap.size, 1, none⟩) (v := .int .i64 0) (by first | (go_keep; done) | (simp [go_sem, *]; done) | (simp (config := { maxDischargeDepth := 10 }) [go_sem, *]; done)) hb
    have l14_r := World.block_lt_of_cell? _ _ k14_r0
    try simp only at l14_r
    have k14_m0 := cell_keep (a := ⟨w13.heap.size, 0, none⟩) (v := .int .i64 0) (by first | (go_keep; done) | (simp [go_sem, *]; done) | (simp (config := { maxDischargeDepth := 10 }) [go_sem, *]; done)) hb
    have k14_m1 := cell_keep (a := ⟨w13.heap.size, 1, none⟩) (v := .int .i64 0) (by first | (go_keep; done) | (simp [go_sem, *]; done) | (simp (config := { maxDischargeDepth := 10 }) [go_sem, *]; done)) hb
    have l14_m := World.block_lt_of_cell? _ _ k14_m0
    try simp only at l14_m
    clear hb k13_a0 k13_a1 l13_a k13_b0 k13_b1 l13_b k13_q0 k13_q1 l13_q k13_r0 k13_r1 l13_r W13
    go_wp2_with fail
    refine (sameErr_yes (ErrNo.no 1) _ (hT.below (by repeat (first | exact W14.out | refine blw_drewN ?_ _ | refine Below.setCell ?_ (by first | (simp; done) | omega | (simp; omega)) _ | refine Below.alloc ?_ (by first | (simp; done) | omega | (simp; omega)) _))).h).mono ?_
    rintro e w15 ⟨rfl, hb⟩
    have W15 := Lib.hid (blw_trans (show Below w.heap.size w _ by repeat (first | exact W14.out | refine blw_drewN ?_ _ | refine Below.setCell ?_ (by first | (simp; done) | omega | (simp; omega)) _ | refine Below.alloc ?_ (by first | (simp; done) | omega | (simp; omega)) _)) hb)
    have n15 := hb.size
    try simp at n15
    have k15_a0 := cell_keep (a := ⟨w.heap.size, 0, none⟩) (v := .int .i64 a) (by first | (go_keep; done) | (simp [go_sem, *]; done) | (simp (config := { maxDischargeDepth := 10 }) [go_sem, *]; done)) hb
    have k15_a1 := cell_keep (a := ⟨w.heap.size, 1, none⟩) (v := .int .i64 s) (by first | (go_keep; done) | (simp [go_sem, *]; done) | (simp (config := { maxDischargeDepth := 10 }) [go_sem, *]; done)) hb
    have l15_a := World.block_lt_of_cell? _ _ k15_a0
    try simp only at l15_a
    have k15_b0 := cell_keep (a := ⟨w.heap.size + 1, 0, none⟩) (v := .int .i64 b) (by first | (go_keep; done) | (simp [go_sem, *]; done) | (simp (config := { maxDischargeDepth := 10 }) [go_sem, *]; done)) hb
    have k15_b1 := cell_keep (a := ⟨w.heap.size + 1, 1, none⟩) (v := .int .i64 u) (by first | (go_keep; done) | (simp [go_sem, *]; done) | (simp (config := { maxDischargeDepth := 10 }) [go_sem, *]; done)) hb
    have l15_b := World.block_lt_of_cell? _ _ k15_b0
    try simp only at l15_b
    have k15_q0 := cell_keep (a := ⟨wh.heap.size, 0, none⟩) (v := .int .i64 0) (by first | (go_keep; done) | (simp [go_sem, *]; done) | (simp (config := { maxDischargeDepth := 10 }) [go_sem, *]; done)) hb
    have k15_q1 := cell_keep (a := ⟨wh.heap.size, 1, none⟩) (v := .int .i64 0) (by first | (go_keep; done) | (simp [go_sem, *]; done) | (simp (config := { maxDischargeDepth := 10 }) [go_sem, *]; done)) hb
    have l15_q := World.block_lt_of_cell? _ _ k15_q0
    try simp only at l15_q
    have k15_r0 := cell_keep (a := ⟨w12.heap.size, 0, none⟩) (v := .int .i64 0) (by first | (go_keep; done) | (simp [go_sem, *]; done) | (simp (config := { maxDischargeDepth := 10 }) [go_sem, *]; done)) hb
    have k15_r1 := cell_keep (a := ⟨w12.heap.size, 1, none⟩) (v := .int .i64 0) (by first | (go_keep; done) | (simp [go_sem, *]; done) | (simp (config := { maxDischargeDepth := 10 }) [go_sem, *]; done)) hb
    have l15_r := World.block_lt_of_cell? _ _ k15_r0
    try simp only at l15_r
    have k15_m0 := cell_keep (a := ⟨w13.heap.size, 0, none⟩) (v := .int .i64 0) (by first | (go_keep; done) | (simp [go_sem, *]; done) | (simp (config := { maxDischargeDepth := 10 }) [go_sem, *]; done)) hb
    have k15_m1 := cell_keep (a := ⟨w13.heap.size, 1, none⟩) (v := .int .i64 0) (by first | (go_keep; done) | (simp [go_sem, *]; done) | (simp (config := { maxDischargeDepth := 10 }) [go_sem, *]; done)) hb
    have l15_m := World.block_lt_of_cell? _ _ k15_m0
    try simp only at l15_m
    have k15_n0 := cell_keep (a := ⟨w14.heap.size, 0, none⟩) (v := .int .i64 0) (by first | (go_keep; done) | (simp [go_sem, *]; done) | (simp (config := { maxDischargeDepth := 10 }) [go_sem, *]; done)) hb
    have k15_n1 := cell_keep (a := ⟨w14.heap.size, 1, none⟩) (v := .int .i64 0) (by first | (go_keep; done) | (simp [go_sem, *]; done) | (simp (config := { maxDischargeDepth := 10 }) [go_sem, *]; done)) hb
    have l15_n := World.block_lt_of_cell? _ _ k15_n0
    try simp only at l15_n
    clear hb k14_a0 k14_a1 l14_a k14_b0 k14_b1 l14_b k14_q0 k14_q1 l14_q k14_r0 k14_r1 l14_r k14_m0 k14_m1 l14_m W14
    go_wp2_with fail
    go_ret
    exact ⟨ret_bool (by first | rfl | (simp; done)), by repeat (first | exact W15.out | refine blw_drewN ?_ _ | refine Below.setCell ?_ (by first | (simp; done) | omega | (simp; omega)) _ | refine Below.alloc ?_ (by first | (simp; done) | omega | (simp; omega)) _)⟩

set_option maxRecDepth 100000 in
set_option maxHeartbeats 2000000 in
theorem dt_bad_sc (a s b u sc wy x1 x2 : Int) (t : List UInt8) (is : Bool) (ev : Value) (X : List UInt8) (j1 j2 : Bool) (w : World) (hT : TM w)
    (CF : Hid (∀ w : World, Calls Tryz.prog 5 #[.agg #[.int .i64 a, .int .i64 s]] w fun e w' => e = .returned (.bool false) ∧ Below w.heap.size w w'))
    (CK : Hid (∀ w : World, Calls Tryz.prog 7 #[.agg #[.int .i64 a, .int .i64 s]] w fun e w' => e = .returned (.nilIface) ∧ Below w.heap.size w w'))
    (CO : Hid (∀ w : World, Calls Tryz.prog 8 #[.string ⟨t.toArray⟩] w fun e w' => e = .returned (.tuple #[.agg #[.int .i64 x1, .int .i64 x2], .bool is]) ∧ Below w.heap.size w w'))
    (CP : Hid (∀ w : World, TM w → Calls Tryz.prog 9 #[.string ⟨t.toArray⟩] w fun e w' => e = .returned (.tuple #[.agg #[.int .i64 x1, .int .i64 x2], ev]) ∧ Below w.heap.size w w'))
    (hev : ErrNo ev (isE is))
    (CG : Hid (∀ w : World, Calls Tryz.prog 5 #[.agg #[.int .i64 b, .int .i64 u]] w fun e w' => e = .returned (.bool true) ∧ Below w.heap.size w w'))
    (CL : Hid (∀ w : World, Calls Tryz.prog 10 #[.agg #[.int .i64 a, .int .i64 s], .agg #[.int .i64 b, .int .i64 u]] w fun e w' => e = .returned (.bool false) ∧ Below w.heap.size w w'))
    (CS : Hid (∀ w : World, Calls Tryz.prog 12 #[.agg #[.int .i64 a, .int .i64 s], .agg #[.int .i64 b, .int .i64 u]] w fun e w' => e = .returned (.bool false) ∧ Below w.heap.size w w'))
    (CX : Hid (∀ w : World, TM w → Calls Tryz.prog 13 #[.agg #[.int .i64 a, .int .i64 s]] w fun e w' => e = .returned (.string ⟨X.toArray⟩) ∧ Below w.heap.size w w'))
    (CY : Hid (∀ w : World, Calls Tryz.prog 14 #[.agg #[.int .i64 a, .int .i64 s]] w fun e w' => e = .returned (.string ⟨X.toArray⟩) ∧ Below w.heap.size w w'))
    (CV : Hid (∀ w : World, Calls Tryz.prog 16 #[.agg #[.int .i64 a, .int .i64 s], .int .i64 sc, .int .i64 wy] w fun e w' => e = .returned (.tuple #[.agg #[.int .i64 0, .int .i64 0], errV 1]) ∧ Below w.heap.size w w'))
    (CA : Hid (∀ w : World, Calls Tryz.prog 18 #[.agg #[.int .i64 a, .int .i64 s], .agg #[.int .i64 b, .int .i64 u]] w fun e w' => e = .returned (.tuple #[.agg #[.int .i64 0, .int .i64 0], errV 1]) ∧ Below w.heap.size w w'))
    (e1 : decide (sc < 0) = j1) (e2 : decide (9 < sc) = j2) (e12 : j1 = true ∨ j1 = false ∧ j2 = true) :
    Calls Tryz.prog 3 #[.agg #[.int .i64 a, .int .i64 s], .agg #[.int .i64 b, .int .i64 u], .string ⟨t.toArray⟩, .int .i64 sc, .int .i64 wy] w fun e w' => e = .returned (.bool true) ∧ Below w.heap.size w w' := by
  have xx : (X != X) = false := by simp
  cases is
  all_goals
    unfold isE at hev
    go_enter Tryz.func3, Tryz.ntmps3
    go_wp2_with fail
    refine (half_any _).mono ?_
    rintro e w1 ⟨rfl, hb⟩
    have W1 := Lib.hid (blw_trans (show Below w.heap.size w _ by repeat (first | exact (Below.refl _ _) | refine blw_drewN ?_ _ | refine Below.setCell ?_ (by first | (simp; done) | omega | (simp; omega)) _ | refine Below.alloc ?_ (by first | (simp; done) | omega | (simp; omega)) _)) hb)
    have n1 := hb.size
    try simp at n1
    have k1_a0 := cell_keep (a := ⟨w.heap.size, 0, none⟩) (v := .int .i64 a) (by first | (go_keep; done) | (simp [go_sem, *]; done)) hb
    have k1_a1 := cell_keep (a := ⟨w.heap.size, 1, none⟩) (v := .int .i64 s) (by first | (go_keep; done) | (simp [go_sem, *]; done)) hb
    have l1_a := World.block_lt_of_cell? _ _ k1_a0
    try simp only at l1_a
    have k1_b0 := cell_keep (a := ⟨w.heap.size + 1, 0, none⟩) (v := .int .i64 b) (by first | (go_keep; done) | (simp [go_sem, *]; done)) hb
    have k1_b1 := cell_keep (a := ⟨w.heap.size + 1, 1, none⟩) (v := .int .i64 u) (by first | (go_keep; done) | (simp [go_sem, *]; done)) hb
    have l1_b := World.block_lt_of_cell? _ _ k1_b0
    try simp only at l1_b
    clear hb
    go_wp2_with fail
    refine (CF.out _).mono ?_
    rintro e w2 ⟨rfl, hb⟩
    have W2 := Lib.hid (blw_trans (show Below w.heap.size w _ by repeat (first | exact W1.out | refine blw_drewN ?_ _ | refine Below.setCell ?_ (by first | (simp; done) | omega | (simp; omega)) _ | refine Below.alloc ?_ (by first | (simp; done) | omega | (simp; omega)) _)) hb)
    have n2 := hb.size
    try simp at n2
    have k2_a0 := cell_keep (a := ⟨w.heap.size, 0, none⟩) (v := .int .i64 a) (by first | (go_keep; done) | (simp [go_sem, *]; done)) hb
    have k2_a1 := cell_keep (a := ⟨w.heap.size, 1, none⟩) (v := .int .i64 s) (by first | (go_keep; done) | (simp [go_sem, *]; done)) hb
    have l2_a := World.block_lt_of_cell? _ _ k2_a0
    try simp only at l2_a
    have k2_b0 := cell_keep (a := ⟨w.heap.size + 1, 0, none⟩) (v := .int .i64 b) (by first | (go_keep; done) | (simp [go_sem, *]; done)) hb
    have k2_b1 := cell_keep (a := ⟨w.heap.size + 1, 1, none⟩) (v := .int .i64 u) (by first | (go_keep; done) | (simp [go_sem, *]; done)) hb
    have l2_b := World.block_lt_of_cell? _ _ k2_b0
    try simp only at l2_b
    clear hb k1_a0 k1_a1 l1_a k1_b0 k1_b1 l1_b W1
    go_wp2_with fail
    refine (CK.out _).mono ?_
    rintro e w3 ⟨rfl, hb⟩
    have W3 := Lib.hid (blw_trans (show Below w.heap.size w _ by repeat (first | exact W2.out | refine blw_drewN ?_ _ | refine Below.setCell ?_ (by first | (simp; done) | omega | (simp; omega)) _ | refine Below.alloc ?_ (by first | (simp; done) | omega | (simp; omega)) _)) hb)
    have n3 := hb.size
    try simp at n3
    have k3_a0 := cell_keep (a := ⟨w.heap.size, 0, none⟩) (v := .int .i64 a) (by first | (go_keep; done) | (simp [go_sem, *]; done)) hb
    have k3_a1 := cell_keep (a := ⟨w.heap.size, 1, none⟩) (v := .int .i64 s) (by first | (go_keep; done) | (simp [go_sem, *]; done)) hb
    have l3_a := World.block_lt_of_cell? _ _ k3_a0
    try simp only at l3_a
    have k3_b0 := cell_keep (a := ⟨w.heap.size + 1, 0, none⟩) (v := .int .i64 b) (by first | (go_keep; done) | (simp [go_sem, *]; done)) hb
    have k3_b1 := cell_keep (a := ⟨w.heap.size + 1, 1, none⟩) (v := .int .i64 u) (by first | (go_keep; done) | (simp [go_sem, *]; done)) hb
    have l3_b := World.block_lt_of_cell? _ _ k3_b0
    try simp only at l3_b
    clear hb k2_a0 k2_a1 l2_a k2_b0 k2_b1 l2_b W2
    go_wp2_with fail
    refine (sameErr_yes (ErrNo.nil) _ (hT.below (by repeat (first | exact W3.out | refine blw_drewN ?_ _ | refine Below.setCell ?_ (by first | (simp; done) | omega | (simp; omega)) _ | refine Below.alloc ?_ (by first | (simp; done) | omega | (simp; omega)) _))).h).mono ?_
    rintro e w4 ⟨rfl, hb⟩
    have W4 := Lib.hid (blw_trans (show Below w.heap.size w _ by repeat (first | exact W3.out | refine blw_drewN ?_ _ | refine Below.setCell ?_ (by first | (simp; done) | omega | (simp; omega)) _ | refine Below.alloc ?_ (by first | (simp; done) | omega | (simp; omega)) _)) hb)
    have n4 := hb.size
    try simp at n4
    have k4_a0 := cell_keep (a := ⟨w.heap.size, 0, none⟩) (v := .int .i64 a) (by first | (go_keep; done) | (simp [go_sem, *]; done)) hb
    have k4_a1 := cell_keep (a := ⟨w.heap.size, 1, none⟩) (v := .int .i64 s) (by first | (go_keep; done) | (simp [go_sem, *]; done)) hb
    have l4_a := World.block_lt_of_cell? _ _ k4_a0
    try simp only at l4_a
    have k4_b0 := cell_keep (a := ⟨w.heap.size + 1, 0, none⟩) (v := .int .i64 b) (by first | (go_keep; done) | (simp [go_sem, *]; done)) hb
    have k4_b1 := cell_keep (a := ⟨w.heap.size + 1, 1, none⟩) (v := .int .i64 u) (by first | (go_keep; done) | (simp [go_sem, *]; done)) hb
    have l4_b := World.block_lt_of_cell? _ _ k4_b0
    try simp only at l4_b
    clear hb k3_a0 k3_a1 l3_a k3_b0 k3_b1 l3_b W3
    go_wp2_with fail
    refine (CO.out _).mono ?_
    rintro e w5 ⟨rfl, hb⟩
    have W5 := Lib.hid (blw_trans (show Below w.heap.size w _ by repeat (first | exact W4.out | refine blw_drewN ?_ _ | refine Below.setCell ?_ (by first | (simp; done) | omega | (simp; omega)) _ | refine Below.alloc ?_ (by first | (simp; done) | omega | (simp; omega)) _)) hb)
    have n5 := hb.size
    try simp at n5
    have k5_a0 := cell_keep (a := ⟨w.heap.size, 0, none⟩) (v := .int .i64 a) (by first | (go_keep; done) | (simp [go_sem, *]; done)) hb
    have k5_a1 := cell_keep (a := ⟨w.heap.size, 1, none⟩) (v := .int .i64 s) (by first | (go_keep; done) | (simp [go_sem, *]; done)) hb
    have l5_a := World.block_lt_of_cell? _ _ k5_a0
    try simp only at l5_a
    have k5_b0 := cell_keep (a := ⟨w.heap.size + 1, 0, none⟩) (v := .int .i64 b) (by first | (go_keep; done) | (simp [go_sem, *]; done)) hb
    have k5_b1 := cell_keep (a := ⟨w.heap.size + 1, 1, none⟩) (v := .int .i64 u) (by first | (go_keep; done) | (simp [go_sem, *]; done)) hb
    have l5_b := World.block_lt_of_cell? _ _ k5_b0
    try simp only at l5_b
    clear hb k4_a0 k4_a1 l4_a k4_b0 k4_b1 l4_b W4
    go_wp2_with fail
    refine (CP.out _ (hT.below (by repeat (first | exact W5.out | refine blw_drewN ?_ _ | refine Below.setCell ?_ (by first | (simp; done) | omega | (simp; omega)) _ | refine Below.alloc ?_ (by first | (simp; done) | omega | (simp; omega)) _)))).mono ?_
    rintro e w6 ⟨rfl, hb⟩
    have W6 := Lib.hid (blw_trans (show Below w.heap.size w _ by repeat (first | exact W5.out | refine blw_drewN ?_ _ | refine Below.setCell ?_ (by first | (simp; done) | omega | (simp; omega)) _ | refine Below.alloc ?_ (by first | (simp; done) | omega | (simp; omega)) _)) hb)
    have n6 := hb.size
    try simp at n6
    have k6_a0 := cell_keep (a := ⟨w.heap.size, 0, none⟩) (v := .int .i64 a) (by first | (go_keep; done) | (simp [go_sem, *]; done)) hb
    have k6_a1 := cell_keep (a := ⟨w.heap.size, 1, none⟩) (v := .int .i64 s) (by first | (go_keep; done) | (simp [go_sem, *]; done)) hb
    have l6_a := World.block_lt_of_cell? _ _ k6_a0
    try simp only at l6_a
    have k6_b0 := cell_keep (a := ⟨w.heap.size + 1, 0, none⟩) (v := .int .i64 b) (by first | (go_keep; done) | (simp [go_sem, *]; done)) hb
    have k6_b1 := cell_keep (a := ⟨w.heap.size + 1, 1, none⟩) (v := .int .i64 u) (by first | (go_keep; done) | (simp [go_sem, *]; done)) hb
    have l6_b := World.block_lt_of_cell? _ _ k6_b0
    try simp only at l6_b
    have k6_x0 := cell_keep (a := ⟨w5.heap.size, 0, none⟩) (v := .int .i64 x1) (by first | (go_keep; done) | (simp [go_sem, *]; done)) hb
    have k6_x1 := cell_keep (a := ⟨w5.heap.size, 1, none⟩) (v := .int .i64 x2) (by first | (go_keep; done) | (simp [go_sem, *]; done)) hb
    have l6_x := World.block_lt_of_cell? _ _ k6_x0
    try simp only at l6_x
    clear hb k5_a0 k5_a1 l5_a k5_b0 k5_b1 l5_b W5
    go_wp2_with fail
    refine (sameErr_yes hev _ (hT.below (by repeat (first | exact W6.out | refine blw_drewN ?_ _ | refine Below.setCell ?_ (by first | (simp; done) | omega | (simp; omega)) _ | refine Below.alloc ?_ (by first | (simp; done) | omega | (simp; omega)) _))).h).mono ?_
    rintro e w7 ⟨rfl, hb⟩
    have W7 := Lib.hid (blw_trans (show Below w.heap.size w _ by repeat (first | exact W6.out | refine blw_drewN ?_ _ | refine Below.setCell ?_ (by first | (simp; done) | omega | (simp; omega)) _ | refine Below.alloc ?_ (by first | (simp; done) | omega | (simp; omega)) _)) hb)
    have n7 := hb.size
    try simp at n7
    have k7_a0 := cell_keep (a := ⟨w.heap.size, 0, none⟩) (v := .int .i64 a) (by first | (go_keep; done) | (simp [go_sem, *]; done)) hb
    have k7_a1 := cell_keep (a := ⟨w.heap.size, 1, none⟩) (v := .int .i64 s) (by first | (go_keep; done) | (simp [go_sem, *]; done)) hb
    have l7_a := World.block_lt_of_cell? _ _ k7_a0
    try simp only at l7_a
    have k7_b0 := cell_keep (a := ⟨w.heap.size + 1, 0, none⟩) (v := .int .i64 b) (by first | (go_keep; done) | (simp [go_sem, *]; done)) hb
    have k7_b1 := cell_keep (a := ⟨w.heap.size + 1, 1, none⟩) (v := .int .i64 u) (by first | (go_keep; done) | (simp [go_sem, *]; done)) hb
    have l7_b := World.block_lt_of_cell? _ _ k7_b0
    try simp only at l7_b
    have k7_x0 := cell_keep (a := ⟨w5.heap.size, 0, none⟩) (v := .int .i64 x1) (by first | (go_keep; done) | (simp [go_sem, *]; done)) hb
    have k7_x1 := cell_keep (a := ⟨w5.heap.size, 1, none⟩) (v := .int .i64 x2) (by first | (go_keep; done) | (simp [go_sem, *]; done)) hb
    have l7_x := World.block_lt_of_cell? _ _ k7_x0
    try simp only at l7_x
    have k7_y0 := cell_keep (a := ⟨w6.heap.size, 0, none⟩) (v := .int .i64 x1) (by first | (go_keep; done) | (simp [go_sem, *]; done)) hb
    have k7_y1 := cell_keep (a := ⟨w6.heap.size, 1, none⟩) (v := .int .i64 x2) (by first | (go_keep; done) | (simp [go_sem, *]; done)) hb
    have l7_y := World.block_lt_of_cell? _ _ k7_y0
    try simp only at l7_y
    clear hb k6_a0 k6_a1 l6_a k6_b0 k6_b1 l6_b k6_x0 k6_x1 l6_x W6
    go_wp2_with fail
    refine (CG.out _).mono ?_
    rintro e w8 ⟨rfl, hb⟩
    have W8 := Lib.hid (blw_trans (show Below w.heap.size w _ by repeat (first | exact W7.out | refine blw_drewN ?_ _ | refine Below.setCell ?_ (by first | (simp; done) | omega | (simp; omega)) _ | refine Below.alloc ?_ (by first | (simp; done) | omega | (simp; omega)) _)) hb)
    have n8 := hb.size
    try simp at n8
    have k8_a0 := cell_keep (a := ⟨w.heap.size, 0, none⟩) (v := .int .i64 a) (by first | (go_keep; done) | (simp [go_sem, *]; done)) hb
    have k8_a1 := cell_keep (a := ⟨w.heap.size, 1, none⟩) (v := .int .i64 s) (by first | (go_keep; done) | (simp [go_sem, *]; done)) hb
    have l8_a := World.block_lt_of_cell? _ _ k8_a0
    try simp only at l8_a
    have k8_b0 := cell_keep (a := ⟨w.heap.size + 1, 0, none⟩) (v := .int .i64 b) (by first | (go_keep; done) | (simp [go_sem, *]; done)) hb
    have k8_b1 := cell_keep (a := ⟨w.heap.size + 1, 1, none⟩) (v := .int .i64 u) (by first | (go_keep; done) | (simp [go_sem, *]; done)) hb
    have l8_b := World.block_lt_of_cell? _ _ k8_b0
    try simp only at l8_b
    have k8_x0 := cell_keep (a := ⟨w5.heap.size, 0, none⟩) (v := .int .i64 x1) (by first | (go_keep; done) | (simp [go_sem, *]; done)) hb
    have k8_x1 := cell_keep (a := ⟨w5.heap.size, 1, none⟩) (v := .int .i64 x2) (by first | (go_keep; done) | (simp [go_sem, *]; done)) hb
    have l8_x := World.block_lt_of_cell? _ _ k8_x0
    try simp only at l8_x
    have k8_y0 := cell_keep (a := ⟨w6.heap.size, 0, none⟩) (v := .int .i64 x1) (by first | (go_keep; done) | (simp [go_sem, *]; done)) hb
    have k8_y1 := cell_keep (a := ⟨w6.heap.size, 1, none⟩) (v := .int .i64 x2) (by first | (go_keep; done) | (simp [go_sem, *]; done)) hb
    have l8_y := World.block_lt_of_cell? _ _ k8_y0
    try simp only at l8_y
    clear hb k7_a0 k7_a1 l7_a k7_b0 k7_b1 l7_b k7_x0 k7_x1 l7_x k7_y0 k7_y1 l7_y W7
    go_wp2_with fail
    refine (CL.out _).mono ?_
    rintro e w9 ⟨rfl, hb⟩
    have W9 := Lib.hid (blw_trans (show Below w.heap.size w _ by repeat (first | exact W8.out | refine blw_drewN ?_ _ | refine Below.setCell ?_ (by first | (simp; done) | omega | (simp; omega)) _ | refine Below.alloc ?_ (by first | (simp; done) | omega | (simp; omega)) _)) hb)
    have n9 := hb.size
    try simp at n9
    have k9_a0 := cell_keep (a := ⟨w.heap.size, 0, none⟩) (v := .int .i64 a) (by first | (go_keep; done) | (simp [go_sem, *]; done)) hb
    have k9_a1 := cell_keep (a := ⟨w.heap.size, 1, none⟩) (v := .int .i64 s) (by first | (go_keep; done) | (simp [go_sem, *]; done)) hb
    have l9_a := World.block_lt_of_cell? _ _ k9_a0
    try simp only at l9_a
    have k9_b0 := cell_keep (a := ⟨w.heap.size + 1, 0, none⟩) (v := .int .i64 b) (by first | (go_keep; done) | (simp [go_sem, *]; done)) hb
    have k9_b1 := cell_keep (a := ⟨w.heap.size + 1, 1, none⟩) (v := .int .i64 u) (by first | (go_keep; done) | (simp [go_sem, *]; done)) hb
    have l9_b := World.block_lt_of_cell? _ _ k9_b0
    try simp only at l9_b
    have k9_x0 := cell_keep (a := ⟨w5.heap.size, 0, none⟩) (v := .int .i64 x1) (by first | (go_keep; done) | (simp [go_sem, *]; done)) hb
    have k9_x1 := cell_keep (a := ⟨w5.heap.size, 1, none⟩) (v := .int .i64 x2) (by first | (go_keep; done) | (simp [go_sem, *]; done)) hb
    have l9_x := World.block_lt_of_cell? _ _ k9_x0
    try simp only at l9_x
    have k9_y0 := cell_keep (a := ⟨w6.heap.size, 0, none⟩) (v := .int .i64 x1) (by first | (go_keep; done) | (simp [go_sem, *]; done)) hb
    have k9_y1 := cell_keep (a := ⟨w6.heap.size, 1, none⟩) (v := .int .i64 x2) (by first | (go_keep; done) | (simp [go_sem, *]; done)) hb
    have l9_y := World.block_lt_of_cell? _ _ k9_y0
    try simp only at l9_y
    clear hb k8_a0 k8_a1 l8_a k8_b0 k8_b1 l8_b k8_x0 k8_x1 l8_x k8_y0 k8_y1 l8_y W8
    go_wp2_with fail
    refine (CS.out _).mono ?_
    rintro e w10 ⟨rfl, hb⟩
    have W10 := Lib.hid (blw_trans (show Below w.heap.size w _ by repeat (first | exact W9.out | refine blw_drewN ?_ _ | refine Below.setCell ?_ (by first | (simp; done) | omega | (simp; omega)) _ | refine Below.alloc ?_ (by first | (simp; done) | omega | (simp; omega)) _)) hb)
    have n10 := hb.size
    try simp at n10
    have k10_a0 := cell_keep (a := ⟨w.heap.size, 0, none⟩) (v := .int .i64 a) (by first | (go_keep; done) | (simp [go_sem, *]; done)) hb
    have k10_a1 := cell_keep (a := ⟨w.heap.size, 1, none⟩) (v := .int .i64 s) (by first | (go_keep; done) | (simp [go_sem, *]; done)) hb
    have l10_a := World.block_lt_of_cell? _ _ k10_a0
    try simp only at l10_a
    have k10_b0 := cell_keep (a := ⟨w.heap.size + 1, 0, none⟩) (v := .int .i64 b) (by first | (go_keep; done) | (simp [go_sem, *]; done)) hb
    have k10_b1 := cell_keep (a := ⟨w.heap.size + 1, 1, none⟩) (v := .int .i64 u) (by first | (go_keep; done) | (simp [go_sem, *]; done)) hb
    have l10_b := World.block_lt_of_cell? _ _ k10_b0
    try simp only at l10_b
    have k10_x0 := cell_keep (a := ⟨w5.heap.size, 0, none⟩) (v := .int .i64 x1) (by first | (go_keep; done) | (simp [go_sem, *]; done)) hb
    have k10_x1 := cell_keep (a := ⟨w5.heap.size, 1, none⟩) (v := .int .i64 x2) (by first | (go_keep; done) | (simp [go_sem, *]; done)) hb
    have l10_x := World.block_lt_of_cell? _ _ k10_x0
    try simp only at l10_x
    have k10_y0 := cell_keep (a := ⟨w6.heap.size, 0, none⟩) (v := .int .i64 x1) (by first | (go_keep; done) | (simp [go_sem, *]; done)) hb
    have k10_y1 := cell_keep (a := ⟨w6.heap.size, 1, none⟩) (v := .int .i64 x2) (by first | (go_keep; done) | (simp [go_sem, *]; done)) hb
    have l10_y := World.block_lt_of_cell? _ _ k10_y0
    try simp only at l10_y
    clear hb k9_a0 k9_a1 l9_a k9_b0 k9_b1 l9_b k9_x0 k9_x1 l9_x k9_y0 k9_y1 l9_y W9
    go_wp2_with fail
  focus
    refine wp_region_held_drew (S := fun w' => w'.cell? ⟨w.heap.size, 0, none⟩ = some (.int .i64 a) ∧ w'.cell? ⟨w.heap.size, 1, none⟩ = some (.int .i64 s) ∧ w'.cell? ⟨w.heap.size + 1, 0, none⟩ = some (.int .i64 b) ∧ w'.cell? ⟨w.heap.size + 1, 1, none⟩ = some (.int .i64 u) ∧ Hid (Below w.heap.size w w')) (by kernel_rfl) (by exact ⟨by simpa using k10_a0, by simpa using k10_a1, by simpa using k10_b0, by simpa using k10_b1, Lib.hid (blw_drewN W10.out 1)⟩) (fun hHeld => ?_)
    refine take_run (d := (some 103)) (v := ?v37) 0 rfl rfl (by kernel_rfl) (by kernel_rfl) (by kernel_rfl) (fun _ _ _ h => h) (by rfl) hHeld ?hy37 ?rs37
    case hy37 => (intro w hSw; (try dsimp only at hSw); go_simp) <;> (try with_reducible rfl)
    (try simp only [Act.put, List.setIfInBounds_toArray, List.set_cons_zero, List.set_cons_succ])
    refine take_run (d := (some 104)) (v := ?v38) 1 rfl rfl (by kernel_rfl) (by kernel_rfl) (by kernel_rfl) (fun _ _ _ h => h) (by rfl) hHeld ?hy38 ?rs38
    case hy38 => (intro w hSw; (try dsimp only at hSw); go_simp) <;> (try with_reducible rfl)
    (try simp only [Act.put, List.setIfInBounds_toArray, List.set_cons_zero, List.set_cons_succ])
    refine take_run (d := (some 105)) (v := ?v39) 2 rfl rfl (by kernel_rfl) (by kernel_rfl) (by kernel_rfl) (fun _ _ _ h => h) (by rfl) hHeld ?hy39 ?rs39
    case hy39 => (intro w hSw; (try dsimp only at hSw); go_simp) <;> (try with_reducible rfl)
    (try simp only [Act.put, List.setIfInBounds_toArray, List.set_cons_zero, List.set_cons_succ])
    refine take_run (d := (some 106)) (v := ?v40) 3 rfl rfl (by kernel_rfl) (by kernel_rfl) (by kernel_rfl) (fun _ _ _ h => h) (by rfl) hHeld ?hy40 ?rs40
    case hy40 => (intro w hSw; (try dsimp only at hSw); go_simp) <;> (try with_reducible rfl)
    (try simp only [Act.put, List.setIfInBounds_toArray, List.set_cons_zero, List.set_cons_succ])
    refine take_run (d := (some 108)) (v := ?v41) 5 rfl rfl (by kernel_rfl) (by kernel_rfl) (by kernel_rfl) (fun _ _ _ h => h) (by rfl) hHeld ?hy41 ?rs41
    case hy41 => (intro w hSw; (try dsimp only at hSw); go_simp) <;> (try with_reducible rfl)
    (try simp only [Act.put, List.setIfInBounds_toArray, List.set_cons_zero, List.set_cons_succ])
    refine take_call 4 rfl (by kernel_rfl) (by rfl) (fun K hK => ?_)
    go_simp
    refine (CX.out _ (hT.below hHeld.2.2.2.2.out)).mono ?_
    rintro e w' ⟨rfl, hb⟩
    refine hK.out _ _ (by obtain ⟨h0, h1, h2, h3, hw⟩ := hHeld; exact ⟨cell_keep h0 hb, cell_keep h1 hb, cell_keep h2 hb, cell_keep h3 hb, Lib.hid (blw_trans hw.out hb)⟩) (fun hHeld => ?_)
    clear hK K
    (try simp only [Act.put, List.setIfInBounds_toArray, List.set_cons_zero, List.set_cons_succ])
    refine take_call 6 rfl (by kernel_rfl) (by rfl) (fun K hK => ?_)
    go_simp
    refine (CY.out _).mono ?_
    rintro e w' ⟨rfl, hb⟩
    refine hK.out _ _ (by obtain ⟨h0, h1, h2, h3, hw⟩ := hHeld; exact ⟨cell_keep h0 hb, cell_keep h1 hb, cell_keep h2 hb, cell_keep h3 hb, Lib.hid (blw_trans hw.out hb)⟩) (fun hHeld => ?_)
    clear hK K
    (try simp only [Act.put, List.setIfInBounds_toArray, List.set_cons_zero, List.set_cons_succ])
    refine take_run (d := (some 110)) (v := ?v44) 7 rfl rfl (by kernel_rfl) (by kernel_rfl) (by kernel_rfl) (fun _ _ _ h => h) (by rfl) hHeld ?hy44 ?rs44
    case hy44 => (intro w hSw; (try dsimp only at hSw); go_simp) <;> (try with_reducible rfl)
    (try simp only [Act.put, List.setIfInBounds_toArray, List.set_cons_zero, List.set_cons_succ])
    refine take_run (d := (some 111)) (v := ?v45) 8 rfl rfl (by kernel_rfl) (by kernel_rfl) (by kernel_rfl) (fun _ _ _ h => h) (by rfl) hHeld ?hy45 ?rs45
    case hy45 => (intro w hSw; (try dsimp only at hSw); go_simp) <;> (try with_reducible rfl)
    (try simp only [Act.put, List.setIfInBounds_toArray, List.set_cons_zero, List.set_cons_succ])
    refine wpAnyH_done (by kernel_rfl) ?_ _
    obtain ⟨z0, z1, z2, z3, zW⟩ := hHeld
  rotate_left
  focus
    refine wp_region_held_drew (S := fun w' => w'.cell? ⟨w.heap.size, 0, none⟩ = some (.int .i64 a) ∧ w'.cell? ⟨w.heap.size, 1, none⟩ = some (.int .i64 s) ∧ w'.cell? ⟨w.heap.size + 1, 0, none⟩ = some (.int .i64 b) ∧ w'.cell? ⟨w.heap.size + 1, 1, none⟩ = some (.int .i64 u) ∧ Hid (Below w.heap.size w w')) (by kernel_rfl) (by exact ⟨by simpa using k10_a0, by simpa using k10_a1, by simpa using k10_b0, by simpa using k10_b1, Lib.hid (blw_drewN W10.out 1)⟩) (fun hHeld => ?_)
    refine take_run (d := (some 103)) (v := ?v46) 0 rfl rfl (by kernel_rfl) (by kernel_rfl) (by kernel_rfl) (fun _ _ _ h => h) (by rfl) hHeld ?hy46 ?rs46
    case hy46 => (intro w hSw; (try dsimp only at hSw); go_simp) <;> (try with_reducible rfl)
    (try simp only [Act.put, List.setIfInBounds_toArray, List.set_cons_zero, List.set_cons_succ])
    refine take_run (d := (some 104)) (v := ?v47) 1 rfl rfl (by kernel_rfl) (by kernel_rfl) (by kernel_rfl) (fun _ _ _ h => h) (by rfl) hHeld ?hy47 ?rs47
    case hy47 => (intro w hSw; (try dsimp only at hSw); go_simp) <;> (try with_reducible rfl)
    (try simp only [Act.put, List.setIfInBounds_toArray, List.set_cons_zero, List.set_cons_succ])
    refine take_run (d := (some 105)) (v := ?v48) 2 rfl rfl (by kernel_rfl) (by kernel_rfl) (by kernel_rfl) (fun _ _ _ h => h) (by rfl) hHeld ?hy48 ?rs48
    case hy48 => (intro w hSw; (try dsimp only at hSw); go_simp) <;> (try with_reducible rfl)
    (try simp only [Act.put, List.setIfInBounds_toArray, List.set_cons_zero, List.set_cons_succ])
    refine take_run (d := (some 106)) (v := ?v49) 3 rfl rfl (by kernel_rfl) (by kernel_rfl) (by kernel_rfl) (fun _ _ _ h => h) (by rfl) hHeld ?hy49 ?rs49
    case hy49 => (intro w hSw; (try dsimp only at hSw); go_simp) <;> (try with_reducible rfl)
    (try simp only [Act.put, List.setIfInBounds_toArray, List.set_cons_zero, List.set_cons_succ])
    refine take_run (d := (some 108)) (v := ?v50) 5 rfl rfl (by kernel_rfl) (by kernel_rfl) (by kernel_rfl) (fun _ _ _ h => h) (by rfl) hHeld ?hy50 ?rs50
    case hy50 => (intro w hSw; (try dsimp only at hSw); go_simp) <;> (try with_reducible rfl)
    (try simp only [Act.put, List.setIfInBounds_toArray, List.set_cons_zero, List.set_cons_succ])
    refine take_call 4 rfl (by kernel_rfl) (by rfl) (fun K hK => ?_)
    go_simp
    refine (CX.out _ (hT.below hHeld.2.2.2.2.out)).mono ?_
    rintro e w' ⟨rfl, hb⟩
    refine hK.out _ _ (by obtain ⟨h0, h1, h2, h3, hw⟩ := hHeld; exact ⟨cell_keep h0 hb, cell_keep h1 hb, cell_keep h2 hb, cell_keep h3 hb, Lib.hid (blw_trans hw.out hb)⟩) (fun hHeld => ?_)
    clear hK K
    (try simp only [Act.put, List.setIfInBounds_toArray, List.set_cons_zero, List.set_cons_succ])
    refine take_call 6 rfl (by kernel_rfl) (by rfl) (fun K hK => ?_)
    go_simp
    refine (CY.out _).mono ?_
    rintro e w' ⟨rfl, hb⟩
    refine hK.out _ _ (by obtain ⟨h0, h1, h2, h3, hw⟩ := hHeld; exact ⟨cell_keep h0 hb, cell_keep h1 hb, cell_keep h2 hb, cell_keep h3 hb, Lib.hid (blw_trans hw.out hb)⟩) (fun hHeld => ?_)
    clear hK K
    (try simp only [Act.put, List.setIfInBounds_toArray, List.set_cons_zero, List.set_cons_succ])
    refine take_run (d := (some 110)) (v := ?v53) 7 rfl rfl (by kernel_rfl) (by kernel_rfl) (by kernel_rfl) (fun _ _ _ h => h) (by rfl) hHeld ?hy53 ?rs53
    case hy53 => (intro w hSw; (try dsimp only at hSw); go_simp) <;> (try with_reducible rfl)
    (try simp only [Act.put, List.setIfInBounds_toArray, List.set_cons_zero, List.set_cons_succ])
    refine take_run (d := (some 111)) (v := ?v54) 8 rfl rfl (by kernel_rfl) (by kernel_rfl) (by kernel_rfl) (fun _ _ _ h => h) (by rfl) hHeld ?hy54 ?rs54
    case hy54 => (intro w hSw; (try dsimp only at hSw); go_simp) <;> (try with_reducible rfl)
    (try simp only [Act.put, List.setIfInBounds_toArray, List.set_cons_zero, List.set_cons_succ])
    refine wpAnyH_done (by kernel_rfl) ?_ _
    obtain ⟨z0, z1, z2, z3, zW⟩ := hHeld
  rotate_left
  all_goals
    clear k10_a0 k10_a1 l10_a k10_b0 k10_b1 l10_b k10_x0 k10_x1 l10_x k10_y0 k10_y1 l10_y W10
    obtain ⟨wh, hwh⟩ : ∃ wh, wh = w' := ⟨_, rfl⟩
    subst hwh
    have k10_a0 := z0
    have k10_a1 := z1
    have l10_a := World.block_lt_of_cell? _ _ k10_a0
    try simp only at l10_a
    have k10_b0 := z2
    have k10_b1 := z3
    have l10_b := World.block_lt_of_cell? _ _ k10_b0
    try simp only at l10_b
    clear z0 z1 z2 z3
    rcases e12 with rfl | ⟨rfl, rfl⟩
    all_goals
      go_wp2_with fail
      refine (CV.out _).mono ?_
      rintro e w11 ⟨rfl, hb⟩
      have W11 := Lib.hid (blw_trans (show Below w.heap.size w _ by repeat (first | exact zW.out | refine blw_drewN ?_ _ | refine Below.setCell ?_ (by first | (simp; done) | omega | (simp; omega)) _ | refine Below.alloc ?_ (by first | (simp; done) | omega | (simp; omega)) _)) hb)
      have n11 := hb.size
      try simp at n11
      have k11_a0 := cell_keep (a := ⟨w.heap.size, 0, none⟩) (v := .int .i64 a) (by first | (go_keep; done) | (simp [go_sem, *]; done)) hb
      have k11_a1 := cell_keep (a := ⟨w.heap.size, 1, none⟩) (v := .int .i64 s) (by first | (go_keep; done) | (simp [go_sem, *]; done)) hb
      have l11_a := World.block_lt_of_cell? _ _ k11_a0
      try simp only at l11_a
      have k11_b0 := cell_keep (a := ⟨w.heap.size + 1, 0, none⟩) (v := .int .i64 b) (by first | (go_keep; done) | (simp [go_sem, *]; done)) hb
      have k11_b1 := cell_keep (a := ⟨w.heap.size + 1, 1, none⟩) (v := .int .i64 u) (by first | (go_keep; done) | (simp [go_sem, *]; done)) hb
      have l11_b := World.block_lt_of_cell? _ _ k11_b0
      try simp only at l11_b
      have k11_q0 := cell_keep (a := ⟨wh.heap.size, 0, none⟩) (v := .int .i64 0) (by first | (go_keep; done) | (simp [go_sem, *]; done)) hb
      have k11_q1 := cell_keep (a := ⟨wh.heap.size, 1, none⟩) (v := .int .i64 0) (by first | (go_keep; done) | (simp [go_sem, *]; done)) hb
      have l11_q := World.block_lt_of_cell? _ _ k11_q0
      try simp only at l11_q
      clear hb k10_a0 k10_a1 k10_b0 k10_b1 l10_a l10_b zW
      go_wp2_with fail
      refine (sameErr_yes (ErrNo.no 1) _ (hT.below (by repeat (first | exact W11.out | refine blw_drewN ?_ _ | refine Below.setCell ?_ (by first | (simp; done) | omega | (simp; omega)) _ | refine Below.alloc ?_ (by first | (simp; done) | omega | (simp; omega)) _))).h).mono ?_
      rintro e w12 ⟨rfl, hb⟩
      have W12 := Lib.hid (blw_trans (show Below w.heap.size w _ by repeat (first | exact W11.out | refine blw_drewN ?_ _ | refine Below.setCell ?_ (by first | (simp; done) | omega | (simp; omega)) _ | refine Below.alloc ?_ (by first | (simp; done) | omega | (simp; omega)) _)) hb)
      have n12 := hb.size
      try simp at n12
      have k12_a0 := cell_keep (a := ⟨w.heap.size, 0, none⟩) (v := .int .i64 a) (by first | (go_keep; done) | (simp [go_sem, *]; done)) hb
      have k12_a1 := cell_keep (a := ⟨w.heap.size, 1, none⟩) (v := .int .i64 s) (by first | (go_keep; done) | (simp [go_sem, *]; done)) hb
      have l12_a := World.block_lt_of_cell? _ _ k12_a0
      try simp only at l12_a
      have k12_b0 := cell_keep (a := ⟨w.heap.size + 1, 0, none⟩) (v := .int .i64 b) (by first | (go_keep; done) | (simp [go_sem, *]; done)) hb
      have k12_b1 := cell_keep (a := ⟨w.heap.size + 1, 1, none⟩) (v := .int .i64 u) (by first | (go_keep; done) | (simp [go_sem, *]; done)) hb
      have l12_b := World.block_lt_of_cell? _ _ k12_b0
      try simp only at l12_b
      have k12_q0 := cell_keep (a := ⟨wh.heap.size, 0, none⟩) (v := .int .i64 0) (by first | (go_keep; done) | (simp [go_sem, *]; done)) hb
      have k12_q1 := cell_keep (a := ⟨wh.heap.size, 1, none⟩) (v := .int .i64 0) (by first | (go_keep; done) | (simp [go_sem, *]; done)) hb
      have l12_q := World.block_lt_of_cell? _ _ k12_q0
      try simp only at l12_q
      have k12_r0 := cell_keep (a := ⟨w11.heap.size, 0, none⟩) (v := .int .i64 0) (by first | (go_keep; done) | (simp [go_sem, *]; done)) hb
      have k12_r1 := cell_keep (a := ⟨w11.heap.size, 1, none⟩) (v := .int .i64 0) (by first | (go_keep; done) | (simp [go_sem, *]; done)) hb
      have l12_r := World.block_lt_of_cell? _ _ k12_r0
      try simp only at l12_r
      clear hb k11_a0 k11_a1 l11_a k11_b0 k11_b1 l11_b k11_q0 k11_q1 l11_q W11
      go_wp2_with fail
      refine (CA.out _).mono ?_
      rintro e w13 ⟨rfl, hb⟩
      have W13 := Lib.hid (blw_trans (show Below w.heap.size w _ by repeat (first | exact W12.out | refine blw_drewN ?_ _ | refine Below.setCell ?_ (by first | (simp; done) | omega | (simp; omega)) _ | refine Below.alloc ?_ (by first | (simp; done) | omega | (simp; omega)) _)) hb)
      have n13 := hb.size
      try simp at n13
      have k13_a0 := cell_keep (a := ⟨w.heap.size, 0, none⟩) (v := .int .i64 a) (by first | (go_keep; done) | (simp [go_sem, *]; done)) hb
      have k13_a1 := cell_keep (a := ⟨w.heap.size, 1, none⟩) (v := .int .i64 s) (by first | (go_keep; done) | (simp [go_sem, *]; done)) hb
      have l13_a := World.block_lt_of_cell? _ _ k13_a0
      try simp only at l13_a
      have k13_b0 := cell_keep (a := ⟨w.heap.size + 1, 0, none⟩) (v := .int .i64 b) (by first | (go_keep; done) | (simp [go_sem, *]; done)) hb
      have k13_b1 := cell_keep (a := ⟨w.heap.size + 1, 1, none⟩) (v := .int .i64 u) (by first | (go_keep; done) | (simp [go_sem, *]; done)) hb
      have l13_b := World.block_lt_of_cell? _ _ k13_b0
      try simp only at l13_b
      have k13_q0 := cell_keep (a := ⟨wh.heap.size, 0, none⟩) (v := .int .i64 0) (by first | (go_keep; done) | (simp [go_sem, *]; done)) hb
      have k13_q1 := cell_keep (a := ⟨wh.heap.size, 1, none⟩) (v := .int .i64 0) (by first | (go_keep; done) | (simp [go_sem, *]; done)) hb
      have l13_q := World.block_lt_of_cell? _ _ k13_q0
      try simp only at l13_q
      have k13_r0 := cell_keep (a := ⟨w11.heap.size, 0, none⟩) (v := .int .i64 0) (by first | (go_keep; done) | (simp [go_sem, *]; done)) hb
      have k13_r1 := cell_keep (a := ⟨w11.heap.size, 1, none⟩) (v := .int .i64 0) (by first | (go_keep; done) | (simp [go_sem, *]; done)) hb
      have l13_r := World.block_lt_of_cell? _ _ k13_r0
      try simp only at l13_r
      have k13_m0 := cell_keep (a := ⟨w12.heap.size, 0, none⟩) (v := .int .i64 0) (by first | (go_keep; done) | (simp [go_sem, *]; done)) hb
      have k13_m1 := cell_keep (a := ⟨w12.heap.size, 1, none⟩) (v := .int .i64 0) (by first | (go_keep; done) | (simp [go_sem, *]; done)) hb
      have l13_m := World.block_lt_of_cell? _ _ k13_m0
      try simp only at l13_m
      clear hb k12_a0 k12_a1 l12_a k12_b0 k12_b1 l12_b k12_q0 k12_q1 l12_q k12_r0 k12_r1 l12_r W12
      go_wp2_with fail
      refine (sameErr_yes (ErrNo.no 1) _ (hT.below (by repeat (first | exact W13.out | refine blw_drewN ?_ _ | refine Below.setCell ?_ (by first | (simp; done) | omega | (simp; omega)) _ | refine Below.alloc ?_ (by first | (simp; done) | omega | (simp; omega)) _))).h).mono ?_
      rintro e w14 ⟨rfl, hb⟩
      have W14 := Lib.hid (blw_trans (show Below w.heap.size w _ by repeat (first | exact W13.out | refine blw_drewN ?_ _ | refine Below.setCell ?_ (by first | (simp; done) | omega | (simp; omega)) _ | refine Below.alloc ?_ (by first | (simp; done) | omega | (simp; omega)) _)) hb)
      have n14 := hb.size
      try simp at n14
      have k14_a0 := cell_keep (a := ⟨w.heap.size, 0, none⟩) (v := .int .i64 a) (by first | (go_keep; done) | (simp [go_sem, *]; done)) hb
      have k14_a1 := cell_keep (a := ⟨w.heap.size, 1, none⟩) (v := .int .i64 s) (by first | (go_keep; done) | (simp [go_sem, *]; done)) hb
      have l14_a := World.block_lt_of_cell? _ _ k14_a0
      try simp only at l14_a
      have k14_b0 := cell_keep (a := ⟨w.heap.size + 1, 0, none⟩) (v := .int .i64 b) (by first | (go_keep; done) | (simp [go_sem, *]; done)) hb
      have k14_b1 := cell_keep (a := ⟨w.heap.size + 1, 1, none⟩) (v := .int .i64 u) (by first | (go_keep; done) | (simp [go_sem, *]; done)) hb
      have l14_b := World.block_lt_of_cell? _ _ k14_b0
      try simp only at l14_b
      have k14_q0 := cell_keep (a := ⟨wh.heap.size, 0, none⟩) (v := .int .i64 0) (by first | (go_keep; done) | (simp [go_sem, *]; done)) hb
      have k14_q1 := cell_keep (a := ⟨wh.heap.size, 1, none⟩) (v := .int .i64 0) (by first | (go_keep; done) | (simp [go_sem, *]; done)) hb
      have l14_q := World.block_lt_of_cell? _ _ k14_q0
      try simp only at l14_q
      have k14_r0 := cell_keep (a := ⟨w11.heap.size, 0, none⟩) (v := .int .i64 0) (by first | (go_keep; done) | (simp [go_sem, *]; done)) hb
      have k14_r1 := cell_keep (a := ⟨w11.heap.size, 1, none⟩) (v := .int .i64 0) (by first | (go_keep; done) | (simp [go_sem, *]; done)) hb
      have l14_r := World.block_lt_of_cell? _ _ k14_r0
      try simp only at l14_r
      have k14_m0 := cell_keep (a := ⟨w12.heap.size, 0, none⟩) (v := .int .i64 0) (by first | (go_keep; done) | (simp [go_sem, *]; done)) hb
      have k14_m1 := cell_keep (a := ⟨w12.heap.size, 1, none⟩) (v := .int .i64 0) (by first | (go_keep; done) | (simp [go_sem, *]; done)) hb
      have l14_m := World.block_lt_of_cell? _ _ k14_m0
      try simp only at l14_m
      have k14_n0 := cell_keep (a := ⟨w13.heap.size, 0, none⟩) (v := .int .i64 0) (by first | (go_keep; done) | (simp [go_sem, *]; done)) hb
      have k14_n1 := cell_keep (a := ⟨w13.heap.size, 1, none⟩) (v := .int .i64 0) (by first | (go_keep; done) | (simp [go_sem, *]; done)) hb
      have l14_n := World.block_lt_of_cell? _ _ k14_n0
      try simp only at l14_n
      clear hb k13_a0 k13_a1 l13_a k13_b0 k13_b1 l13_b k13_q0 k13_q1 l13_q k13_r0 k13_r1 l13_r k13_m0 k13_m1 l13_m W13
      go_wp2_with fail
      go_ret
      exact ⟨ret_bool (by first | rfl | (simp; done)), by repeat (first | exact W14.out | refine blw_drewN ?_ _ | refine Below.setCell ?_ (by first | (simp; done) | omega | (simp; omega)) _ | refine Below.alloc ?_ (by first | (simp; done) | omega | (simp; omega)) _)⟩

set_option maxRecDepth 100000 in
set_option maxHeartbeats 2000000 in
theorem dt_bad_wy (a s b u sc wy x1 x2 : Int) (t : List UInt8) (is : Bool) (ev : Value) (X : List UInt8) (j1 j2 : Bool) (w : World) (hT : TM w)
    (CF : Hid (∀ w : World, Calls Tryz.prog 5 #[.agg #[.int .i64 a, .int .i64 s]] w fun e w' => e = .returned (.bool false) ∧ Below w.heap.size w w'))
    (CK : Hid (∀ w : World, Calls Tryz.prog 7 #[.agg #[.int .i64 a, .int .i64 s]] w fun e w' => e = .returned (.nilIface) ∧ Below w.heap.size w w'))
    (CO : Hid (∀ w : World, Calls Tryz.prog 8 #[.string ⟨t.toArray⟩] w fun e w' => e = .returned (.tuple #[.agg #[.int .i64 x1, .int .i64 x2], .bool is]) ∧ Below w.heap.size w w'))
    (CP : Hid (∀ w : World, TM w → Calls Tryz.prog 9 #[.string ⟨t.toArray⟩] w fun e w' => e = .returned (.tuple #[.agg #[.int .i64 x1, .int .i64 x2], ev]) ∧ Below w.heap.size w w'))
    (hev : ErrNo ev (isE is))
    (CG : Hid (∀ w : World, Calls Tryz.prog 5 #[.agg #[.int .i64 b, .int .i64 u]] w fun e w' => e = .returned (.bool true) ∧ Below w.heap.size w w'))
    (CL : Hid (∀ w : World, Calls Tryz.prog 10 #[.agg #[.int .i64 a, .int .i64 s], .agg #[.int .i64 b, .int .i64 u]] w fun e w' => e = .returned (.bool false) ∧ Below w.heap.size w w'))
    (CS : Hid (∀ w : World, Calls Tryz.prog 12 #[.agg #[.int .i64 a, .int .i64 s], .agg #[.int .i64 b, .int .i64 u]] w fun e w' => e = .returned (.bool false) ∧ Below w.heap.size w w'))
    (CX : Hid (∀ w : World, TM w → Calls Tryz.prog 13 #[.agg #[.int .i64 a, .int .i64 s]] w fun e w' => e = .returned (.string ⟨X.toArray⟩) ∧ Below w.heap.size w w'))
    (CY : Hid (∀ w : World, Calls Tryz.prog 14 #[.agg #[.int .i64 a, .int .i64 s]] w fun e w' => e = .returned (.string ⟨X.toArray⟩) ∧ Below w.heap.size w w'))
    (CV : Hid (∀ w : World, Calls Tryz.prog 16 #[.agg #[.int .i64 a, .int .i64 s], .int .i64 sc, .int .i64 wy] w fun e w' => e = .returned (.tuple #[.agg #[.int .i64 0, .int .i64 0], errV 3]) ∧ Below w.heap.size w w'))
    (CA : Hid (∀ w : World, Calls Tryz.prog 18 #[.agg #[.int .i64 a, .int .i64 s], .agg #[.int .i64 b, .int .i64 u]] w fun e w' => e = .returned (.tuple #[.agg #[.int .i64 0, .int .i64 0], errV 1]) ∧ Below w.heap.size w w'))
    (hs0 : 0 ≤ sc) (hs9 : sc ≤ 9) (e3 : decide (wy < 1) = j1) (e4 : decide (5 < wy) = j2) (e12 : j1 = true ∨ j1 = false ∧ j2 = true) :
    Calls Tryz.prog 3 #[.agg #[.int .i64 a, .int .i64 s], .agg #[.int .i64 b, .int .i64 u], .string ⟨t.toArray⟩, .int .i64 sc, .int .i64 wy] w fun e w' => e = .returned (.bool true) ∧ Below w.heap.size w w' := by
  have e1 : decide (sc < 0) = false := dec_no (by omega)
  have e2 : decide (9 < sc) = false := dec_no (by omega)
  have xx : (X != X) = false := by simp
  cases is
  all_goals
    unfold isE at hev
    go_enter Tryz.func3, Tryz.ntmps3
    go_wp2_with fail
    refine (half_any _).mono ?_
    rintro e w1 ⟨rfl, hb⟩
    have W1 := Lib.hid (blw_trans (show Below w.heap.size w _ by repeat (first | exact (Below.refl _ _) | refine blw_drewN ?_ _ | refine Below.setCell ?_ (by first | (simp; done) | omega | (simp; omega)) _ | refine Below.alloc ?_ (by first | (simp; done) | omega | (simp; omega)) _)) hb)
    have n1 := hb.size
    try simp at n1
    have k1_a0 := cell_keep (a := ⟨w.heap.size, 0, none⟩) (v := .int .i64 a) (by first | (go_keep; done) | (simp [go_sem, *]; done)) hb
    have k1_a1 := cell_keep (a := ⟨w.heap.size, 1, none⟩) (v := .int .i64 s) (by first | (go_keep; done) | (simp [go_sem, *]; done)) hb
    have l1_a := World.block_lt_of_cell? _ _ k1_a0
    try simp only at l1_a
    have k1_b0 := cell_keep (a := ⟨w.heap.size + 1, 0, none⟩) (v := .int .i64 b) (by first | (go_keep; done) | (simp [go_sem, *]; done)) hb
    have k1_b1 := cell_keep (a := ⟨w.heap.size + 1, 1, none⟩) (v := .int .i64 u) (by first | (go_keep; done) | (simp [go_sem, *]; done)) hb
    have l1_b := World.block_lt_of_cell? _ _ k1_b0
    try simp only at l1_b
    clear hb
    go_wp2_with fail
    refine (CF.out _).mono ?_
    rintro e w2 ⟨rfl, hb⟩
    have W2 := Lib.hid (blw_trans (show Below w.heap.size w _ by repeat (first | exact W1.out | refine blw_drewN ?_ _ | refine Below.setCell ?_ (by first | (simp; done) | omega | (simp; omega)) _ | refine Below.alloc ?_ (by first | (simp; done) | omega | (simp; omega)) _)) hb)
    have n2 := hb.size
    try simp at n2
    have k2_a0 := cell_keep (a := ⟨w.heap.size, 0, none⟩) (v := .int .i64 a) (by first | (go_keep; done) | (simp [go_sem, *]; done)) hb
    have k2_a1 := cell_keep (a := ⟨w.heap.size, 1, none⟩) (v := .int .i64 s) (by first | (go_keep; done) | (simp [go_sem, *]; done)) hb
    have l2_a := World.block_lt_of_cell? _ _ k2_a0
    try simp only at l2_a
    have k2_b0 := cell_keep (a := ⟨w.heap.size + 1, 0, none⟩) (v := .int .i64 b) (by first | (go_keep; done) | (simp [go_sem, *]; done)) hb
    have k2_b1 := cell_keep (a := ⟨w.heap.size + 1, 1, none⟩) (v := .int .i64 u) (by first | (go_keep; done) | (simp [go_sem, *]; done)) hb
    have l2_b := World.block_lt_of_cell? _ _ k2_b0
    try simp only at l2_b
    clear hb k1_a0 k1_a1 l1_a k1_b0 k1_b1 l1_b W1
    go_wp2_with fail
    refine (CK.out _).mono ?_
    rintro e w3 ⟨rfl, hb⟩
    have W3 := Lib.hid (blw_trans (show Below w.heap.size w _ by repeat (first | exact W2.out | refine blw_drewN ?_ _ | refine Below.setCell ?_ (by first | (simp; done) | omega | (simp; omega)) _ | refine Below.alloc ?_ (by first | (simp; done) | omega | (simp; omega)) _)) hb)
    have n3 := hb.size
    try simp at n3
    have k3_a0 := cell_keep (a := ⟨w.heap.size, 0, none⟩) (v := .int .i64 a) (by first | (go_keep; done) | (simp [go_sem, *]; done)) hb
    have k3_a1 := cell_keep (a := ⟨w.heap.size, 1, none⟩) (v := .int .i64 s) (by first | (go_keep; done) | (simp [go_sem, *]; done)) hb
    have l3_a := World.block_lt_of_cell? _ _ k3_a0
    try simp only at l3_a
    have k3_b0 := cell_keep (a := ⟨w.heap.size + 1, 0, none⟩) (v := .int .i64 b) (by first | (go_keep; done) | (simp [go_sem, *]; done)) hb
    have k3_b1 := cell_keep (a := ⟨w.heap.size + 1, 1, none⟩) (v := .int .i64 u) (by first | (go_keep; done) | (simp [go_sem, *]; done)) hb
    have l3_b := World.block_lt_of_cell? _ _ k3_b0
    try simp only at l3_b
    clear hb k2_a0 k2_a1 l2_a k2_b0 k2_b1 l2_b W2
    go_wp2_with fail
    refine (sameErr_yes (ErrNo.nil) _ (hT.below (by repeat (first | exact W3.out | refine blw_drewN ?_ _ | refine Below.setCell ?_ (by first | (simp; done) | omega | (simp; omega)) _ | refine Below.alloc ?_ (by first | (simp; done) | omega | (simp; omega)) _))).h).mono ?_
    rintro e w4 ⟨rfl, hb⟩
    have W4 := Lib.hid (blw_trans (show Below w.heap.size w _ by repeat (first | exact W3.out | refine blw_drewN ?_ _ | refine Below.setCell ?_ (by first | (simp; done) | omega | (simp; omega)) _ | refine Below.alloc ?_ (by first | (simp; done) | omega | (simp; omega)) _)) hb)
    have n4 := hb.size
    try simp at n4
    have k4_a0 := cell_keep (a := ⟨w.heap.size, 0, none⟩) (v := .int .i64 a) (by first | (go_keep; done) | (simp [go_sem, *]; done)) hb
    have k4_a1 := cell_keep (a := ⟨w.heap.size, 1, none⟩) (v := .int .i64 s) (by first | (go_keep; done) | (simp [go_sem, *]; done)) hb
    have l4_a := World.block_lt_of_cell? _ _ k4_a0
    try simp only at l4_a
    have k4_b0 := cell_keep (a := ⟨w.heap.size + 1, 0, none⟩) (v := .int .i64 b) (by first | (go_keep; done) | (simp [go_sem, *]; done)) hb
    have k4_b1 := cell_keep (a := ⟨w.heap.size + 1, 1, none⟩) (v := .int .i64 u) (by first | (go_keep; done) | (simp [go_sem, *]; done)) hb
    have l4_b := World.block_lt_of_cell? _ _ k4_b0
    try simp only at l4_b
    clear hb k3_a0 k3_a1 l3_a k3_b0 k3_b1 l3_b W3
    go_wp2_with fail
    refine (CO.out _).mono ?_
    rintro e w5 ⟨rfl, hb⟩
    have W5 := Lib.hid (blw_trans (show Below w.heap.size w _ by repeat (first | exact W4.out | refine blw_drewN ?_ _ | refine Below.setCell ?_ (by first | (simp; done) | omega | (simp; omega)) _ | refine Below.alloc ?_ (by first | (simp; done) | omega | (simp; omega)) _)) hb)
    have n5 := hb.size
    try simp at n5
    have k5_a0 := cell_keep (a := ⟨w.heap.size, 0, none⟩) (v := .int .i64 a) (by first | (go_keep; done) | (simp [go_sem, *]; done)) hb
    have k5_a1 := cell_keep (a := ⟨w.heap.size, 1, none⟩) (v := .int .i64 s) (by first | (go_keep; done) | (simp [go_sem, *]; done)) hb
    have l5_a := World.block_lt_of_cell? _ _ k5_a0
    try simp only at l5_a
    have k5_b0 := cell_keep (a := ⟨w.heap.size + 1, 0, none⟩) (v := .int .i64 b) (by first | (go_keep; done) | (simp [go_sem, *]; done)) hb
    have k5_b1 := cell_keep (a := ⟨w.heap.size + 1, 1, none⟩) (v := .int .i64 u) (by first | (go_keep; done) | (simp [go_sem, *]; done)) hb
    have l5_b := World.block_lt_of_cell? _ _ k5_b0
    try simp only at l5_b
    clear hb k4_a0 k4_a1 l4_a k4_b0 k4_b1 l4_b W4
    go_wp2_with fail
    refine (CP.out _ (hT.below (by repeat (first | exact W5.out | refine blw_drewN ?_ _ | refine Below.setCell ?_ (by first | (simp; done) | omega | (simp; omega)) _ | refine Below.alloc ?_ (by first | (simp; done) | omega | (simp; omega)) _)))).mono ?_
    rintro e w6 ⟨rfl, hb⟩
    have W6 := Lib.hid (blw_trans (show Below w.heap.size w _ by repeat (first | exact W5.out | refine blw_drewN ?_ _ | refine Below.setCell ?_ (by first | (simp; done) | omega | (simp; omega)) _ | refine Below.alloc ?_ (by first | (simp; done) | omega | (simp; omega)) _)) hb)
    have n6 := hb.size
    try simp at n6
    have k6_a0 := cell_keep (a := ⟨w.heap.size, 0, none⟩) (v := .int .i64 a) (by first | (go_keep; done) | (simp [go_sem, *]; done)) hb
    have k6_a1 := cell_keep (a := ⟨w.heap.size, 1, none⟩) (v := .int .i64 s) (by first | (go_keep; done) | (simp [go_sem, *]; done)) hb
    have l6_a := World.block_lt_of_cell? _ _ k6_a0
    try simp only at l6_a
    have k6_b0 := cell_keep (a := ⟨w.heap.size + 1, 0, none⟩) (v := .int .i64 b) (by first | (go_keep; done) | (simp [go_sem, *]; done)) hb
    have k6_b1 := cell_keep (a := ⟨w.heap.size + 1, 1, none⟩) (v := .int .i64 u) (by first | (go_keep; done) | (simp [go_sem, *]; done)) hb
    have l6_b := World.block_lt_of_cell? _ _ k6_b0
    try simp only at l6_b
    have k6_x0 := cell_keep (a := ⟨w5.heap.size, 0, none⟩) (v := .int .i64 x1) (by first | (go_keep; done) | (simp [go_sem, *]; done)) hb
    have k6_x1 := cell_keep (a := ⟨w5.heap.size, 1, none⟩) (v := .int .i64 x2) (by first | (go_keep; done) | (simp [go_sem, *]; done)) hb
    have l6_x := World.block_lt_of_cell? _ _ k6_x0
    try simp only at l6_x
    clear hb k5_a0 k5_a1 l5_a k5_b0 k5_b1 l5_b W5
    go_wp2_with fail
    refine (sameErr_yes hev _ (hT.below (by repeat (first | exact W6.out | refine blw_drewN ?_ _ | refine Below.setCell ?_ (by first | (simp; done) | omega | (simp; omega)) _ | refine Below.alloc ?_ (by first | (simp; done) | omega | (simp; omega)) _))).h).mono ?_
    rintro e w7 ⟨rfl, hb⟩
    have W7 := Lib.hid (blw_trans (show Below w.heap.size w _ by repeat (first | exact W6.out | refine blw_drewN ?_ _ | refine Below.setCell ?_ (by first | (simp; done) | omega | (simp; omega)) _ | refine Below.alloc ?_ (by first | (simp; done) | omega | (simp; omega)) _)) hb)
    have n7 := hb.size
    try simp at n7
    have k7_a0 := cell_keep (a := ⟨w.heap.size, 0, none⟩) (v := .int .i64 a) (by first | (go_keep; done) | (simp [go_sem, *]; done)) hb
    have k7_a1 := cell_keep (a := ⟨w.heap.size, 1, none⟩) (v := .int .i64 s) (by first | (go_keep; done) | (simp [go_sem, *]; done)) hb
    have l7_a := World.block_lt_of_cell? _ _ k7_a0
    try simp only at l7_a
    have k7_b0 := cell_keep (a := ⟨w.heap.size + 1, 0, none⟩) (v := .int .i64 b) (by first | (go_keep; done) | (simp [go_sem, *]; done)) hb
    have k7_b1 := cell_keep (a := ⟨w.heap.size + 1, 1, none⟩) (v := .int .i64 u) (by first | (go_keep; done) | (simp [go_sem, *]; done)) hb
    have l7_b := World.block_lt_of_cell? _ _ k7_b0
    try simp only at l7_b
    have k7_x0 := cell_keep (a := ⟨w5.heap.size, 0, none⟩) (v := .int .i64 x1) (by first | (go_keep; done) | (simp [go_sem, *]; done)) hb
    have k7_x1 := cell_keep (a := ⟨w5.heap.size, 1, none⟩) (v := .int .i64 x2) (by first | (go_keep; done) | (simp [go_sem, *]; done)) hb
    have l7_x := World.block_lt_of_cell? _ _ k7_x0
    try simp only at l7_x
    have k7_y0 := cell_keep (a := ⟨w6.heap.size, 0, none⟩) (v := .int .i64 x1) (by first | (go_keep; done) | (simp [go_sem, *]; done)) hb
    have k7_y1 := cell_keep (a := ⟨w6.heap.size, 1, none⟩) (v := .int .i64 x2) (by first | (go_keep; done) | (simp [go_sem, *]; done)) hb
    have l7_y := World.block_lt_of_cell? _ _ k7_y0
    try simp only at l7_y
    clear hb k6_a0 k6_a1 l6_a k6_b0 k6_b1 l6_b k6_x0 k6_x1 l6_x W6
    go_wp2_with fail
    refine (CG.out _).mono ?_
    rintro e w8 ⟨rfl, hb⟩
    have W8 := Lib.hid (blw_trans (show Below w.heap.size w _ by repeat (first | exact W7.out | refine blw_drewN ?_ _ | refine Below.setCell ?_ (by first | (simp; done) | omega | (simp; omega)) _ | refine Below.alloc ?_ (by first | (simp; done) | omega | (simp; omega)) _)) hb)
    have n8 := hb.size
    try simp at n8
    have k8_a0 := cell_keep (a := ⟨w.heap.size, 0, none⟩) (v := .int .i64 a) (by first | (go_keep; done) | (simp [go_sem, *]; done)) hb
    have k8_a1 := cell_keep (a := ⟨w.heap.size, 1, none⟩) (v := .int .i64 s) (by first | (go_keep; done) | (simp [go_sem, *]; done)) hb
    have l8_a := World.block_lt_of_cell? _ _ k8_a0
    try simp only at l8_a
    have k8_b0 := cell_keep (a := ⟨w.heap.size + 1, 0, none⟩) (v := .int .i64 b) (by first | (go_keep; done) | (simp [go_sem, *]; done)) hb
    have k8_b1 := cell_keep (a := ⟨w.heap.size + 1, 1, none⟩) (v := .int .i64 u) (by first | (go_keep; done) | (simp [go_sem, *]; done)) hb
    have l8_b := World.block_lt_of_cell? _ _ k8_b0
    try simp only at l8_b
    have k8_x0 := cell_keep (a := ⟨w5.heap.size, 0, none⟩) (v := .int .i64 x1) (by first | (go_keep; done) | (simp [go_sem, *]; done)) hb
    have k8_x1 := cell_keep (a := ⟨w5.heap.size, 1, none⟩) (v := .int .i64 x2) (by first | (go_keep; done) | (simp [go_sem, *]; done)) hb
    have l8_x := World.block_lt_of_cell? _ _ k8_x0
    try simp only at l8_x
    have k8_y0 := cell_keep (a := ⟨w6.heap.size, 0, none⟩) (v := .int .i64 x1) (by first | (go_keep; done) | (simp [go_sem, *]; done)) hb
    have k8_y1 := cell_keep (a := ⟨w6.heap.size, 1, none⟩) (v := .int .i64 x2) (by first | (go_keep; done) | (simp [go_sem, *]; done)) hb
    have l8_y := World.block_lt_of_cell? _ _ k8_y0
    try simp only at l8_y
    clear hb k7_a0 k7_a1 l7_a k7_b0 k7_b1 l7_b k7_x0 k7_x1 l7_x k7_y0 k7_y1 l7_y W7
    go_wp2_with fail
    refine (CL.out _).mono ?_
    rintro e w9 ⟨rfl, hb⟩
    have W9 := Lib.hid (blw_trans (show Below w.heap.size w _ by repeat (first | exact W8.out | refine blw_drewN ?_ _ | refine Below.setCell ?_ (by first | (simp; done) | omega | (simp; omega)) _ | refine Below.alloc ?_ (by first | (simp; done) | omega | (simp; omega)) _)) hb)
    have n9 := hb.size
    try simp at n9
    have k9_a0 := cell_keep (a := ⟨w.heap.size, 0, none⟩) (v := .int .i64 a) (by first | (go_keep; done) | (simp [go_sem, *]; done)) hb
    have k9_a1 := cell_keep (a := ⟨w.heap.size, 1, none⟩) (v := .int .i64 s) (by first | (go_keep; done) | (simp [go_sem, *]; done)) hb
    have l9_a := World.block_lt_of_cell? _ _ k9_a0
    try simp only at l9_a
    have k9_b0 := cell_keep (a := ⟨w.heap.size + 1, 0, none⟩) (v := .int .i64 b) (by first | (go_keep; done) | (simp [go_sem, *]; done)) hb
    have k9_b1 := cell_keep (a := ⟨w.heap.size + 1, 1, none⟩) (v := .int .i64 u) (by first | (go_keep; done) | (simp [go_sem, *]; done)) hb
    have l9_b := World.block_lt_of_cell? _ _ k9_b0
    try simp only at l9_b
    have k9_x0 := cell_keep (a := ⟨w5.heap.size, 0, none⟩) (v := .int .i64 x1) (by first | (go_keep; done) | (simp [go_sem, *]; done)) hb
    have k9_x1 := cell_keep (a := ⟨w5.heap.size, 1, none⟩) (v := .int .i64 x2) (by first | (go_keep; done) | (simp [go_sem, *]; done)) hb
    have l9_x := World.block_lt_of_cell? _ _ k9_x0
    try simp only at l9_x
    have k9_y0 := cell_keep (a := ⟨w6.heap.size, 0, none⟩) (v := .int .i64 x1) (by first | (go_keep; done) | (simp [go_sem, *]; done)) hb
    have k9_y1 := cell_keep (a := ⟨w6.heap.size, 1, none⟩) (v := .int .i64 x2) (by first | (go_keep; done) | (simp [go_sem, *]; done)) hb
    have l9_y := World.block_lt_of_cell? _ _ k9_y0
    try simp only at l9_y
    clear hb k8_a0 k8_a1 l8_a k8_b0 k8_b1 l8_b k8_x0 k8_x1 l8_x k8_y0 k8_y1 l8_y W8
    go_wp2_with fail
    refine (CS.out _).mono ?_
    rintro e w10 ⟨rfl, hb⟩
    have W10 := Lib.hid (blw_trans (show Below w.heap.size w _ by repeat (first | exact W9.out | refine blw_drewN ?_ _ | refine Below.setCell ?_ (by first | (simp; done) | omega | (simp; omega)) _ | refine Below.alloc ?_ (by first | (simp; done) | omega | (simp; omega)) _)) hb)
    have n10 := hb.size
    try simp at n10
    have k10_a0 := cell_keep (a := ⟨w.heap.size, 0, none⟩) (v := .int .i64 a) (by first | (go_keep; done) | (simp [go_sem, *]; done)) hb
    have k10_a1 := cell_keep (a := ⟨w.heap.size, 1, none⟩) (v := .int .i64 s) (by first | (go_keep; done) | (simp [go_sem, *]; done)) hb
    have l10_a := World.block_lt_of_cell? _ _ k10_a0
    try simp only at l10_a
    have k10_b0 := cell_keep (a := ⟨w.heap.size + 1, 0, none⟩) (v := .int .i64 b) (by first | (go_keep; done) | (simp [go_sem, *]; done)) hb
    have k10_b1 := cell_keep (a := ⟨w.heap.size + 1, 1, none⟩) (v := .int .i64 u) (by first | (go_keep; done) | (simp [go_sem, *]; done)) hb
    have l10_b := World.block_lt_of_cell? _ _ k10_b0
    try simp only at l10_b
    have k10_x0 := cell_keep (a := ⟨w5.heap.size, 0, none⟩) (v := .int .i64 x1) (by first | (go_keep; done) | (simp [go_sem, *]; done)) hb
    have k10_x1 := cell_keep (a := ⟨w5.heap.size, 1, none⟩) (v := .int .i64 x2) (by first | (go_keep; done) | (simp [go_sem, *]; done)) hb
    have l10_x := World.block_lt_of_cell? _ _ k10_x0
    try simp only at l10_x
    have k10_y0 := cell_keep (a := ⟨w6.heap.size, 0, none⟩) (v := .int .i64 x1) (by first | (go_keep; done) | (simp [go_sem, *]; done)) hb
    have k10_y1 := cell_keep (a := ⟨w6.heap.size, 1, none⟩) (v := .int .i64 x2) (by first | (go_keep; done) | (simp [go_sem, *]; done)) hb
    have l10_y := World.block_lt_of_cell? _ _ k10_y0
    try simp only at l10_y
    clear hb k9_a0 k9_a1 l9_a k9_b0 k9_b1 l9_b k9_x0 k9_x1 l9_x k9_y0 k9_y1 l9_y W9
    go_wp2_with fail
  focus
    refine wp_region_held_drew (S := fun w' => w'.cell? ⟨w.heap.size, 0, none⟩ = some (.int .i64 a) ∧ w'.cell? ⟨w.heap.size, 1, none⟩ = some (.int .i64 s) ∧ w'.cell? ⟨w.heap.size + 1, 0, none⟩ = some (.int .i64 b) ∧ w'.cell? ⟨w.heap.size + 1, 1, none⟩ = some (.int .i64 u) ∧ Hid (Below w.heap.size w w')) (by kernel_rfl) (by exact ⟨by simpa using k10_a0, by simpa using k10_a1, by simpa using k10_b0, by simpa using k10_b1, Lib.hid (blw_drewN W10.out 1)⟩) (fun hHeld => ?_)
    refine take_run (d := (some 103)) (v := ?v55) 0 rfl rfl (by kernel_rfl) (by kernel_rfl) (by kernel_rfl) (fun _ _ _ h => h) (by rfl) hHeld ?hy55 ?rs55
    case hy55 => (intro w hSw; (try dsimp only at hSw); go_simp) <;> (try with_reducible rfl)
    (try simp only [Act.put, List.setIfInBounds_toArray, List.set_cons_zero, List.set_cons_succ])
    refine take_run (d := (some 104)) (v := ?v56) 1 rfl rfl (by kernel_rfl) (by kernel_rfl) (by kernel_rfl) (fun _ _ _ h => h) (by rfl) hHeld ?hy56 ?rs56
    case hy56 => (intro w hSw; (try dsimp only at hSw); go_simp) <;> (try with_reducible rfl)
    (try simp only [Act.put, List.setIfInBounds_toArray, List.set_cons_zero, List.set_cons_succ])
    refine take_run (d := (some 105)) (v := ?v57) 2 rfl rfl (by kernel_rfl) (by kernel_rfl) (by kernel_rfl) (fun _ _ _ h => h) (by rfl) hHeld ?hy57 ?rs57
    case hy57 => (intro w hSw; (try dsimp only at hSw); go_simp) <;> (try with_reducible rfl)
    (try simp only [Act.put, List.setIfInBounds_toArray, List.set_cons_zero, List.set_cons_succ])
    refine take_run (d := (some 106)) (v := ?v58) 3 rfl rfl (by kernel_rfl) (by kernel_rfl) (by kernel_rfl) (fun _ _ _ h => h) (by rfl) hHeld ?hy58 ?rs58
    case hy58 => (intro w hSw; (try dsimp only at hSw); go_simp) <;> (try with_reducible rfl)
    (try simp only [Act.put, List.setIfInBounds_toArray, List.set_cons_zero, List.set_cons_succ])
    refine take_run (d := (some 108)) (v := ?v59) 5 rfl rfl (by kernel_rfl) (by kernel_rfl) (by kernel_rfl) (fun _ _ _ h => h) (by rfl) hHeld ?hy59 ?rs59
    case hy59 => (intro w hSw; (try dsimp only at hSw); go_simp) <;> (try with_reducible rfl)
    (try simp only [Act.put, List.setIfInBounds_toArray, List.set_cons_zero, List.set_cons_succ])
    refine take_call 4 rfl (by kernel_rfl) (by rfl) (fun K hK => ?_)
    go_simp
    refine (CX.out _ (hT.below hHeld.2.2.2.2.out)).mono ?_
    rintro e w' ⟨rfl, hb⟩
    refine hK.out _ _ (by obtain ⟨h0, h1, h2, h3, hw⟩ := hHeld; exact ⟨cell_keep h0 hb, cell_keep h1 hb, cell_keep h2 hb, cell_keep h3 hb, Lib.hid (blw_trans hw.out hb)⟩) (fun hHeld => ?_)
    clear hK K
    (try simp only [Act.put, List.setIfInBounds_toArray, List.set_cons_zero, List.set_cons_succ])
    refine take_call 6 rfl (by kernel_rfl) (by rfl) (fun K hK => ?_)
    go_simp
    refine (CY.out _).mono ?_
    rintro e w' ⟨rfl, hb⟩
    refine hK.out _ _ (by obtain ⟨h0, h1, h2, h3, hw⟩ := hHeld; exact ⟨cell_keep h0 hb, cell_keep h1 hb, cell_keep h2 hb, cell_keep h3 hb, Lib.hid (blw_trans hw.out hb)⟩) (fun hHeld => ?_)
    clear hK K
    (try simp only [Act.put, List.setIfInBounds_toArray, List.set_cons_zero, List.set_cons_succ])
    refine take_run (d := (some 110)) (v := ?v62) 7 rfl rfl (by kernel_rfl) (by kernel_rfl) (by kernel_rfl) (fun _ _ _ h => h) (by rfl) hHeld ?hy62 ?rs62
    case hy62 => (intro w hSw; (try dsimp only at hSw); go_simp) <;> (try with_reducible rfl)
    (try simp only [Act.put, List.setIfInBounds_toArray, List.set_cons_zero, List.set_cons_succ])
    refine take_run (d := (some 111)) (v := ?v63) 8 rfl rfl (by kernel_rfl) (by kernel_rfl) (by kernel_rfl) (fun _ _ _ h => h) (by rfl) hHeld ?hy63 ?rs63
    case hy63 => (intro w hSw; (try dsimp only at hSw); go_simp) <;> (try with_reducible rfl)
    (try simp only [Act.put, List.setIfInBounds_toArray, List.set_cons_zero, List.set_cons_succ])
    refine wpAnyH_done (by kernel_rfl) ?_ _
    obtain ⟨z0, z1, z2, z3, zW⟩ := hHeld
  rotate_left
  focus
    refine wp_region_held_drew (S := fun w' => w'.cell? ⟨w.heap.size, 0, none⟩ = some (.int .i64 a) ∧ w'.cell? ⟨w.heap.size, 1, none⟩ = some (.int .i64 s) ∧ w'.cell? ⟨w.heap.size + 1, 0, none⟩ = some (.int .i64 b) ∧ w'.cell? ⟨w.heap.size + 1, 1, none⟩ = some (.int .i64 u) ∧ Hid (Below w.heap.size w w')) (by kernel_rfl) (by exact ⟨by simpa using k10_a0, by simpa using k10_a1, by simpa using k10_b0, by simpa using k10_b1, Lib.hid (blw_drewN W10.out 1)⟩) (fun hHeld => ?_)
    refine take_run (d := (some 103)) (v := ?v64) 0 rfl rfl (by kernel_rfl) (by kernel_rfl) (by kernel_rfl) (fun _ _ _ h => h) (by rfl) hHeld ?hy64 ?rs64
    case hy64 => (intro w hSw; (try dsimp only at hSw); go_simp) <;> (try with_reducible rfl)
    (try simp only [Act.put, List.setIfInBounds_toArray, List.set_cons_zero, List.set_cons_succ])
    refine take_run (d := (some 104)) (v := ?v65) 1 rfl rfl (by kernel_rfl) (by kernel_rfl) (by kernel_rfl) (fun _ _ _ h => h) (by rfl) hHeld ?hy65 ?rs65
    case hy65 => (intro w hSw; (try dsimp only at hSw); go_simp) <;> (try with_reducible rfl)
    (try simp only [Act.put, List.setIfInBounds_toArray, List.set_cons_zero, List.set_cons_succ])
    refine take_run (d := (some 105)) (v := ?v66) 2 rfl rfl (by kernel_rfl) (by kernel_rfl) (by kernel_rfl) (fun _ _ _ h => h) (by rfl) hHeld ?hy66 ?rs66
    case hy66 => (intro w hSw; (try dsimp only at hSw); go_simp) <;> (try with_reducible rfl)
    (try simp only [Act.put, List.setIfInBounds_toArray, List.set_cons_zero, List.set_cons_succ])
    refine take_run (d := (some 106)) (v := ?v67) 3 rfl rfl (by kernel_rfl) (by kernel_rfl) (by kernel_rfl) (fun _ _ _ h => h) (by rfl) hHeld ?hy67 ?rs67
    case hy67 => (intro w hSw; (try dsimp only at hSw); go_simp) <;> (try with_reducible rfl)
    (try simp only [Act.put, List.setIfInBounds_toArray, List.set_cons_zero, List.set_cons_succ])
    refine take_run (d := (some 108)) (v := ?v68) 5 rfl rfl (by kernel_rfl) (by kernel_rfl) (by kernel_rfl) (fun _ _ _ h => h) (by rfl) hHeld ?hy68 ?rs68
    case hy68 => (intro w hSw; (try dsimp only at hSw); go_simp) <;> (try with_reducible rfl)
    (try simp only [Act.put, List.setIfInBounds_toArray, List.set_cons_zero, List.set_cons_succ])
    refine take_call 4 rfl (by kernel_rfl) (by rfl) (fun K hK => ?_)
    go_simp
    refine (CX.out _ (hT.below hHeld.2.2.2.2.out)).mono ?_
    rintro e w' ⟨rfl, hb⟩
    refine hK.out _ _ (by obtain ⟨h0, h1, h2, h3, hw⟩ := hHeld; exact ⟨cell_keep h0 hb, cell_keep h1 hb, cell_keep h2 hb, cell_keep h3 hb, Lib.hid (blw_trans hw.out hb)⟩) (fun hHeld => ?_)
    clear hK K
    (try simp only [Act.put, List.setIfInBounds_toArray, List.set_cons_zero, List.set_cons_succ])
    refine take_call 6 rfl (by kernel_rfl) (by rfl) (fun K hK => ?_)
    go_simp
    refine (CY.out _).mono ?_
    rintro e w' ⟨rfl, hb⟩
    refine hK.out _ _ (by obtain ⟨h0, h1, h2, h3, hw⟩ := hHeld; exact ⟨cell_keep h0 hb, cell_keep h1 hb, cell_keep h2 hb, cell_keep h3 hb, Lib.hid (blw_trans hw.out hb)⟩) (fun hHeld => ?_)
    clear hK K
    (try simp only [Act.put, List.setIfInBounds_toArray, List.set_cons_zero, List.set_cons_succ])
    refine take_run (d := (some 110)) (v := ?v71) 7 rfl rfl (by kernel_rfl) (by kernel_rfl) (by kernel_rfl) (fun _ _ _ h => h) (by rfl) hHeld ?hy71 ?rs71
    case hy71 => (intro w hSw; (try dsimp only at hSw); go_simp) <;> (try with_reducible rfl)
    (try simp only [Act.put, List.setIfInBounds_toArray, List.set_cons_zero, List.set_cons_succ])
    refine take_run (d := (some 111)) (v := ?v72) 8 rfl rfl (by kernel_rfl) (by kernel_rfl) (by kernel_rfl) (fun _ _ _ h => h) (by rfl) hHeld ?hy72 ?rs72
    case hy72 => (intro w hSw; (try dsimp only at hSw); go_simp) <;> (try with_reducible rfl)
    (try simp only [Act.put, List.setIfInBounds_toArray, List.set_cons_zero, List.set_cons_succ])
    refine wpAnyH_done (by kernel_rfl) ?_ _
    obtain ⟨z0, z1, z2, z3, zW⟩ := hHeld
  rotate_left
  all_goals
    clear k10_a0 k10_a1 l10_a k10_b0 k10_b1 l10_b k10_x0 k10_x1 l10_x k10_y0 k10_y1 l10_y W10
    obtain ⟨wh, hwh⟩ : ∃ wh, wh = w' := ⟨_, rfl⟩
    subst hwh
    have k10_a0 := z0
    have k10_a1 := z1
    have l10_a := World.block_lt_of_cell? _ _ k10_a0
    try simp only at l10_a
    have k10_b0 := z2
    have k10_b1 := z3
    have l10_b := World.block_lt_of_cell? _ _ k10_b0
    try simp only at l10_b
    clear z0 z1 z2 z3
    rcases e12 with rfl | ⟨rfl, rfl⟩
    all_goals
      go_wp2_with fail
      refine (CV.out _).mono ?_
      rintro e w11 ⟨rfl, hb⟩
      have W11 := Lib.hid (blw_trans (show Below w.heap.size w _ by repeat (first | exact zW.out | refine blw_drewN ?_ _ | refine Below.setCell ?_ (by first | (simp; done) | omega | (simp; omega)) _ | refine Below.alloc ?_ (by first | (simp; done) | omega | (simp; omega)) _)) hb)
      have n11 := hb.size
      try simp at n11
      have k11_a0 := cell_keep (a := ⟨w.heap.size, 0, none⟩) (v := .int .i64 a) (by first | (go_keep; done) | (simp [go_sem, *]; done)) hb
      have k11_a1 := cell_keep (a := ⟨w.heap.size, 1, none⟩) (v := .int .i64 s) (by first | (go_keep; done) | (simp [go_sem, *]; done)) hb
      have l11_a := World.block_lt_of_cell? _ _ k11_a0
      try simp only at l11_a
      have k11_b0 := cell_keep (a := ⟨w.heap.size + 1, 0, none⟩) (v := .int .i64 b) (by first | (go_keep; done) | (simp [go_sem, *]; done)) hb
      have k11_b1 := cell_keep (a := ⟨w.heap.size + 1, 1, none⟩) (v := .int .i64 u) (by first | (go_keep; done) | (simp [go_sem, *]; done)) hb
      have l11_b := World.block_lt_of_cell? _ _ k11_b0
      try simp only at l11_b
      have k11_q0 := cell_keep (a := ⟨wh.heap.size, 0, none⟩) (v := .int .i64 0) (by first | (go_keep; done) | (simp [go_sem, *]; done)) hb
      have k11_q1 := cell_keep (a := ⟨wh.heap.size, 1, none⟩) (v := .int .i64 0) (by first | (go_keep; done) | (simp [go_sem, *]; done)) hb
      have l11_q := World.block_lt_of_cell? _ _ k11_q0
      try simp only at l11_q
      clear hb k10_a0 k10_a1 k10_b0 k10_b1 l10_a l10_b zW
      go_wp2_with fail
      refine (sameErr_yes (ErrNo.no 3) _ (hT.below (by repeat (first | exact W11.out | refine blw_drewN ?_ _ | refine Below.setCell ?_ (by first | (simp; done) | omega | (simp; omega)) _ | refine Below.alloc ?_ (by first | (simp; done) | omega | (simp; omega)) _))).h).mono ?_
      rintro e w12 ⟨rfl, hb⟩
      have W12 := Lib.hid (blw_trans (show Below w.heap.size w _ by repeat (first | exact W11.out | refine blw_drewN ?_ _ | refine Below.setCell ?_ (by first | (simp; done) | omega | (simp; omega)) _ | refine Below.alloc ?_ (by first | (simp; done) | omega | (simp; omega)) _)) hb)
      have n12 := hb.size
      try simp at n12
      have k12_a0 := cell_keep (a := ⟨w.heap.size, 0, none⟩) (v := .int .i64 a) (by first | (go_keep; done) | (simp [go_sem, *]; done)) hb
      have k12_a1 := cell_keep (a := ⟨w.heap.size, 1, none⟩) (v := .int .i64 s) (by first | (go_keep; done) | (simp [go_sem, *]; done)) hb
      have l12_a := World.block_lt_of_cell? _ _ k12_a0
      try simp only at l12_a
      have k12_b0 := cell_keep (a := ⟨w.heap.size + 1, 0, none⟩) (v := .int .i64 b) (by first | (go_keep; done) | (simp [go_sem, *]; done)) hb
      have k12_b1 := cell_keep (a := ⟨w.heap.size + 1, 1, none⟩) (v := .int .i64 u) (by first | (go_keep; done) | (simp [go_sem, *]; done)) hb
      have l12_b := World.block_lt_of_cell? _ _ k12_b0
      try simp only at l12_b
      have k12_q0 := cell_keep (a := ⟨wh.heap.size, 0, none⟩) (v := .int .i64 0) (by first | (go_keep; done) | (simp [go_sem, *]; done)) hb
      have k12_q1 := cell_keep (a := ⟨wh.heap.size, 1, none⟩) (v := .int .i64 0) (by first | (go_keep; done) | (simp [go_sem, *]; done)) hb
      have l12_q := World.block_lt_of_cell? _ _ k12_q0
      try simp only at l12_q
      have k12_r0 := cell_keep (a := ⟨w11.heap.size, 0, none⟩) (v := .int .i64 0) (by first | (go_keep; done) | (simp [go_sem, *]; done)) hb
      have k12_r1 := cell_keep (a := ⟨w11.heap.size, 1, none⟩) (v := .int .i64 0) (by first | (go_keep; done) | (simp [go_sem, *]; done)) hb
      have l12_r := World.block_lt_of_cell? _ _ k12_r0
      try simp only at l12_r
      clear hb k11_a0 k11_a1 l11_a k11_b0 k11_b1 l11_b k11_q0 k11_q1 l11_q W11
      go_wp2_with fail
      refine (CA.out _).mono ?_
      rintro e w13 ⟨rfl, hb⟩
      have W13 := Lib.hid (blw_trans (show Below w.heap.size w _ by repeat (first | exact W12.out | refine blw_drewN ?_ _ | refine Below.setCell ?_ (by first | (simp; done) | omega | (simp; omega)) _ | refine Below.alloc ?_ (by first | (simp; done) | omega | (simp; omega)) _)) hb)
      have n13 := hb.size
      try simp at n13
      have k13_a0 := cell_keep (a := ⟨w.heap.size, 0, none⟩) (v := .int .i64 a) (by first | (go_keep; done) | (simp [go_sem, *]; done)) hb
      have k13_a1 := cell_keep (a := ⟨w.heap.size, 1, none⟩) (v := .int .i64 s) (by first | (go_keep; done) | (simp [go_sem, *]; done)) hb
      have l13_a := World.block_lt_of_cell? _ _ k13_a0
      try simp only at l13_a
      have k13_b0 := cell_keep (a := ⟨w.heap.size + 1, 0, none⟩) (v := .int .i64 b) (by first | (go_keep; done) | (simp [go_sem, *]; done)) hb
      have k13_b1 := cell_keep (a := ⟨w.heap.size + 1, 1, none⟩) (v := .int .i64 u) (by first | (go_keep; done) | (simp [go_sem, *]; done)) hb
      have l13_b := World.block_lt_of_cell? _ _ k13_b0
      try simp only at l13_b
      have k13_q0 := cell_keep (a := ⟨wh.heap.size, 0, none⟩) (v := .int .i64 0) (by first | (go_keep; done) | (simp [go_sem, *]; done)) hb
      have k13_q1 := cell_keep (a := ⟨wh.heap.size, 1, none⟩) (v := .int .i64 0) (by first | (go_keep; done) | (simp [go_sem, *]; done)) hb
      have l13_q := World.block_lt_of_cell? _ _ k13_q0
      try simp only at l13_q
      have k13_r0 := cell_keep (a := ⟨w11.heap.size, 0, none⟩) (v := .int .i64 0) (by first | (go_keep; done) | (simp [go_sem, *]; done)) hb
      have k13_r1 := cell_keep (a := ⟨w11.heap.size, 1, none⟩) (v := .int .i64 0) (by first | (go_keep; done) | (simp [go_sem, *]; done)) hb
      have l13_r := World.block_lt_of_cell? _ _ k13_r0
      try simp only at l13_r
      have k13_m0 := cell_keep (a := ⟨w12.heap.size, 0, none⟩) (v := .int .i64 0) (by first | (go_keep; done) | (simp [go_sem, *]; done)) hb
      have k13_m1 := cell_keep (a := ⟨w12.heap.size, 1, none⟩) (v := .int .i64 0) (by first | (go_keep; done) | (simp [go_sem, *]; done)) hb
      have l13_m := World.block_lt_of_cell? _ _ k13_m0
      try simp only at l13_m
      clear hb k12_a0 k12_a1 l12_a k12_b0 k12_b1 l12_b k12_q0 k12_q1 l12_q k12_r0 k12_r1 l12_r W12
      go_wp2_with fail
      refine (sameErr_yes (ErrNo.no 1) _ (hT.below (by repeat (first | exact W13.out | refine blw_drewN ?_ _ | refine Below.setCell ?_ (by first | (simp; done) | omega | (simp; omega)) _ | refine Below.alloc ?_ (by first | (simp; done) | omega | (simp; omega)) _))).h).mono ?_
      rintro e w14 ⟨rfl, hb⟩
      have W14 := Lib.hid (blw_trans (show Below w.heap.size w _ by repeat (first | exact W13.out | refine blw_drewN ?_ _ | refine Below.setCell ?_ (by first | (simp; done) | omega | (simp; omega)) _ | refine Below.alloc ?_ (by first | (simp; done) | omega | (simp; omega)) _)) hb)
      have n14 := hb.size
      try simp at n14
      have k14_a0 := cell_keep (a := ⟨w.heap.size, 0, none⟩) (v := .int .i64 a) (by first | (go_keep; done) | (simp [go_sem, *]; done)) hb
      have k14_a1 := cell_keep (a := ⟨w.heap.size, 1, none⟩) (v := .int .i64 s) (by first | (go_keep; done) | (simp [go_sem, *]; done)) hb
      have l14_a := World.block_lt_of_cell? _ _ k14_a0
      try simp only at l14_a
      have k14_b0 := cell_keep (a := ⟨w.heap.size + 1, 0, none⟩) (v := .int .i64 b) (by first | (go_keep; done) | (simp [go_sem, *]; done)) hb
      have k14_b1 := cell_keep (a := ⟨w.heap.size + 1, 1, none⟩) (v := .int .i64 u) (by first | (go_keep; done) | (simp [go_sem, *]; done)) hb
      have l14_b := World.block_lt_of_cell? _ _ k14_b0
      try simp only at l14_b
      have k14_q0 := cell_keep (a := ⟨wh.heap.size, 0, none⟩) (v := .int .i64 0) (by first | (go_keep; done) | (simp [go_sem, *]; done)) hb
      have k14_q1 := cell_keep (a := ⟨wh.heap.size, 1, none⟩) (v := .int .i64 0) (by first | (go_keep; done) | (simp [go_sem, *]; done)) hb
      have l14_q := World.block_lt_of_cell? _ _ k14_q0
      try simp only at l14_q
      have k14_r0 := cell_keep (a := ⟨w11.heap.size, 0, none⟩) (v := .int .i64 0) (by first | (go_keep; done) | (simp [go_sem, *]; done)) hb
      have k14_r1 := cell_keep (a := ⟨w11.heap.size, 1, none⟩) (v := .int .i64 0) (by first | (go_keep; done) | (simp [go_sem, *]; done)) hb
      have l14_r := World.block_lt_of_cell? _ _ k14_r0
      try simp only at l14_r
      have k14_m0 := cell_keep (a := ⟨w12.heap.size, 0, none⟩) (v := .int .i64 0) (by first | (go_keep; done) | (simp [go_sem, *]; done)) hb
      have k14_m1 := cell_keep (a := ⟨w12.heap.size, 1, none⟩) (v := .int .i64 0) (by first | (go_keep; done) | (simp [go_sem, *]; done)) hb
      have l14_m := World.block_lt_of_cell? _ _ k14_m0
      try simp only at l14_m
      have k14_n0 := cell_keep (a := ⟨w13.heap.size, 0, none⟩) (v := .int .i64 0) (by first | (go_keep; done) | (simp [go_sem, *]; done)) hb
      have k14_n1 := cell_keep (a := ⟨w13.heap.size, 1, none⟩) (v := .int .i64 0) (by first | (go_keep; done) | (simp [go_sem, *]; done)) hb
      have l14_n := World.block_lt_of_cell? _ _ k14_n0
      try simp only at l14_n
      clear hb k13_a0 k13_a1 l13_a k13_b0 k13_b1 l13_b k13_q0 k13_q1 l13_q k13_r0 k13_r1 l13_r k13_m0 k13_m1 l13_m W13
      go_wp2_with fail
      go_ret
      exact ⟨ret_bool (by first | rfl | (simp; done)), by repeat (first | exact W14.out | refine blw_drewN ?_ _ | refine Below.setCell ?_ (by first | (simp; done) | omega | (simp; omega)) _ | refine Below.alloc ?_ (by first | (simp; done) | omega | (simp; omega)) _)⟩
end Go.Proofs.YtdmenoimamnldaaGreatDoor
