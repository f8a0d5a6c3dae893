/- The walk of the law DecTells, some of its ways. Conditions: the listed variables hold what the program lays. -/
import Derived.Test.YtdmenoimamnldaaGreatDoorDz26
namespace Go.Proofs.YtdmenoimamnldaaGreatDoor
open Go.RowKit
open Dcm (P10 okD mag)

set_option maxRecDepth 100000 in
set_option maxHeartbeats 2000000 in
theorem dt_full_ok (a s b u sc wy x1 x2 : Int) (t : List UInt8) (is : Bool) (ev : Value) (lb sb : Bool) (o : Int) (X : List UInt8) (r1 : Int) (w : World) (hT : TM w)
    (CF : Hid (∀ w : World, Calls Tryz.prog 5 #[.agg #[.int .i64 a, .int .i64 s]] w fun e w' => e = .returned (.bool false) ∧ Below w.heap.size w w'))
    (CK : Hid (∀ w : World, Calls Tryz.prog 7 #[.agg #[.int .i64 a, .int .i64 s]] w fun e w' => e = .returned (.nilIface) ∧ Below w.heap.size w w'))
    (CO : Hid (∀ w : World, Calls Tryz.prog 8 #[.string ⟨t.toArray⟩] w fun e w' => e = .returned (.tuple #[.agg #[.int .i64 x1, .int .i64 x2], .bool is]) ∧ Below w.heap.size w w'))
    (CP : Hid (∀ w : World, TM w → Calls Tryz.prog 9 #[.string ⟨t.toArray⟩] w fun e w' => e = .returned (.tuple #[.agg #[.int .i64 x1, .int .i64 x2], ev]) ∧ Below w.heap.size w w'))
    (hev : ErrNo ev (isE is))
    (CG : Hid (∀ w : World, Calls Tryz.prog 5 #[.agg #[.int .i64 b, .int .i64 u]] w fun e w' => e = .returned (.bool false) ∧ Below w.heap.size w w'))
    (CL : Hid (∀ w : World, Calls Tryz.prog 10 #[.agg #[.int .i64 a, .int .i64 s], .agg #[.int .i64 b, .int .i64 u]] w fun e w' => e = .returned (.bool lb) ∧ Below w.heap.size w w'))
    (CS : Hid (∀ w : World, Calls Tryz.prog 12 #[.agg #[.int .i64 a, .int .i64 s], .agg #[.int .i64 b, .int .i64 u]] w fun e w' => e = .returned (.bool sb) ∧ Below w.heap.size w w'))
    (CR : Hid (∀ w : World, Calls Tryz.prog 11 #[.agg #[.int .i64 a, .int .i64 s], .agg #[.int .i64 b, .int .i64 u]] w fun e w' => e = .returned (.int .i64 o) ∧ Below w.heap.size w w'))
    (hlb : decide (o < 0) = lb) (hsb : (o == 0) = sb)
    (CX : Hid (∀ w : World, TM w → Calls Tryz.prog 13 #[.agg #[.int .i64 a, .int .i64 s]] w fun e w' => e = .returned (.string ⟨X.toArray⟩) ∧ Below w.heap.size w w'))
    (CY : Hid (∀ w : World, Calls Tryz.prog 14 #[.agg #[.int .i64 a, .int .i64 s]] w fun e w' => e = .returned (.string ⟨X.toArray⟩) ∧ Below w.heap.size w w'))
    (CU : Hid (∀ w : World, Calls Tryz.prog 15 #[.agg #[.int .i64 a, .int .i64 s], .int .i64 sc, .int .i64 wy] w fun e w' => e = .returned (.tuple #[.agg #[.int .i64 r1, .int .i64 sc], .bool true]) ∧ Below w.heap.size w w'))
    (CV : Hid (∀ w : World, Calls Tryz.prog 16 #[.agg #[.int .i64 a, .int .i64 s], .int .i64 sc, .int .i64 wy] w fun e w' => e = .returned (.tuple #[.agg #[.int .i64 r1, .int .i64 sc], .nilIface]) ∧ Below w.heap.size w w'))
    (CQ : Hid (∀ w : World, Calls Tryz.prog 17 #[.agg #[.int .i64 a, .int .i64 s], .agg #[.int .i64 b, .int .i64 u]] w fun e w' => e = .returned (.tuple #[.agg #[.int .i64 0, .int .i64 0], .bool false]) ∧ Below w.heap.size w w'))
    (CA : Hid (∀ w : World, Calls Tryz.prog 18 #[.agg #[.int .i64 a, .int .i64 s], .agg #[.int .i64 b, .int .i64 u]] w fun e w' => e = .returned (.tuple #[.agg #[.int .i64 0, .int .i64 0], errV 1]) ∧ Below w.heap.size w w'))
    (hs0 : 0 ≤ sc) (hs9 : sc ≤ 9) (hw1 : 1 ≤ wy) (hw5 : wy ≤ 5) :
    Calls Tryz.prog 3 #[.agg #[.int .i64 a, .int .i64 s], .agg #[.int .i64 b, .int .i64 u], .string ⟨t.toArray⟩, .int .i64 sc, .int .i64 wy] w fun e w' => e = .returned (.bool true) ∧ Below w.heap.size w w' := by
  have e1 : decide (sc < 0) = false := dec_no (by omega)
  have e2 : decide (9 < sc) = false := dec_no (by omega)
  have e3 : decide (wy < 1) = false := dec_no (by omega)
  have e4 : decide (5 < wy) = false := dec_no (by omega)
  have xx : (X != X) = false := by simp
  cases is
  all_goals
    unfold isE at hev
    go_enter Tryz.func3, Tryz.ntmps3
    go_wp2_with fail
    refine (half_any _).mono ?_
    rintro e w1 ⟨rfl, hb⟩
    have W1 := Lib.hid (blw_trans (show Below w.heap.size w _ by repeat (first | exact (Below.refl _ _) | refine blw_drewN ?_ _ | refine Below.setCell ?_ (by first | (simp; done) | omega | (simp; omega)) _ | refine Below.alloc ?_ (by first | (simp; done) | omega | (simp; omega)) _)) hb)
    have n1 := hb.size
    try simp at n1
    have k1_a0 := cell_keep (a := ⟨w.heap.size, 0, none⟩) (v := .int .i64 a) (by first | (go_keep; done) | (simp [go_sem, *]; done)) hb
    have k1_a1 := cell_keep (a := ⟨w.heap.size, 1, none⟩) (v := .int .i64 s) (by first | (go_keep; done) | (simp [go_sem, *]; done)) hb
    have l1_a := World.block_lt_of_cell? _ _ k1_a0
    try simp only at l1_a
    have k1_b0 := cell_keep (a := ⟨w.heap.size + 1, 0, none⟩) (v := .int .i64 b) (by first | (go_keep; done) | (simp [go_sem, *]; done)) hb
    have k1_b1 := cell_keep (a := ⟨w.heap.size + 1, 1, none⟩) (v := .int .i64 u) (by first | (go_keep; done) | (simp [go_sem, *]; done)) hb
    have l1_b := World.block_lt_of_cell? _ _ k1_b0
    try simp only at l1_b
    clear hb
    go_wp2_with fail
    refine (CF.out _).mono ?_
    rintro e w2 ⟨rfl, hb⟩
    have W2 := Lib.hid (blw_trans (show Below w.heap.size w _ by repeat (first | exact W1.out | refine blw_drewN ?_ _ | refine Below.setCell ?_ (by first | (simp; done) | omega | (simp; omega)) _ | refine Below.alloc ?_ (by first | (simp; done) | omega | (simp; omega)) _)) hb)
    have n2 := hb.size
    try simp at n2
    have k2_a0 := cell_keep (a := ⟨w.heap.size, 0, none⟩) (v := .int .i64 a) (by first | (go_keep; done) | (simp [go_sem, *]; done)) hb
    have k2_a1 := cell_keep (a := ⟨w.heap.size, 1, none⟩) (v := .int .i64 s) (by first | (go_keep; done) | (simp [go_sem, *]; done)) hb
    have l2_a := World.block_lt_of_cell? _ _ k2_a0
    try simp only at l2_a
    have k2_b0 := cell_keep (a := ⟨w.heap.size + 1, 0, none⟩) (v := .int .i64 b) (by first | (go_keep; done) | (simp [go_sem, *]; done)) hb
    have k2_b1 := cell_keep (a := ⟨w.heap.size + 1, 1, none⟩) (v := .int .i64 u) (by first | (go_keep; done) | (simp [go_sem, *]; done)) hb
    have l2_b := World.block_lt_of_cell? _ _ k2_b0
    try simp only at l2_b
    clear hb k1_a0 k1_a1 l1_a k1_b0 k1_b1 l1_b W1
    go_wp2_with fail
    refine (CK.out _).mono ?_
    rintro e w3 ⟨rfl, hb⟩
    have W3 := Lib.hid (blw_trans (show Below w.heap.size w _ by repeat (first | exact W2.out | refine blw_drewN ?_ _ | refine Below.setCell ?_ (by first | (simp; done) | omega | (simp; omega)) _ | refine Below.alloc ?_ (by first | (simp; done) | omega | (simp; omega)) _)) hb)
    have n3 := hb.size
    try simp at n3
    have k3_a0 := cell_keep (a := ⟨w.heap.size, 0, none⟩) (v := .int .i64 a) (by first | (go_keep; done) | (simp [go_sem, *]; done)) hb
    have k3_a1 := cell_keep (a := ⟨w.heap.size, 1, none⟩) (v := .int .i64 s) (by first | (go_keep; done) | (simp [go_sem, *]; done)) hb
    have l3_a := World.block_lt_of_cell? _ _ k3_a0
    try simp only at l3_a
    have k3_b0 := cell_keep (a := ⟨w.heap.size + 1, 0, none⟩) (v := .int .i64 b) (by first | (go_keep; done) | (simp [go_sem, *]; done)) hb
    have k3_b1 := cell_keep (a := ⟨w.heap.size + 1, 1, none⟩) (v := .int .i64 u) (by first | (go_keep; done) | (simp [go_sem, *]; done)) hb
    have l3_b := World.block_lt_of_cell? _ _ k3_b0
    try simp only at l3_b
    clear hb k2_a0 k2_a1 l2_a k2_b0 k2_b1 l2_b W2
    go_wp2_with fail
    refine (sameErr_yes (ErrNo.nil) _ (hT.below (by repeat (first | exact W3.out | refine blw_drewN ?_ _ | refine Below.setCell ?_ (by first | (simp; done) | omega | (simp; omega)) _ | refine Below.alloc ?_ (by first | (simp; done) | omega | (simp; omega)) _))).h).mono ?_
    rintro e w4 ⟨rfl, hb⟩
    have W4 := Lib.hid (blw_trans (show Below w.heap.size w _ by repeat (first | exact W3.out | refine blw_drewN ?_ _ | refine Below.setCell ?_ (by first | (simp; done) | omega | (simp; omega)) _ | refine Below.alloc ?_ (by first | (simp; done) | omega | (simp; omega)) _)) hb)
    have n4 := hb.size
    try simp at n4
    have k4_a0 := cell_keep (a := ⟨w.heap.size, 0, none⟩) (v := .int .i64 a) (by first | (go_keep; done) | (simp [go_sem, *]; done)) hb
    have k4_a1 := cell_keep (a := ⟨w.heap.size, 1, none⟩) (v := .int .i64 s) (by first | (go_keep; done) | (simp [go_sem, *]; done)) hb
    have l4_a := World.block_lt_of_cell? _ _ k4_a0
    try simp only at l4_a
    have k4_b0 := cell_keep (a := ⟨w.heap.size + 1, 0, none⟩) (v := .int .i64 b) (by first | (go_keep; done) | (simp [go_sem, *]; done)) hb
    have k4_b1 := cell_keep (a := ⟨w.heap.size + 1, 1, none⟩) (v := .int .i64 u) (by first | (go_keep; done) | (simp [go_sem, *]; done)) hb
    have l4_b := World.block_lt_of_cell? _ _ k4_b0
    try simp only at l4_b
    clear hb k3_a0 k3_a1 l3_a k3_b0 k3_b1 l3_b W3
    go_wp2_with fail
    refine (CO.out _).mono ?_
    rintro e w5 ⟨rfl, hb⟩
    have W5 := Lib.hid (blw_trans (show Below w.heap.size w _ by repeat (first | exact W4.out | refine blw_drewN ?_ _ | refine Below.setCell ?_ (by first | (simp; done) | omega | (simp; omega)) _ | refine Below.alloc ?_ (by first | (simp; done) | omega | (simp; omega)) _)) hb)
    have n5 := hb.size
    try simp at n5
    have k5_a0 := cell_keep (a := ⟨w.heap.size, 0, none⟩) (v := .int .i64 a) (by first | (go_keep; done) | (simp [go_sem, *]; done)) hb
    have k5_a1 := cell_keep (a := ⟨w.heap.size, 1, none⟩) (v := .int .i64 s) (by first | (go_keep; done) | (simp [go_sem, *]; done)) hb
    have l5_a := World.block_lt_of_cell? _ _ k5_a0
    try simp only at l5_a
    have k5_b0 := cell_keep (a := ⟨w.heap.size + 1, 0, none⟩) (v := .int .i64 b) (by first | (go_keep; done) | (simp [go_sem, *]; done)) hb
    have k5_b1 := cell_keep (a := ⟨w.heap.size + 1, 1, none⟩) (v := .int .i64 u) (by first | (go_keep; done) | (simp [go_sem, *]; done)) hb
    have l5_b := World.block_lt_of_cell? _ _ k5_b0
    try simp only at l5_b
    clear hb k4_a0 k4_a1 l4_a k4_b0 k4_b1 l4_b W4
    go_wp2_with fail
    refine (CP.out _ (hT.below (by repeat (first | exact W5.out | refine blw_drewN ?_ _ | refine Below.setCell ?_ (by first | (simp; done) | omega | (simp; omega)) _ | refine Below.alloc ?_ (by first | (simp; done) | omega | (simp; omega)) _)))).mono ?_
    rintro e w6 ⟨rfl, hb⟩
    have W6 := Lib.hid (blw_trans (show Below w.heap.size w _ by repeat (first | exact W5.out | refine blw_drewN ?_ _ | refine Below.setCell ?_ (by first | (simp; done) | omega | (simp; omega)) _ | refine Below.alloc ?_ (by first | (simp; done) | omega | (simp; omega)) _)) hb)
    have n6 := hb.size
    try simp at n6
    have k6_a0 := cell_keep (a := ⟨w.heap.size, 0, none⟩) (v := .int .i64 a) (by first | (go_keep; done) | (simp [go_sem, *]; done)) hb
    have k6_a1 := cell_keep (a := ⟨w.heap.size, 1, none⟩) (v := .int .i64 s) (by first | (go_keep; done) | (simp [go_sem, *]; done)) hb
    have l6_a := World.block_lt_of_cell? _ _ k6_a0
    try simp only at l6_a
    have k6_b0 := cell_keep (a := ⟨w.heap.size + 1, 0, none⟩) (v := .int .i64 b) (by first | (go_keep; done) | (simp [go_sem, *]; done)) hb
    have k6_b1 := cell_keep (a := ⟨w.heap.size + 1, 1, none⟩) (v := .int .i64 u) (by first | (go_keep; done) | (simp [go_sem, *]; done)) hb
    have l6_b := World.block_lt_of_cell? _ _ k6_b0
    try simp only at l6_b
    have k6_x0 := cell_keep (a := ⟨w5.heap.size, 0, none⟩) (v := .int .i64 x1) (by first | (go_keep; done) | (simp [go_sem, *]; done)) hb
    have k6_x1 := cell_keep (a := ⟨w5.heap.size, 1, none⟩) (v := .int .i64 x2) (by first | (go_keep; done) | (simp [go_sem, *]; done)) hb
    have l6_x := World.block_lt_of_cell? _ _ k6_x0
    try simp only at l6_x
    clear hb k5_a0 k5_a1 l5_a k5_b0 k5_b1 l5_b W5
    go_wp2_with fail
    refine (sameErr_yes hev _ (hT.below (by repeat (first | exact W6.out | refine blw_drewN ?_ _ | refine Below.setCell ?_ (by first | (simp; done) | omega | (simp; omega)) _ | refine Below.alloc ?_ (by first | (simp; done) | omega | (simp; omega)) _))).h).mono ?_
    rintro e w7 ⟨rfl, hb⟩
    have W7 := Lib.hid (blw_trans (show Below w.heap.size w _ by repeat (first | exact W6.out | refine blw_drewN ?_ _ | refine Below.setCell ?_ (by first | (simp; done) | omega | (simp; omega)) _ | refine Below.alloc ?_ (by first | (simp; done) | omega | (simp; omega)) _)) hb)
    have n7 := hb.size
    try simp at n7
    have k7_a0 := cell_keep (a := ⟨w.heap.size, 0, none⟩) (v := .int .i64 a) (by first | (go_keep; done) | (simp [go_sem, *]; done)) hb
    have k7_a1 := cell_keep (a := ⟨w.heap.size, 1, none⟩) (v := .int .i64 s) (by first | (go_keep; done) | (simp [go_sem, *]; done)) hb
    have l7_a := World.block_lt_of_cell? _ _ k7_a0
    try simp only at l7_a
    have k7_b0 := cell_keep (a := ⟨w.heap.size + 1, 0, none⟩) (v := .int .i64 b) (by first | (go_keep; done) | (simp [go_sem, *]; done)) hb
    have k7_b1 := cell_keep (a := ⟨w.heap.size + 1, 1, none⟩) (v := .int .i64 u) (by first | (go_keep; done) | (simp [go_sem, *]; done)) hb
    have l7_b := World.block_lt_of_cell? _ _ k7_b0
    try simp only at l7_b
    have k7_x0 := cell_keep (a := ⟨w5.heap.size, 0, none⟩) (v := .int .i64 x1) (by first | (go_keep; done) | (simp [go_sem, *]; done)) hb
    have k7_x1 := cell_keep (a := ⟨w5.heap.size, 1, none⟩) (v := .int .i64 x2) (by first | (go_keep; done) | (simp [go_sem, *]; done)) hb
    have l7_x := World.block_lt_of_cell? _ _ k7_x0
    try simp only at l7_x
    have k7_y0 := cell_keep (a := ⟨w6.heap.size, 0, none⟩) (v := .int .i64 x1) (by first | (go_keep; done) | (simp [go_sem, *]; done)) hb
    have k7_y1 := cell_keep (a := ⟨w6.heap.size, 1, none⟩) (v := .int .i64 x2) (by first | (go_keep; done) | (simp [go_sem, *]; done)) hb
    have l7_y := World.block_lt_of_cell? _ _ k7_y0
    try simp only at l7_y
    clear hb k6_a0 k6_a1 l6_a k6_b0 k6_b1 l6_b k6_x0 k6_x1 l6_x W6
    go_wp2_with fail
    refine (CG.out _).mono ?_
    rintro e w8 ⟨rfl, hb⟩
    have W8 := Lib.hid (blw_trans (show Below w.heap.size w _ by repeat (first | exact W7.out | refine blw_drewN ?_ _ | refine Below.setCell ?_ (by first | (simp; done) | omega | (simp; omega)) _ | refine Below.alloc ?_ (by first | (simp; done) | omega | (simp; omega)) _)) hb)
    have n8 := hb.size
    try simp at n8
    have k8_a0 := cell_keep (a := ⟨w.heap.size, 0, none⟩) (v := .int .i64 a) (by first | (go_keep; done) | (simp [go_sem, *]; done)) hb
    have k8_a1 := cell_keep (a := ⟨w.heap.size, 1, none⟩) (v := .int .i64 s) (by first | (go_keep; done) | (simp [go_sem, *]; done)) hb
    have l8_a := World.block_lt_of_cell? _ _ k8_a0
    try simp only at l8_a
    have k8_b0 := cell_keep (a := ⟨w.heap.size + 1, 0, none⟩) (v := .int .i64 b) (by first | (go_keep; done) | (simp [go_sem, *]; done)) hb
    have k8_b1 := cell_keep (a := ⟨w.heap.size + 1, 1, none⟩) (v := .int .i64 u) (by first | (go_keep; done) | (simp [go_sem, *]; done)) hb
    have l8_b := World.block_lt_of_cell? _ _ k8_b0
    try simp only at l8_b
    have k8_x0 := cell_keep (a := ⟨w5.heap.size, 0, none⟩) (v := .int .i64 x1) (by first | (go_keep; done) | (simp [go_sem, *]; done)) hb
    have k8_x1 := cell_keep (a := ⟨w5.heap.size, 1, none⟩) (v := .int .i64 x2) (by first | (go_keep; done) | (simp [go_sem, *]; done)) hb
    have l8_x := World.block_lt_of_cell? _ _ k8_x0
    try simp only at l8_x
    have k8_y0 := cell_keep (a := ⟨w6.heap.size, 0, none⟩) (v := .int .i64 x1) (by first | (go_keep; done) | (simp [go_sem, *]; done)) hb
    have k8_y1 := cell_keep (a := ⟨w6.heap.size, 1, none⟩) (v := .int .i64 x2) (by first | (go_keep; done) | (simp [go_sem, *]; done)) hb
    have l8_y := World.block_lt_of_cell? _ _ k8_y0
    try simp only at l8_y
    clear hb k7_a0 k7_a1 l7_a k7_b0 k7_b1 l7_b k7_x0 k7_x1 l7_x k7_y0 k7_y1 l7_y W7
    go_wp2_with fail
    refine (CL.out _).mono ?_
    rintro e w9 ⟨rfl, hb⟩
    have W9 := Lib.hid (blw_trans (show Below w.heap.size w _ by repeat (first | exact W8.out | refine blw_drewN ?_ _ | refine Below.setCell ?_ (by first | (simp; done) | omega | (simp; omega)) _ | refine Below.alloc ?_ (by first | (simp; done) | omega | (simp; omega)) _)) hb)
    have n9 := hb.size
    try simp at n9
    have k9_a0 := cell_keep (a := ⟨w.heap.size, 0, none⟩) (v := .int .i64 a) (by first | (go_keep; done) | (simp [go_sem, *]; done)) hb
    have k9_a1 := cell_keep (a := ⟨w.heap.size, 1, none⟩) (v := .int .i64 s) (by first | (go_keep; done) | (simp [go_sem, *]; done)) hb
    have l9_a := World.block_lt_of_cell? _ _ k9_a0
    try simp only at l9_a
    have k9_b0 := cell_keep (a := ⟨w.heap.size + 1, 0, none⟩) (v := .int .i64 b) (by first | (go_keep; done) | (simp [go_sem, *]; done)) hb
    have k9_b1 := cell_keep (a := ⟨w.heap.size + 1, 1, none⟩) (v := .int .i64 u) (by first | (go_keep; done) | (simp [go_sem, *]; done)) hb
    have l9_b := World.block_lt_of_cell? _ _ k9_b0
    try simp only at l9_b
    have k9_x0 := cell_keep (a := ⟨w5.heap.size, 0, none⟩) (v := .int .i64 x1) (by first | (go_keep; done) | (simp [go_sem, *]; done)) hb
    have k9_x1 := cell_keep (a := ⟨w5.heap.size, 1, none⟩) (v := .int .i64 x2) (by first | (go_keep; done) | (simp [go_sem, *]; done)) hb
    have l9_x := World.block_lt_of_cell? _ _ k9_x0
    try simp only at l9_x
    have k9_y0 := cell_keep (a := ⟨w6.heap.size, 0, none⟩) (v := .int .i64 x1) (by first | (go_keep; done) | (simp [go_sem, *]; done)) hb
    have k9_y1 := cell_keep (a := ⟨w6.heap.size, 1, none⟩) (v := .int .i64 x2) (by first | (go_keep; done) | (simp [go_sem, *]; done)) hb
    have l9_y := World.block_lt_of_cell? _ _ k9_y0
    try simp only at l9_y
    clear hb k8_a0 k8_a1 l8_a k8_b0 k8_b1 l8_b k8_x0 k8_x1 l8_x k8_y0 k8_y1 l8_y W8
    go_wp2_with fail
    refine (CR.out _).mono ?_
    rintro e w10 ⟨rfl, hb⟩
    have W10 := Lib.hid (blw_trans (show Below w.heap.size w _ by repeat (first | exact W9.out | refine blw_drewN ?_ _ | refine Below.setCell ?_ (by first | (simp; done) | omega | (simp; omega)) _ | refine Below.alloc ?_ (by first | (simp; done) | omega | (simp; omega)) _)) hb)
    have n10 := hb.size
    try simp at n10
    have k10_a0 := cell_keep (a := ⟨w.heap.size, 0, none⟩) (v := .int .i64 a) (by first | (go_keep; done) | (simp [go_sem, *]; done)) hb
    have k10_a1 := cell_keep (a := ⟨w.heap.size, 1, none⟩) (v := .int .i64 s) (by first | (go_keep; done) | (simp [go_sem, *]; done)) hb
    have l10_a := World.block_lt_of_cell? _ _ k10_a0
    try simp only at l10_a
    have k10_b0 := cell_keep (a := ⟨w.heap.size + 1, 0, none⟩) (v := .int .i64 b) (by first | (go_keep; done) | (simp [go_sem, *]; done)) hb
    have k10_b1 := cell_keep (a := ⟨w.heap.size + 1, 1, none⟩) (v := .int .i64 u) (by first | (go_keep; done) | (simp [go_sem, *]; done)) hb
    have l10_b := World.block_lt_of_cell? _ _ k10_b0
    try simp only at l10_b
    have k10_x0 := cell_keep (a := ⟨w5.heap.size, 0, none⟩) (v := .int .i64 x1) (by first | (go_keep; done) | (simp [go_sem, *]; done)) hb
    have k10_x1 := cell_keep (a := ⟨w5.heap.size, 1, none⟩) (v := .int .i64 x2) (by first | (go_keep; done) | (simp [go_sem, *]; done)) hb
    have l10_x := World.block_lt_of_cell? _ _ k10_x0
    try simp only at l10_x
    have k10_y0 := cell_keep (a := ⟨w6.heap.size, 0, none⟩) (v := .int .i64 x1) (by first | (go_keep; done) | (simp [go_sem, *]; done)) hb
    have k10_y1 := cell_keep (a := ⟨w6.heap.size, 1, none⟩) (v := .int .i64 x2) (by first | (go_keep; done) | (simp [go_sem, *]; done)) hb
    have l10_y := World.block_lt_of_cell? _ _ k10_y0
    try simp only at l10_y
    clear hb k9_a0 k9_a1 l9_a k9_b0 k9_b1 l9_b k9_x0 k9_x1 l9_x k9_y0 k9_y1 l9_y W9
    go_wp2_with fail
    refine (CS.out _).mono ?_
    rintro e w11 ⟨rfl, hb⟩
    have W11 := Lib.hid (blw_trans (show Below w.heap.size w _ by repeat (first | exact W10.out | refine blw_drewN ?_ _ | refine Below.setCell ?_ (by first | (simp; done) | omega | (simp; omega)) _ | refine Below.alloc ?_ (by first | (simp; done) | omega | (simp; omega)) _)) hb)
    have n11 := hb.size
    try simp at n11
    have k11_a0 := cell_keep (a := ⟨w.heap.size, 0, none⟩) (v := .int .i64 a) (by first | (go_keep; done) | (simp [go_sem, *]; done)) hb
    have k11_a1 := cell_keep (a := ⟨w.heap.size, 1, none⟩) (v := .int .i64 s) (by first | (go_keep; done) | (simp [go_sem, *]; done)) hb
    have l11_a := World.block_lt_of_cell? _ _ k11_a0
    try simp only at l11_a
    have k11_b0 := cell_keep (a := ⟨w.heap.size + 1, 0, none⟩) (v := .int .i64 b) (by first | (go_keep; done) | (simp [go_sem, *]; done)) hb
    have k11_b1 := cell_keep (a := ⟨w.heap.size + 1, 1, none⟩) (v := .int .i64 u) (by first | (go_keep; done) | (simp [go_sem, *]; done)) hb
    have l11_b := World.block_lt_of_cell? _ _ k11_b0
    try simp only at l11_b
    have k11_x0 := cell_keep (a := ⟨w5.heap.size, 0, none⟩) (v := .int .i64 x1) (by first | (go_keep; done) | (simp [go_sem, *]; done)) hb
    have k11_x1 := cell_keep (a := ⟨w5.heap.size, 1, none⟩) (v := .int .i64 x2) (by first | (go_keep; done) | (simp [go_sem, *]; done)) hb
    have l11_x := World.block_lt_of_cell? _ _ k11_x0
    try simp only at l11_x
    have k11_y0 := cell_keep (a := ⟨w6.heap.size, 0, none⟩) (v := .int .i64 x1) (by first | (go_keep; done) | (simp [go_sem, *]; done)) hb
    have k11_y1 := cell_keep (a := ⟨w6.heap.size, 1, none⟩) (v := .int .i64 x2) (by first | (go_keep; done) | (simp [go_sem, *]; done)) hb
    have l11_y := World.block_lt_of_cell? _ _ k11_y0
    try simp only at l11_y
    clear hb k10_a0 k10_a1 l10_a k10_b0 k10_b1 l10_b k10_x0 k10_x1 l10_x k10_y0 k10_y1 l10_y W10
    go_wp2_with fail
    refine (CR.out _).mono ?_
    rintro e w12 ⟨rfl, hb⟩
    have W12 := Lib.hid (blw_trans (show Below w.heap.size w _ by repeat (first | exact W11.out | refine blw_drewN ?_ _ | refine Below.setCell ?_ (by first | (simp; done) | omega | (simp; omega)) _ | refine Below.alloc ?_ (by first | (simp; done) | omega | (simp; omega)) _)) hb)
    have n12 := hb.size
    try simp at n12
    have k12_a0 := cell_keep (a := ⟨w.heap.size, 0, none⟩) (v := .int .i64 a) (by first | (go_keep; done) | (simp [go_sem, *]; done)) hb
    have k12_a1 := cell_keep (a := ⟨w.heap.size, 1, none⟩) (v := .int .i64 s) (by first | (go_keep; done) | (simp [go_sem, *]; done)) hb
    have l12_a := World.block_lt_of_cell? _ _ k12_a0
    try simp only at l12_a
    have k12_b0 := cell_keep (a := ⟨w.heap.size + 1, 0, none⟩) (v := .int .i64 b) (by first | (go_keep; done) | (simp [go_sem, *]; done)) hb
    have k12_b1 := cell_keep (a := ⟨w.heap.size + 1, 1, none⟩) (v := .int .i64 u) (by first | (go_keep; done) | (simp [go_sem, *]; done)) hb
    have l12_b := World.block_lt_of_cell? _ _ k12_b0
    try simp only at l12_b
    have k12_x0 := cell_keep (a := ⟨w5.heap.size, 0, none⟩) (v := .int .i64 x1) (by first | (go_keep; done) | (simp [go_sem, *]; done)) hb
    have k12_x1 := cell_keep (a := ⟨w5.heap.size, 1, none⟩) (v := .int .i64 x2) (by first | (go_keep; done) | (simp [go_sem, *]; done)) hb
    have l12_x := World.block_lt_of_cell? _ _ k12_x0
    try simp only at l12_x
    have k12_y0 := cell_keep (a := ⟨w6.heap.size, 0, none⟩) (v := .int .i64 x1) (by first | (go_keep; done) | (simp [go_sem, *]; done)) hb
    have k12_y1 := cell_keep (a := ⟨w6.heap.size, 1, none⟩) (v := .int .i64 x2) (by first | (go_keep; done) | (simp [go_sem, *]; done)) hb
    have l12_y := World.block_lt_of_cell? _ _ k12_y0
    try simp only at l12_y
    clear hb k11_a0 k11_a1 l11_a k11_b0 k11_b1 l11_b k11_x0 k11_x1 l11_x k11_y0 k11_y1 l11_y W11
    go_wp2_with fail
  focus
    refine wp_region_held_drew (S := fun w' => w'.cell? ⟨w.heap.size, 0, none⟩ = some (.int .i64 a) ∧ w'.cell? ⟨w.heap.size, 1, none⟩ = some (.int .i64 s) ∧ w'.cell? ⟨w.heap.size + 1, 0, none⟩ = some (.int .i64 b) ∧ w'.cell? ⟨w.heap.size + 1, 1, none⟩ = some (.int .i64 u) ∧ Hid (Below w.heap.size w w')) (by kernel_rfl) (by exact ⟨by simpa using k12_a0, by simpa using k12_a1, by simpa using k12_b0, by simpa using k12_b1, Lib.hid (blw_drewN W12.out 1)⟩) (fun hHeld => ?_)
    refine take_run (d := (some 103)) (v := ?v145) 0 rfl rfl (by kernel_rfl) (by kernel_rfl) (by kernel_rfl) (fun _ _ _ h => h) (by rfl) hHeld ?hy145 ?rs145
    case hy145 => (intro w hSw; (try dsimp only at hSw); go_simp) <;> (try with_reducible rfl)
    (try simp only [Act.put, List.setIfInBounds_toArray, List.set_cons_zero, List.set_cons_succ])
    refine take_run (d := (some 104)) (v := ?v146) 1 rfl rfl (by kernel_rfl) (by kernel_rfl) (by kernel_rfl) (fun _ _ _ h => h) (by rfl) hHeld ?hy146 ?rs146
    case hy146 => (intro w hSw; (try dsimp only at hSw); go_simp) <;> (try with_reducible rfl)
    (try simp only [Act.put, List.setIfInBounds_toArray, List.set_cons_zero, List.set_cons_succ])
    refine take_run (d := (some 105)) (v := ?v147) 2 rfl rfl (by kernel_rfl) (by kernel_rfl) (by kernel_rfl) (fun _ _ _ h => h) (by rfl) hHeld ?hy147 ?rs147
    case hy147 => (intro w hSw; (try dsimp only at hSw); go_simp) <;> (try with_reducible rfl)
    (try simp only [Act.put, List.setIfInBounds_toArray, List.set_cons_zero, List.set_cons_succ])
    refine take_run (d := (some 106)) (v := ?v148) 3 rfl rfl (by kernel_rfl) (by kernel_rfl) (by kernel_rfl) (fun _ _ _ h => h) (by rfl) hHeld ?hy148 ?rs148
    case hy148 => (intro w hSw; (try dsimp only at hSw); go_simp) <;> (try with_reducible rfl)
    (try simp only [Act.put, List.setIfInBounds_toArray, List.set_cons_zero, List.set_cons_succ])
    refine take_run (d := (some 108)) (v := ?v149) 5 rfl rfl (by kernel_rfl) (by kernel_rfl) (by kernel_rfl) (fun _ _ _ h => h) (by rfl) hHeld ?hy149 ?rs149
    case hy149 => (intro w hSw; (try dsimp only at hSw); go_simp) <;> (try with_reducible rfl)
    (try simp only [Act.put, List.setIfInBounds_toArray, List.set_cons_zero, List.set_cons_succ])
    refine take_call 4 rfl (by kernel_rfl) (by rfl) (fun K hK => ?_)
    go_simp
    refine (CX.out _ (hT.below hHeld.2.2.2.2.out)).mono ?_
    rintro e w' ⟨rfl, hb⟩
    refine hK.out _ _ (by obtain ⟨h0, h1, h2, h3, hw⟩ := hHeld; exact ⟨cell_keep h0 hb, cell_keep h1 hb, cell_keep h2 hb, cell_keep h3 hb, Lib.hid (blw_trans hw.out hb)⟩) (fun hHeld => ?_)
    clear hK K
    (try simp only [Act.put, List.setIfInBounds_toArray, List.set_cons_zero, List.set_cons_succ])
    refine take_call 6 rfl (by kernel_rfl) (by rfl) (fun K hK => ?_)
    go_simp
    refine (CY.out _).mono ?_
    rintro e w' ⟨rfl, hb⟩
    refine hK.out _ _ (by obtain ⟨h0, h1, h2, h3, hw⟩ := hHeld; exact ⟨cell_keep h0 hb, cell_keep h1 hb, cell_keep h2 hb, cell_keep h3 hb, Lib.hid (blw_trans hw.out hb)⟩) (fun hHeld => ?_)
    clear hK K
    (try simp only [Act.put, List.setIfInBounds_toArray, List.set_cons_zero, List.set_cons_succ])
    refine take_run (d := (some 110)) (v := ?v152) 7 rfl rfl (by kernel_rfl) (by kernel_rfl) (by kernel_rfl) (fun _ _ _ h => h) (by rfl) hHeld ?hy152 ?rs152
    case hy152 => (intro w hSw; (try dsimp only at hSw); go_simp) <;> (try with_reducible rfl)
    (try simp only [Act.put, List.setIfInBounds_toArray, List.set_cons_zero, List.set_cons_succ])
    refine take_run (d := (some 111)) (v := ?v153) 8 rfl rfl (by kernel_rfl) (by kernel_rfl) (by kernel_rfl) (fun _ _ _ h => h) (by rfl) hHeld ?hy153 ?rs153
    case hy153 => (intro w hSw; (try dsimp only at hSw); go_simp) <;> (try with_reducible rfl)
    (try simp only [Act.put, List.setIfInBounds_toArray, List.set_cons_zero, List.set_cons_succ])
    refine wpAnyH_done (by kernel_rfl) ?_ _
    obtain ⟨z0, z1, z2, z3, zW⟩ := hHeld
  rotate_left
  focus
    refine wp_region_held_drew (S := fun w' => w'.cell? ⟨w.heap.size, 0, none⟩ = some (.int .i64 a) ∧ w'.cell? ⟨w.heap.size, 1, none⟩ = some (.int .i64 s) ∧ w'.cell? ⟨w.heap.size + 1, 0, none⟩ = some (.int .i64 b) ∧ w'.cell? ⟨w.heap.size + 1, 1, none⟩ = some (.int .i64 u) ∧ Hid (Below w.heap.size w w')) (by kernel_rfl) (by exact ⟨by simpa using k12_a0, by simpa using k12_a1, by simpa using k12_b0, by simpa using k12_b1, Lib.hid (blw_drewN W12.out 1)⟩) (fun hHeld => ?_)
    refine take_run (d := (some 103)) (v := ?v154) 0 rfl rfl (by kernel_rfl) (by kernel_rfl) (by kernel_rfl) (fun _ _ _ h => h) (by rfl) hHeld ?hy154 ?rs154
    case hy154 => (intro w hSw; (try dsimp only at hSw); go_simp) <;> (try with_reducible rfl)
    (try simp only [Act.put, List.setIfInBounds_toArray, List.set_cons_zero, List.set_cons_succ])
    refine take_run (d := (some 104)) (v := ?v155) 1 rfl rfl (by kernel_rfl) (by kernel_rfl) (by kernel_rfl) (fun _ _ _ h => h) (by rfl) hHeld ?hy155 ?rs155
    case hy155 => (intro w hSw; (try dsimp only at hSw); go_simp) <;> (try with_reducible rfl)
    (try simp only [Act.put, List.setIfInBounds_toArray, List.set_cons_zero, List.set_cons_succ])
    refine take_run (d := (some 105)) (v := ?v156) 2 rfl rfl (by kernel_rfl) (by kernel_rfl) (by kernel_rfl) (fun _ _ _ h => h) (by rfl) hHeld ?hy156 ?rs156
    case hy156 => (intro w hSw; (try dsimp only at hSw); go_simp) <;> (try with_reducible rfl)
    (try simp only [Act.put, List.setIfInBounds_toArray, List.set_cons_zero, List.set_cons_succ])
    refine take_run (d := (some 106)) (v := ?v157) 3 rfl rfl (by kernel_rfl) (by kernel_rfl) (by kernel_rfl) (fun _ _ _ h => h) (by rfl) hHeld ?hy157 ?rs157
    case hy157 => (intro w hSw; (try dsimp only at hSw); go_simp) <;> (try with_reducible rfl)
    (try simp only [Act.put, List.setIfInBounds_toArray, List.set_cons_zero, List.set_cons_succ])
    refine take_run (d := (some 108)) (v := ?v158) 5 rfl rfl (by kernel_rfl) (by kernel_rfl) (by kernel_rfl) (fun _ _ _ h => h) (by rfl) hHeld ?hy158 ?rs158
    case hy158 => (intro w hSw; (try dsimp only at hSw); go_simp) <;> (try with_reducible rfl)
    (try simp only [Act.put, List.setIfInBounds_toArray, List.set_cons_zero, List.set_cons_succ])
    refine take_call 4 rfl (by kernel_rfl) (by rfl) (fun K hK => ?_)
    go_simp
    refine (CX.out _ (hT.below hHeld.2.2.2.2.out)).mono ?_
    rintro e w' ⟨rfl, hb⟩
    refine hK.out _ _ (by obtain ⟨h0, h1, h2, h3, hw⟩ := hHeld; exact ⟨cell_keep h0 hb, cell_keep h1 hb, cell_keep h2 hb, cell_keep h3 hb, Lib.hid (blw_trans hw.out hb)⟩) (fun hHeld => ?_)
    clear hK K
    (try simp only [Act.put, List.setIfInBounds_toArray, List.set_cons_zero, List.set_cons_succ])
    refine take_call 6 rfl (by kernel_rfl) (by rfl) (fun K hK => ?_)
    go_simp
    refine (CY.out _).mono ?_
    rintro e w' ⟨rfl, hb⟩
    refine hK.out _ _ (by obtain ⟨h0, h1, h2, h3, hw⟩ := hHeld; exact ⟨cell_keep h0 hb, cell_keep h1 hb, cell_keep h2 hb, cell_keep h3 hb, Lib.hid (blw_trans hw.out hb)⟩) (fun hHeld => ?_)
    clear hK K
    (try simp only [Act.put, List.setIfInBounds_toArray, List.set_cons_zero, List.set_cons_succ])
    refine take_run (d := (some 110)) (v := ?v161) 7 rfl rfl (by kernel_rfl) (by kernel_rfl) (by kernel_rfl) (fun _ _ _ h => h) (by rfl) hHeld ?hy161 ?rs161
    case hy161 => (intro w hSw; (try dsimp only at hSw); go_simp) <;> (try with_reducible rfl)
    (try simp only [Act.put, List.setIfInBounds_toArray, List.set_cons_zero, List.set_cons_succ])
    refine take_run (d := (some 111)) (v := ?v162) 8 rfl rfl (by kernel_rfl) (by kernel_rfl) (by kernel_rfl) (fun _ _ _ h => h) (by rfl) hHeld ?hy162 ?rs162
    case hy162 => (intro w hSw; (try dsimp only at hSw); go_simp) <;> (try with_reducible rfl)
    (try simp only [Act.put, List.setIfInBounds_toArray, List.set_cons_zero, List.set_cons_succ])
    refine wpAnyH_done (by kernel_rfl) ?_ _
    obtain ⟨z0, z1, z2, z3, zW⟩ := hHeld
  rotate_left
  all_goals
    clear k12_a0 k12_a1 l12_a k12_b0 k12_b1 l12_b k12_x0 k12_x1 l12_x k12_y0 k12_y1 l12_y W12
    obtain ⟨wh, hwh⟩ : ∃ wh, wh = w' := ⟨_, rfl⟩
    subst hwh
    have k12_a0 := z0
    have k12_a1 := z1
    have l12_a := World.block_lt_of_cell? _ _ k12_a0
    try simp only at l12_a
    have k12_b0 := z2
    have k12_b1 := z3
    have l12_b := World.block_lt_of_cell? _ _ k12_b0
    try simp only at l12_b
    clear z0 z1 z2 z3
    have ne1 : ¬ w.heap.size = wh.heap.size := by omega
    have me1 : ¬ wh.heap.size = w.heap.size := by omega
    have ne2 : ¬ w.heap.size + 1 = wh.heap.size := by omega
    have me2 : ¬ wh.heap.size = w.heap.size + 1 := by omega
    have leq : w.heap.size ≤ wh.heap.size := by omega
    go_wp2_with fail
    refine (CU.out _).mono ?_
    rintro e w13 ⟨rfl, hb⟩
    have W13 := Lib.hid (blw_trans (show Below w.heap.size w _ by repeat (first | exact zW.out | refine blw_drewN ?_ _ | refine Below.setCell ?_ (by first | (simp; done) | omega | (simp; omega)) _ | refine Below.alloc ?_ (by first | (simp; done) | omega | (simp; omega)) _)) hb)
    have n13 := hb.size
    try simp at n13
    have k13_a0 := cell_keep (a := ⟨w.heap.size, 0, none⟩) (v := .int .i64 a) (by first | (go_keep; done) | (simp [go_sem, *]; done)) hb
    have k13_a1 := cell_keep (a := ⟨w.heap.size, 1, none⟩) (v := .int .i64 s) (by first | (go_keep; done) | (simp [go_sem, *]; done)) hb
    have l13_a := World.block_lt_of_cell? _ _ k13_a0
    try simp only at l13_a
    have k13_b0 := cell_keep (a := ⟨w.heap.size + 1, 0, none⟩) (v := .int .i64 b) (by first | (go_keep; done) | (simp [go_sem, *]; done)) hb
    have k13_b1 := cell_keep (a := ⟨w.heap.size + 1, 1, none⟩) (v := .int .i64 u) (by first | (go_keep; done) | (simp [go_sem, *]; done)) hb
    have l13_b := World.block_lt_of_cell? _ _ k13_b0
    try simp only at l13_b
    have k13_q0 := cell_keep (a := ⟨wh.heap.size, 0, none⟩) (v := .int .i64 0) (by first | (go_keep; done) | (simp [go_sem, *]; done)) hb
    have f13_q0 := (hb.frozen (p := ⟨wh.heap.size, 0, none⟩) (by first | (simp; done) | omega | (simp; omega))).trans (show _ = false by first | (simp; done) | (simp [go_sem]; done))
    have k13_q1 := cell_keep (a := ⟨wh.heap.size, 1, none⟩) (v := .int .i64 0) (by first | (go_keep; done) | (simp [go_sem, *]; done)) hb
    have f13_q1 := (hb.frozen (p := ⟨wh.heap.size, 1, none⟩) (by first | (simp; done) | omega | (simp; omega))).trans (show _ = false by first | (simp; done) | (simp [go_sem]; done))
    have l13_q := World.block_lt_of_cell? _ _ k13_q0
    try simp only at l13_q
    clear hb k12_a0 k12_a1 k12_b0 k12_b1 l12_a l12_b zW
    go_wp2_with fail
    refine (CV.out _).mono ?_
    rintro e w14 ⟨rfl, hb⟩
    have W14 := Lib.hid (blw_trans (show Below w.heap.size w _ by repeat (first | exact W13.out | refine blw_drewN ?_ _ | refine Below.setCell ?_ (by first | (simp; done) | omega | (simp; omega)) _ | refine Below.alloc ?_ (by first | (simp; done) | omega | (simp; omega)) _)) hb)
    have n14 := hb.size
    try simp at n14
    have k14_a0 := cell_keep (a := ⟨w.heap.size, 0, none⟩) (v := .int .i64 a) (by first | (go_keep; done) | (simp [go_sem, *]; done)) hb
    have k14_a1 := cell_keep (a := ⟨w.heap.size, 1, none⟩) (v := .int .i64 s) (by first | (go_keep; done) | (simp [go_sem, *]; done)) hb
    have l14_a := World.block_lt_of_cell? _ _ k14_a0
    try simp only at l14_a
    have k14_b0 := cell_keep (a := ⟨w.heap.size + 1, 0, none⟩) (v := .int .i64 b) (by first | (go_keep; done) | (simp [go_sem, *]; done)) hb
    have k14_b1 := cell_keep (a := ⟨w.heap.size + 1, 1, none⟩) (v := .int .i64 u) (by first | (go_keep; done) | (simp [go_sem, *]; done)) hb
    have l14_b := World.block_lt_of_cell? _ _ k14_b0
    try simp only at l14_b
    have k14_q0 := cell_keep (a := ⟨wh.heap.size, 0, none⟩) (v := .int .i64 r1) (by first | (go_keep; done) | (simp [go_sem, *]; done)) hb
    have k14_q1 := cell_keep (a := ⟨wh.heap.size, 1, none⟩) (v := .int .i64 sc) (by first | (go_keep; done) | (simp [go_sem, *]; done)) hb
    have l14_q := World.block_lt_of_cell? _ _ k14_q0
    try simp only at l14_q
    clear hb k13_a0 k13_a1 l13_a k13_b0 k13_b1 l13_b k13_q0 f13_q0 k13_q1 f13_q1 l13_q W13
    go_wp2_with fail
    refine (sameErr_yes (ErrNo.nil) _ (hT.below (by repeat (first | exact W14.out | refine blw_drewN ?_ _ | refine Below.setCell ?_ (by first | (simp; done) | omega | (simp; omega)) _ | refine Below.alloc ?_ (by first | (simp; done) | omega | (simp; omega)) _))).h).mono ?_
    rintro e w15 ⟨rfl, hb⟩
    have W15 := Lib.hid (blw_trans (show Below w.heap.size w _ by repeat (first | exact W14.out | refine blw_drewN ?_ _ | refine Below.setCell ?_ (by first | (simp; done) | omega | (simp; omega)) _ | refine Below.alloc ?_ (by first | (simp; done) | omega | (simp; omega)) _)) hb)
    have n15 := hb.size
    try simp at n15
    have k15_a0 := cell_keep (a := ⟨w.heap.size, 0, none⟩) (v := .int .i64 a) (by first | (go_keep; done) | (simp [go_sem, *]; done)) hb
    have k15_a1 := cell_keep (a := ⟨w.heap.size, 1, none⟩) (v := .int .i64 s) (by first | (go_keep; done) | (simp [go_sem, *]; done)) hb
    have l15_a := World.block_lt_of_cell? _ _ k15_a0
    try simp only at l15_a
    have k15_b0 := cell_keep (a := ⟨w.heap.size + 1, 0, none⟩) (v := .int .i64 b) (by first | (go_keep; done) | (simp [go_sem, *]; done)) hb
    have k15_b1 := cell_keep (a := ⟨w.heap.size + 1, 1, none⟩) (v := .int .i64 u) (by first | (go_keep; done) | (simp [go_sem, *]; done)) hb
    have l15_b := World.block_lt_of_cell? _ _ k15_b0
    try simp only at l15_b
    have k15_q0 := cell_keep (a := ⟨wh.heap.size, 0, none⟩) (v := .int .i64 r1) (by first | (go_keep; done) | (simp [go_sem, *]; done)) hb
    have k15_q1 := cell_keep (a := ⟨wh.heap.size, 1, none⟩) (v := .int .i64 sc) (by first | (go_keep; done) | (simp [go_sem, *]; done)) hb
    have l15_q := World.block_lt_of_cell? _ _ k15_q0
    try simp only at l15_q
    have k15_r0 := cell_keep (a := ⟨w14.heap.size, 0, none⟩) (v := .int .i64 r1) (by first | (go_keep; done) | (simp [go_sem, *]; done)) hb
    have k15_r1 := cell_keep (a := ⟨w14.heap.size, 1, none⟩) (v := .int .i64 sc) (by first | (go_keep; done) | (simp [go_sem, *]; done)) hb
    have l15_r := World.block_lt_of_cell? _ _ k15_r0
    try simp only at l15_r
    clear hb k14_a0 k14_a1 l14_a k14_b0 k14_b1 l14_b k14_q0 k14_q1 l14_q W14
    have ne3 : ¬ w.heap.size = w15.heap.size := by omega
    have me3 : ¬ w15.heap.size = w.heap.size := by omega
    have ne4 : ¬ w.heap.size + 1 = w15.heap.size := by omega
    have me4 : ¬ w15.heap.size = w.heap.size + 1 := by omega
    have ne5 : ¬ wh.heap.size = w15.heap.size := by omega
    have me5 : ¬ w15.heap.size = wh.heap.size := by omega
    have ne6 : ¬ w14.heap.size = w15.heap.size := by omega
    have me6 : ¬ w15.heap.size = w14.heap.size := by omega
    have lem : w.heap.size ≤ w15.heap.size := by omega
    go_wp2_with fail
    refine (CQ.out _).mono ?_
    rintro e w16 ⟨rfl, hb⟩
    have W16 := Lib.hid (blw_trans (show Below w.heap.size w _ by repeat (first | exact W15.out | refine blw_drewN ?_ _ | refine Below.setCell ?_ (by first | (simp; done) | omega | (simp; omega)) _ | refine Below.alloc ?_ (by first | (simp; done) | omega | (simp; omega)) _)) hb)
    have n16 := hb.size
    try simp at n16
    have k16_a0 := cell_keep (a := ⟨w.heap.size, 0, none⟩) (v := .int .i64 a) (by first | (go_keep; done) | (simp [go_sem, *]; done)) hb
    have k16_a1 := cell_keep (a := ⟨w.heap.size, 1, none⟩) (v := .int .i64 s) (by first | (go_keep; done) | (simp [go_sem, *]; done)) hb
    have l16_a := World.block_lt_of_cell? _ _ k16_a0
    try simp only at l16_a
    have k16_b0 := cell_keep (a := ⟨w.heap.size + 1, 0, none⟩) (v := .int .i64 b) (by first | (go_keep; done) | (simp [go_sem, *]; done)) hb
    have k16_b1 := cell_keep (a := ⟨w.heap.size + 1, 1, none⟩) (v := .int .i64 u) (by first | (go_keep; done) | (simp [go_sem, *]; done)) hb
    have l16_b := World.block_lt_of_cell? _ _ k16_b0
    try simp only at l16_b
    have k16_q0 := cell_keep (a := ⟨wh.heap.size, 0, none⟩) (v := .int .i64 r1) (by first | (go_keep; done) | (simp [go_sem, *]; done)) hb
    have k16_q1 := cell_keep (a := ⟨wh.heap.size, 1, none⟩) (v := .int .i64 sc) (by first | (go_keep; done) | (simp [go_sem, *]; done)) hb
    have l16_q := World.block_lt_of_cell? _ _ k16_q0
    try simp only at l16_q
    have k16_r0 := cell_keep (a := ⟨w14.heap.size, 0, none⟩) (v := .int .i64 r1) (by first | (go_keep; done) | (simp [go_sem, *]; done)) hb
    have k16_r1 := cell_keep (a := ⟨w14.heap.size, 1, none⟩) (v := .int .i64 sc) (by first | (go_keep; done) | (simp [go_sem, *]; done)) hb
    have l16_r := World.block_lt_of_cell? _ _ k16_r0
    try simp only at l16_r
    have k16_m0 := cell_keep (a := ⟨w15.heap.size, 0, none⟩) (v := .int .i64 0) (by first | (go_keep; done) | (simp [go_sem, *]; done)) hb
    have k16_m1 := cell_keep (a := ⟨w15.heap.size, 1, none⟩) (v := .int .i64 0) (by first | (go_keep; done) | (simp [go_sem, *]; done)) hb
    have l16_m := World.block_lt_of_cell? _ _ k16_m0
    try simp only at l16_m
    clear hb k15_a0 k15_a1 l15_a k15_b0 k15_b1 l15_b k15_q0 k15_q1 l15_q k15_r0 k15_r1 l15_r W15
    go_wp2_with fail
    refine (CA.out _).mono ?_
    rintro e w17 ⟨rfl, hb⟩
    have W17 := Lib.hid (blw_trans (show Below w.heap.size w _ by repeat (first | exact W16.out | refine blw_drewN ?_ _ | refine Below.setCell ?_ (by first | (simp; done) | omega | (simp; omega)) _ | refine Below.alloc ?_ (by first | (simp; done) | omega | (simp; omega)) _)) hb)
    have n17 := hb.size
    try simp at n17
    have k17_a0 := cell_keep (a := ⟨w.heap.size, 0, none⟩) (v := .int .i64 a) (by first | (go_keep; done) | (simp [go_sem, *]; done)) hb
    have k17_a1 := cell_keep (a := ⟨w.heap.size, 1, none⟩) (v := .int .i64 s) (by first | (go_keep; done) | (simp [go_sem, *]; done)) hb
    have l17_a := World.block_lt_of_cell? _ _ k17_a0
    try simp only at l17_a
    have k17_b0 := cell_keep (a := ⟨w.heap.size + 1, 0, none⟩) (v := .int .i64 b) (by first | (go_keep; done) | (simp [go_sem, *]; done)) hb
    have k17_b1 := cell_keep (a := ⟨w.heap.size + 1, 1, none⟩) (v := .int .i64 u) (by first | (go_keep; done) | (simp [go_sem, *]; done)) hb
    have l17_b := World.block_lt_of_cell? _ _ k17_b0
    try simp only at l17_b
    have k17_q0 := cell_keep (a := ⟨wh.heap.size, 0, none⟩) (v := .int .i64 r1) (by first | (go_keep; done) | (simp [go_sem, *]; done)) hb
    have k17_q1 := cell_keep (a := ⟨wh.heap.size, 1, none⟩) (v := .int .i64 sc) (by first | (go_keep; done) | (simp [go_sem, *]; done)) hb
    have l17_q := World.block_lt_of_cell? _ _ k17_q0
    try simp only at l17_q
    have k17_r0 := cell_keep (a := ⟨w14.heap.size, 0, none⟩) (v := .int .i64 r1) (by first | (go_keep; done) | (simp [go_sem, *]; done)) hb
    have k17_r1 := cell_keep (a := ⟨w14.heap.size, 1, none⟩) (v := .int .i64 sc) (by first | (go_keep; done) | (simp [go_sem, *]; done)) hb
    have l17_r := World.block_lt_of_cell? _ _ k17_r0
    try simp only at l17_r
    have k17_m0 := cell_keep (a := ⟨w15.heap.size, 0, none⟩) (v := .int .i64 0) (by first | (go_keep; done) | (simp [go_sem, *]; done)) hb
    have k17_m1 := cell_keep (a := ⟨w15.heap.size, 1, none⟩) (v := .int .i64 0) (by first | (go_keep; done) | (simp [go_sem, *]; done)) hb
    have l17_m := World.block_lt_of_cell? _ _ k17_m0
    try simp only at l17_m
    clear hb k16_a0 k16_a1 l16_a k16_b0 k16_b1 l16_b k16_q0 k16_q1 l16_q k16_r0 k16_r1 l16_r k16_m0 k16_m1 l16_m W16
    go_wp2_with fail
    refine (sameErr_yes (ErrNo.no 1) _ (hT.below (by repeat (first | exact W17.out | refine blw_drewN ?_ _ | refine Below.setCell ?_ (by first | (simp; done) | omega | (simp; omega)) _ | refine Below.alloc ?_ (by first | (simp; done) | omega | (simp; omega)) _))).h).mono ?_
    rintro e w18 ⟨rfl, hb⟩
    have W18 := Lib.hid (blw_trans (show Below w.heap.size w _ by repeat (first | exact W17.out | refine blw_drewN ?_ _ | refine Below.setCell ?_ (by first | (simp; done) | omega | (simp; omega)) _ | refine Below.alloc ?_ (by first | (simp; done) | omega | (simp; omega)) _)) hb)
    have n18 := hb.size
    try simp at n18
    have k18_a0 := cell_keep (a := ⟨w.heap.size, 0, none⟩) (v := .int .i64 a) (by first | (go_keep; done) | (simp [go_sem, *]; done)) hb
    have k18_a1 := cell_keep (a := ⟨w.heap.size, 1, none⟩) (v := .int .i64 s) (by first | (go_keep; done) | (simp [go_sem, *]; done)) hb
    have l18_a := World.block_lt_of_cell? _ _ k18_a0
    try simp only at l18_a
    have k18_b0 := cell_keep (a := ⟨w.heap.size + 1, 0, none⟩) (v := .int .i64 b) (by first | (go_keep; done) | (simp [go_sem, *]; done)) hb
    have k18_b1 := cell_keep (a := ⟨w.heap.size + 1, 1, none⟩) (v := .int .i64 u) (by first | (go_keep; done) | (simp [go_sem, *]; done)) hb
    have l18_b := World.block_lt_of_cell? _ _ k18_b0
    try simp only at l18_b
    have k18_q0 := cell_keep (a := ⟨wh.heap.size, 0, none⟩) (v := .int .i64 r1) (by first | (go_keep; done) | (simp [go_sem, *]; done)) hb
    have k18_q1 := cell_keep (a := ⟨wh.heap.size, 1, none⟩) (v := .int .i64 sc) (by first | (go_keep; done) | (simp [go_sem, *]; done)) hb
    have l18_q := World.block_lt_of_cell? _ _ k18_q0
    try simp only at l18_q
    have k18_r0 := cell_keep (a := ⟨w14.heap.size, 0, none⟩) (v := .int .i64 r1) (by first | (go_keep; done) | (simp [go_sem, *]; done)) hb
    have k18_r1 := cell_keep (a := ⟨w14.heap.size, 1, none⟩) (v := .int .i64 sc) (by first | (go_keep; done) | (simp [go_sem, *]; done)) hb
    have l18_r := World.block_lt_of_cell? _ _ k18_r0
    try simp only at l18_r
    have k18_m0 := cell_keep (a := ⟨w15.heap.size, 0, none⟩) (v := .int .i64 0) (by first | (go_keep; done) | (simp [go_sem, *]; done)) hb
    have k18_m1 := cell_keep (a := ⟨w15.heap.size, 1, none⟩) (v := .int .i64 0) (by first | (go_keep; done) | (simp [go_sem, *]; done)) hb
    have l18_m := World.block_lt_of_cell? _ _ k18_m0
    try simp only at l18_m
    have k18_n0 := cell_keep (a := ⟨w17.heap.size, 0, none⟩) (v := .int .i64 0) (by first | (go_keep; done) | (simp [go_sem, *]; done)) hb
    have k18_n1 := cell_keep (a := ⟨w17.heap.size, 1, none⟩) (v := .int .i64 0) (by first | (go_keep; done) | (simp [go_sem, *]; done)) hb
    have l18_n := World.block_lt_of_cell? _ _ k18_n0
    try simp only at l18_n
    clear hb k17_a0 k17_a1 l17_a k17_b0 k17_b1 l17_b k17_q0 k17_q1 l17_q k17_r0 k17_r1 l17_r k17_m0 k17_m1 l17_m W17
    go_wp2_with fail
    go_ret
    exact ⟨ret_bool (by first | rfl | (simp; done)), by repeat (first | exact W18.out | refine blw_drewN ?_ _ | refine Below.setCell ?_ (by first | (simp; done) | omega | (simp; omega)) _ | refine Below.alloc ?_ (by first | (simp; done) | omega | (simp; omega)) _)⟩

set_option maxRecDepth 100000 in
set_option maxHeartbeats 2000000 in
theorem dt_full_full (a s b u sc wy x1 x2 : Int) (t : List UInt8) (is : Bool) (ev : Value) (lb sb : Bool) (o : Int) (X : List UInt8) (w : World) (hT : TM w)
    (CF : Hid (∀ w : World, Calls Tryz.prog 5 #[.agg #[.int .i64 a, .int .i64 s]] w fun e w' => e = .returned (.bool false) ∧ Below w.heap.size w w'))
    (CK : Hid (∀ w : World, Calls Tryz.prog 7 #[.agg #[.int .i64 a, .int .i64 s]] w fun e w' => e = .returned (.nilIface) ∧ Below w.heap.size w w'))
    (CO : Hid (∀ w : World, Calls Tryz.prog 8 #[.string ⟨t.toArray⟩] w fun e w' => e = .returned (.tuple #[.agg #[.int .i64 x1, .int .i64 x2], .bool is]) ∧ Below w.heap.size w w'))
    (CP : Hid (∀ w : World, TM w → Calls Tryz.prog 9 #[.string ⟨t.toArray⟩] w fun e w' => e = .returned (.tuple #[.agg #[.int .i64 x1, .int .i64 x2], ev]) ∧ Below w.heap.size w w'))
    (hev : ErrNo ev (isE is))
    (CG : Hid (∀ w : World, Calls Tryz.prog 5 #[.agg #[.int .i64 b, .int .i64 u]] w fun e w' => e = .returned (.bool false) ∧ Below w.heap.size w w'))
    (CL : Hid (∀ w : World, Calls Tryz.prog 10 #[.agg #[.int .i64 a, .int .i64 s], .agg #[.int .i64 b, .int .i64 u]] w fun e w' => e = .returned (.bool lb) ∧ Below w.heap.size w w'))
    (CS : Hid (∀ w : World, Calls Tryz.prog 12 #[.agg #[.int .i64 a, .int .i64 s], .agg #[.int .i64 b, .int .i64 u]] w fun e w' => e = .returned (.bool sb) ∧ Below w.heap.size w w'))
    (CR : Hid (∀ w : World, Calls Tryz.prog 11 #[.agg #[.int .i64 a, .int .i64 s], .agg #[.int .i64 b, .int .i64 u]] w fun e w' => e = .returned (.int .i64 o) ∧ Below w.heap.size w w'))
    (hlb : decide (o < 0) = lb) (hsb : (o == 0) = sb)
    (CX : Hid (∀ w : World, TM w → Calls Tryz.prog 13 #[.agg #[.int .i64 a, .int .i64 s]] w fun e w' => e = .returned (.string ⟨X.toArray⟩) ∧ Below w.heap.size w w'))
    (CY : Hid (∀ w : World, Calls Tryz.prog 14 #[.agg #[.int .i64 a, .int .i64 s]] w fun e w' => e = .returned (.string ⟨X.toArray⟩) ∧ Below w.heap.size w w'))
    (CU : Hid (∀ w : World, Calls Tryz.prog 15 #[.agg #[.int .i64 a, .int .i64 s], .int .i64 sc, .int .i64 wy] w fun e w' => e = .returned (.tuple #[.agg #[.int .i64 0, .int .i64 0], .bool false]) ∧ Below w.heap.size w w'))
    (CV : Hid (∀ w : World, Calls Tryz.prog 16 #[.agg #[.int .i64 a, .int .i64 s], .int .i64 sc, .int .i64 wy] w fun e w' => e = .returned (.tuple #[.agg #[.int .i64 0, .int .i64 0], errV 1]) ∧ Below w.heap.size w w'))
    (CQ : Hid (∀ w : World, Calls Tryz.prog 17 #[.agg #[.int .i64 a, .int .i64 s], .agg #[.int .i64 b, .int .i64 u]] w fun e w' => e = .returned (.tuple #[.agg #[.int .i64 0, .int .i64 0], .bool false]) ∧ Below w.heap.size w w'))
    (CA : Hid (∀ w : World, Calls Tryz.prog 18 #[.agg #[.int .i64 a, .int .i64 s], .agg #[.int .i64 b, .int .i64 u]] w fun e w' => e = .returned (.tuple #[.agg #[.int .i64 0, .int .i64 0], errV 1]) ∧ Below w.heap.size w w'))
    (hs0 : 0 ≤ sc) (hs9 : sc ≤ 9) (hw1 : 1 ≤ wy) (hw5 : wy ≤ 5) :
    Calls Tryz.prog 3 #[.agg #[.int .i64 a, .int .i64 s], .agg #[.int .i64 b, .int .i64 u], .string ⟨t.toArray⟩, .int .i64 sc, .int .i64 wy] w fun e w' => e = .returned (.bool true) ∧ Below w.heap.size w w' := by
  have e1 : decide (sc < 0) = false := dec_no (by omega)
  have e2 : decide (9 < sc) = false := dec_no (by omega)
  have e3 : decide (wy < 1) = false := dec_no (by omega)
  have e4 : decide (5 < wy) = false := dec_no (by omega)
  have xx : (X != X) = false := by simp
  cases is
  all_goals
    unfold isE at hev
    go_enter Tryz.func3, Tryz.ntmps3
    go_wp2_with fail
    refine (half_any _).mono ?_
    rintro e w1 ⟨rfl, hb⟩
    have W1 := Lib.hid (blw_trans (show Below w.heap.size w _ by repeat (first | exact (Below.refl _ _) | refine blw_drewN ?_ _ | refine Below.setCell ?_ (by first | (simp; done) | omega | (simp; omega)) _ | refine Below.alloc ?_ (by first | (simp; done) | omega | (simp; omega)) _)) hb)
    have n1 := hb.size
    try simp at n1
    have k1_a0 := cell_keep (a := ⟨w.heap.size, 0, none⟩) (v := .int .i64 a) (by first | (go_keep; done) | (simp [go_sem, *]; done) | (simp (config := { maxDischargeDepth := 10 }) [go_sem, *]; done)) hb
    have k1_a1 := cell_keep (a := ⟨w.heap.size, 1, none⟩) (v := .int .i64 s) (by first | (go_keep; done) | (simp [go_sem, *]; done) | (simp (config := { maxDischargeDepth := 10 }) [go_sem, *]; done)) hb
    have l1_a := World.block_lt_of_cell? _ _ k1_a0
    try simp only at l1_a
    have k1_b0 := cell_keep (a := ⟨w.heap.size + 1, 0, none⟩) (v := .int .i64 b) (by first | (go_keep; done) | (simp [go_sem, *]; done) | (simp (config := { maxDischargeDepth := 10 }) [go_sem, *]; done)) hb
    have k1_b1 := cell_keep (a := ⟨w.heap.size + 1, 1, none⟩) (v := .int .i64 u) (by first | (go_keep; done) | (simp [go_sem, *]; done) | (simp (config := { maxDischargeDepth := 10 }) [go_sem, *]; done)) hb
    have l1_b := World.block_lt_of_cell? _ _ k1_b0
    try simp only at l1_b
    clear hb
    go_wp2_with fail
    refine (CF.out _).mono ?_
    rintro e w2 ⟨rfl, hb⟩
    have W2 := Lib.hid (blw_trans (show Below w.heap.size w _ by repeat (first | exact W1.out | refine blw_drewN ?_ _ | refine Below.setCell ?_ (by first | (simp; done) | omega | (simp; omega)) _ | refine Below.alloc ?_ (by first | (simp; done) | omega | (simp; omega)) _)) hb)
    have n2 := hb.size
    try simp at n2
    have k2_a0 := cell_keep (a := ⟨w.heap.size, 0, none⟩) (v := .int .i64 a) (by first | (go_keep; done) | (simp [go_sem, *]; done) | (simp (config := { maxDischargeDepth := 10 }) [go_sem, *]; done)) hb
    have k2_a1 := cell_keep (a := ⟨w.heap.size, 1, none⟩) (v := .int .i64 s) (by first | (go_keep; done) | (simp [go_sem, *]; done) | (simp (config := { maxDischargeDepth := 10 }) [go_sem, *]; done)) hb
    have l2_a := World.block_lt_of_cell? _ _ k2_a0
    try simp only at l2_a
    have k2_b0 := cell_keep (a := ⟨w.heap.size + 1, 0, none⟩) (v := .int .i64 b) (by first | (go_keep; done) | (simp [go_sem, *]; done) | (simp (config := { maxDischargeDepth := 10 }) [go_sem, *]; done)) hb
    have k2_b1 := cell_keep (a := ⟨w.heap.size + 1, 1, none⟩) (v := .int .i64 u) (by first | (go_keep; done) | (simp [go_sem, *]; done) | (simp (config := { maxDischargeDepth := 10 }) [go_sem, *]; done)) hb
    have l2_b := World.block_lt_of_cell? _ _ k2_b0
    try simp only at l2_b
    clear hb k1_a0 k1_a1 l1_a k1_b0 k1_b1 l1_b W1
    go_wp2_with fail
    refine (CK.out _).mono ?_
    rintro e w3 ⟨rfl, hb⟩
    have W3 := Lib.hid (blw_trans (show Below w.heap.size w _ by repeat (first | exact W2.out | refine blw_drewN ?_ _ | refine Below.setCell ?_ (by first | (simp; done) | omega | (simp; omega)) _ | refine Below.alloc ?_ (by first | (simp; done) | omega | (simp; omega)) _)) hb)
    have n3 := hb.size
    try simp at n3
    have k3_a0 := cell_keep (a := ⟨w.heap.size, 0, none⟩) (v := .int .i64 a) (by first | (go_keep; done) | (simp [go_sem, *]; done) | (simp (config := { maxDischargeDepth := 10 }) [go_sem, *]; done)) hb
    have k3_a1 := cell_keep (a := ⟨w.heap.size, 1, none⟩) (v := .int .i64 s) (by first | (go_keep; done) | (simp [go_sem, *]; done) | (simp (config := { maxDischargeDepth := 10 }) [go_sem, *]; done)) hb
    have l3_a := World.block_lt_of_cell? _ _ k3_a0
    try simp only at l3_a
    have k3_b0 := cell_keep (a := ⟨w.heap.size + 1, 0, none⟩) (v := .int .i64 b) (by first | (go_keep; done) | (simp [go_sem, *]; done) | (simp (config := { maxDischargeDepth := 10 }) [go_sem, *]; done)) hb
    have k3_b1 := cell_keep (a := ⟨w.heap.size + 1, 1, none⟩) (v := .int .i64 u) (by first | (go_keep; done) | (simp [go_sem, *]; done) | (simp (config := { maxDischargeDepth := 10 }) [go_sem, *]; done)) hb
    have l3_b := World.block_lt_of_cell? _ _ k3_b0
    try simp only at l3_b
    clear hb k2_a0 k2_a1 l2_a k2_b0 k2_b1 l2_b W2
    go_wp2_with fail
    refine (sameErr_yes (ErrNo.nil) _ (hT.below (by repeat (first | exact W3.out | refine blw_drewN ?_ _ | refine Below.setCell ?_ (by first | (simp; done) | omega | (simp; omega)) _ | refine Below.alloc ?_ (by first | (simp; done) | omega | (simp; omega)) _))).h).mono ?_
    rintro e w4 ⟨rfl, hb⟩
    have W4 := Lib.hid (blw_trans (show Below w.heap.size w _ by repeat (first | exact W3.out | refine blw_drewN ?_ _ | refine Below.setCell ?_ (by first | (simp; done) | omega | (simp; omega)) _ | refine Below.alloc ?_ (by first | (simp; done) | omega | (simp; omega)) _)) hb)
    have n4 := hb.size
    try simp at n4
    have k4_a0 := cell_keep (a := ⟨w.heap.size, 0, none⟩) (v := .int .i64 a) (by first | (go_keep; done) | (simp [go_sem, *]; done) | (simp (config := { maxDischargeDepth := 10 }) [go_sem, *]; done)) hb
    have k4_a1 := cell_keep (a := ⟨w.heap.size, 1, none⟩) (v := .int .i64 s) (by first | (go_keep; done) | (simp [go_sem, *]; done) | (simp (config := { maxDischargeDepth := 10 }) [go_sem, *]; done)) hb
    have l4_a := World.block_lt_of_cell? _ _ k4_a0
    try simp only at l4_a
    have k4_b0 := cell_keep (a := ⟨w.heap.size + 1, 0, none⟩) (v := .int .i64 b) (by first | (go_keep; done) | (simp [go_sem, *]; done) | (simp (config := { maxDischargeDepth := 10 }) [go_sem, *]; done)) hb
    have k4_b1 := cell_keep (a := ⟨w.heap.size + 1, 1, none⟩) (v := .int .i64 u) (by first | (go_keep; done) | (simp [go_sem, *]; done) | (simp (config := { maxDischargeDepth := 10 }) [go_sem, *]; done)) hb
    have l4_b := World.block_lt_of_cell? _ _ k4_b0
    try simp only at l4_b
    clear hb k3_a0 k3_a1 l3_a k3_b0 k3_b1 l3_b W3
    go_wp2_with fail
    refine (CO.out _).mono ?_
    rintro e w5 ⟨rfl, hb⟩
    have W5 := Lib.hid (blw_trans (show Below w.heap.size w _ by repeat (first | exact W4.out | refine blw_drewN ?_ _ | refine Below.setCell ?_ (by first | (simp; done) | omega | (simp; omega)) _ | refine Below.alloc ?_ (by first | (simp; done) | omega | (simp; omega)) _)) hb)
    have n5 := hb.size
    try simp at n5
    have k5_a0 := cell_keep (a := ⟨w.heap.size, 0, none⟩) (v := .int .i64 a) (by first | (go_keep; done) | (simp [go_sem, *]; done) | (simp (config := { maxDischargeDepth := 10 }) [go_sem, *]; done)) hb
    have k5_a1 := cell_keep (a := ⟨w.heap.size, 1, none⟩) (v := .int .i64 s) (by first | (go_keep; done) | (simp [go_sem, *]; done) | (simp (config := { maxDischargeDepth := 10 }) [go_sem, *]; done)) hb
    have l5_a := World.block_lt_of_cell? _ _ k5_a0
    try simp only at l5_a
    have k5_b0 := cell_keep (a := ⟨w.heap.size + 1, 0, none⟩) (v := .int .i64 b) (by first | (go_keep; done) | (simp [go_sem, *]; done) | (simp (config := { maxDischargeDepth := 10 }) [go_sem, *]; done)) hb
    have k5_b1 := cell_keep (a := ⟨w.heap.size + 1, 1, none⟩) (v := .int .i64 u) (by first | (go_keep; done) | (simp [go_sem, *]; done) | (simp (config := { maxDischargeDepth := 10 }) [go_sem, *]; done)) hb
    have l5_b := World.block_lt_of_cell? _ _ k5_b0
    try simp only at l5_b
    clear hb k4_a0 k4_a1 l4_a k4_b0 k4_b1 l4_b W4
    go_wp2_with fail
    refine (CP.out _ (hT.below (by repeat (first | exact W5.out | refine blw_drewN ?_ _ | refine Below.setCell ?_ (by first | (simp; done) | omega | (simp; omega)) _ | refine Below.alloc ?_ (by first | (simp; done) | omega | (simp; omega)) _)))).mono ?_
    rintro e w6 ⟨rfl, hb⟩
    have W6 := Lib.hid (blw_trans (show Below w.heap.size w _ by repeat (first | exact W5.out | refine blw_drewN ?_ _ | refine Below.setCell ?_ (by first | (simp; done) | omega | (simp; omega)) _ | refine Below.alloc ?_ (by first | (simp; done) | omega | (simp; omega)) _)) hb)
    have n6 := hb.size
    try simp at n6
    have k6_a0 := cell_keep (a := ⟨w.heap.size, 0, none⟩) (v := .int .i64 a) (by first | (go_keep; done) | (simp [go_sem, *]; done) | (simp (config := { maxDischargeDepth := 10 }) [go_sem, *]; done)) hb
    have k6_a1 := cell_keep (a := ⟨w.heap.size, 1, none⟩) (v := .int .i64 s) (by first | (go_keep; done) | (simp [go_sem, *]; done) | (simp (config := { maxDischargeDepth := 10 }) [go_sem, *]; done)) hb
    have l6_a := World.block_lt_of_cell? _ _ k6_a0
    try simp only at l6_a
    have k6_b0 := cell_keep (a := ⟨w.heap.size + 1, 0, none⟩) (v := .int .i64 b) (by first | (go_keep; done) | (simp [go_sem, *]; done) | (simp (config := { maxDischargeDepth := 10 }) [go_sem, *]; done)) hb
    have k6_b1 := cell_keep (a := ⟨w.heap.size + 1, 1, none⟩) (v := .int .i64 u) (by first | (go_keep; done) | (simp [go_sem, *]; done) | (simp (config := { maxDischargeDepth := 10 }) [go_sem, *]; done)) hb
    have l6_b := World.block_lt_of_cell? _ _ k6_b0
    try simp only at l6_b
    have k6_x0 := cell_keep (a := ⟨w5.heap.size, 0, none⟩) (v := .int .i64 x1) (by first | (go_keep; done) | (simp [go_sem, *]; done) | (simp (config := { maxDischargeDepth := 10 }) [go_sem, *]; done)) hb
    have k6_x1 := cell_keep (a := ⟨w5.heap.size, 1, none⟩) (v := .int .i64 x2) (by first | (go_keep; done) | (simp [go_sem, *]; done) | (simp (config := { maxDischargeDepth := 10 }) [go_sem, *]; done)) hb
    have l6_x := World.block_lt_of_cell? _ _ k6_x0
    try simp only at l6_x
    clear hb k5_a0 k5_a1 l5_a k5_b0 k5_b1 l5_b W5
    go_wp2_with fail
    refine (sameErr_yes hev _ (hT.below (by repeat (first | exact W6.out | refine blw_drewN ?_ _ | refine Below.setCell ?_ (by first | (simp; done) | omega | (simp; omega)) _ | refine Below.alloc ?_ (by first | (simp; done) | omega | (simp; omega)) _))).h).mono ?_
    rintro e w7 ⟨rfl, hb⟩
    have W7 := Lib.hid (blw_trans (show Below w.heap.size w _ by repeat (first | exact W6.out | refine blw_drewN ?_ _ | refine Below.setCell ?_ (by first | (simp; done) | omega | (simp; omega)) _ | refine Below.alloc ?_ (by first | (simp; done) | omega | (simp; omega)) _)) hb)
    have n7 := hb.size
    try simp at n7
    have k7_a0 := cell_keep (a := ⟨w.heap.size, 0, none⟩) (v := .int .i64 a) (by first | (go_keep; done) | (simp [go_sem, *]; done) | (simp (config := { maxDischargeDepth := 10 }) [go_sem, *]; done)) hb
    have k7_a1 := cell_keep (a := ⟨w.heap.size, 1, none⟩) (v := .int .i64 s) (by first | (go_keep; done) | (simp [go_sem, *]; done) | (simp (config := { maxDischargeDepth := 10 }) [go_sem, *]; done)) hb
    have l7_a := World.block_lt_of_cell? _ _ k7_a0
    try simp only at l7_a
    have k7_b0 := cell_keep (a := ⟨w.heap.size + 1, 0, none⟩) (v := .int .i64 b) (by first | (go_keep; done) | (simp [go_sem, *]; done) | (simp (config := { maxDischargeDepth := 10 }) [go_sem, *]; done)) hb
    have k7_b1 := cell_keep (a := ⟨w.heap.size + 1, 1, none⟩) (v := .int .i64 u) (by first | (go_keep; done) | (simp [go_sem, *]; done) | (simp (config := { maxDischargeDepth := 10 }) [go_sem, *]; done)) hb
    have l7_b := World.block_lt_of_cell? _ _ k7_b0
    try simp only at l7_b
    have k7_x0 := cell_keep (a := ⟨w5.heap.size, 0, none⟩) (v := .int .i64 x1) (by first | (go_keep; done) | (simp [go_sem, *]; done) | (simp (config := { maxDischargeDepth := 10 }) [go_sem, *]; done)) hb
    have k7_x1 := cell_keep (a := ⟨w5.heap.size, 1, none⟩) (v := .int .i64 x2) (by first | (go_keep; done) | (simp [go_sem, *]; done) | (simp (config := { maxDischargeDepth := 10 }) [go_sem, *]; done)) hb
    have l7_x := World.block_lt_of_cell? _ _ k7_x0
    try simp only at l7_x
    have k7_y0 := cell_keep (a := ⟨w6.heap.size, 0, none⟩) (v := .int .i64 x1) (by first | (go_keep; done) | (simp [go_sem, *]; done) | (simp (config := { maxDischargeDepth := 10 }) [go_sem, *]; done)) hb
    have k7_y1 := cell_keep (a := ⟨w6.heap.size, 1, none⟩) (v := .int .i64 x2) (by first | (go_keep; done) | (simp [go_sem, *]; done) | (simp (config := { maxDischargeDepth := 10 }) [go_sem, *]; done)) hb
    have l7_y := World.block_lt_of_cell? _ _ k7_y0
    try simp only at l7_y
    clear hb k6_a0 k6_a1 l6_a k6_b0 k6_b1 l6_b k6_x0 k6_x1 l6_x W6
    go_wp2_with fail
    refine (CG.out _).mono ?_
    rintro e w8 ⟨rfl, hb⟩
    have W8 := Lib.hid (blw_trans (show Below w.heap.size w _ by repeat (first | exact W7.out | refine blw_drewN ?_ _ | refine Below.setCell ?_ (by first | (simp; done) | omega | (simp; omega)) _ | refine Below.alloc ?_ (by first | (simp; done) | omega | (simp; omega)) _)) hb)
    have n8 := hb.size
    try simp at n8
    have k8_a0 := cell_keep (a := ⟨w.heap.size, 0, none⟩) (v := .int .i64 a) (by first | (go_keep; done) | (simp [go_sem, *]; done) | (simp (config := { maxDischargeDepth := 10 }) [go_sem, *]; done)) hb
    have k8_a1 := cell_keep (a := ⟨w.heap.size, 1, none⟩) (v := .int .i64 s) (by first | (go_keep; done) | (simp [go_sem, *]; done) | (simp (config := { maxDischargeDepth := 10 }) [go_sem, *]; done)) hb
    have l8_a := World.block_lt_of_cell? _ _ k8_a0
    try simp only at l8_a
    have k8_b0 := cell_keep (a := ⟨w.heap.size + 1, 0, none⟩) (v := .int .i64 b) (by first | (go_keep; done) | (simp [go_sem, *]; done) | (simp (config := { maxDischargeDepth := 10 }) [go_sem, *]; done)) hb
    have k8_b1 := cell_keep (a := ⟨w.heap.size + 1, 1, none⟩) (v := .int .i64 u) (by first | (go_keep; done) | (simp [go_sem, *]; done) | (simp (config := { maxDischargeDepth := 10 }) [go_sem, *]; done)) hb
    have l8_b := World.block_lt_of_cell? _ _ k8_b0
    try simp only at l8_b
    have k8_x0 := cell_keep (a := ⟨w5.heap.size, 0, none⟩) (v := .int .i64 x1) (by first | (go_keep; done) | (simp [go_sem, *]; done) | (simp (config := { maxDischargeDepth := 10 }) [go_sem, *]; done)) hb
    have k8_x1 := cell_keep (a := ⟨w5.heap.size, 1, none⟩) (v := .int .i64 x2) (by first | (go_keep; done) | (simp [go_sem, *]; done) | (simp (config := { maxDischargeDepth := 10 }) [go_sem, *]; done)) hb
    have l8_x := World.block_lt_of_cell? _ _ k8_x0
    try simp only at l8_x
    have k8_y0 := cell_keep (a := ⟨w6.heap.size, 0, none⟩) (v := .int .i64 x1) (by first | (go_keep; done) | (simp [go_sem, *]; done) | (simp (config := { maxDischargeDepth := 10 }) [go_sem, *]; done)) hb
    have k8_y1 := cell_keep (a := ⟨w6.heap.size, 1, none⟩) (v := .int .i64 x2) (by first | (go_keep; done) | (simp [go_sem, *]; done) | (simp (config := { maxDischargeDepth := 10 }) [go_sem, *]; done)) hb
    have l8_y := World.block_lt_of_cell? _ _ k8_y0
    try simp only at l8_y
    clear hb k7_a0 k7_a1 l7_a k7_b0 k7_b1 l7_b k7_x0 k7_x1 l7_x k7_y0 k7_y1 l7_y W7
    go_wp2_with fail
    refine (CL.out _).mono ?_
    rintro e w9 ⟨rfl, hb⟩
    have W9 := Lib.hid (blw_trans (show Below w.heap.size w _ by repeat (first | exact W8.out | refine blw_drewN ?_ _ | refine Below.setCell ?_ (by first | (simp; done) | omega | (simp; omega)) _ | refine Below.alloc ?_ (by first | (simp; done) | omega | (simp; omega)) _)) hb)
    have n9 := hb.size
    try simp at n9
    have k9_a0 := cell_keep (a := ⟨w.heap.size, 0, none⟩) (v := .int .i64 a) (by first | (go_keep; done) | (simp [go_sem, *]; done) | (simp (config := { maxDischargeDepth := 10 }) [go_sem, *]; done)) hb
    have k9_a1 := cell_keep (a := ⟨w.heap.size, 1, none⟩) (v := .int .i64 s) (by first | (go_keep; done) | (simp [go_sem, *]; done) | (simp (config := { maxDischargeDepth := 10 }) [go_sem, *]; done)) hb
    have l9_a := World.block_lt_of_cell? _ _ k9_a0
    try simp only at l9_a
    have k9_b0 := cell_keep (a := ⟨w.heap.size + 1, 0, none⟩) (v := .int .i64 b) (by first | (go_keep; done) | (simp [go_sem, *]; done) | (simp (config := { maxDischargeDepth := 10 }) [go_sem, *]; done)) hb
    have k9_b1 := cell_keep (a := ⟨w.heap.size + 1, 1, none⟩) (v := .int .i64 u) (by first | (go_keep; done) | (simp [go_sem, *]; done) | (simp (config := { maxDischargeDepth := 10 }) [go_sem, *]; done)) hb
    have l9_b := World.block_lt_of_cell? _ _ k9_b0
    try simp only at l9_b
    have k9_x0 := cell_keep (a := ⟨w5.heap.size, 0, none⟩) (v := .int .i64 x1) (by first | (go_keep; done) | (simp [go_sem, *]; done) | (simp (config := { maxDischargeDepth := 10 }) [go_sem, *]; done)) hb
    have k9_x1 := cell_keep (a := ⟨w5.heap.size, 1, none⟩) (v := .int .i64 x2) (by first | (go_keep; done) | (simp [go_sem, *]; done) | (simp (config := { maxDischargeDepth := 10 }) [go_sem, *]; done)) hb
    have l9_x := World.block_lt_of_cell? _ _ k9_x0
    try simp only at l9_x
    have k9_y0 := cell_keep (a := ⟨w6.heap.size, 0, none⟩) (v := .int .i64 x1) (by first | (go_keep; done) | (simp [go_sem, *]; done) | (simp (config := { maxDischargeDepth := 10 }) [go_sem, *]; done)) hb
    have k9_y1 := cell_keep (a := ⟨w6.heap.size, 1, none⟩) (v := .int .i64 x2) (by first | (go_keep; done) | (simp [go_sem, *]; done) | (simp (config := { maxDischargeDepth := 10 }) [go_sem, *]; done)) hb
    have l9_y := World.block_lt_of_cell? _ _ k9_y0
    try simp only at l9_y
    clear hb k8_a0 k8_a1 l8_a k8_b0 k8_b1 l8_b k8_x0 k8_x1 l8_x k8_y0 k8_y1 l8_y W8
    go_wp2_with fail
    refine (CR.out _).mono ?_
    rintro e w10 ⟨rfl, hb⟩
    have W10 := Lib.hid (blw_trans (show Below w.heap.size w _ by repeat (first | exact W9.out | refine blw_drewN ?_ _ | refine Below.setCell ?_ (by first | (simp; done) | omega | (simp; omega)) _ | refine Below.alloc ?_ (by first | (simp; done) | omega | (simp; omega)) _)) hb)
    have n10 := hb.size
    try simp at n10
    have k10_a0 := cell_keep (a := ⟨w.heap.size, 0, none⟩) (v := .int .i64 a) (by first | (go_keep; done) | (simp [go_sem, *]; done) | (simp (config := { maxDischargeDepth := 10 }) [go_sem, *]; done)) hb
    have k10_a1 := cell_keep (a := ⟨w.heap.size, 1, none⟩) (v := .int .i64 s) (by first | (go_keep; done) | (simp [go_sem, *]; done) | (simp (config := { maxDischargeDepth := 10 }) [go_sem, *]; done)) hb
    have l10_a := World.block_lt_of_cell? _ _ k10_a0
    try simp only at l10_a
    have k10_b0 := cell_keep (a := ⟨w.heap.size + 1, 0, none⟩) (v := .int .i64 b) (by first | (go_keep; done) | (simp [go_sem, *]; done) | (simp (config := { maxDischargeDepth := 10 }) [go_sem, *]; done)) hb
    have k10_b1 := cell_keep (a := ⟨w.heap.size + 1, 1, none⟩) (v := .int .i64 u) (by first | (go_keep; done) | (simp [go_sem, *]; done) | (simp (config := { maxDischargeDepth := 10 }) [go_sem, *]; done)) hb
    have l10_b := World.block_lt_of_cell? _ _ k10_b0
    try simp only at l10_b
    have k10_x0 := cell_keep (a := ⟨w5.heap.size, 0, none⟩) (v := .int .i64 x1) (by first | (go_keep; done) | (simp [go_sem, *]; done) | (simp (config := { maxDischargeDepth := 10 }) [go_sem, *]; done)) hb
    have k10_x1 := cell_keep (a := ⟨w5.heap.size, 1, none⟩) (v := .int .i64 x2) (by first | (go_keep; done) | (simp [go_sem, *]; done) | (simp (config := { maxDischargeDepth := 10 }) [go_sem, *]; done)) hb
    have l10_x := World.block_lt_of_cell? _ _ k10_x0
    try simp only at l10_x
    have k10_y0 := cell_keep (a := ⟨w6.heap.size, 0, none⟩) (v := .int .i64 x1) (by first | (go_keep; done) | (simp [go_sem, *]; done) | (simp (config := { maxDischargeDepth := 10 }) [go_sem, *]; done)) hb
    have k10_y1 := cell_keep (a := ⟨w6.heap.size, 1, none⟩) (v := .int .i64 x2) (by first | (go_keep; done) | (simp [go_sem, *]; done) | (simp (config := { maxDischargeDepth := 10 }) [go_sem, *]; done)) hb
    have l10_y := World.block_lt_of_cell? _ _ k10_y0
    try simp only at l10_y
    clear hb k9_a0 k9_a1 l9_a k9_b0 k9_b1 l9_b k9_x0 k9_x1 l9_x k9_y0 k9_y1 l9_y W9
    go_wp2_with fail
    refine (CS.out _).mono ?_
    rintro e w11 ⟨rfl, hb⟩
    have W11 := Lib.hid (blw_trans (show Below w.heap.size w _ by repeat (first | exact W10.out | refine blw_drewN ?_ _ | refine Below.setCell ?_ (by first | (simp; done) | omega | (simp; omega)) _ | refine Below.alloc ?_ (by first | (simp; done) | omega | (simp; omega)) _)) hb)
    have n11 := hb.size
    try simp at n11
    have k11_a0 := cell_keep (a := ⟨w.heap.size, 0, none⟩) (v := .int .i64 a) (by first | (go_keep; done) | (simp [go_sem, *]; done) | (simp (config := { maxDischargeDepth := 10 }) [go_sem, *]; done)) hb
    have k11_a1 := cell_keep (a := ⟨w.heap.size, 1, none⟩) (v := .int .i64 s) (by first | (go_keep; done) | (simp [go_sem, *]; done) | (simp (config := { maxDischargeDepth := 10 }) [go_sem, *]; done)) hb
    have l11_a := World.block_lt_of_cell? _ _ k11_a0
    try simp only at l11_a
    have k11_b0 := cell_keep (a := ⟨w.heap.size + 1, 0, none⟩) (v := .int .i64 b) (by first | (go_keep; done) | (simp [go_sem, *]; done) | (simp (config := { maxDischargeDepth := 10 }) [go_sem, *]; done)) hb
    have k11_b1 := cell_keep (a := ⟨w.heap.size + 1, 1, none⟩) (v := .int .i64 u) (by first | (go_keep; done) | (simp [go_sem, *]; done) | (simp (config := { maxDischargeDepth := 10 }) [go_sem, *]; done)) hb
    have l11_b := World.block_lt_of_cell? _ _ k11_b0
    try simp only at l11_b
    have k11_x0 := cell_keep (a := ⟨w5.heap.size, 0, none⟩) (v := .int .i64 x1) (by first | (go_keep; done) | (simp [go_sem, *]; done) | (simp (config := { maxDischargeDepth := 10 }) [go_sem, *]; done)) hb
    have k11_x1 := cell_keep (a := ⟨w5.heap.size, 1, none⟩) (v := .int .i64 x2) (by first | (go_keep; done) | (simp [go_sem, *]; done) | (simp (config := { maxDischargeDepth := 10 }) [go_sem, *]; done)) hb
    have l11_x := World.block_lt_of_cell? _ _ k11_x0
    try simp only at l11_x
    have k11_y0 := cell_keep (a := ⟨w6.heap.size, 0, none⟩) (v := .int .i64 x1) (by first | (go_keep; done) | (simp [go_sem, *]; done) | (simp (config := { maxDischargeDepth := 10 }) [go_sem, *]; done)) hb
    have k11_y1 := cell_keep (a := ⟨w6.heap.size, 1, none⟩) (v := .int .i64 x2) (by first | (go_keep; done) | (simp [go_sem, *]; done) | (simp (config := { maxDischargeDepth := 10 }) [go_sem, *]; done)) hb
    have l11_y := World.block_lt_of_cell? _ _ k11_y0
    try simp only at l11_y
    clear hb k10_a0 k10_a1 l10_a k10_b0 k10_b1 l10_b k10_x0 k10_x1 l10_x k10_y0 k10_y1 l10_y W10
    go_wp2_with fail
    refine (CR.out _).mono ?_
    rintro e w12 ⟨rfl, hb⟩
    have W12 := Lib.hid (blw_trans (show Below w.heap.size w _ by repeat (first | exact W11.out | refine blw_drewN ?_ _ | refine Below.setCell ?_ (by first | (simp; done) | omega | (simp; omega)) _ | refine Below.alloc ?_ (by first | (simp; done) | omega | (simp; omega)) _)) hb)
    have n12 := hb.size
    try simp at n12
    have k12_a0 := cell_keep (a := ⟨w.heap.size, 0, none⟩) (v := .int .i64 a) (by first | (go_keep; done) | (simp [go_sem, *]; done) | (simp (config := { maxDischargeDepth := 10 }) [go_sem, *]; done)) hb
    have k12_a1 := cell_keep (a := ⟨w.heap.size, 1, none⟩) (v := .int .i64 s) (by first | (go_keep; done) | (simp [go_sem, *]; done) | (simp (config := { maxDischargeDepth := 10 }) [go_sem, *]; done)) hb
    have l12_a := World.block_lt_of_cell? _ _ k12_a0
    try simp only at l12_a
    have k12_b0 := cell_keep (a := ⟨w.heap.size + 1, 0, none⟩) (v := .int .i64 b) (by first | (go_keep; done) | (simp [go_sem, *]; done) | (simp (config := { maxDischargeDepth := 10 }) [go_sem, *]; done)) hb
    have k12_b1 := cell_keep (a := ⟨w.heap.size + 1, 1, none⟩) (v := .int .i64 u) (by first | (go_keep; done) | (simp [go_sem, *]; done) | (simp (config := { maxDischargeDepth := 10 }) [go_sem, *]; done)) hb
    have l12_b := World.block_lt_of_cell? _ _ k12_b0
    try simp only at l12_b
    have k12_x0 := cell_keep (a := ⟨w5.heap.size, 0, none⟩) (v := .int .i64 x1) (by first | (go_keep; done) | (simp [go_sem, *]; done) | (simp (config := { maxDischargeDepth := 10 }) [go_sem, *]; done)) hb
    have k12_x1 := cell_keep (a := ⟨w5.heap.size, 1, none⟩) (v := .int .i64 x2) (by first | (go_keep; done) | (simp [go_sem, *]; done) | (simp (config := { maxDischargeDepth := 10 }) [go_sem, *]; done)) hb
    have l12_x := World.block_lt_of_cell? _ _ k12_x0
    try simp only at l12_x
    have k12_y0 := cell_keep (a := ⟨w6.heap.size, 0, none⟩) (v := .int .i64 x1) (by first | (go_keep; done) | (simp [go_sem, *]; done) | (simp (config := { maxDischargeDepth := 10 }) [go_sem, *]; done)) hb
    have k12_y1 := cell_keep (a := ⟨w6.heap.size, 1, none⟩) (v := .int .i64 x2) (by first | (go_keep; done) | (simp [go_sem, *]; done) | (simp (config := { maxDischargeDepth := 10 }) [go_sem, *]; done)) hb
    have l12_y := World.block_lt_of_cell? _ _ k12_y0
    try simp only at l12_y
    clear hb k11_a0 k11_a1 l11_a k11_b0 k11_b1 l11_b k11_x0 k11_x1 l11_x k11_y0 k11_y1 l11_y W11
    go_wp2_with fail
  focus
    refine wp_region_held_drew (S := fun w' => w'.cell? ⟨w.heap.size, 0, none⟩ = some (.int .i64 a) ∧ w'.cell? ⟨w.heap.size, 1, none⟩ = some (.int .i64 s) ∧ w'.cell? ⟨w.heap.size + 1, 0, none⟩ = some (.int .i64 b) ∧ w'.cell? ⟨w.heap.size + 1, 1, none⟩ = some (.int .i64 u) ∧ Hid (Below w.heap.size w w')) (by kernel_rfl) (by exact ⟨by simpa using k12_a0, by simpa using k12_a1, by simpa using k12_b0, by simpa using k12_b1, Lib.hid (blw_drewN W12.out 1)⟩) (fun hHeld => ?_)
    refine take_run (d := (some 103)) (v := ?v163) 0 rfl rfl (by kernel_rfl) (by kernel_rfl) (by kernel_rfl) (fun _ _ _ h => h) (by rfl) hHeld ?hy163 ?rs163
    case hy163 => (intro w hSw; (try dsimp only at hSw); go_simp) <;> (try with_reducible rfl)
    (try simp only [Act.put, List.setIfInBounds_toArray, List.set_cons_zero, List.set_cons_succ])
    refine take_run (d := (some 104)) (v := ?v164) 1 rfl rfl (by kernel_rfl) (by kernel_rfl) (by kernel_rfl) (fun _ _ _ h => h) (by rfl) hHeld ?hy164 ?rs164
    case hy164 => (intro w hSw; (try dsimp only at hSw); go_simp) <;> (try with_reducible rfl)
    (try simp only [Act.put, List.setIfInBounds_toArray, List.set_cons_zero, List.set_cons_succ])
    refine take_run (d := (some 105)) (v := ?v165) 2 rfl rfl (by kernel_rfl) (by kernel_rfl) (by kernel_rfl) (fun _ _ _ h => h) (by rfl) hHeld ?hy165 ?rs165
    case hy165 => (intro w hSw; (try dsimp only at hSw); go_simp) <;> (try with_reducible rfl)
    (try simp only [Act.put, List.setIfInBounds_toArray, List.set_cons_zero, List.set_cons_succ])
    refine take_run (d := (some 106)) (v := ?v166) 3 rfl rfl (by kernel_rfl) (by kernel_rfl) (by kernel_rfl) (fun _ _ _ h => h) (by rfl) hHeld ?hy166 ?rs166
    case hy166 => (intro w hSw; (try dsimp only at hSw); go_simp) <;> (try with_reducible rfl)
    (try simp only [Act.put, List.setIfInBounds_toArray, List.set_cons_zero, List.set_cons_succ])
    refine take_run (d := (some 108)) (v := ?v167) 5 rfl rfl (by kernel_rfl) (by kernel_rfl) (by kernel_rfl) (fun _ _ _ h => h) (by rfl) hHeld ?hy167 ?rs167
    case hy167 => (intro w hSw; (try dsimp only at hSw); go_simp) <;> (try with_reducible rfl)
    (try simp only [Act.put, List.setIfInBounds_toArray, List.set_cons_zero, List.set_cons_succ])
    refine take_call 4 rfl (by kernel_rfl) (by rfl) (fun K hK => ?_)
    go_simp
    refine (CX.out _ (hT.below hHeld.2.2.2.2.out)).mono ?_
    rintro e w' ⟨rfl, hb⟩
    refine hK.out _ _ (by obtain ⟨h0, h1, h2, h3, hw⟩ := hHeld; exact ⟨cell_keep h0 hb, cell_keep h1 hb, cell_keep h2 hb, cell_keep h3 hb, Lib.hid (blw_trans hw.out hb)⟩) (fun hHeld => ?_)
    clear hK K
    (try simp only [Act.put, List.setIfInBounds_toArray, List.set_cons_zero, List.set_cons_succ])
    refine take_call 6 rfl (by kernel_rfl) (by rfl) (fun K hK => ?_)
    go_simp
    refine (CY.out _).mono ?_
    rintro e w' ⟨rfl, hb⟩
    refine hK.out _ _ (by obtain ⟨h0, h1, h2, h3, hw⟩ := hHeld; exact ⟨cell_keep h0 hb, cell_keep h1 hb, cell_keep h2 hb, cell_keep h3 hb, Lib.hid (blw_trans hw.out hb)⟩) (fun hHeld => ?_)
    clear hK K
    (try simp only [Act.put, List.setIfInBounds_toArray, List.set_cons_zero, List.set_cons_succ])
    refine take_run (d := (some 110)) (v := ?v170) 7 rfl rfl (by kernel_rfl) (by kernel_rfl) (by kernel_rfl) (fun _ _ _ h => h) (by rfl) hHeld ?hy170 ?rs170
    case hy170 => (intro w hSw; (try dsimp only at hSw); go_simp) <;> (try with_reducible rfl)
    (try simp only [Act.put, List.setIfInBounds_toArray, List.set_cons_zero, List.set_cons_succ])
    refine take_run (d := (some 111)) (v := ?v171) 8 rfl rfl (by kernel_rfl) (by kernel_rfl) (by kernel_rfl) (fun _ _ _ h => h) (by rfl) hHeld ?hy171 ?rs171
    case hy171 => (intro w hSw; (try dsimp only at hSw); go_simp) <;> (try with_reducible rfl)
    (try simp only [Act.put, List.setIfInBounds_toArray, List.set_cons_zero, List.set_cons_succ])
    refine wpAnyH_done (by kernel_rfl) ?_ _
    obtain ⟨z0, z1, z2, z3, zW⟩ := hHeld
  rotate_left
  focus
    refine wp_region_held_drew (S := fun w' => w'.cell? ⟨w.heap.size, 0, none⟩ = some (.int .i64 a) ∧ w'.cell? ⟨w.heap.size, 1, none⟩ = some (.int .i64 s) ∧ w'.cell? ⟨w.heap.size + 1, 0, none⟩ = some (.int .i64 b) ∧ w'.cell? ⟨w.heap.size + 1, 1, none⟩ = some (.int .i64 u) ∧ Hid (Below w.heap.size w w')) (by kernel_rfl) (by exact ⟨by simpa using k12_a0, by simpa using k12_a1, by simpa using k12_b0, by simpa using k12_b1, Lib.hid (blw_drewN W12.out 1)⟩) (fun hHeld => ?_)
    refine take_run (d := (some 103)) (v := ?v172) 0 rfl rfl (by kernel_rfl) (by kernel_rfl) (by kernel_rfl) (fun _ _ _ h => h) (by rfl) hHeld ?hy172 ?rs172
    case hy172 => (intro w hSw; (try dsimp only at hSw); go_simp) <;> (try with_reducible rfl)
    (try simp only [Act.put, List.setIfInBounds_toArray, List.set_cons_zero, List.set_cons_succ])
    refine take_run (d := (some 104)) (v := ?v173) 1 rfl rfl (by kernel_rfl) (by kernel_rfl) (by kernel_rfl) (fun _ _ _ h => h) (by rfl) hHeld ?hy173 ?rs173
    case hy173 => (intro w hSw; (try dsimp only at hSw); go_simp) <;> (try with_reducible rfl)
    (try simp only [Act.put, List.setIfInBounds_toArray, List.set_cons_zero, List.set_cons_succ])
    refine take_run (d := (some 105)) (v := ?v174) 2 rfl rfl (by kernel_rfl) (by kernel_rfl) (by kernel_rfl) (fun _ _ _ h => h) (by rfl) hHeld ?hy174 ?rs174
    case hy174 => (intro w hSw; (try dsimp only at hSw); go_simp) <;> (try with_reducible rfl)
    (try simp only [Act.put, List.setIfInBounds_toArray, List.set_cons_zero, List.set_cons_succ])
    refine take_run (d := (some 106)) (v := ?v175) 3 rfl rfl (by kernel_rfl) (by kernel_rfl) (by kernel_rfl) (fun _ _ _ h => h) (by rfl) hHeld ?hy175 ?rs175
    case hy175 => (intro w hSw; (try dsimp only at hSw); go_simp) <;> (try with_reducible rfl)
    (try simp only [Act.put, List.setIfInBounds_toArray, List.set_cons_zero, List.set_cons_succ])
    refine take_run (d := (some 108)) (v := ?v176) 5 rfl rfl (by kernel_rfl) (by kernel_rfl) (by kernel_rfl) (fun _ _ _ h => h) (by rfl) hHeld ?hy176 ?rs176
    case hy176 => (intro w hSw; (try dsimp only at hSw); go_simp) <;> (try with_reducible rfl)
    (try simp only [Act.put, List.setIfInBounds_toArray, List.set_cons_zero, List.set_cons_succ])
    refine take_call 4 rfl (by kernel_rfl) (by rfl) (fun K hK => ?_)
    go_simp
    refine (CX.out _ (hT.below hHeld.2.2.2.2.out)).mono ?_
    rintro e w' ⟨rfl, hb⟩
    refine hK.out _ _ (by obtain ⟨h0, h1, h2, h3, hw⟩ := hHeld; exact ⟨cell_keep h0 hb, cell_keep h1 hb, cell_keep h2 hb, cell_keep h3 hb, Lib.hid (blw_trans hw.out hb)⟩) (fun hHeld => ?_)
    clear hK K
    (try simp only [Act.put, List.setIfInBounds_toArray, List.set_cons_zero, List.set_cons_succ])
    refine take_call 6 rfl (by kernel_rfl) (by rfl) (fun K hK => ?_)
    go_simp
    refine (CY.out _).mono ?_
    rintro e w' ⟨rfl, hb⟩
    refine hK.out _ _ (by obtain ⟨h0, h1, h2, h3, hw⟩ := hHeld; exact ⟨cell_keep h0 hb, cell_keep h1 hb, cell_keep h2 hb, cell_keep h3 hb, Lib.hid (blw_trans hw.out hb)⟩) (fun hHeld => ?_)
    clear hK K
    (try simp only [Act.put, List.setIfInBounds_toArray, List.set_cons_zero, List.set_cons_succ])
    refine take_run (d := (some 110)) (v := ?v179) 7 rfl rfl (by kernel_rfl) (by kernel_rfl) (by kernel_rfl) (fun _ _ _ h => h) (by rfl) hHeld ?hy179 ?rs179
    case hy179 => (intro w hSw; (try dsimp only at hSw); go_simp) <;> (try with_reducible rfl)
    (try simp only [Act.put, List.setIfInBounds_toArray, List.set_cons_zero, List.set_cons_succ])
    refine take_run (d := (some 111)) (v := ?v180) 8 rfl rfl (by kernel_rfl) (by kernel_rfl) (by kernel_rfl) (fun _ _ _ h => h) (by rfl) hHeld ?hy180 ?rs180
    case hy180 => (intro w hSw; (try dsimp only at hSw); go_simp) <;> (try with_reducible rfl)
    (try simp only [Act.put, List.setIfInBounds_toArray, List.set_cons_zero, List.set_cons_succ])
    refine wpAnyH_done (by kernel_rfl) ?_ _
    obtain ⟨z0, z1, z2, z3, zW⟩ := hHeld
  rotate_left
  all_goals
    clear k12_a0 k12_a1 l12_a k12_b0 k12_b1 l12_b k12_x0 k12_x1 l12_x k12_y0 k12_y1 l12_y W12
    obtain ⟨wh, hwh⟩ : ∃ wh, wh = w' := ⟨_, rfl⟩
    subst hwh
    have k12_a0 := z0
    have k12_a1 := z1
    have l12_a := World.block_lt_of_cell? _ _ k12_a0
    try simp only at l12_a
    have k12_b0 := z2
    have k12_b1 := z3
    have l12_b := World.block_lt_of_cell? _ _ k12_b0
    try simp only at l12_b
    clear z0 z1 z2 z3
    have ne1 : ¬ w.heap.size = wh.heap.size := by omega
    have me1 : ¬ wh.heap.size = w.heap.size := by omega
    have ne2 : ¬ w.heap.size + 1 = wh.heap.size := by omega
    have me2 : ¬ wh.heap.size = w.heap.size + 1 := by omega
    have leq : w.heap.size ≤ wh.heap.size := by omega
    go_wp2_with fail
    refine (CU.out _).mono ?_
    rintro e w13 ⟨rfl, hb⟩
    have W13 := Lib.hid (blw_trans (show Below w.heap.size w _ by repeat (first | exact zW.out | refine blw_drewN ?_ _ | refine Below.setCell ?_ (by first | (simp; done) | omega | (simp; omega)) _ | refine Below.alloc ?_ (by first | (simp; done) | omega | (simp; omega)) _)) hb)
    have n13 := hb.size
    try simp at n13
    have k13_a0 := cell_keep (a := ⟨w.heap.size, 0, none⟩) (v := .int .i64 a) (by first | (go_keep; done) | (simp [go_sem, *]; done) | (simp (config := { maxDischargeDepth := 10 }) [go_sem, *]; done)) hb
    have k13_a1 := cell_keep (a := ⟨w.heap.size, 1, none⟩) (v := .int .i64 s) (by first | (go_keep; done) | (simp [go_sem, *]; done) | (simp (config := { maxDischargeDepth := 10 }) [go_sem, *]; done)) hb
    have l13_a := World.block_lt_of_cell? _ _ k13_a0
    try simp only at l13_a
    have k13_b0 := cell_keep (a := ⟨w.heap.size + 1, 0, none⟩) (v := .int .i64 b) (by first | (go_keep; done) | (simp [go_sem, *]; done) | (simp (config := { maxDischargeDepth := 10 }) [go_sem, *]; done)) hb
    have k13_b1 := cell_keep (a := ⟨w.heap.size + 1, 1, none⟩) (v := .int .i64 u) (by first | (go_keep; done) | (simp [go_sem, *]; done) | (simp (config := { maxDischargeDepth := 10 }) [go_sem, *]; done)) hb
    have l13_b := World.block_lt_of_cell? _ _ k13_b0
    try simp only at l13_b
    have k13_q0 := cell_keep (a := ⟨wh.heap.size, 0, none⟩) (v := .int .i64 0) (by first | (go_keep; done) | (simp [go_sem, *]; done) | (simp (config := { maxDischargeDepth := 10 }) [go_sem, *]; done)) hb
    have f13_q0 := (hb.frozen (p := ⟨wh.heap.size, 0, none⟩) (by first | (simp; done) | omega | (simp; omega))).trans (show _ = false by first | (simp; done) | (simp [go_sem]; done))
    have k13_q1 := cell_keep (a := ⟨wh.heap.size, 1, none⟩) (v := .int .i64 0) (by first | (go_keep; done) | (simp [go_sem, *]; done) | (simp (config := { maxDischargeDepth := 10 }) [go_sem, *]; done)) hb
    have f13_q1 := (hb.frozen (p := ⟨wh.heap.size, 1, none⟩) (by first | (simp; done) | omega | (simp; omega))).trans (show _ = false by first | (simp; done) | (simp [go_sem]; done))
    have l13_q := World.block_lt_of_cell? _ _ k13_q0
    try simp only at l13_q
    clear hb k12_a0 k12_a1 k12_b0 k12_b1 l12_a l12_b zW
    go_wp2_with fail
    refine (CV.out _).mono ?_
    rintro e w14 ⟨rfl, hb⟩
    have W14 := Lib.hid (blw_trans (show Below w.heap.size w _ by repeat (first | exact W13.out | refine blw_drewN ?_ _ | refine Below.setCell ?_ (by first | (simp; done) | omega | (simp; omega)) _ | refine Below.alloc ?_ (by first | (simp; done) | omega | (simp; omega)) _)) hb)
    have n14 := hb.size
    try simp at n14
    have k14_a0 := cell_keep (a := ⟨w.heap.size, 0, none⟩) (v := .int .i64 a) (by first | (go_keep; done) | (simp [go_sem, *]; done) | (simp (config := { maxDischargeDepth := 10 }) [go_sem, *]; done)) hb
    have k14_a1 := cell_keep (a := ⟨w.heap.size, 1, none⟩) (v := .int .i64 s) (by first | (go_keep; done) | (simp [go_sem, *]; done) | (simp (config := { maxDischargeDepth := 10 }) [go_sem, *]; done)) hb
    have l14_a := World.block_lt_of_cell? _ _ k14_a0
    try simp only at l14_a
    have k14_b0 := cell_keep (a := ⟨w.heap.size + 1, 0, none⟩) (v := .int .i64 b) (by first | (go_keep; done) | (simp [go_sem, *]; done) | (simp (config := { maxDischargeDepth := 10 }) [go_sem, *]; done)) hb
    have k14_b1 := cell_keep (a := ⟨w.heap.size + 1, 1, none⟩) (v := .int .i64 u) (by first | (go_keep; done) | (simp [go_sem, *]; done) | (simp (config := { maxDischargeDepth := 10 }) [go_sem, *]; done)) hb
    have l14_b := World.block_lt_of_cell? _ _ k14_b0
    try simp only at l14_b
    have k14_q0 := cell_keep (a := ⟨wh.heap.size, 0, none⟩) (v := .int .i64 0) (by first | (go_keep; done) | (simp [go_sem, *]; done) | (simp (config := { maxDischargeDepth := 10 }) [go_sem, *]; done)) hb
    have k14_q1 := cell_keep (a := ⟨wh.heap.size, 1, none⟩) (v := .int .i64 0) (by first | (go_keep; done) | (simp [go_sem, *]; done) | (simp (config := { maxDischargeDepth := 10 }) [go_sem, *]; done)) hb
    have l14_q := World.block_lt_of_cell? _ _ k14_q0
    try simp only at l14_q
    clear hb k13_a0 k13_a1 l13_a k13_b0 k13_b1 l13_b k13_q0 f13_q0 k13_q1 f13_q1 l13_q W13
    go_wp2_with fail
    refine (sameErr_yes (ErrNo.no 1) _ (hT.below (by repeat (first | exact W14.out | refine blw_drewN ?_ _ | refine Below.setCell ?_ (by first | (simp; done) | omega | (simp; omega)) _ | refine Below.alloc ?_ (by first | (simp; done) | omega | (simp; omega)) _))).h).mono ?_
    rintro e w15 ⟨rfl, hb⟩
    have W15 := Lib.hid (blw_trans (show Below w.heap.size w _ by repeat (first | exact W14.out | refine blw_drewN ?_ _ | refine Below.setCell ?_ (by first | (simp; done) | omega | (simp; omega)) _ | refine Below.alloc ?_ (by first | (simp; done) | omega | (simp; omega)) _)) hb)
    have n15 := hb.size
    try simp at n15
    have k15_a0 := cell_keep (a := ⟨w.heap.size, 0, none⟩) (v := .int .i64 a) (by first | (go_keep; done) | (simp [go_sem, *]; done) | (simp (config := { maxDischargeDepth := 10 }) [go_sem, *]; done)) hb
    have k15_a1 := cell_keep (a := ⟨w.heap.size, 1, none⟩) (v := .int .i64 s) (by first | (go_keep; done) | (simp [go_sem, *]; done) | (simp (config := { maxDischargeDepth := 10 }) [go_sem, *]; done)) hb
    have l15_a := World.block_lt_of_cell? _ _ k15_a0
    try simp only at l15_a
    have k15_b0 := cell_keep (a := ⟨w.heap.size + 1, 0, none⟩) (v := .int .i64 b) (by first | (go_keep; done) | (simp [go_sem, *]; done) | (simp (config := { maxDischargeDepth := 10 }) [go_sem, *]; done)) hb
    have k15_b1 := cell_keep (a := ⟨w.heap.size + 1, 1, none⟩) (v := .int .i64 u) (by first | (go_keep; done) | (simp [go_sem, *]; done) | (simp (config := { maxDischargeDepth := 10 }) [go_sem, *]; done)) hb
    have l15_b := World.block_lt_of_cell? _ _ k15_b0
    try simp only at l15_b
    have k15_q0 := cell_keep (a := ⟨wh.heap.size, 0, none⟩) (v := .int .i64 0) (by first | (go_keep; done) | (simp [go_sem, *]; done) | (simp (config := { maxDischargeDepth := 10 }) [go_sem, *]; done)) hb
    have k15_q1 := cell_keep (a := ⟨wh.heap.size, 1, none⟩) (v := .int .i64 0) (by first | (go_keep; done) | (simp [go_sem, *]; done) | (simp (config := { maxDischargeDepth := 10 }) [go_sem, *]; done)) hb
    have l15_q := World.block_lt_of_cell? _ _ k15_q0
    try simp only at l15_q
    have k15_r0 := cell_keep (a := ⟨w14.heap.size, 0, none⟩) (v := .int .i64 0) (by first | (go_keep; done) | (simp [go_sem, *]; done) | (simp (config := { maxDischargeDepth := 10 }) [go_sem, *]; done)) hb
    have k15_r1 := cell_keep (a := ⟨w14.heap.size, 1, none⟩) (v := .int .i64 0) (by first | (go_keep; done) | (simp [go_sem, *]; done) | (simp (config := { maxDischargeDepth := 10 }) [go_sem, *]; done)) hb
    have l15_r := World.block_lt_of_cell? _ _ k15_r0
    try simp only at l15_r
    clear hb k14_a0 k14_a1 l14_a k14_b0 k14_b1 l14_b k14_q0 k14_q1 l14_q W14
    have ne3 : ¬ w.heap.size = w15.heap.size := by omega
    have me3 : ¬ w15.heap.size = w.heap.size := by omega
    have ne4 : ¬ w.heap.size + 1 = w15.heap.size := by omega
    have me4 : ¬ w15.heap.size = w.heap.size + 1 := by omega
    have ne5 : ¬ wh.heap.size = w15.heap.size := by omega
    have me5 : ¬ w15.heap.size = wh.heap.size := by omega
    have ne6 : ¬ w14.heap.size = w15.heap.size := by omega
    have me6 : ¬ w15.heap.size = w14.heap.size := by omega
    have lem : w.heap.size ≤ w15.heap.size := by omega
    go_wp2_with fail
    refine (CQ.out _).mono ?_
    rintro e w16 ⟨rfl, hb⟩
    have W16 := Lib.hid (blw_trans (show Below w.heap.size w _ by repeat (first | exact W15.out | refine blw_drewN ?_ _ | refine Below.setCell ?_ (by first | (simp; done) | omega | (simp; omega)) _ | refine Below.alloc ?_ (by first | (simp; done) | omega | (simp; omega)) _)) hb)
    have n16 := hb.size
    try simp at n16
    have k16_a0 := cell_keep (a := ⟨w.heap.size, 0, none⟩) (v := .int .i64 a) (by first | (go_keep; done) | (simp [go_sem, *]; done) | (simp (config := { maxDischargeDepth := 10 }) [go_sem, *]; done)) hb
    have k16_a1 := cell_keep (a := ⟨w.heap.size, 1, none⟩) (v := .int .i64 s) (by first | (go_keep; done) | (simp [go_sem, *]; done) | (simp (config := { maxDischargeDepth := 10 }) [go_sem, *]; done)) hb
    have l16_a := World.block_lt_of_cell? _ _ k16_a0
    try simp only at l16_a
    have k16_b0 := cell_keep (a := ⟨w.heap.size + 1, 0, none⟩) (v := .int .i64 b) (by first | (go_keep; done) | (simp [go_sem, *]; done) | (simp (config := { maxDischargeDepth := 10 }) [go_sem, *]; done)) hb
    have k16_b1 := cell_keep (a := ⟨w.heap.size + 1, 1, none⟩) (v := .int .i64 u) (by first | (go_keep; done) | (simp [go_sem, *]; done) | (simp (config := { maxDischargeDepth := 10 }) [go_sem, *]; done)) hb
    have l16_b := World.block_lt_of_cell? _ _ k16_b0
    try simp only at l16_b
    have k16_q0 := cell_keep (a := ⟨wh.heap.size, 0, none⟩) (v := .int .i64 0) (by first | (go_keep; done) | (simp [go_sem, *]; done) | (simp (config := { maxDischargeDepth := 10 }) [go_sem, *]; done)) hb
    have k16_q1 := cell_keep (a := ⟨wh.heap.size, 1, none⟩) (v := .int .i64 0) (by first | (go_keep; done) | (simp [go_sem, *]; done) | (simp (config := { maxDischargeDepth := 10 }) [go_sem, *]; done)) hb
    have l16_q := World.block_lt_of_cell? _ _ k16_q0
    try simp only at l16_q
    have k16_r0 := cell_keep (a := ⟨w14.heap.size, 0, none⟩) (v := .int .i64 0) (by first | (go_keep; done) | (simp [go_sem, *]; done) | (simp (config := { maxDischargeDepth := 10 }) [go_sem, *]; done)) hb
    have k16_r1 := cell_keep (a := ⟨w14.heap.size, 1, none⟩) (v := .int .i64 0) (by first | (go_keep; done) | (simp [go_sem, *]; done) | (simp (config := { maxDischargeDepth := 10 }) [go_sem, *]; done)) hb
    have l16_r := World.block_lt_of_cell? _ _ k16_r0
    try simp only at l16_r
    have k16_m0 := cell_keep (a := ⟨w15.heap.size, 0, none⟩) (v := .int .i64 0) (by first | (go_keep; done) | (simp [go_sem, *]; done) | (simp (config := { maxDischargeDepth := 10 }) [go_sem, *]; done)) hb
    have k16_m1 := cell_keep (a := ⟨w15.heap.size, 1, none⟩) (v := .int .i64 0) (by first | (go_keep; done) | (simp [go_sem, *]; done) | (simp (config := { maxDischargeDepth := 10 }) [go_sem, *]; done)) hb
    have l16_m := World.block_lt_of_cell? _ _ k16_m0
    try simp only at l16_m
    clear hb k15_a0 k15_a1 l15_a k15_b0 k15_b1 l15_b k15_q0 k15_q1 l15_q k15_r0 k15_r1 l15_r W15
    go_wp2_with fail
    refine (CA.out _).mono ?_
    rintro e w17 ⟨rfl, hb⟩
    have W17 := Lib.hid (blw_trans (show Below w.heap.size w _ by repeat (first | exact W16.out | refine blw_drewN ?_ _ | refine Below.setCell ?_ (by first | (simp; done) | omega | (simp; omega)) _ | refine Below.alloc ?_ (by first | (simp; done) | omega | (simp; omega)) _)) hb)
    have n17 := hb.size
    try simp at n17
    have k17_a0 := cell_keep (a := ⟨w.heap.size, 0, none⟩) (v := .int .i64 a) (by first | (go_keep; done) | (simp [go_sem, *]; done) | (simp (config := { maxDischargeDepth := 10 }) [go_sem, *]; done)) hb
    have k17_a1 := cell_keep (a := ⟨w.heap.size, 1, none⟩) (v := .int .i64 s) (by first | (go_keep; done) | (simp [go_sem, *]; done) | (simp (config := { maxDischargeDepth := 10 }) [go_sem, *]; done)) hb
    have l17_a := World.block_lt_of_cell? _ _ k17_a0
    try simp only at l17_a
    have k17_b0 := cell_keep (a := ⟨w.heap.size + 1, 0, none⟩) (v := .int .i64 b) (by first | (go_keep; done) | (simp [go_sem, *]; done) | (simp (config := { maxDischargeDepth := 10 }) [go_sem, *]; done)) hb
    have k17_b1 := cell_keep (a := ⟨w.heap.size + 1, 1, none⟩) (v := .int .i64 u) (by first | (go_keep; done) | (simp [go_sem, *]; done) | (simp (config := { maxDischargeDepth := 10 }) [go_sem, *]; done)) hb
    have l17_b := World.block_lt_of_cell? _ _ k17_b0
    try simp only at l17_b
    have k17_q0 := cell_keep (a := ⟨wh.heap.size, 0, none⟩) (v := .int .i64 0) (by first | (go_keep; done) | (simp [go_sem, *]; done) | (simp (config := { maxDischargeDepth := 10 }) [go_sem, *]; done)) hb
    have k17_q1 := cell_keep (a := ⟨wh.heap.size, 1, none⟩) (v := .int .i64 0) (by first | (go_keep; done) | (simp [go_sem, *]; done) | (simp (config := { maxDischargeDepth := 10 }) [go_sem, *]; done)) hb
    have l17_q := World.block_lt_of_cell? _ _ k17_q0
    try simp only at l17_q
    have k17_r0 := cell_keep (a := ⟨w14.heap.size, 0, none⟩) (v := .int .i64 0) (by first | (go_keep; done) | (simp [go_sem, *]; done) | (simp (config := { maxDischargeDepth := 10 }) [go_sem, *]; done)) hb
    have k17_r1 := cell_keep (a := ⟨w14.heap.size, 1, none⟩) (v := .int .i64 0) (by first | (go_keep; done) | (simp [go_sem, *]; done) | (simp (config := { maxDischargeDepth := 10 }) [go_sem, *]; done)) hb
    have l17_r := World.block_lt_of_cell? _ _ k17_r0
    try simp only at l17_r
    have k17_m0 := cell_keep (a := ⟨w15.heap.size, 0, none⟩) (v := .int .i64 0) (by first | (go_keep; done) | (simp [go_sem, *]; done) | (simp (config := { maxDischargeDepth := 10 }) [go_sem, *]; done)) hb
    have k17_m1 := cell_keep (a := ⟨w15.heap.size, 1, none⟩) (v := .int .i64 0) (by first | (go_keep; done) | (simp [go_sem, *]; done) | (simp (config := { maxDischargeDepth := 10 }) [go_sem, *]; done)) hb
    have l17_m := World.block_lt_of_cell? _ _ k17_m0
    try simp only at l17_m
    clear hb k16_a0 k16_a1 l16_a k16_b0 k16_b1 l16_b k16_q0 k16_q1 l16_q k16_r0 k16_r1 l16_r k16_m0 k16_m1 l16_m W16
    go_wp2_with fail
    refine (sameErr_yes (ErrNo.no 1) _ (hT.below (by repeat (first | exact W17.out | refine blw_drewN ?_ _ | refine Below.setCell ?_ (by first | (simp; done) | omega | (simp; omega)) _ | refine Below.alloc ?_ (by first | (simp; done) | omega | (simp; omega)) _))).h).mono ?_
    rintro e w18 ⟨rfl, hb⟩
    have W18 := Lib.hid (blw_trans (show Below w.heap.size w _ by repeat (first | exact W17.out | refine blw_drewN ?_ _ | refine Below.setCell ?_ (by first | (simp; done) | omega | (simp; omega)) _ | refine Below.alloc ?_ (by first | (simp; done) | omega | (simp; omega)) _)) hb)
    have n18 := hb.size
    try simp at n18
    have k18_a0 := cell_keep (a := ⟨w.heap.size, 0, none⟩) (v := .int .i64 a) (by first | (go_keep; done) | (simp [go_sem, *]; done) | (simp (config := { maxDischargeDepth := 10 }) [go_sem, *]; done)) hb
    have k18_a1 := cell_keep (a := ⟨w.heap.size, 1, none⟩) (v := .int .i64 s) (by first | (go_keep; done) | (simp [go_sem, *]; done) | (simp (config := { maxDischargeDepth := 10 }) [go_sem, *]; done)) hb
    have l18_a := World.block_lt_of_cell? _ _ k18_a0
    try simp only at l18_a
    have k18_b0 := cell_keep (a := ⟨w.heap.size + 1, 0, none⟩) (v := .int .i64 b) (by first | (go_keep; done) | (simp [go_sem, *]; done) | (simp (config := { maxDischargeDepth := 10 }) [go_sem, *]; done)) hb
    have k18_b1 := cell_keep (a := ⟨w.heap.size + 1, 1, none⟩) (v := .int .i64 u) (by first | (go_keep; done) | (simp [go_sem, *]; done) | (simp (config := { maxDischargeDepth := 10 }) [go_sem, *]; done)) hb
    have l18_b := World.block_lt_of_cell? _ _ k18_b0
    try simp only at l18_b
    have k18_q0 := cell_keep (a := ⟨wh.heap.size, 0, none⟩) (v := .int .i64 0) (by first | (go_keep; done) | (simp [go_sem, *]; done) | (simp (config := { maxDischargeDepth := 10 }) [go_sem, *]; done)) hb
    have k18_q1 := cell_keep (a := ⟨wh.heap.size, 1, none⟩) (v := .int .i64 0) (by first | (go_keep; done) | (simp [go_sem, *]; done) | (simp (config := { maxDischargeDepth := 10 }) [go_sem, *]; done)) hb
    have l18_q := World.block_lt_of_cell? _ _ k18_q0
    try simp only at l18_q
    have k18_r0 := cell_keep (a := ⟨w14.heap.size, 0, none⟩) (v := .int .i64 0) (by first | (go_keep; done) | (simp [go_sem, *]; done) | (simp (config := { maxDischargeDepth := 10 }) [go_sem, *]; done)) hb
    have k18_r1 := cell_keep (a := ⟨w14.heap.size, 1, none⟩) (v := .int .i64 0) (by first | (go_keep; done) | (simp [go_sem, *]; done) | (simp (config := { maxDischargeDepth := 10 }) [go_sem, *]; done)) hb
    have l18_r := World.block_lt_of_cell? _ _ k18_r0
    try simp only at l18_r
    have k18_m0 := cell_keep (a := ⟨w15.heap.size, 0, none⟩) (v := .int .i64 0) (by first | (go_keep; done) | (simp [go_sem, *]; done) | (simp (config := { maxDischargeDepth := 10 }) [go_sem, *]; done)) hb
    have k18_m1 := cell_keep (a := ⟨w15.heap.size, 1, none⟩) (v := .int .i64 0) (by first | (go_keep; done) | (simp [go_sem, *]; done) | (simp (config := { maxDischargeDepth := 10 }) [go_sem, *]; done)) hb
    have l18_m := World.block_lt_of_cell? _ _ k18_m0
    try simp only at l18_m
    have k18_n0 := cell_keep (a := ⟨w17.heap.size, 0, none⟩) (v := .int .i64 0) (by first | (go_keep; done) | (simp [go_sem, *]; done) | (simp (config := { maxDischargeDepth := 10 }) [go_sem, *]; done)) hb
    have k18_n1 := cell_keep (a := ⟨w17.heap.size, 1, none⟩) (v := .int .i64 0) (by first | (go_keep; done) | (simp [go_sem, *]; done) | (simp (config := { maxDischargeDepth := 10 }) [go_sem, *]; done)) hb
    have l18_n := World.block_lt_of_cell? _ _ k18_n0
    try simp only at l18_n
    clear hb k17_a0 k17_a1 l17_a k17_b0 k17_b1 l17_b k17_q0 k17_q1 l17_q k17_r0 k17_r1 l17_r k17_m0 k17_m1 l17_m W17
    go_wp2_with fail
    go_ret
    exact ⟨ret_bool (by first | rfl | (simp; done)), by repeat (first | exact W18.out | refine blw_drewN ?_ _ | refine Below.setCell ?_ (by first | (simp; done) | omega | (simp; omega)) _ | refine Below.alloc ?_ (by first | (simp; done) | omega | (simp; omega)) _)⟩

set_option maxRecDepth 100000 in
set_option maxHeartbeats 2000000 in
theorem dt_full_sc (a s b u sc wy x1 x2 : Int) (t : List UInt8) (is : Bool) (ev : Value) (lb sb : Bool) (o : Int) (X : List UInt8) (j1 j2 : Bool) (w : World) (hT : TM w)
    (CF : Hid (∀ w : World, Calls Tryz.prog 5 #[.agg #[.int .i64 a, .int .i64 s]] w fun e w' => e = .returned (.bool false) ∧ Below w.heap.size w w'))
    (CK : Hid (∀ w : World, Calls Tryz.prog 7 #[.agg #[.int .i64 a, .int .i64 s]] w fun e w' => e = .returned (.nilIface) ∧ Below w.heap.size w w'))
    (CO : Hid (∀ w : World, Calls Tryz.prog 8 #[.string ⟨t.toArray⟩] w fun e w' => e = .returned (.tuple #[.agg #[.int .i64 x1, .int .i64 x2], .bool is]) ∧ Below w.heap.size w w'))
    (CP : Hid (∀ w : World, TM w → Calls Tryz.prog 9 #[.string ⟨t.toArray⟩] w fun e w' => e = .returned (.tuple #[.agg #[.int .i64 x1, .int .i64 x2], ev]) ∧ Below w.heap.size w w'))
    (hev : ErrNo ev (isE is))
    (CG : Hid (∀ w : World, Calls Tryz.prog 5 #[.agg #[.int .i64 b, .int .i64 u]] w fun e w' => e = .returned (.bool false) ∧ Below w.heap.size w w'))
    (CL : Hid (∀ w : World, Calls Tryz.prog 10 #[.agg #[.int .i64 a, .int .i64 s], .agg #[.int .i64 b, .int .i64 u]] w fun e w' => e = .returned (.bool lb) ∧ Below w.heap.size w w'))
    (CS : Hid (∀ w : World, Calls Tryz.prog 12 #[.agg #[.int .i64 a, .int .i64 s], .agg #[.int .i64 b, .int .i64 u]] w fun e w' => e = .returned (.bool sb) ∧ Below w.heap.size w w'))
    (CR : Hid (∀ w : World, Calls Tryz.prog 11 #[.agg #[.int .i64 a, .int .i64 s], .agg #[.int .i64 b, .int .i64 u]] w fun e w' => e = .returned (.int .i64 o) ∧ Below w.heap.size w w'))
    (hlb : decide (o < 0) = lb) (hsb : (o == 0) = sb)
    (CX : Hid (∀ w : World, TM w → Calls Tryz.prog 13 #[.agg #[.int .i64 a, .int .i64 s]] w fun e w' => e = .returned (.string ⟨X.toArray⟩) ∧ Below w.heap.size w w'))
    (CY : Hid (∀ w : World, Calls Tryz.prog 14 #[.agg #[.int .i64 a, .int .i64 s]] w fun e w' => e = .returned (.string ⟨X.toArray⟩) ∧ Below w.heap.size w w'))
    (CV : Hid (∀ w : World, Calls Tryz.prog 16 #[.agg #[.int .i64 a, .int .i64 s], .int .i64 sc, .int .i64 wy] w fun e w' => e = .returned (.tuple #[.agg #[.int .i64 0, .int .i64 0], errV 1]) ∧ Below w.heap.size w w'))
    (CQ : Hid (∀ w : World, Calls Tryz.prog 17 #[.agg #[.int .i64 a, .int .i64 s], .agg #[.int .i64 b, .int .i64 u]] w fun e w' => e = .returned (.tuple #[.agg #[.int .i64 0, .int .i64 0], .bool false]) ∧ Below w.heap.size w w'))
    (CA : Hid (∀ w : World, Calls Tryz.prog 18 #[.agg #[.int .i64 a, .int .i64 s], .agg #[.int .i64 b, .int .i64 u]] w fun e w' => e = .returned (.tuple #[.agg #[.int .i64 0, .int .i64 0], errV 1]) ∧ Below w.heap.size w w'))
    (e1 : decide (sc < 0) = j1) (e2 : decide (9 < sc) = j2) (e12 : j1 = true ∨ j1 = false ∧ j2 = true) :
    Calls Tryz.prog 3 #[.agg #[.int .i64 a, .int .i64 s], .agg #[.int .i64 b, .int .i64 u], .string ⟨t.toArray⟩, .int .i64 sc, .int .i64 wy] w fun e w' => e = .returned (.bool true) ∧ Below w.heap.size w w' := by
  have xx : (X != X) = false := by simp
  cases is
  all_goals
    unfold isE at hev
    go_enter Tryz.func3, Tryz.ntmps3
    go_wp2_with fail
    refine (half_any _).mono ?_
    rintro e w1 ⟨rfl, hb⟩
    have W1 := Lib.hid (blw_trans (show Below w.heap.size w _ by repeat (first | exact (Below.refl _ _) | refine blw_drewN ?_ _ | refine Below.setCell ?_ (by first | (simp; done) | omega | (simp; omega)) _ | refine Below.alloc ?_ (by first | (simp; done) | omega | (simp; omega)) _)) hb)
    have n1 := hb.size
    try simp at n1
    have k1_a0 := cell_keep (a := ⟨w.heap.size, 0, none⟩) (v := .int .i64 a) (by first | (go_keep; done) | (simp [go_sem, *]; done)) hb
    have k1_a1 := cell_keep (a := ⟨w.heap.size, 1, none⟩) (v := .int .i64 s) (by first | (go_keep; done) | (simp [go_sem, *]; done)) hb
    have l1_a := World.block_lt_of_cell? _ _ k1_a0
    try simp only at l1_a
    have k1_b0 := cell_keep (a := ⟨w.heap.size + 1, 0, none⟩) (v := .int .i64 b) (by first | (go_keep; done) | (simp [go_sem, *]; done)) hb
    have k1_b1 := cell_keep (a := ⟨w.heap.size + 1, 1, none⟩) (v := .int .i64 u) (by first | (go_keep; done) | (simp [go_sem, *]; done)) hb
    have l1_b := World.block_lt_of_cell? _ _ k1_b0
    try simp only at l1_b
    clear hb
    go_wp2_with fail
    refine (CF.out _).mono ?_
    rintro e w2 ⟨rfl, hb⟩
    have W2 := Lib.hid (blw_trans (show Below w.heap.size w _ by repeat (first | exact W1.out | refine blw_drewN ?_ _ | refine Below.setCell ?_ (by first | (simp; done) | omega | (simp; omega)) _ | refine Below.alloc ?_ (by first | (simp; done) | omega | (simp; omega)) _)) hb)
    have n2 := hb.size
    try simp at n2
    have k2_a0 := cell_keep (a := ⟨w.heap.size, 0, none⟩) (v := .int .i64 a) (by first | (go_keep; done) | (simp [go_sem, *]; done)) hb
    have k2_a1 := cell_keep (a := ⟨w.heap.size, 1, none⟩) (v := .int .i64 s) (by first | (go_keep; done) | (simp [go_sem, *]; done)) hb
    have l2_a := World.block_lt_of_cell? _ _ k2_a0
    try simp only at l2_a
    have k2_b0 := cell_keep (a := ⟨w.heap.size + 1, 0, none⟩) (v := .int .i64 b) (by first | (go_keep; done) | (simp [go_sem, *]; done)) hb
    have k2_b1 := cell_keep (a := ⟨w.heap.size + 1, 1, none⟩) (v := .int .i64 u) (by first | (go_keep; done) | (simp [go_sem, *]; done)) hb
    have l2_b := World.block_lt_of_cell? _ _ k2_b0
    try simp only at l2_b
    clear hb k1_a0 k1_a1 l1_a k1_b0 k1_b1 l1_b W1
    go_wp2_with fail
    refine (CK.out _).mono ?_
    rintro e w3 ⟨rfl, hb⟩
    have W3 := Lib.hid (blw_trans (show Below w.heap.size w _ by repeat (first | exact W2.out | refine blw_drewN ?_ _ | refine Below.setCell ?_ (by first | (simp; done) | omega | (simp; omega)) _ | refine Below.alloc ?_ (by first | (simp; done) | omega | (simp; omega)) _)) hb)
    have n3 := hb.size
    try simp at n3
    have k3_a0 := cell_keep (a := ⟨w.heap.size, 0, none⟩) (v := .int .i64 a) (by first | (go_keep; done) | (simp [go_sem, *]; done)) hb
    have k3_a1 := cell_keep (a := ⟨w.heap.size, 1, none⟩) (v := .int .i64 s) (by first | (go_keep; done) | (simp [go_sem, *]; done)) hb
    have l3_a := World.block_lt_of_cell? _ _ k3_a0
    try simp only at l3_a
    have k3_b0 := cell_keep (a := ⟨w.heap.size + 1, 0, none⟩) (v := .int .i64 b) (by first | (go_keep; done) | (simp [go_sem, *]; done)) hb
    have k3_b1 := cell_keep (a := ⟨w.heap.size + 1, 1, none⟩) (v := .int .i64 u) (by first | (go_keep; done) | (simp [go_sem, *]; done)) hb
    have l3_b := World.block_lt_of_cell? _ _ k3_b0
    try simp only at l3_b
    clear hb k2_a0 k2_a1 l2_a k2_b0 k2_b1 l2_b W2
    go_wp2_with fail
    refine (sameErr_yes (ErrNo.nil) _ (hT.below (by repeat (first | exact W3.out | refine blw_drewN ?_ _ | refine Below.setCell ?_ (by first | (simp; done) | omega | (simp; omega)) _ | refine Below.alloc ?_ (by first | (simp; done) | omega | (simp; omega)) _))).h).mono ?_
    rintro e w4 ⟨rfl, hb⟩
    have W4 := Lib.hid (blw_trans (show Below w.heap.size w _ by repeat (first | exact W3.out | refine blw_drewN ?_ _ | refine Below.setCell ?_ (by first | (simp; done) | omega | (simp; omega)) _ | refine Below.alloc ?_ (by first | (simp; done) | omega | (simp; omega)) _)) hb)
    have n4 := hb.size
    try simp at n4
    have k4_a0 := cell_keep (a := ⟨w.heap.size, 0, none⟩) (v := .int .i64 a) (by first | (go_keep; done) | (simp [go_sem, *]; done)) hb
    have k4_a1 := cell_keep (a := ⟨w.heap.size, 1, none⟩) (v := .int .i64 s) (by first | (go_keep; done) | (simp [go_sem, *]; done)) hb
    have l4_a := World.block_lt_of_cell? _ _ k4_a0
    try simp only at l4_a
    have k4_b0 := cell_keep (a := ⟨w.heap.size + 1, 0, none⟩) (v := .int .i64 b) (by first | (go_keep; done) | (simp [go_sem, *]; done)) hb
    have k4_b1 := cell_keep (a := ⟨w.heap.size + 1, 1, none⟩) (v := .int .i64 u) (by first | (go_keep; done) | (simp [go_sem, *]; done)) hb
    have l4_b := World.block_lt_of_cell? _ _ k4_b0
    try simp only at l4_b
    clear hb k3_a0 k3_a1 l3_a k3_b0 k3_b1 l3_b W3
    go_wp2_with fail
    refine (CO.out _).mono ?_
    rintro e w5 ⟨rfl, hb⟩
    have W5 := Lib.hid (blw_trans (show Below w.heap.size w _ by repeat (first | exact W4.out | refine blw_drewN ?_ _ | refine Below.setCell ?_ (by first | (simp; done) | omega | (simp; omega)) _ | refine Below.alloc ?_ (by first | (simp; done) | omega | (simp; omega)) _)) hb)
    have n5 := hb.size
    try simp at n5
    have k5_a0 := cell_keep (a := ⟨w.heap.size, 0, none⟩) (v := .int .i64 a) (by first | (go_keep; done) | (simp [go_sem, *]; done)) hb
    have k5_a1 := cell_keep (a := ⟨w.heap.size, 1, none⟩) (v := .int .i64 s) (by first | (go_keep; done) | (simp [go_sem, *]; done)) hb
    have l5_a := World.block_lt_of_cell? _ _ k5_a0
    try simp only at l5_a
    have k5_b0 := cell_keep (a := ⟨w.heap.size + 1, 0, none⟩) (v := .int .i64 b) (by first | (go_keep; done) | (simp [go_sem, *]; done)) hb
    have k5_b1 := cell_keep (a := ⟨w.heap.size + 1, 1, none⟩) (v := .int .i64 u) (by first | (go_keep; done) | (simp [go_sem, *]; done)) hb
    have l5_b := World.block_lt_of_cell? _ _ k5_b0
    try simp only at l5_b
    clear hb k4_a0 k4_a1 l4_a k4_b0 k4_b1 l4_b W4
    go_wp2_with fail
    refine (CP.out _ (hT.below (by repeat (first | exact W5.out | refine blw_drewN ?_ _ | refine Below.setCell ?_ (by first | (simp; done) | omega | (simp; omega)) _ | refine Below.alloc ?_ (by first | (simp; done) | omega | (simp; omega)) _)))).mono ?_
    rintro e w6 ⟨rfl, hb⟩
    have W6 := Lib.hid (blw_trans (show Below w.heap.size w _ by repeat (first | exact W5.out | refine blw_drewN ?_ _ | refine Below.setCell ?_ (by first | (simp; done) | omega | (simp; omega)) _ | refine Below.alloc ?_ (by first | (simp; done) | omega | (simp; omega)) _)) hb)
    have n6 := hb.size
    try simp at n6
    have k6_a0 := cell_keep (a := ⟨w.heap.size, 0, none⟩) (v := .int .i64 a) (by first | (go_keep; done) | (simp [go_sem, *]; done)) hb
    have k6_a1 := cell_keep (a := ⟨w.heap.size, 1, none⟩) (v := .int .i64 s) (by first | (go_keep; done) | (simp [go_sem, *]; done)) hb
    have l6_a := World.block_lt_of_cell? _ _ k6_a0
    try simp only at l6_a
    have k6_b0 := cell_keep (a := ⟨w.heap.size + 1, 0, none⟩) (v := .int .i64 b) (by first | (go_keep; done) | (simp [go_sem, *]; done)) hb
    have k6_b1 := cell_keep (a := ⟨w.heap.size + 1, 1, none⟩) (v := .int .i64 u) (by first | (go_keep; done) | (simp [go_sem, *]; done)) hb
    have l6_b := World.block_lt_of_cell? _ _ k6_b0
    try simp only at l6_b
    have k6_x0 := cell_keep (a := ⟨w5.heap.size, 0, none⟩) (v := .int .i64 x1) (by first | (go_keep; done) | (simp [go_sem, *]; done)) hb
    have k6_x1 := cell_keep (a := ⟨w5.heap.size, 1, none⟩) (v := .int .i64 x2) (by first | (go_keep; done) | (simp [go_sem, *]; done)) hb
    have l6_x := World.block_lt_of_cell? _ _ k6_x0
    try simp only at l6_x
    clear hb k5_a0 k5_a1 l5_a k5_b0 k5_b1 l5_b W5
    go_wp2_with fail
    refine (sameErr_yes hev _ (hT.below (by repeat (first | exact W6.out | refine blw_drewN ?_ _ | refine Below.setCell ?_ (by first | (simp; done) | omega | (simp; omega)) _ | refine Below.alloc ?_ (by first | (simp; done) | omega | (simp; omega)) _))).h).mono ?_
    rintro e w7 ⟨rfl, hb⟩
    have W7 := Lib.hid (blw_trans (show Below w.heap.size w _ by repeat (first | exact W6.out | refine blw_drewN ?_ _ | refine Below.setCell ?_ (by first | (simp; done) | omega | (simp; omega)) _ | refine Below.alloc ?_ (by first | (simp; done) | omega | (simp; omega)) _)) hb)
    have n7 := hb.size
    try simp at n7
    have k7_a0 := cell_keep (a := ⟨w.heap.size, 0, none⟩) (v := .int .i64 a) (by first | (go_keep; done) | (simp [go_sem, *]; done)) hb
    have k7_a1 := cell_keep (a := ⟨w.heap.size, 1, none⟩) (v := .int .i64 s) (by first | (go_keep; done) | (simp [go_sem, *]; done)) hb
    have l7_a := World.block_lt_of_cell? _ _ k7_a0
    try simp only at l7_a
    have k7_b0 := cell_keep (a := ⟨w.heap.size + 1, 0, none⟩) (v := .int .i64 b) (by first | (go_keep; done) | (simp [go_sem, *]; done)) hb
    have k7_b1 := cell_keep (a := ⟨w.heap.size + 1, 1, none⟩) (v := .int .i64 u) (by first | (go_keep; done) | (simp [go_sem, *]; done)) hb
    have l7_b := World.block_lt_of_cell? _ _ k7_b0
    try simp only at l7_b
    have k7_x0 := cell_keep (a := ⟨w5.heap.size, 0, none⟩) (v := .int .i64 x1) (by first | (go_keep; done) | (simp [go_sem, *]; done)) hb
    have k7_x1 := cell_keep (a := ⟨w5.heap.size, 1, none⟩) (v := .int .i64 x2) (by first | (go_keep; done) | (simp [go_sem, *]; done)) hb
    have l7_x := World.block_lt_of_cell? _ _ k7_x0
    try simp only at l7_x
    have k7_y0 := cell_keep (a := ⟨w6.heap.size, 0, none⟩) (v := .int .i64 x1) (by first | (go_keep; done) | (simp [go_sem, *]; done)) hb
    have k7_y1 := cell_keep (a := ⟨w6.heap.size, 1, none⟩) (v := .int .i64 x2) (by first | (go_keep; done) | (simp [go_sem, *]; done)) hb
    have l7_y := World.block_lt_of_cell? _ _ k7_y0
    try simp only at l7_y
    clear hb k6_a0 k6_a1 l6_a k6_b0 k6_b1 l6_b k6_x0 k6_x1 l6_x W6
    go_wp2_with fail
    refine (CG.out _).mono ?_
    rintro e w8 ⟨rfl, hb⟩
    have W8 := Lib.hid (blw_trans (show Below w.heap.size w _ by repeat (first | exact W7.out | refine blw_drewN ?_ _ | refine Below.setCell ?_ (by first | (simp; done) | omega | (simp; omega)) _ | refine Below.alloc ?_ (by first | (simp; done) | omega | (simp; omega)) _)) hb)
    have n8 := hb.size
    try simp at n8
    have k8_a0 := cell_keep (a := ⟨w.heap.size, 0, none⟩) (v := .int .i64 a) (by first | (go_keep; done) | (simp [go_sem, *]; done)) hb
    have k8_a1 := cell_keep (a := ⟨w.heap.size, 1, none⟩) (v := .int .i64 s) (by first | (go_keep; done) | (simp [go_sem, *]; done)) hb
    have l8_a := World.block_lt_of_cell? _ _ k8_a0
    try simp only at l8_a
    have k8_b0 := cell_keep (a := ⟨w.heap.size + 1, 0, none⟩) (v := .int .i64 b) (by first | (go_keep; done) | (simp [go_sem, *]; done)) hb
    have k8_b1 := cell_keep (a := ⟨w.heap.size + 1, 1, none⟩) (v := .int .i64 u) (by first | (go_keep; done) | (simp [go_sem, *]; done)) hb
    have l8_b := World.block_lt_of_cell? _ _ k8_b0
    try simp only at l8_b
    have k8_x0 := cell_keep (a := ⟨w5.heap.size, 0, none⟩) (v := .int .i64 x1) (by first | (go_keep; done) | (simp [go_sem, *]; done)) hb
    have k8_x1 := cell_keep (a := ⟨w5.heap.size, 1, none⟩) (v := .int .i64 x2) (by first | (go_keep; done) | (simp [go_sem, *]; done)) hb
    have l8_x := World.block_lt_of_cell? _ _ k8_x0
    try simp only at l8_x
    have k8_y0 := cell_keep (a := ⟨w6.heap.size, 0, none⟩) (v := .int .i64 x1) (by first | (go_keep; done) | (simp [go_sem, *]; done)) hb
    have k8_y1 := cell_keep (a := ⟨w6.heap.size, 1, none⟩) (v := .int .i64 x2) (by first | (go_keep; done) | (simp [go_sem, *]; done)) hb
    have l8_y := World.block_lt_of_cell? _ _ k8_y0
    try simp only at l8_y
    clear hb k7_a0 k7_a1 l7_a k7_b0 k7_b1 l7_b k7_x0 k7_x1 l7_x k7_y0 k7_y1 l7_y W7
    go_wp2_with fail
    refine (CL.out _).mono ?_
    rintro e w9 ⟨rfl, hb⟩
    have W9 := Lib.hid (blw_trans (show Below w.heap.size w _ by repeat (first | exact W8.out | refine blw_drewN ?_ _ | refine Below.setCell ?_ (by first | (simp; done) | omega | (simp; omega)) _ | refine Below.alloc ?_ (by first | (simp; done) | omega | (simp; omega)) _)) hb)
    have n9 := hb.size
    try simp at n9
    have k9_a0 := cell_keep (a := ⟨w.heap.size, 0, none⟩) (v := .int .i64 a) (by first | (go_keep; done) | (simp [go_sem, *]; done)) hb
    have k9_a1 := cell_keep (a := ⟨w.heap.size, 1, none⟩) (v := .int .i64 s) (by first | (go_keep; done) | (simp [go_sem, *]; done)) hb
    have l9_a := World.block_lt_of_cell? _ _ k9_a0
    try simp only at l9_a
    have k9_b0 := cell_keep (a := ⟨w.heap.size + 1, 0, none⟩) (v := .int .i64 b) (by first | (go_keep; done) | (simp [go_sem, *]; done)) hb
    have k9_b1 := cell_keep (a := ⟨w.heap.size + 1, 1, none⟩) (v := .int .i64 u) (by first | (go_keep; done) | (simp [go_sem, *]; done)) hb
    have l9_b := World.block_lt_of_cell? _ _ k9_b0
    try simp only at l9_b
    have k9_x0 := cell_keep (a := ⟨w5.heap.size, 0, none⟩) (v := .int .i64 x1) (by first | (go_keep; done) | (simp [go_sem, *]; done)) hb
    have k9_x1 := cell_keep (a := ⟨w5.heap.size, 1, none⟩) (v := .int .i64 x2) (by first | (go_keep; done) | (simp [go_sem, *]; done)) hb
    have l9_x := World.block_lt_of_cell? _ _ k9_x0
    try simp only at l9_x
    have k9_y0 := cell_keep (a := ⟨w6.heap.size, 0, none⟩) (v := .int .i64 x1) (by first | (go_keep; done) | (simp [go_sem, *]; done)) hb
    have k9_y1 := cell_keep (a := ⟨w6.heap.size, 1, none⟩) (v := .int .i64 x2) (by first | (go_keep; done) | (simp [go_sem, *]; done)) hb
    have l9_y := World.block_lt_of_cell? _ _ k9_y0
    try simp only at l9_y
    clear hb k8_a0 k8_a1 l8_a k8_b0 k8_b1 l8_b k8_x0 k8_x1 l8_x k8_y0 k8_y1 l8_y W8
    go_wp2_with fail
    refine (CR.out _).mono ?_
    rintro e w10 ⟨rfl, hb⟩
    have W10 := Lib.hid (blw_trans (show Below w.heap.size w _ by repeat (first | exact W9.out | refine blw_drewN ?_ _ | refine Below.setCell ?_ (by first | (simp; done) | omega | (simp; omega)) _ | refine Below.alloc ?_ (by first | (simp; done) | omega | (simp; omega)) _)) hb)
    have n10 := hb.size
    try simp at n10
    have k10_a0 := cell_keep (a := ⟨w.heap.size, 0, none⟩) (v := .int .i64 a) (by first | (go_keep; done) | (simp [go_sem, *]; done)) hb
    have k10_a1 := cell_keep (a := ⟨w.heap.size, 1, none⟩) (v := .int .i64 s) (by first | (go_keep; done) | (simp [go_sem, *]; done)) hb
    have l10_a := World.block_lt_of_cell? _ _ k10_a0
    try simp only at l10_a
    have k10_b0 := cell_keep (a := ⟨w.heap.size + 1, 0, none⟩) (v := .int .i64 b) (by first | (go_keep; done) | (simp [go_sem, *]; done)) hb
    have k10_b1 := cell_keep (a := ⟨w.heap.size + 1, 1, none⟩) (v := .int .i64 u) (by first | (go_keep; done) | (simp [go_sem, *]; done)) hb
    have l10_b := World.block_lt_of_cell? _ _ k10_b0
    try simp only at l10_b
    have k10_x0 := cell_keep (a := ⟨w5.heap.size, 0, none⟩) (v := .int .i64 x1) (by first | (go_keep; done) | (simp [go_sem, *]; done)) hb
    have k10_x1 := cell_keep (a := ⟨w5.heap.size, 1, none⟩) (v := .int .i64 x2) (by first | (go_keep; done) | (simp [go_sem, *]; done)) hb
    have l10_x := World.block_lt_of_cell? _ _ k10_x0
    try simp only at l10_x
    have k10_y0 := cell_keep (a := ⟨w6.heap.size, 0, none⟩) (v := .int .i64 x1) (by first | (go_keep; done) | (simp [go_sem, *]; done)) hb
    have k10_y1 := cell_keep (a := ⟨w6.heap.size, 1, none⟩) (v := .int .i64 x2) (by first | (go_keep; done) | (simp [go_sem, *]; done)) hb
    have l10_y := World.block_lt_of_cell? _ _ k10_y0
    try simp only at l10_y
    clear hb k9_a0 k9_a1 l9_a k9_b0 k9_b1 l9_b k9_x0 k9_x1 l9_x k9_y0 k9_y1 l9_y W9
    go_wp2_with fail
    refine (CS.out _).mono ?_
    rintro e w11 ⟨rfl, hb⟩
    have W11 := Lib.hid (blw_trans (show Below w.heap.size w _ by repeat (first | exact W10.out | refine blw_drewN ?_ _ | refine Below.setCell ?_ (by first | (simp; done) | omega | (simp; omega)) _ | refine Below.alloc ?_ (by first | (simp; done) | omega | (simp; omega)) _)) hb)
    have n11 := hb.size
    try simp at n11
    have k11_a0 := cell_keep (a := ⟨w.heap.size, 0, none⟩) (v := .int .i64 a) (by first | (go_keep; done) | (simp [go_sem, *]; done)) hb
    have k11_a1 := cell_keep (a := ⟨w.heap.size, 1, none⟩) (v := .int .i64 s) (by first | (go_keep; done) | (simp [go_sem, *]; done)) hb
    have l11_a := World.block_lt_of_cell? _ _ k11_a0
    try simp only at l11_a
    have k11_b0 := cell_keep (a := ⟨w.heap.size + 1, 0, none⟩) (v := .int .i64 b) (by first | (go_keep; done) | (simp [go_sem, *]; done)) hb
    have k11_b1 := cell_keep (a := ⟨w.heap.size + 1, 1, none⟩) (v := .int .i64 u) (by first | (go_keep; done) | (simp [go_sem, *]; done)) hb
    have l11_b := World.block_lt_of_cell? _ _ k11_b0
    try simp only at l11_b
    have k11_x0 := cell_keep (a := ⟨w5.heap.size, 0, none⟩) (v := .int .i64 x1) (by first | (go_keep; done) | (simp [go_sem, *]; done)) hb
    have k11_x1 := cell_keep (a := ⟨w5.heap.size, 1, none⟩) (v := .int .i64 x2) (by first | (go_keep; done) | (simp [go_sem, *]; done)) hb
    have l11_x := World.block_lt_of_cell? _ _ k11_x0
    try simp only at l11_x
    have k11_y0 := cell_keep (a := ⟨w6.heap.size, 0, none⟩) (v := .int .i64 x1) (by first | (go_keep; done) | (simp [go_sem, *]; done)) hb
    have k11_y1 := cell_keep (a := ⟨w6.heap.size, 1, none⟩) (v := .int .i64 x2) (by first | (go_keep; done) | (simp [go_sem, *]; done)) hb
    have l11_y := World.block_lt_of_cell? _ _ k11_y0
    try simp only at l11_y
    clear hb k10_a0 k10_a1 l10_a k10_b0 k10_b1 l10_b k10_x0 k10_x1 l10_x k10_y0 k10_y1 l10_y W10
    go_wp2_with fail
    refine (CR.out _).mono ?_
    rintro e w12 ⟨rfl, hb⟩
    have W12 := Lib.hid (blw_trans (show Below w.heap.size w _ by repeat (first | exact W11.out | refine blw_drewN ?_ _ | refine Below.setCell ?_ (by first | (simp; done) | omega | (simp; omega)) _ | refine Below.alloc ?_ (by first | (simp; done) | omega | (simp; omega)) _)) hb)
    have n12 := hb.size
    try simp at n12
    have k12_a0 := cell_keep (a := ⟨w.heap.size, 0, none⟩) (v := .int .i64 a) (by first | (go_keep; done) | (simp [go_sem, *]; done)) hb
    have k12_a1 := cell_keep (a := ⟨w.heap.size, 1, none⟩) (v := .int .i64 s) (by first | (go_keep; done) | (simp [go_sem, *]; done)) hb
    have l12_a := World.block_lt_of_cell? _ _ k12_a0
    try simp only at l12_a
    have k12_b0 := cell_keep (a := ⟨w.heap.size + 1, 0, none⟩) (v := .int .i64 b) (by first | (go_keep; done) | (simp [go_sem, *]; done)) hb
    have k12_b1 := cell_keep (a := ⟨w.heap.size + 1, 1, none⟩) (v := .int .i64 u) (by first | (go_keep; done) | (simp [go_sem, *]; done)) hb
    have l12_b := World.block_lt_of_cell? _ _ k12_b0
    try simp only at l12_b
    have k12_x0 := cell_keep (a := ⟨w5.heap.size, 0, none⟩) (v := .int .i64 x1) (by first | (go_keep; done) | (simp [go_sem, *]; done)) hb
    have k12_x1 := cell_keep (a := ⟨w5.heap.size, 1, none⟩) (v := .int .i64 x2) (by first | (go_keep; done) | (simp [go_sem, *]; done)) hb
    have l12_x := World.block_lt_of_cell? _ _ k12_x0
    try simp only at l12_x
    have k12_y0 := cell_keep (a := ⟨w6.heap.size, 0, none⟩) (v := .int .i64 x1) (by first | (go_keep; done) | (simp [go_sem, *]; done)) hb
    have k12_y1 := cell_keep (a := ⟨w6.heap.size, 1, none⟩) (v := .int .i64 x2) (by first | (go_keep; done) | (simp [go_sem, *]; done)) hb
    have l12_y := World.block_lt_of_cell? _ _ k12_y0
    try simp only at l12_y
    clear hb k11_a0 k11_a1 l11_a k11_b0 k11_b1 l11_b k11_x0 k11_x1 l11_x k11_y0 k11_y1 l11_y W11
    go_wp2_with fail
  focus
    refine wp_region_held_drew (S := fun w' => w'.cell? ⟨w.heap.size, 0, none⟩ = some (.int .i64 a) ∧ w'.cell? ⟨w.heap.size, 1, none⟩ = some (.int .i64 s) ∧ w'.cell? ⟨w.heap.size + 1, 0, none⟩ = some (.int .i64 b) ∧ w'.cell? ⟨w.heap.size + 1, 1, none⟩ = some (.int .i64 u) ∧ Hid (Below w.heap.size w w')) (by kernel_rfl) (by exact ⟨by simpa using k12_a0, by simpa using k12_a1, by simpa using k12_b0, by simpa using k12_b1, Lib.hid (blw_drewN W12.out 1)⟩) (fun hHeld => ?_)
    refine take_run (d := (some 103)) (v := ?v181) 0 rfl rfl (by kernel_rfl) (by kernel_rfl) (by kernel_rfl) (fun _ _ _ h => h) (by rfl) hHeld ?hy181 ?rs181
    case hy181 => (intro w hSw; (try dsimp only at hSw); go_simp) <;> (try with_reducible rfl)
    (try simp only [Act.put, List.setIfInBounds_toArray, List.set_cons_zero, List.set_cons_succ])
    refine take_run (d := (some 104)) (v := ?v182) 1 rfl rfl (by kernel_rfl) (by kernel_rfl) (by kernel_rfl) (fun _ _ _ h => h) (by rfl) hHeld ?hy182 ?rs182
    case hy182 => (intro w hSw; (try dsimp only at hSw); go_simp) <;> (try with_reducible rfl)
    (try simp only [Act.put, List.setIfInBounds_toArray, List.set_cons_zero, List.set_cons_succ])
    refine take_run (d := (some 105)) (v := ?v183) 2 rfl rfl (by kernel_rfl) (by kernel_rfl) (by kernel_rfl) (fun _ _ _ h => h) (by rfl) hHeld ?hy183 ?rs183
    case hy183 => (intro w hSw; (try dsimp only at hSw); go_simp) <;> (try with_reducible rfl)
    (try simp only [Act.put, List.setIfInBounds_toArray, List.set_cons_zero, List.set_cons_succ])
    refine take_run (d := (some 106)) (v := ?v184) 3 rfl rfl (by kernel_rfl) (by kernel_rfl) (by kernel_rfl) (fun _ _ _ h => h) (by rfl) hHeld ?hy184 ?rs184
    case hy184 => (intro w hSw; (try dsimp only at hSw); go_simp) <;> (try with_reducible rfl)
    (try simp only [Act.put, List.setIfInBounds_toArray, List.set_cons_zero, List.set_cons_succ])
    refine take_run (d := (some 108)) (v := ?v185) 5 rfl rfl (by kernel_rfl) (by kernel_rfl) (by kernel_rfl) (fun _ _ _ h => h) (by rfl) hHeld ?hy185 ?rs185
    case hy185 => (intro w hSw; (try dsimp only at hSw); go_simp) <;> (try with_reducible rfl)
    (try simp only [Act.put, List.setIfInBounds_toArray, List.set_cons_zero, List.set_cons_succ])
    refine take_call 4 rfl (by kernel_rfl) (by rfl) (fun K hK => ?_)
    go_simp
    refine (CX.out _ (hT.below hHeld.2.2.2.2.out)).mono ?_
    rintro e w' ⟨rfl, hb⟩
    refine hK.out _ _ (by obtain ⟨h0, h1, h2, h3, hw⟩ := hHeld; exact ⟨cell_keep h0 hb, cell_keep h1 hb, cell_keep h2 hb, cell_keep h3 hb, Lib.hid (blw_trans hw.out hb)⟩) (fun hHeld => ?_)
    clear hK K
    (try simp only [Act.put, List.setIfInBounds_toArray, List.set_cons_zero, List.set_cons_succ])
    refine take_call 6 rfl (by kernel_rfl) (by rfl) (fun K hK => ?_)
    go_simp
    refine (CY.out _).mono ?_
    rintro e w' ⟨rfl, hb⟩
    refine hK.out _ _ (by obtain ⟨h0, h1, h2, h3, hw⟩ := hHeld; exact ⟨cell_keep h0 hb, cell_keep h1 hb, cell_keep h2 hb, cell_keep h3 hb, Lib.hid (blw_trans hw.out hb)⟩) (fun hHeld => ?_)
    clear hK K
    (try simp only [Act.put, List.setIfInBounds_toArray, List.set_cons_zero, List.set_cons_succ])
    refine take_run (d := (some 110)) (v := ?v188) 7 rfl rfl (by kernel_rfl) (by kernel_rfl) (by kernel_rfl) (fun _ _ _ h => h) (by rfl) hHeld ?hy188 ?rs188
    case hy188 => (intro w hSw; (try dsimp only at hSw); go_simp) <;> (try with_reducible rfl)
    (try simp only [Act.put, List.setIfInBounds_toArray, List.set_cons_zero, List.set_cons_succ])
    refine take_run (d := (some 111)) (v := ?v189) 8 rfl rfl (by kernel_rfl) (by kernel_rfl) (by kernel_rfl) (fun _ _ _ h => h) (by rfl) hHeld ?hy189 ?rs189
    case hy189 => (intro w hSw; (try dsimp only at hSw); go_simp) <;> (try with_reducible rfl)
    (try simp only [Act.put, List.setIfInBounds_toArray, List.set_cons_zero, List.set_cons_succ])
    refine wpAnyH_done (by kernel_rfl) ?_ _
    obtain ⟨z0, z1, z2, z3, zW⟩ := hHeld
  rotate_left
  focus
    refine wp_region_held_drew (S := fun w' => w'.cell? ⟨w.heap.size, 0, none⟩ = some (.int .i64 a) ∧ w'.cell? ⟨w.heap.size, 1, none⟩ = some (.int .i64 s) ∧ w'.cell? ⟨w.heap.size + 1, 0, none⟩ = some (.int .i64 b) ∧ w'.cell? ⟨w.heap.size + 1, 1, none⟩ = some (.int .i64 u) ∧ Hid (Below w.heap.size w w')) (by kernel_rfl) (by exact ⟨by simpa using k12_a0, by simpa using k12_a1, by simpa using k12_b0, by simpa using k12_b1, Lib.hid (blw_drewN W12.out 1)⟩) (fun hHeld => ?_)
    refine take_run (d := (some 103)) (v := ?v190) 0 rfl rfl (by kernel_rfl) (by kernel_rfl) (by kernel_rfl) (fun _ _ _ h => h) (by rfl) hHeld ?hy190 ?rs190
    case hy190 => (intro w hSw; (try dsimp only at hSw); go_simp) <;> (try with_reducible rfl)
    (try simp only [Act.put, List.setIfInBounds_toArray, List.set_cons_zero, List.set_cons_succ])
    refine take_run (d := (some 104)) (v := ?v191) 1 rfl rfl (by kernel_rfl) (by kernel_rfl) (by kernel_rfl) (fun _ _ _ h => h) (by rfl) hHeld ?hy191 ?rs191
    case hy191 => (intro w hSw; (try dsimp only at hSw); go_simp) <;> (try with_reducible rfl)
    (try simp only [Act.put, List.setIfInBounds_toArray, List.set_cons_zero, List.set_cons_succ])
    refine take_run (d := (some 105)) (v := ?v192) 2 rfl rfl (by kernel_rfl) (by kernel_rfl) (by kernel_rfl) (fun _ _ _ h => h) (by rfl) hHeld ?hy192 ?rs192
    case hy192 => (intro w hSw; (try dsimp only at hSw); go_simp) <;> (try with_reducible rfl)
    (try simp only [Act.put, List.setIfInBounds_toArray, List.set_cons_zero, List.set_cons_succ])
    refine take_run (d := (some 106)) (v := ?v193) 3 rfl rfl (by kernel_rfl) (by kernel_rfl) (by kernel_rfl) (fun _ _ _ h => h) (by rfl) hHeld ?hy193 ?rs193
    case hy193 => (intro w hSw; (try dsimp only at hSw); go_simp) <;> (try with_reducible rfl)
    (try simp only [Act.put, List.setIfInBounds_toArray, List.set_cons_zero, List.set_cons_succ])
    refine take_run (d := (some 108)) (v := ?v194) 5 rfl rfl (by kernel_rfl) (by kernel_rfl) (by kernel_rfl) (fun _ _ _ h => h) (by rfl) hHeld ?hy194 ?rs194
    case hy194 => (intro w hSw; (try dsimp only at hSw); go_simp) <;> (try with_reducible rfl)
    (try simp only [Act.put, List.setIfInBounds_toArray, List.set_cons_zero, List.set_cons_succ])
    refine take_call 4 rfl (by kernel_rfl) (by rfl) (fun K hK => ?_)
    go_simp
    refine (CX.out _ (hT.below hHeld.2.2.2.2.out)).mono ?_
    rintro e w' ⟨rfl, hb⟩
    refine hK.out _ _ (by obtain ⟨h0, h1, h2, h3, hw⟩ := hHeld; exact ⟨cell_keep h0 hb, cell_keep h1 hb, cell_keep h2 hb, cell_keep h3 hb, Lib.hid (blw_trans hw.out hb)⟩) (fun hHeld => ?_)
    clear hK K
    (try simp only [Act.put, List.setIfInBounds_toArray, List.set_cons_zero, List.set_cons_succ])
    refine take_call 6 rfl (by kernel_rfl) (by rfl) (fun K hK => ?_)
    go_simp
    refine (CY.out _).mono ?_
    rintro e w' ⟨rfl, hb⟩
    refine hK.out _ _ (by obtain ⟨h0, h1, h2, h3, hw⟩ := hHeld; exact ⟨cell_keep h0 hb, cell_keep h1 hb, cell_keep h2 hb, cell_keep h3 hb, Lib.hid (blw_trans hw.out hb)⟩) (fun hHeld => ?_)
    clear hK K
    (try simp only [Act.put, List.setIfInBounds_toArray, List.set_cons_zero, List.set_cons_succ])
    refine take_run (d := (some 110)) (v := ?v197) 7 rfl rfl (by kernel_rfl) (by kernel_rfl) (by kernel_rfl) (fun _ _ _ h => h) (by rfl) hHeld ?hy197 ?rs197
    case hy197 => (intro w hSw; (try dsimp only at hSw); go_simp) <;> (try with_reducible rfl)
    (try simp only [Act.put, List.setIfInBounds_toArray, List.set_cons_zero, List.set_cons_succ])
    refine take_run (d := (some 111)) (v := ?v198) 8 rfl rfl (by kernel_rfl) (by kernel_rfl) (by kernel_rfl) (fun _ _ _ h => h) (by rfl) hHeld ?hy198 ?rs198
    case hy198 => (intro w hSw; (try dsimp only at hSw); go_simp) <;> (try with_reducible rfl)
    (try simp only [Act.put, List.setIfInBounds_toArray, List.set_cons_zero, List.set_cons_succ])
    refine wpAnyH_done (by kernel_rfl) ?_ _
    obtain ⟨z0, z1, z2, z3, zW⟩ := hHeld
  rotate_left
  all_goals
    clear k12_a0 k12_a1 l12_a k12_b0 k12_b1 l12_b k12_x0 k12_x1 l12_x k12_y0 k12_y1 l12_y W12
    obtain ⟨wh, hwh⟩ : ∃ wh, wh = w' := ⟨_, rfl⟩
    subst hwh
    have k12_a0 := z0
    have k12_a1 := z1
    have l12_a := World.block_lt_of_cell? _ _ k12_a0
    try simp only at l12_a
    have k12_b0 := z2
    have k12_b1 := z3
    have l12_b := World.block_lt_of_cell? _ _ k12_b0
    try simp only at l12_b
    clear z0 z1 z2 z3
    rcases e12 with rfl | ⟨rfl, rfl⟩
    all_goals
      go_wp2_with fail
      refine (CV.out _).mono ?_
      rintro e w13 ⟨rfl, hb⟩
      have W13 := Lib.hid (blw_trans (show Below w.heap.size w _ by repeat (first | exact zW.out | refine blw_drewN ?_ _ | refine Below.setCell ?_ (by first | (simp; done) | omega | (simp; omega)) _ | refine Below.alloc ?_ (by first | (simp; done) | omega | (simp; omega)) _)) hb)
      have n13 := hb.size
      try simp at n13
      have k13_a0 := cell_keep (a := ⟨w.heap.size, 0, none⟩) (v := .int .i64 a) (by first | (go_keep; done) | (simp [go_sem, *]; done)) hb
      have k13_a1 := cell_keep (a := ⟨w.heap.size, 1, none⟩) (v := .int .i64 s) (by first | (go_keep; done) | (simp [go_sem, *]; done)) hb
      have l13_a := World.block_lt_of_cell? _ _ k13_a0
      try simp only at l13_a
      have k13_b0 := cell_keep (a := ⟨w.heap.size + 1, 0, none⟩) (v := .int .i64 b) (by first | (go_keep; done) | (simp [go_sem, *]; done)) hb
      have k13_b1 := cell_keep (a := ⟨w.heap.size + 1, 1, none⟩) (v := .int .i64 u) (by first | (go_keep; done) | (simp [go_sem, *]; done)) hb
      have l13_b := World.block_lt_of_cell? _ _ k13_b0
      try simp only at l13_b
      have k13_q0 := cell_keep (a := ⟨wh.heap.size, 0, none⟩) (v := .int .i64 0) (by first | (go_keep; done) | (simp [go_sem, *]; done)) hb
      have k13_q1 := cell_keep (a := ⟨wh.heap.size, 1, none⟩) (v := .int .i64 0) (by first | (go_keep; done) | (simp [go_sem, *]; done)) hb
      have l13_q := World.block_lt_of_cell? _ _ k13_q0
      try simp only at l13_q
      clear hb k12_a0 k12_a1 k12_b0 k12_b1 l12_a l12_b zW
      go_wp2_with fail
      refine (sameErr_yes (ErrNo.no 1) _ (hT.below (by repeat (first | exact W13.out | refine blw_drewN ?_ _ | refine Below.setCell ?_ (by first | (simp; done) | omega | (simp; omega)) _ | refine Below.alloc ?_ (by first | (simp; done) | omega | (simp; omega)) _))).h).mono ?_
      rintro e w14 ⟨rfl, hb⟩
      have W14 := Lib.hid (blw_trans (show Below w.heap.size w _ by repeat (first | exact W13.out | refine blw_drewN ?_ _ | refine Below.setCell ?_ (by first | (simp; done) | omega | (simp; omega)) _ | refine Below.alloc ?_ (by first | (simp; done) | omega | (simp; omega)) _)) hb)
      have n14 := hb.size
      try simp at n14
      have k14_a0 := cell_keep (a := ⟨w.heap.size, 0, none⟩) (v := .int .i64 a) (by first | (go_keep; done) | (simp [go_sem, *]; done)) hb
      have k14_a1 := cell_keep (a := ⟨w.heap.size, 1, none⟩) (v := .int .i64 s) (by first | (go_keep; done) | (simp [go_sem, *]; done)) hb
      have l14_a := World.block_lt_of_cell? _ _ k14_a0
      try simp only at l14_a
      have k14_b0 := cell_keep (a := ⟨w.heap.size + 1, 0, none⟩) (v := .int .i64 b) (by first | (go_keep; done) | (simp [go_sem, *]; done)) hb
      have k14_b1 := cell_keep (a := ⟨w.heap.size + 1, 1, none⟩) (v := .int .i64 u) (by first | (go_keep; done) | (simp [go_sem, *]; done)) hb
      have l14_b := World.block_lt_of_cell? _ _ k14_b0
      try simp only at l14_b
      have k14_q0 := cell_keep (a := ⟨wh.heap.size, 0, none⟩) (v := .int .i64 0) (by first | (go_keep; done) | (simp [go_sem, *]; done)) hb
      have k14_q1 := cell_keep (a := ⟨wh.heap.size, 1, none⟩) (v := .int .i64 0) (by first | (go_keep; done) | (simp [go_sem, *]; done)) hb
      have l14_q := World.block_lt_of_cell? _ _ k14_q0
      try simp only at l14_q
      have k14_r0 := cell_keep (a := ⟨w13.heap.size, 0, none⟩) (v := .int .i64 0) (by first | (go_keep; done) | (simp [go_sem, *]; done)) hb
      have k14_r1 := cell_keep (a := ⟨w13.heap.size, 1, none⟩) (v := .int .i64 0) (by first | (go_keep; done) | (simp [go_sem, *]; done)) hb
      have l14_r := World.block_lt_of_cell? _ _ k14_r0
      try simp only at l14_r
      clear hb k13_a0 k13_a1 l13_a k13_b0 k13_b1 l13_b k13_q0 k13_q1 l13_q W13
      have ne1 : ¬ w.heap.size = w14.heap.size := by omega
      have me1 : ¬ w14.heap.size = w.heap.size := by omega
      have ne2 : ¬ w.heap.size + 1 = w14.heap.size := by omega
      have me2 : ¬ w14.heap.size = w.heap.size + 1 := by omega
      have ne3 : ¬ wh.heap.size = w14.heap.size := by omega
      have me3 : ¬ w14.heap.size = wh.heap.size := by omega
      have ne4 : ¬ w13.heap.size = w14.heap.size := by omega
      have me4 : ¬ w14.heap.size = w13.heap.size := by omega
      have lem : w.heap.size ≤ w14.heap.size := by omega
      go_wp2_with fail
      refine (CQ.out _).mono ?_
      rintro e w15 ⟨rfl, hb⟩
      have W15 := Lib.hid (blw_trans (show Below w.heap.size w _ by repeat (first | exact W14.out | refine blw_drewN ?_ _ | refine Below.setCell ?_ (by first | (simp; done) | omega | (simp; omega)) _ | refine Below.alloc ?_ (by first | (simp; done) | omega | (simp; omega)) _)) hb)
      have n15 := hb.size
      try simp at n15
      have k15_a0 := cell_keep (a := ⟨w.heap.size, 0, none⟩) (v := .int .i64 a) (by first | (go_keep; done) | (simp [go_sem, *]; done)) hb
      have k15_a1 := cell_keep (a := ⟨w.heap.size, 1, none⟩) (v := .int .i64 s) (by first | (go_keep; done) | (simp [go_sem, *]; done)) hb
      have l15_a := World.block_lt_of_cell? _ _ k15_a0
      try simp only at l15_a
      have k15_b0 := cell_keep (a := ⟨w.heap.size + 1, 0, none⟩) (v := .int .i64 b) (by first | (go_keep; done) | (simp [go_sem, *]; done)) hb
      have k15_b1 := cell_keep (a := ⟨w.heap.size + 1, 1, none⟩) (v := .int .i64 u) (by first | (go_keep; done) | (simp [go_sem, *]; done)) hb
      have l15_b := World.block_lt_of_cell? _ _ k15_b0
      try simp only at l15_b
      have k15_q0 := cell_keep (a := ⟨wh.heap.size, 0, none⟩) (v := .int .i64 0) (by first | (go_keep; done) | (simp [go_sem, *]; done)) hb
      have k15_q1 := cell_keep (a := ⟨wh.heap.size, 1, none⟩) (v := .int .i64 0) (by first | (go_keep; done) | (simp [go_sem, *]; done)) hb
      have l15_q := World.block_lt_of_cell? _ _ k15_q0
      try simp only at l15_q
      have k15_r0 := cell_keep (a := ⟨w13.heap.size, 0, none⟩) (v := .int .i64 0) (by first | (go_keep; done) | (simp [go_sem, *]; done)) hb
      have k15_r1 := cell_keep (a := ⟨w13.heap.size, 1, none⟩) (v := .int .i64 0) (by first | (go_keep; done) | (simp [go_sem, *]; done)) hb
      have l15_r := World.block_lt_of_cell? _ _ k15_r0
      try simp only at l15_r
      have k15_m0 := cell_keep (a := ⟨w14.heap.size, 0, none⟩) (v := .int .i64 0) (by first | (go_keep; done) | (simp [go_sem, *]; done)) hb
      have k15_m1 := cell_keep (a := ⟨w14.heap.size, 1, none⟩) (v := .int .i64 0) (by first | (go_keep; done) | (simp [go_sem, *]; done)) hb
      have l15_m := World.block_lt_of_cell? _ _ k15_m0
      try simp only at l15_m
      clear hb k14_a0 k14_a1 l14_a k14_b0 k14_b1 l14_b k14_q0 k14_q1 l14_q k14_r0 k14_r1 l14_r W14
      go_wp2_with fail
      refine (CA.out _).mono ?_
      rintro e w16 ⟨rfl, hb⟩
      have W16 := Lib.hid (blw_trans (show Below w.heap.size w _ by repeat (first | exact W15.out | refine blw_drewN ?_ _ | refine Below.setCell ?_ (by first | (simp; done) | omega | (simp; omega)) _ | refine Below.alloc ?_ (by first | (simp; done) | omega | (simp; omega)) _)) hb)
      have n16 := hb.size
      try simp at n16
      have k16_a0 := cell_keep (a := ⟨w.heap.size, 0, none⟩) (v := .int .i64 a) (by first | (go_keep; done) | (simp [go_sem, *]; done)) hb
      have k16_a1 := cell_keep (a := ⟨w.heap.size, 1, none⟩) (v := .int .i64 s) (by first | (go_keep; done) | (simp [go_sem, *]; done)) hb
      have l16_a := World.block_lt_of_cell? _ _ k16_a0
      try simp only at l16_a
      have k16_b0 := cell_keep (a := ⟨w.heap.size + 1, 0, none⟩) (v := .int .i64 b) (by first | (go_keep; done) | (simp [go_sem, *]; done)) hb
      have k16_b1 := cell_keep (a := ⟨w.heap.size + 1, 1, none⟩) (v := .int .i64 u) (by first | (go_keep; done) | (simp [go_sem, *]; done)) hb
      have l16_b := World.block_lt_of_cell? _ _ k16_b0
      try simp only at l16_b
      have k16_q0 := cell_keep (a := ⟨wh.heap.size, 0, none⟩) (v := .int .i64 0) (by first | (go_keep; done) | (simp [go_sem, *]; done)) hb
      have k16_q1 := cell_keep (a := ⟨wh.heap.size, 1, none⟩) (v := .int .i64 0) (by first | (go_keep; done) | (simp [go_sem, *]; done)) hb
      have l16_q := World.block_lt_of_cell? _ _ k16_q0
      try simp only at l16_q
      have k16_r0 := cell_keep (a := ⟨w13.heap.size, 0, none⟩) (v := .int .i64 0) (by first | (go_keep; done) | (simp [go_sem, *]; done)) hb
      have k16_r1 := cell_keep (a := ⟨w13.heap.size, 1, none⟩) (v := .int .i64 0) (by first | (go_keep; done) | (simp [go_sem, *]; done)) hb
      have l16_r := World.block_lt_of_cell? _ _ k16_r0
      try simp only at l16_r
      have k16_m0 := cell_keep (a := ⟨w14.heap.size, 0, none⟩) (v := .int .i64 0) (by first | (go_keep; done) | (simp [go_sem, *]; done)) hb
      have k16_m1 := cell_keep (a := ⟨w14.heap.size, 1, none⟩) (v := .int .i64 0) (by first | (go_keep; done) | (simp [go_sem, *]; done)) hb
      have l16_m := World.block_lt_of_cell? _ _ k16_m0
      try simp only at l16_m
      clear hb k15_a0 k15_a1 l15_a k15_b0 k15_b1 l15_b k15_q0 k15_q1 l15_q k15_r0 k15_r1 l15_r k15_m0 k15_m1 l15_m W15
      go_wp2_with fail
      refine (sameErr_yes (ErrNo.no 1) _ (hT.below (by repeat (first | exact W16.out | refine blw_drewN ?_ _ | refine Below.setCell ?_ (by first | (simp; done) | omega | (simp; omega)) _ | refine Below.alloc ?_ (by first | (simp; done) | omega | (simp; omega)) _))).h).mono ?_
      rintro e w17 ⟨rfl, hb⟩
      have W17 := Lib.hid (blw_trans (show Below w.heap.size w _ by repeat (first | exact W16.out | refine blw_drewN ?_ _ | refine Below.setCell ?_ (by first | (simp; done) | omega | (simp; omega)) _ | refine Below.alloc ?_ (by first | (simp; done) | omega | (simp; omega)) _)) hb)
      have n17 := hb.size
      try simp at n17
      have k17_a0 := cell_keep (a := ⟨w.heap.size, 0, none⟩) (v := .int .i64 a) (by first | (go_keep; done) | (simp [go_sem, *]; done)) hb
      have k17_a1 := cell_keep (a := ⟨w.heap.size, 1, none⟩) (v := .int .i64 s) (by first | (go_keep; done) | (simp [go_sem, *]; done)) hb
      have l17_a := World.block_lt_of_cell? _ _ k17_a0
      try simp only at l17_a
      have k17_b0 := cell_keep (a := ⟨w.heap.size + 1, 0, none⟩) (v := .int .i64 b) (by first | (go_keep; done) | (simp [go_sem, *]; done)) hb
      have k17_b1 := cell_keep (a := ⟨w.heap.size + 1, 1, none⟩) (v := .int .i64 u) (by first | (go_keep; done) | (simp [go_sem, *]; done)) hb
      have l17_b := World.block_lt_of_cell? _ _ k17_b0
      try simp only at l17_b
      have k17_q0 := cell_keep (a := ⟨wh.heap.size, 0, none⟩) (v := .int .i64 0) (by first | (go_keep; done) | (simp [go_sem, *]; done)) hb
      have k17_q1 := cell_keep (a := ⟨wh.heap.size, 1, none⟩) (v := .int .i64 0) (by first | (go_keep; done) | (simp [go_sem, *]; done)) hb
      have l17_q := World.block_lt_of_cell? _ _ k17_q0
      try simp only at l17_q
      have k17_r0 := cell_keep (a := ⟨w13.heap.size, 0, none⟩) (v := .int .i64 0) (by first | (go_keep; done) | (simp [go_sem, *]; done)) hb
      have k17_r1 := cell_keep (a := ⟨w13.heap.size, 1, none⟩) (v := .int .i64 0) (by first | (go_keep; done) | (simp [go_sem, *]; done)) hb
      have l17_r := World.block_lt_of_cell? _ _ k17_r0
      try simp only at l17_r
      have k17_m0 := cell_keep (a := ⟨w14.heap.size, 0, none⟩) (v := .int .i64 0) (by first | (go_keep; done) | (simp [go_sem, *]; done)) hb
      have k17_m1 := cell_keep (a := ⟨w14.heap.size, 1, none⟩) (v := .int .i64 0) (by first | (go_keep; done) | (simp [go_sem, *]; done)) hb
      have l17_m := World.block_lt_of_cell? _ _ k17_m0
      try simp only at l17_m
      have k17_n0 := cell_keep (a := ⟨w16.heap.size, 0, none⟩) (v := .int .i64 0) (by first | (go_keep; done) | (simp [go_sem, *]; done)) hb
      have k17_n1 := cell_keep (a := ⟨w16.heap.size, 1, none⟩) (v := .int .i64 0) (by first | (go_keep; done) | (simp [go_sem, *]; done)) hb
      have l17_n := World.block_lt_of_cell? _ _ k17_n0
      try simp only at l17_n
      clear hb k16_a0 k16_a1 l16_a k16_b0 k16_b1 l16_b k16_q0 k16_q1 l16_q k16_r0 k16_r1 l16_r k16_m0 k16_m1 l16_m W16
      go_wp2_with fail
      go_ret
      exact ⟨ret_bool (by first | rfl | (simp; done)), by repeat (first | exact W17.out | refine blw_drewN ?_ _ | refine Below.setCell ?_ (by first | (simp; done) | omega | (simp; omega)) _ | refine Below.alloc ?_ (by first | (simp; done) | omega | (simp; omega)) _)⟩

set_option maxRecDepth 100000 in
set_option maxHeartbeats 2000000 in
theorem dt_full_wy (a s b u sc wy x1 x2 : Int) (t : List UInt8) (is : Bool) (ev : Value) (lb sb : Bool) (o : Int) (X : List UInt8) (j1 j2 : Bool) (w : World) (hT : TM w)
    (CF : Hid (∀ w : World, Calls Tryz.prog 5 #[.agg #[.int .i64 a, .int .i64 s]] w fun e w' => e = .returned (.bool false) ∧ Below w.heap.size w w'))
    (CK : Hid (∀ w : World, Calls Tryz.prog 7 #[.agg #[.int .i64 a, .int .i64 s]] w fun e w' => e = .returned (.nilIface) ∧ Below w.heap.size w w'))
    (CO : Hid (∀ w : World, Calls Tryz.prog 8 #[.string ⟨t.toArray⟩] w fun e w' => e = .returned (.tuple #[.agg #[.int .i64 x1, .int .i64 x2], .bool is]) ∧ Below w.heap.size w w'))
    (CP : Hid (∀ w : World, TM w → Calls Tryz.prog 9 #[.string ⟨t.toArray⟩] w fun e w' => e = .returned (.tuple #[.agg #[.int .i64 x1, .int .i64 x2], ev]) ∧ Below w.heap.size w w'))
    (hev : ErrNo ev (isE is))
    (CG : Hid (∀ w : World, Calls Tryz.prog 5 #[.agg #[.int .i64 b, .int .i64 u]] w fun e w' => e = .returned (.bool false) ∧ Below w.heap.size w w'))
    (CL : Hid (∀ w : World, Calls Tryz.prog 10 #[.agg #[.int .i64 a, .int .i64 s], .agg #[.int .i64 b, .int .i64 u]] w fun e w' => e = .returned (.bool lb) ∧ Below w.heap.size w w'))
    (CS : Hid (∀ w : World, Calls Tryz.prog 12 #[.agg #[.int .i64 a, .int .i64 s], .agg #[.int .i64 b, .int .i64 u]] w fun e w' => e = .returned (.bool sb) ∧ Below w.heap.size w w'))
    (CR : Hid (∀ w : World, Calls Tryz.prog 11 #[.agg #[.int .i64 a, .int .i64 s], .agg #[.int .i64 b, .int .i64 u]] w fun e w' => e = .returned (.int .i64 o) ∧ Below w.heap.size w w'))
    (hlb : decide (o < 0) = lb) (hsb : (o == 0) = sb)
    (CX : Hid (∀ w : World, TM w → Calls Tryz.prog 13 #[.agg #[.int .i64 a, .int .i64 s]] w fun e w' => e = .returned (.string ⟨X.toArray⟩) ∧ Below w.heap.size w w'))
    (CY : Hid (∀ w : World, Calls Tryz.prog 14 #[.agg #[.int .i64 a, .int .i64 s]] w fun e w' => e = .returned (.string ⟨X.toArray⟩) ∧ Below w.heap.size w w'))
    (CV : Hid (∀ w : World, Calls Tryz.prog 16 #[.agg #[.int .i64 a, .int .i64 s], .int .i64 sc, .int .i64 wy] w fun e w' => e = .returned (.tuple #[.agg #[.int .i64 0, .int .i64 0], errV 3]) ∧ Below w.heap.size w w'))
    (CQ : Hid (∀ w : World, Calls Tryz.prog 17 #[.agg #[.int .i64 a, .int .i64 s], .agg #[.int .i64 b, .int .i64 u]] w fun e w' => e = .returned (.tuple #[.agg #[.int .i64 0, .int .i64 0], .bool false]) ∧ Below w.heap.size w w'))
    (CA : Hid (∀ w : World, Calls Tryz.prog 18 #[.agg #[.int .i64 a, .int .i64 s], .agg #[.int .i64 b, .int .i64 u]] w fun e w' => e = .returned (.tuple #[.agg #[.int .i64 0, .int .i64 0], errV 1]) ∧ Below w.heap.size w w'))
    (hs0 : 0 ≤ sc) (hs9 : sc ≤ 9) (e3 : decide (wy < 1) = j1) (e4 : decide (5 < wy) = j2) (e12 : j1 = true ∨ j1 = false ∧ j2 = true) :
    Calls Tryz.prog 3 #[.agg #[.int .i64 a, .int .i64 s], .agg #[.int .i64 b, .int .i64 u], .string ⟨t.toArray⟩, .int .i64 sc, .int .i64 wy] w fun e w' => e = .returned (.bool true) ∧ Below w.heap.size w w' := by
  have e1 : decide (sc < 0) = false := dec_no (by omega)
  have e2 : decide (9 < sc) = false := dec_no (by omega)
  have xx : (X != X) = false := by simp
  cases is
  all_goals
    unfold isE at hev
    go_enter Tryz.func3, Tryz.ntmps3
    go_wp2_with fail
    refine (half_any _).mono ?_
    rintro e w1 ⟨rfl, hb⟩
    have W1 := Lib.hid (blw_trans (show Below w.heap.size w _ by repeat (first | exact (Below.refl _ _) | refine blw_drewN ?_ _ | refine Below.setCell ?_ (by first | (simp; done) | omega | (simp; omega)) _ | refine Below.alloc ?_ (by first | (simp; done) | omega | (simp; omega)) _)) hb)
    have n1 := hb.size
    try simp at n1
    have k1_a0 := cell_keep (a := ⟨w.heap.size, 0, none⟩) (v := .int .i64 a) (by first | (go_keep; done) | (simp [go_sem, *]; done)) hb
    have k1_a1 := cell_keep (a := ⟨w.heap.size, 1, none⟩) (v := .int .i64 s) (by first | (go_keep; done) | (simp [go_sem, *]; done)) hb
    have l1_a := World.block_lt_of_cell? _ _ k1_a0
    try simp only at l1_a
    have k1_b0 := cell_keep (a := ⟨w.heap.size + 1, 0, none⟩) (v := .int .i64 b) (by first | (go_keep; done) | (simp [go_sem, *]; done)) hb
    have k1_b1 := cell_keep (a := ⟨w.heap.size + 1, 1, none⟩) (v := .int .i64 u) (by first | (go_keep; done) | (simp [go_sem, *]; done)) hb
    have l1_b := World.block_lt_of_cell? _ _ k1_b0
    try simp only at l1_b
    clear hb
    go_wp2_with fail
    refine (CF.out _).mono ?_
    rintro e w2 ⟨rfl, hb⟩
    have W2 := Lib.hid (blw_trans (show Below w.heap.size w _ by repeat (first | exact W1.out | refine blw_drewN ?_ _ | refine Below.setCell ?_ (by first | (simp; done) | omega | (simp; omega)) _ | refine Below.alloc ?_ (by first | (simp; done) | omega | (simp; omega)) _)) hb)
    have n2 := hb.size
    try simp at n2
    have k2_a0 := cell_keep (a := ⟨w.heap.size, 0, none⟩) (v := .int .i64 a) (by first | (go_keep; done) | (simp [go_sem, *]; done)) hb
    have k2_a1 := cell_keep (a := ⟨w.heap.size, 1, none⟩) (v := .int .i64 s) (by first | (go_keep; done) | (simp [go_sem, *]; done)) hb
    have l2_a := World.block_lt_of_cell? _ _ k2_a0
    try simp only at l2_a
    have k2_b0 := cell_keep (a := ⟨w.heap.size + 1, 0, none⟩) (v := .int .i64 b) (by first | (go_keep; done) | (simp [go_sem, *]; done)) hb
    have k2_b1 := cell_keep (a := ⟨w.heap.size + 1, 1, none⟩) (v := .int .i64 u) (by first | (go_keep; done) | (simp [go_sem, *]; done)) hb
    have l2_b := World.block_lt_of_cell? _ _ k2_b0
    try simp only at l2_b
    clear hb k1_a0 k1_a1 l1_a k1_b0 k1_b1 l1_b W1
    go_wp2_with fail
    refine (CK.out _).mono ?_
    rintro e w3 ⟨rfl, hb⟩
    have W3 := Lib.hid (blw_trans (show Below w.heap.size w _ by repeat (first | exact W2.out | refine blw_drewN ?_ _ | refine Below.setCell ?_ (by first | (simp; done) | omega | (simp; omega)) _ | refine Below.alloc ?_ (by first | (simp; done) | omega | (simp; omega)) _)) hb)
    have n3 := hb.size
    try simp at n3
    have k3_a0 := cell_keep (a := ⟨w.heap.size, 0, none⟩) (v := .int .i64 a) (by first | (go_keep; done) | (simp [go_sem, *]; done)) hb
    have k3_a1 := cell_keep (a := ⟨w.heap.size, 1, none⟩) (v := .int .i64 s) (by first | (go_keep; done) | (simp [go_sem, *]; done)) hb
    have l3_a := World.block_lt_of_cell? _ _ k3_a0
    try simp only at l3_a
    have k3_b0 := cell_keep (a := ⟨w.heap.size + 1, 0, none⟩) (v := .int .i64 b) (by first | (go_keep; done) | (simp [go_sem, *]; done)) hb
    have k3_b1 := cell_keep (a := ⟨w.heap.size + 1, 1, none⟩) (v := .int .i64 u) (by first | (go_keep; done) | (simp [go_sem, *]; done)) hb
    have l3_b := World.block_lt_of_cell? _ _ k3_b0
    try simp only at l3_b
    clear hb k2_a0 k2_a1 l2_a k2_b0 k2_b1 l2_b W2
    go_wp2_with fail
    refine (sameErr_yes (ErrNo.nil) _ (hT.below (by repeat (first | exact W3.out | refine blw_drewN ?_ _ | refine Below.setCell ?_ (by first | (simp; done) | omega | (simp; omega)) _ | refine Below.alloc ?_ (by first | (simp; done) | omega | (simp; omega)) _))).h).mono ?_
    rintro e w4 ⟨rfl, hb⟩
    have W4 := Lib.hid (blw_trans (show Below w.heap.size w _ by repeat (first | exact W3.out | refine blw_drewN ?_ _ | refine Below.setCell ?_ (by first | (simp; done) | omega | (simp; omega)) _ | refine Below.alloc ?_ (by first | (simp; done) | omega | (simp; omega)) _)) hb)
    have n4 := hb.size
    try simp at n4
    have k4_a0 := cell_keep (a := ⟨w.heap.size, 0, none⟩) (v := .int .i64 a) (by first | (go_keep; done) | (simp [go_sem, *]; done)) hb
    have k4_a1 := cell_keep (a := ⟨w.heap.size, 1, none⟩) (v := .int .i64 s) (by first | (go_keep; done) | (simp [go_sem, *]; done)) hb
    have l4_a := World.block_lt_of_cell? _ _ k4_a0
    try simp only at l4_a
    have k4_b0 := cell_keep (a := ⟨w.heap.size + 1, 0, none⟩) (v := .int .i64 b) (by first | (go_keep; done) | (simp [go_sem, *]; done)) hb
    have k4_b1 := cell_keep (a := ⟨w.heap.size + 1, 1, none⟩) (v := .int .i64 u) (by first | (go_keep; done) | (simp [go_sem, *]; done)) hb
    have l4_b := World.block_lt_of_cell? _ _ k4_b0
    try simp only at l4_b
    clear hb k3_a0 k3_a1 l3_a k3_b0 k3_b1 l3_b W3
    go_wp2_with fail
    refine (CO.out _).mono ?_
    rintro e w5 ⟨rfl, hb⟩
    have W5 := Lib.hid (blw_trans (show Below w.heap.size w _ by repeat (first | exact W4.out | refine blw_drewN ?_ _ | refine Below.setCell ?_ (by first | (simp; done) | omega | (simp; omega)) _ | refine Below.alloc ?_ (by first | (simp; done) | omega | (simp; omega)) _)) hb)
    have n5 := hb.size
    try simp at n5
    have k5_a0 := cell_keep (a := ⟨w.heap.size, 0, none⟩) (v := .int .i64 a) (by first | (go_keep; done) | (simp [go_sem, *]; done)) hb
    have k5_a1 := cell_keep (a := ⟨w.heap.size, 1, none⟩) (v := .int .i64 s) (by first | (go_keep; done) | (simp [go_sem, *]; done)) hb
    have l5_a := World.block_lt_of_cell? _ _ k5_a0
    try simp only at l5_a
    have k5_b0 := cell_keep (a := ⟨w.heap.size + 1, 0, none⟩) (v := .int .i64 b) (by first | (go_keep; done) | (simp [go_sem, *]; done)) hb
    have k5_b1 := cell_keep (a := ⟨w.heap.size + 1, 1, none⟩) (v := .int .i64 u) (by first | (go_keep; done) | (simp [go_sem, *]; done)) hb
    have l5_b := World.block_lt_of_cell? _ _ k5_b0
    try simp only at l5_b
    clear hb k4_a0 k4_a1 l4_a k4_b0 k4_b1 l4_b W4
    go_wp2_with fail
    refine (CP.out _ (hT.below (by repeat (first | exact W5.out | refine blw_drewN ?_ _ | refine Below.setCell ?_ (by first | (simp; done) | omega | (simp; omega)) _ | refine Below.alloc ?_ (by first | (simp; done) | omega | (simp; omega)) _)))).mono ?_
    rintro e w6 ⟨rfl, hb⟩
    have W6 := Lib.hid (blw_trans (show Below w.heap.size w _ by repeat (first | exact W5.out | refine blw_drewN ?_ _ | refine Below.setCell ?_ (by first | (simp; done) | omega | (simp; omega)) _ | refine Below.alloc ?_ (by first | (simp; done) | omega | (simp; omega)) _)) hb)
    have n6 := hb.size
    try simp at n6
    have k6_a0 := cell_keep (a := ⟨w.heap.size, 0, none⟩) (v := .int .i64 a) (by first | (go_keep; done) | (simp [go_sem, *]; done)) hb
    have k6_a1 := cell_keep (a := ⟨w.heap.size, 1, none⟩) (v := .int .i64 s) (by first | (go_keep; done) | (simp [go_sem, *]; done)) hb
    have l6_a := World.block_lt_of_cell? _ _ k6_a0
    try simp only at l6_a
    have k6_b0 := cell_keep (a := ⟨w.heap.size + 1, 0, none⟩) (v := .int .i64 b) (by first | (go_keep; done) | (simp [go_sem, *]; done)) hb
    have k6_b1 := cell_keep (a := ⟨w.heap.size + 1, 1, none⟩) (v := .int .i64 u) (by first | (go_keep; done) | (simp [go_sem, *]; done)) hb
    have l6_b := World.block_lt_of_cell? _ _ k6_b0
    try simp only at l6_b
    have k6_x0 := cell_keep (a := ⟨w5.heap.size, 0, none⟩) (v := .int .i64 x1) (by first | (go_keep; done) | (simp [go_sem, *]; done)) hb
    have k6_x1 := cell_keep (a := ⟨w5.heap.size, 1, none⟩) (v := .int .i64 x2) (by first | (go_keep; done) | (simp [go_sem, *]; done)) hb
    have l6_x := World.block_lt_of_cell? _ _ k6_x0
    try simp only at l6_x
    clear hb k5_a0 k5_a1 l5_a k5_b0 k5_b1 l5_b W5
    go_wp2_with fail
    refine (sameErr_yes hev _ (hT.below (by repeat (first | exact W6.out | refine blw_drewN ?_ _ | refine Below.setCell ?_ (by first | (simp; done) | omega | (simp; omega)) _ | refine Below.alloc ?_ (by first | (simp; done) | omega | (simp; omega)) _))).h).mono ?_
    rintro e w7 ⟨rfl, hb⟩
    have W7 := Lib.hid (blw_trans (show Below w.heap.size w _ by repeat (first | exact W6.out | refine blw_drewN ?_ _ | refine Below.setCell ?_ (by first | (simp; done) | omega | (simp; omega)) _ | refine Below.alloc ?_ (by first | (simp; done) | omega | (simp; omega)) _)) hb)
    have n7 := hb.size
    try simp at n7
    have k7_a0 := cell_keep (a := ⟨w.heap.size, 0, none⟩) (v := .int .i64 a) (by first | (go_keep; done) | (simp [go_sem, *]; done)) hb
    have k7_a1 := cell_keep (a := ⟨w.heap.size, 1, none⟩) (v := .int .i64 s) (by first | (go_keep; done) | (simp [go_sem, *]; done)) hb
    have l7_a := World.block_lt_of_cell? _ _ k7_a0
    try simp only at l7_a
    have k7_b0 := cell_keep (a := ⟨w.heap.size + 1, 0, none⟩) (v := .int .i64 b) (by first | (go_keep; done) | (simp [go_sem, *]; done)) hb
    have k7_b1 := cell_keep (a := ⟨w.heap.size + 1, 1, none⟩) (v := .int .i64 u) (by first | (go_keep; done) | (simp [go_sem, *]; done)) hb
    have l7_b := World.block_lt_of_cell? _ _ k7_b0
    try simp only at l7_b
    have k7_x0 := cell_keep (a := ⟨w5.heap.size, 0, none⟩) (v := .int .i64 x1) (by first | (go_keep; done) | (simp [go_sem, *]; done)) hb
    have k7_x1 := cell_keep (a := ⟨w5.heap.size, 1, none⟩) (v := .int .i64 x2) (by first | (go_keep; done) | (simp [go_sem, *]; done)) hb
    have l7_x := World.block_lt_of_cell? _ _ k7_x0
    try simp only at l7_x
    have k7_y0 := cell_keep (a := ⟨w6.heap.size, 0, none⟩) (v := .int .i64 x1) (by first | (go_keep; done) | (simp [go_sem, *]; done)) hb
    have k7_y1 := cell_keep (a := ⟨w6.heap.size, 1, none⟩) (v := .int .i64 x2) (by first | (go_keep; done) | (simp [go_sem, *]; done)) hb
    have l7_y := World.block_lt_of_cell? _ _ k7_y0
    try simp only at l7_y
    clear hb k6_a0 k6_a1 l6_a k6_b0 k6_b1 l6_b k6_x0 k6_x1 l6_x W6
    go_wp2_with fail
    refine (CG.out _).mono ?_
    rintro e w8 ⟨rfl, hb⟩
    have W8 := Lib.hid (blw_trans (show Below w.heap.size w _ by repeat (first | exact W7.out | refine blw_drewN ?_ _ | refine Below.setCell ?_ (by first | (simp; done) | omega | (simp; omega)) _ | refine Below.alloc ?_ (by first | (simp; done) | omega | (simp; omega)) _)) hb)
    have n8 := hb.size
    try simp at n8
    have k8_a0 := cell_keep (a := ⟨w.heap.size, 0, none⟩) (v := .int .i64 a) (by first | (go_keep; done) | (simp [go_sem, *]; done)) hb
    have k8_a1 := cell_keep (a := ⟨w.heap.size, 1, none⟩) (v := .int .i64 s) (by first | (go_keep; done) | (simp [go_sem, *]; done)) hb
    have l8_a := World.block_lt_of_cell? _ _ k8_a0
    try simp only at l8_a
    have k8_b0 := cell_keep (a := ⟨w.heap.size + 1, 0, none⟩) (v := .int .i64 b) (by first | (go_keep; done) | (simp [go_sem, *]; done)) hb
    have k8_b1 := cell_keep (a := ⟨w.heap.size + 1, 1, none⟩) (v := .int .i64 u) (by first | (go_keep; done) | (simp [go_sem, *]; done)) hb
    have l8_b := World.block_lt_of_cell? _ _ k8_b0
    try simp only at l8_b
    have k8_x0 := cell_keep (a := ⟨w5.heap.size, 0, none⟩) (v := .int .i64 x1) (by first | (go_keep; done) | (simp [go_sem, *]; done)) hb
    have k8_x1 := cell_keep (a := ⟨w5.heap.size, 1, none⟩) (v := .int .i64 x2) (by first | (go_keep; done) | (simp [go_sem, *]; done)) hb
    have l8_x := World.block_lt_of_cell? _ _ k8_x0
    try simp only at l8_x
    have k8_y0 := cell_keep (a := ⟨w6.heap.size, 0, none⟩) (v := .int .i64 x1) (by first | (go_keep; done) | (simp [go_sem, *]; done)) hb
    have k8_y1 := cell_keep (a := ⟨w6.heap.size, 1, none⟩) (v := .int .i64 x2) (by first | (go_keep; done) | (simp [go_sem, *]; done)) hb
    have l8_y := World.block_lt_of_cell? _ _ k8_y0
    try simp only at l8_y
    clear hb k7_a0 k7_a1 l7_a k7_b0 k7_b1 l7_b k7_x0 k7_x1 l7_x k7_y0 k7_y1 l7_y W7
    go_wp2_with fail
    refine (CL.out _).mono ?_
    rintro e w9 ⟨rfl, hb⟩
    have W9 := Lib.hid (blw_trans (show Below w.heap.size w _ by repeat (first | exact W8.out | refine blw_drewN ?_ _ | refine Below.setCell ?_ (by first | (simp; done) | omega | (simp; omega)) _ | refine Below.alloc ?_ (by first | (simp; done) | omega | (simp; omega)) _)) hb)
    have n9 := hb.size
    try simp at n9
    have k9_a0 := cell_keep (a := ⟨w.heap.size, 0, none⟩) (v := .int .i64 a) (by first | (go_keep; done) | (simp [go_sem, *]; done)) hb
    have k9_a1 := cell_keep (a := ⟨w.heap.size, 1, none⟩) (v := .int .i64 s) (by first | (go_keep; done) | (simp [go_sem, *]; done)) hb
    have l9_a := World.block_lt_of_cell? _ _ k9_a0
    try simp only at l9_a
    have k9_b0 := cell_keep (a := ⟨w.heap.size + 1, 0, none⟩) (v := .int .i64 b) (by first | (go_keep; done) | (simp [go_sem, *]; done)) hb
    have k9_b1 := cell_keep (a := ⟨w.heap.size + 1, 1, none⟩) (v := .int .i64 u) (by first | (go_keep; done) | (simp [go_sem, *]; done)) hb
    have l9_b := World.block_lt_of_cell? _ _ k9_b0
    try simp only at l9_b
    have k9_x0 := cell_keep (a := ⟨w5.heap.size, 0, none⟩) (v := .int .i64 x1) (by first | (go_keep; done) | (simp [go_sem, *]; done)) hb
    have k9_x1 := cell_keep (a := ⟨w5.heap.size, 1, none⟩) (v := .int .i64 x2) (by first | (go_keep; done) | (simp [go_sem, *]; done)) hb
    have l9_x := World.block_lt_of_cell? _ _ k9_x0
    try simp only at l9_x
    have k9_y0 := cell_keep (a := ⟨w6.heap.size, 0, none⟩) (v := .int .i64 x1) (by first | (go_keep; done) | (simp [go_sem, *]; done)) hb
    have k9_y1 := cell_keep (a := ⟨w6.heap.size, 1, none⟩) (v := .int .i64 x2) (by first | (go_keep; done) | (simp [go_sem, *]; done)) hb
    have l9_y := World.block_lt_of_cell? _ _ k9_y0
    try simp only at l9_y
    clear hb k8_a0 k8_a1 l8_a k8_b0 k8_b1 l8_b k8_x0 k8_x1 l8_x k8_y0 k8_y1 l8_y W8
    go_wp2_with fail
    refine (CR.out _).mono ?_
    rintro e w10 ⟨rfl, hb⟩
    have W10 := Lib.hid (blw_trans (show Below w.heap.size w _ by repeat (first | exact W9.out | refine blw_drewN ?_ _ | refine Below.setCell ?_ (by first | (simp; done) | omega | (simp; omega)) _ | refine Below.alloc ?_ (by first | (simp; done) | omega | (simp; omega)) _)) hb)
    have n10 := hb.size
    try simp at n10
    have k10_a0 := cell_keep (a := ⟨w.heap.size, 0, none⟩) (v := .int .i64 a) (by first | (go_keep; done) | (simp [go_sem, *]; done)) hb
    have k10_a1 := cell_keep (a := ⟨w.heap.size, 1, none⟩) (v := .int .i64 s) (by first | (go_keep; done) | (simp [go_sem, *]; done)) hb
    have l10_a := World.block_lt_of_cell? _ _ k10_a0
    try simp only at l10_a
    have k10_b0 := cell_keep (a := ⟨w.heap.size + 1, 0, none⟩) (v := .int .i64 b) (by first | (go_keep; done) | (simp [go_sem, *]; done)) hb
    have k10_b1 := cell_keep (a := ⟨w.heap.size + 1, 1, none⟩) (v := .int .i64 u) (by first | (go_keep; done) | (simp [go_sem, *]; done)) hb
    have l10_b := World.block_lt_of_cell? _ _ k10_b0
    try simp only at l10_b
    have k10_x0 := cell_keep (a := ⟨w5.heap.size, 0, none⟩) (v := .int .i64 x1) (by first | (go_keep; done) | (simp [go_sem, *]; done)) hb
    have k10_x1 := cell_keep (a := ⟨w5.heap.size, 1, none⟩) (v := .int .i64 x2) (by first | (go_keep; done) | (simp [go_sem, *]; done)) hb
    have l10_x := World.block_lt_of_cell? _ _ k10_x0
    try simp only at l10_x
    have k10_y0 := cell_keep (a := ⟨w6.heap.size, 0, none⟩) (v := .int .i64 x1) (by first | (go_keep; done) | (simp [go_sem, *]; done)) hb
    have k10_y1 := cell_keep (a := ⟨w6.heap.size, 1, none⟩) (v := .int .i64 x2) (by first | (go_keep; done) | (simp [go_sem, *]; done)) hb
    have l10_y := World.block_lt_of_cell? _ _ k10_y0
    try simp only at l10_y
    clear hb k9_a0 k9_a1 l9_a k9_b0 k9_b1 l9_b k9_x0 k9_x1 l9_x k9_y0 k9_y1 l9_y W9
    go_wp2_with fail
    refine (CS.out _).mono ?_
    rintro e w11 ⟨rfl, hb⟩
    have W11 := Lib.hid (blw_trans (show Below w.heap.size w _ by repeat (first | exact W10.out | refine blw_drewN ?_ _ | refine Below.setCell ?_ (by first | (simp; done) | omega | (simp; omega)) _ | refine Below.alloc ?_ (by first | (simp; done) | omega | (simp; omega)) _)) hb)
    have n11 := hb.size
    try simp at n11
    have k11_a0 := cell_keep (a := ⟨w.heap.size, 0, none⟩) (v := .int .i64 a) (by first | (go_keep; done) | (simp [go_sem, *]; done)) hb
    have k11_a1 := cell_keep (a := ⟨w.heap.size, 1, none⟩) (v := .int .i64 s) (by first | (go_keep; done) | (simp [go_sem, *]; done)) hb
    have l11_a := World.block_lt_of_cell? _ _ k11_a0
    try simp only at l11_a
    have k11_b0 := cell_keep (a := ⟨w.heap.size + 1, 0, none⟩) (v := .int .i64 b) (by first | (go_keep; done) | (simp [go_sem, *]; done)) hb
    have k11_b1 := cell_keep (a := ⟨w.heap.size + 1, 1, none⟩) (v := .int .i64 u) (by first | (go_keep; done) | (simp [go_sem, *]; done)) hb
    have l11_b := World.block_lt_of_cell? _ _ k11_b0
    try simp only at l11_b
    have k11_x0 := cell_keep (a := ⟨w5.heap.size, 0, none⟩) (v := .int .i64 x1) (by first | (go_keep; done) | (simp [go_sem, *]; done)) hb
    have k11_x1 := cell_keep (a := ⟨w5.heap.size, 1, none⟩) (v := .int .i64 x2) (by first | (go_keep; done) | (simp [go_sem, *]; done)) hb
    have l11_x := World.block_lt_of_cell? _ _ k11_x0
    try simp only at l11_x
    have k11_y0 := cell_keep (a := ⟨w6.heap.size, 0, none⟩) (v := .int .i64 x1) (by first | (go_keep; done) | (simp [go_sem, *]; done)) hb
    have k11_y1 := cell_keep (a := ⟨w6.heap.size, 1, none⟩) (v := .int .i64 x2) (by first | (go_keep; done) | (simp [go_sem, *]; done)) hb
    have l11_y := World.block_lt_of_cell? _ _ k11_y0
    try simp only at l11_y
    clear hb k10_a0 k10_a1 l10_a k10_b0 k10_b1 l10_b k10_x0 k10_x1 l10_x k10_y0 k10_y1 l10_y W10
    go_wp2_with fail
    refine (CR.out _).mono ?_
    rintro e w12 ⟨rfl, hb⟩
    have W12 := Lib.hid (blw_trans (show Below w.heap.size w _ by repeat (first | exact W11.out | refine blw_drewN ?_ _ | refine Below.setCell ?_ (by first | (simp; done) | omega | (simp; omega)) _ | refine Below.alloc ?_ (by first | (simp; done) | omega | (simp; omega)) _)) hb)
    have n12 := hb.size
    try simp at n12
    have k12_a0 := cell_keep (a := ⟨w.heap.size, 0, none⟩) (v := .int .i64 a) (by first | (go_keep; done) | (simp [go_sem, *]; done)) hb
    have k12_a1 := cell_keep (a := ⟨w.heap.size, 1, none⟩) (v := .int .i64 s) (by first | (go_keep; done) | (simp [go_sem, *]; done)) hb
    have l12_a := World.block_lt_of_cell? _ _ k12_a0
    try simp only at l12_a
    have k12_b0 := cell_keep (a := ⟨w.heap.size + 1, 0, none⟩) (v := .int .i64 b) (by first | (go_keep; done) | (simp [go_sem, *]; done)) hb
    have k12_b1 := cell_keep (a := ⟨w.heap.size + 1, 1, none⟩) (v := .int .i64 u) (by first | (go_keep; done) | (simp [go_sem, *]; done)) hb
    have l12_b := World.block_lt_of_cell? _ _ k12_b0
    try simp only at l12_b
    have k12_x0 := cell_keep (a := ⟨w5.heap.size, 0, none⟩) (v := .int .i64 x1) (by first | (go_keep; done) | (simp [go_sem, *]; done)) hb
    have k12_x1 := cell_keep (a := ⟨w5.heap.size, 1, none⟩) (v := .int .i64 x2) (by first | (go_keep; done) | (simp [go_sem, *]; done)) hb
    have l12_x := World.block_lt_of_cell? _ _ k12_x0
    try simp only at l12_x
    have k12_y0 := cell_keep (a := ⟨w6.heap.size, 0, none⟩) (v := .int .i64 x1) (by first | (go_keep; done) | (simp [go_sem, *]; done)) hb
    have k12_y1 := cell_keep (a := ⟨w6.heap.size, 1, none⟩) (v := .int .i64 x2) (by first | (go_keep; done) | (simp [go_sem, *]; done)) hb
    have l12_y := World.block_lt_of_cell? _ _ k12_y0
    try simp only at l12_y
    clear hb k11_a0 k11_a1 l11_a k11_b0 k11_b1 l11_b k11_x0 k11_x1 l11_x k11_y0 k11_y1 l11_y W11
    go_wp2_with fail
  focus
    refine wp_region_held_drew (S := fun w' => w'.cell? ⟨w.heap.size, 0, none⟩ = some (.int .i64 a) ∧ w'.cell? ⟨w.heap.size, 1, none⟩ = some (.int .i64 s) ∧ w'.cell? ⟨w.heap.size + 1, 0, none⟩ = some (.int .i64 b) ∧ w'.cell? ⟨w.heap.size + 1, 1, none⟩ = some (.int .i64 u) ∧ Hid (Below w.heap.size w w')) (by kernel_rfl) (by exact ⟨by simpa using k12_a0, by simpa using k12_a1, by simpa using k12_b0, by simpa using k12_b1, Lib.hid (blw_drewN W12.out 1)⟩) (fun hHeld => ?_)
    refine take_run (d := (some 103)) (v := ?v199) 0 rfl rfl (by kernel_rfl) (by kernel_rfl) (by kernel_rfl) (fun _ _ _ h => h) (by rfl) hHeld ?hy199 ?rs199
    case hy199 => (intro w hSw; (try dsimp only at hSw); go_simp) <;> (try with_reducible rfl)
    (try simp only [Act.put, List.setIfInBounds_toArray, List.set_cons_zero, List.set_cons_succ])
    refine take_run (d := (some 104)) (v := ?v200) 1 rfl rfl (by kernel_rfl) (by kernel_rfl) (by kernel_rfl) (fun _ _ _ h => h) (by rfl) hHeld ?hy200 ?rs200
    case hy200 => (intro w hSw; (try dsimp only at hSw); go_simp) <;> (try with_reducible rfl)
    (try simp only [Act.put, List.setIfInBounds_toArray, List.set_cons_zero, List.set_cons_succ])
    refine take_run (d := (some 105)) (v := ?v201) 2 rfl rfl (by kernel_rfl) (by kernel_rfl) (by kernel_rfl) (fun _ _ _ h => h) (by rfl) hHeld ?hy201 ?rs201
    case hy201 => (intro w hSw; (try dsimp only at hSw); go_simp) <;> (try with_reducible rfl)
    (try simp only [Act.put, List.setIfInBounds_toArray, List.set_cons_zero, List.set_cons_succ])
    refine take_run (d := (some 106)) (v := ?v202) 3 rfl rfl (by kernel_rfl) (by kernel_rfl) (by kernel_rfl) (fun _ _ _ h => h) (by rfl) hHeld ?hy202 ?rs202
    case hy202 => (intro w hSw; (try dsimp only at hSw); go_simp) <;> (try with_reducible rfl)
    (try simp only [Act.put, List.setIfInBounds_toArray, List.set_cons_zero, List.set_cons_succ])
    refine take_run (d := (some 108)) (v := ?v203) 5 rfl rfl (by kernel_rfl) (by kernel_rfl) (by kernel_rfl) (fun _ _ _ h => h) (by rfl) hHeld ?hy203 ?rs203
    case hy203 => (intro w hSw; (try dsimp only at hSw); go_simp) <;> (try with_reducible rfl)
    (try simp only [Act.put, List.setIfInBounds_toArray, List.set_cons_zero, List.set_cons_succ])
    refine take_call 4 rfl (by kernel_rfl) (by rfl) (fun K hK => ?_)
    go_simp
    refine (CX.out _ (hT.below hHeld.2.2.2.2.out)).mono ?_
    rintro e w' ⟨rfl, hb⟩
    refine hK.out _ _ (by obtain ⟨h0, h1, h2, h3, hw⟩ := hHeld; exact ⟨cell_keep h0 hb, cell_keep h1 hb, cell_keep h2 hb, cell_keep h3 hb, Lib.hid (blw_trans hw.out hb)⟩) (fun hHeld => ?_)
    clear hK K
    (try simp only [Act.put, List.setIfInBounds_toArray, List.set_cons_zero, List.set_cons_succ])
    refine take_call 6 rfl (by kernel_rfl) (by rfl) (fun K hK => ?_)
    go_simp
    refine (CY.out _).mono ?_
    rintro e w' ⟨rfl, hb⟩
    refine hK.out _ _ (by obtain ⟨h0, h1, h2, h3, hw⟩ := hHeld; exact ⟨cell_keep h0 hb, cell_keep h1 hb, cell_keep h2 hb, cell_keep h3 hb, Lib.hid (blw_trans hw.out hb)⟩) (fun hHeld => ?_)
    clear hK K
    (try simp only [Act.put, List.setIfInBounds_toArray, List.set_cons_zero, List.set_cons_succ])
    refine take_run (d := (some 110)) (v := ?v206) 7 rfl rfl (by kernel_rfl) (by kernel_rfl) (by kernel_rfl) (fun _ _ _ h => h) (by rfl) hHeld ?hy206 ?rs206
    case hy206 => (intro w hSw; (try dsimp only at hSw); go_simp) <;> (try with_reducible rfl)
    (try simp only [Act.put, List.setIfInBounds_toArray, List.set_cons_zero, List.set_cons_succ])
    refine take_run (d := (some 111)) (v := ?v207) 8 rfl rfl (by kernel_rfl) (by kernel_rfl) (by kernel_rfl) (fun _ _ _ h => h) (by rfl) hHeld ?hy207 ?rs207
    case hy207 => (intro w hSw; (try dsimp only at hSw); go_simp) <;> (try with_reducible rfl)
    (try simp only [Act.put, List.setIfInBounds_toArray, List.set_cons_zero, List.set_cons_succ])
    refine wpAnyH_done (by kernel_rfl) ?_ _
    obtain ⟨z0, z1, z2, z3, zW⟩ := hHeld
  rotate_left
  focus
    refine wp_region_held_drew (S := fun w' => w'.cell? ⟨w.heap.size, 0, none⟩ = some (.int .i64 a) ∧ w'.cell? ⟨w.heap.size, 1, none⟩ = some (.int .i64 s) ∧ w'.cell? ⟨w.heap.size + 1, 0, none⟩ = some (.int .i64 b) ∧ w'.cell? ⟨w.heap.size + 1, 1, none⟩ = some (.int .i64 u) ∧ Hid (Below w.heap.size w w')) (by kernel_rfl) (by exact ⟨by simpa using k12_a0, by simpa using k12_a1, by simpa using k12_b0, by simpa using k12_b1, Lib.hid (blw_drewN W12.out 1)⟩) (fun hHeld => ?_)
    refine take_run (d := (some 103)) (v := ?v208) 0 rfl rfl (by kernel_rfl) (by kernel_rfl) (by kernel_rfl) (fun _ _ _ h => h) (by rfl) hHeld ?hy208 ?rs208
    case hy208 => (intro w hSw; (try dsimp only at hSw); go_simp) <;> (try with_reducible rfl)
    (try simp only [Act.put, List.setIfInBounds_toArray, List.set_cons_zero, List.set_cons_succ])
    refine take_run (d := (some 104)) (v := ?v209) 1 rfl rfl (by kernel_rfl) (by kernel_rfl) (by kernel_rfl) (fun _ _ _ h => h) (by rfl) hHeld ?hy209 ?rs209
    case hy209 => (intro w hSw; (try dsimp only at hSw); go_simp) <;> (try with_reducible rfl)
    (try simp only [Act.put, List.setIfInBounds_toArray, List.set_cons_zero, List.set_cons_succ])
    refine take_run (d := (some 105)) (v := ?v210) 2 rfl rfl (by kernel_rfl) (by kernel_rfl) (by kernel_rfl) (fun _ _ _ h => h) (by rfl) hHeld ?hy210 ?rs210
    case hy210 => (intro w hSw; (try dsimp only at hSw); go_simp) <;> (try with_reducible rfl)
    (try simp only [Act.put, List.setIfInBounds_toArray, List.set_cons_zero, List.set_cons_succ])
    refine take_run (d := (some 106)) (v := ?v211) 3 rfl rfl (by kernel_rfl) (by kernel_rfl) (by kernel_rfl) (fun _ _ _ h => h) (by rfl) hHeld ?hy211 ?rs211
    case hy211 => (intro w hSw; (try dsimp only at hSw); go_simp) <;> (try with_reducible rfl)
    (try simp only [Act.put, List.setIfInBounds_toArray, List.set_cons_zero, List.set_cons_succ])
    refine take_run (d := (some 108)) (v := ?v212) 5 rfl rfl (by kernel_rfl) (by kernel_rfl) (by kernel_rfl) (fun _ _ _ h => h) (by rfl) hHeld ?hy212 ?rs212
    case hy212 => (intro w hSw; (try dsimp only at hSw); go_simp) <;> (try with_reducible rfl)
    (try simp only [Act.put, List.setIfInBounds_toArray, List.set_cons_zero, List.set_cons_succ])
    refine take_call 4 rfl (by kernel_rfl) (by rfl) (fun K hK => ?_)
    go_simp
    refine (CX.out _ (hT.below hHeld.2.2.2.2.out)).mono ?_
    rintro e w' ⟨rfl, hb⟩
    refine hK.out _ _ (by obtain ⟨h0, h1, h2, h3, hw⟩ := hHeld; exact ⟨cell_keep h0 hb, cell_keep h1 hb, cell_keep h2 hb, cell_keep h3 hb, Lib.hid (blw_trans hw.out hb)⟩) (fun hHeld => ?_)
    clear hK K
    (try simp only [Act.put, List.setIfInBounds_toArray, List.set_cons_zero, List.set_cons_succ])
    refine take_call 6 rfl (by kernel_rfl) (by rfl) (fun K hK => ?_)
    go_simp
    refine (CY.out _).mono ?_
    rintro e w' ⟨rfl, hb⟩
    refine hK.out _ _ (by obtain ⟨h0, h1, h2, h3, hw⟩ := hHeld; exact ⟨cell_keep h0 hb, cell_keep h1 hb, cell_keep h2 hb, cell_keep h3 hb, Lib.hid (blw_trans hw.out hb)⟩) (fun hHeld => ?_)
    clear hK K
    (try simp only [Act.put, List.setIfInBounds_toArray, List.set_cons_zero, List.set_cons_succ])
    refine take_run (d := (some 110)) (v := ?v215) 7 rfl rfl (by kernel_rfl) (by kernel_rfl) (by kernel_rfl) (fun _ _ _ h => h) (by rfl) hHeld ?hy215 ?rs215
    case hy215 => (intro w hSw; (try dsimp only at hSw); go_simp) <;> (try with_reducible rfl)
    (try simp only [Act.put, List.setIfInBounds_toArray, List.set_cons_zero, List.set_cons_succ])
    refine take_run (d := (some 111)) (v := ?v216) 8 rfl rfl (by kernel_rfl) (by kernel_rfl) (by kernel_rfl) (fun _ _ _ h => h) (by rfl) hHeld ?hy216 ?rs216
    case hy216 => (intro w hSw; (try dsimp only at hSw); go_simp) <;> (try with_reducible rfl)
    (try simp only [Act.put, List.setIfInBounds_toArray, List.set_cons_zero, List.set_cons_succ])
    refine wpAnyH_done (by kernel_rfl) ?_ _
    obtain ⟨z0, z1, z2, z3, zW⟩ := hHeld
  rotate_left
  all_goals
    clear k12_a0 k12_a1 l12_a k12_b0 k12_b1 l12_b k12_x0 k12_x1 l12_x k12_y0 k12_y1 l12_y W12
    obtain ⟨wh, hwh⟩ : ∃ wh, wh = w' := ⟨_, rfl⟩
    subst hwh
    have k12_a0 := z0
    have k12_a1 := z1
    have l12_a := World.block_lt_of_cell? _ _ k12_a0
    try simp only at l12_a
    have k12_b0 := z2
    have k12_b1 := z3
    have l12_b := World.block_lt_of_cell? _ _ k12_b0
    try simp only at l12_b
    clear z0 z1 z2 z3
    rcases e12 with rfl | ⟨rfl, rfl⟩
    all_goals
      go_wp2_with fail
      refine (CV.out _).mono ?_
      rintro e w13 ⟨rfl, hb⟩
      have W13 := Lib.hid (blw_trans (show Below w.heap.size w _ by repeat (first | exact zW.out | refine blw_drewN ?_ _ | refine Below.setCell ?_ (by first | (simp; done) | omega | (simp; omega)) _ | refine Below.alloc ?_ (by first | (simp; done) | omega | (simp; omega)) _)) hb)
      have n13 := hb.size
      try simp at n13
      have k13_a0 := cell_keep (a := ⟨w.heap.size, 0, none⟩) (v := .int .i64 a) (by first | (go_keep; done) | (simp [go_sem, *]; done)) hb
      have k13_a1 := cell_keep (a := ⟨w.heap.size, 1, none⟩) (v := .int .i64 s) (by first | (go_keep; done) | (simp [go_sem, *]; done)) hb
      have l13_a := World.block_lt_of_cell? _ _ k13_a0
      try simp only at l13_a
      have k13_b0 := cell_keep (a := ⟨w.heap.size + 1, 0, none⟩) (v := .int .i64 b) (by first | (go_keep; done) | (simp [go_sem, *]; done)) hb
      have k13_b1 := cell_keep (a := ⟨w.heap.size + 1, 1, none⟩) (v := .int .i64 u) (by first | (go_keep; done) | (simp [go_sem, *]; done)) hb
      have l13_b := World.block_lt_of_cell? _ _ k13_b0
      try simp only at l13_b
      have k13_q0 := cell_keep (a := ⟨wh.heap.size, 0, none⟩) (v := .int .i64 0) (by first | (go_keep; done) | (simp [go_sem, *]; done)) hb
      have k13_q1 := cell_keep (a := ⟨wh.heap.size, 1, none⟩) (v := .int .i64 0) (by first | (go_keep; done) | (simp [go_sem, *]; done)) hb
      have l13_q := World.block_lt_of_cell? _ _ k13_q0
      try simp only at l13_q
      clear hb k12_a0 k12_a1 k12_b0 k12_b1 l12_a l12_b zW
      go_wp2_with fail
      refine (sameErr_yes (ErrNo.no 3) _ (hT.below (by repeat (first | exact W13.out | refine blw_drewN ?_ _ | refine Below.setCell ?_ (by first | (simp; done) | omega | (simp; omega)) _ | refine Below.alloc ?_ (by first | (simp; done) | omega | (simp; omega)) _))).h).mono ?_
      rintro e w14 ⟨rfl, hb⟩
      have W14 := Lib.hid (blw_trans (show Below w.heap.size w _ by repeat (first | exact W13.out | refine blw_drewN ?_ _ | refine Below.setCell ?_ (by first | (simp; done) | omega | (simp; omega)) _ | refine Below.alloc ?_ (by first | (simp; done) | omega | (simp; omega)) _)) hb)
      have n14 := hb.size
      try simp at n14
      have k14_a0 := cell_keep (a := ⟨w.heap.size, 0, none⟩) (v := .int .i64 a) (by first | (go_keep; done) | (simp [go_sem, *]; done)) hb
      have k14_a1 := cell_keep (a := ⟨w.heap.size, 1, none⟩) (v := .int .i64 s) (by first | (go_keep; done) | (simp [go_sem, *]; done)) hb
      have l14_a := World.block_lt_of_cell? _ _ k14_a0
      try simp only at l14_a
      have k14_b0 := cell_keep (a := ⟨w.heap.size + 1, 0, none⟩) (v := .int .i64 b) (by first | (go_keep; done) | (simp [go_sem, *]; done)) hb
      have k14_b1 := cell_keep (a := ⟨w.heap.size + 1, 1, none⟩) (v := .int .i64 u) (by first | (go_keep; done) | (simp [go_sem, *]; done)) hb
      have l14_b := World.block_lt_of_cell? _ _ k14_b0
      try simp only at l14_b
      have k14_q0 := cell_keep (a := ⟨wh.heap.size, 0, none⟩) (v := .int .i64 0) (by first | (go_keep; done) | (simp [go_sem, *]; done)) hb
      have k14_q1 := cell_keep (a := ⟨wh.heap.size, 1, none⟩) (v := .int .i64 0) (by first | (go_keep; done) | (simp [go_sem, *]; done)) hb
      have l14_q := World.block_lt_of_cell? _ _ k14_q0
      try simp only at l14_q
      have k14_r0 := cell_keep (a := ⟨w13.heap.size, 0, none⟩) (v := .int .i64 0) (by first | (go_keep; done) | (simp [go_sem, *]; done)) hb
      have k14_r1 := cell_keep (a := ⟨w13.heap.size, 1, none⟩) (v := .int .i64 0) (by first | (go_keep; done) | (simp [go_sem, *]; done)) hb
      have l14_r := World.block_lt_of_cell? _ _ k14_r0
      try simp only at l14_r
      clear hb k13_a0 k13_a1 l13_a k13_b0 k13_b1 l13_b k13_q0 k13_q1 l13_q W13
      have ne1 : ¬ w.heap.size = w14.heap.size := by omega
      have me1 : ¬ w14.heap.size = w.heap.size := by omega
      have ne2 : ¬ w.heap.size + 1 = w14.heap.size := by omega
      have me2 : ¬ w14.heap.size = w.heap.size + 1 := by omega
      have ne3 : ¬ wh.heap.size = w14.heap.size := by omega
      have me3 : ¬ w14.heap.size = wh.heap.size := by omega
      have ne4 : ¬ w13.heap.size = w14.heap.size := by omega
      have me4 : ¬ w14.heap.size = w13.heap.size := by omega
      have lem : w.heap.size ≤ w14.heap.size := by omega
      go_wp2_with fail
      refine (CQ.out _).mono ?_
      rintro e w15 ⟨rfl, hb⟩
      have W15 := Lib.hid (blw_trans (show Below w.heap.size w _ by repeat (first | exact W14.out | refine blw_drewN ?_ _ | refine Below.setCell ?_ (by first | (simp; done) | omega | (simp; omega)) _ | refine Below.alloc ?_ (by first | (simp; done) | omega | (simp; omega)) _)) hb)
      have n15 := hb.size
      try simp at n15
      have k15_a0 := cell_keep (a := ⟨w.heap.size, 0, none⟩) (v := .int .i64 a) (by first | (go_keep; done) | (simp [go_sem, *]; done)) hb
      have k15_a1 := cell_keep (a := ⟨w.heap.size, 1, none⟩) (v := .int .i64 s) (by first | (go_keep; done) | (simp [go_sem, *]; done)) hb
      have l15_a := World.block_lt_of_cell? _ _ k15_a0
      try simp only at l15_a
      have k15_b0 := cell_keep (a := ⟨w.heap.size + 1, 0, none⟩) (v := .int .i64 b) (by first | (go_keep; done) | (simp [go_sem, *]; done)) hb
      have k15_b1 := cell_keep (a := ⟨w.heap.size + 1, 1, none⟩) (v := .int .i64 u) (by first | (go_keep; done) | (simp [go_sem, *]; done)) hb
      have l15_b := World.block_lt_of_cell? _ _ k15_b0
      try simp only at l15_b
      have k15_q0 := cell_keep (a := ⟨wh.heap.size, 0, none⟩) (v := .int .i64 0) (by first | (go_keep; done) | (simp [go_sem, *]; done)) hb
      have k15_q1 := cell_keep (a := ⟨wh.heap.size, 1, none⟩) (v := .int .i64 0) (by first | (go_keep; done) | (simp [go_sem, *]; done)) hb
      have l15_q := World.block_lt_of_cell? _ _ k15_q0
      try simp only at l15_q
      have k15_r0 := cell_keep (a := ⟨w13.heap.size, 0, none⟩) (v := .int .i64 0) (by first | (go_keep; done) | (simp [go_sem, *]; done)) hb
      have k15_r1 := cell_keep (a := ⟨w13.heap.size, 1, none⟩) (v := .int .i64 0) (by first | (go_keep; done) | (simp [go_sem, *]; done)) hb
      have l15_r := World.block_lt_of_cell? _ _ k15_r0
      try simp only at l15_r
      have k15_m0 := cell_keep (a := ⟨w14.heap.size, 0, none⟩) (v := .int .i64 0) (by first | (go_keep; done) | (simp [go_sem, *]; done)) hb
      have k15_m1 := cell_keep (a := ⟨w14.heap.size, 1, none⟩) (v := .int .i64 0) (by first | (go_keep; done) | (simp [go_sem, *]; done)) hb
      have l15_m := World.block_lt_of_cell? _ _ k15_m0
      try simp only at l15_m
      clear hb k14_a0 k14_a1 l14_a k14_b0 k14_b1 l14_b k14_q0 k14_q1 l14_q k14_r0 k14_r1 l14_r W14
      go_wp2_with fail
      refine (CA.out _).mono ?_
      rintro e w16 ⟨rfl, hb⟩
      have W16 := Lib.hid (blw_trans (show Below w.heap.size w _ by repeat (first | exact W15.out | refine blw_drewN ?_ _ | refine Below.setCell ?_ (by first | (simp; done) | omega | (simp; omega)) _ | refine Below.alloc ?_ (by first | (simp; done) | omega | (simp; omega)) _)) hb)
      have n16 := hb.size
      try simp at n16
      have k16_a0 := cell_keep (a := ⟨w.heap.size, 0, none⟩) (v := .int .i64 a) (by first | (go_keep; done) | (simp [go_sem, *]; done)) hb
      have k16_a1 := cell_keep (a := ⟨w.heap.size, 1, none⟩) (v := .int .i64 s) (by first | (go_keep; done) | (simp [go_sem, *]; done)) hb
      have l16_a := World.block_lt_of_cell? _ _ k16_a0
      try simp only at l16_a
      have k16_b0 := cell_keep (a := ⟨w.heap.size + 1, 0, none⟩) (v := .int .i64 b) (by first | (go_keep; done) | (simp [go_sem, *]; done)) hb
      have k16_b1 := cell_keep (a := ⟨w.heap.size + 1, 1, none⟩) (v := .int .i64 u) (by first | (go_keep; done) | (simp [go_sem, *]; done)) hb
      have l16_b := World.block_lt_of_cell? _ _ k16_b0
      try simp only at l16_b
      have k16_q0 := cell_keep (a := ⟨wh.heap.size, 0, none⟩) (v := .int .i64 0) (by first | (go_keep; done) | (simp [go_sem, *]; done)) hb
      have k16_q1 := cell_keep (a := ⟨wh.heap.size, 1, none⟩) (v := .int .i64 0) (by first | (go_keep; done) | (simp [go_sem, *]; done)) hb
      have l16_q := World.block_lt_of_cell? _ _ k16_q0
      try simp only at l16_q
      have k16_r0 := cell_keep (a := ⟨w13.heap.size, 0, none⟩) (v := .int .i64 0) (by first | (go_keep; done) | (simp [go_sem, *]; done)) hb
      have k16_r1 := cell_keep (a := ⟨w13.heap.size, 1, none⟩) (v := .int .i64 0) (by first | (go_keep; done) | (simp [go_sem, *]; done)) hb
      have l16_r := World.block_lt_of_cell? _ _ k16_r0
      try simp only at l16_r
      have k16_m0 := cell_keep (a := ⟨w14.heap.size, 0, none⟩) (v := .int .i64 0) (by first | (go_keep; done) | (simp [go_sem, *]; done)) hb
      have k16_m1 := cell_keep (a := ⟨w14.heap.size, 1, none⟩) (v := .int .i64 0) (by first | (go_keep; done) | (simp [go_sem, *]; done)) hb
      have l16_m := World.block_lt_of_cell? _ _ k16_m0
      try simp only at l16_m
      clear hb k15_a0 k15_a1 l15_a k15_b0 k15_b1 l15_b k15_q0 k15_q1 l15_q k15_r0 k15_r1 l15_r k15_m0 k15_m1 l15_m W15
      go_wp2_with fail
      refine (sameErr_yes (ErrNo.no 1) _ (hT.below (by repeat (first | exact W16.out | refine blw_drewN ?_ _ | refine Below.setCell ?_ (by first | (simp; done) | omega | (simp; omega)) _ | refine Below.alloc ?_ (by first | (simp; done) | omega | (simp; omega)) _))).h).mono ?_
      rintro e w17 ⟨rfl, hb⟩
      have W17 := Lib.hid (blw_trans (show Below w.heap.size w _ by repeat (first | exact W16.out | refine blw_drewN ?_ _ | refine Below.setCell ?_ (by first | (simp; done) | omega | (simp; omega)) _ | refine Below.alloc ?_ (by first | (simp; done) | omega | (simp; omega)) _)) hb)
      have n17 := hb.size
      try simp at n17
      have k17_a0 := cell_keep (a := ⟨w.heap.size, 0, none⟩) (v := .int .i64 a) (by first | (go_keep; done) | (simp [go_sem, *]; done)) hb
      have k17_a1 := cell_keep (a := ⟨w.heap.size, 1, none⟩) (v := .int .i64 s) (by first | (go_keep; done) | (simp [go_sem, *]; done)) hb
      have l17_a := World.block_lt_of_cell? _ _ k17_a0
      try simp only at l17_a
      have k17_b0 := cell_keep (a := ⟨w.heap.size + 1, 0, none⟩) (v := .int .i64 b) (by first | (go_keep; done) | (simp [go_sem, *]; done)) hb
      have k17_b1 := cell_keep (a := ⟨w.heap.size + 1, 1, none⟩) (v := .int .i64 u) (by first | (go_keep; done) | (simp [go_sem, *]; done)) hb
      have l17_b := World.block_lt_of_cell? _ _ k17_b0
      try simp only at l17_b
      have k17_q0 := cell_keep (a := ⟨wh.heap.size, 0, none⟩) (v := .int .i64 0) (by first | (go_keep; done) | (simp [go_sem, *]; done)) hb
      have k17_q1 := cell_keep (a := ⟨wh.heap.size, 1, none⟩) (v := .int .i64 0) (by first | (go_keep; done) | (simp [go_sem, *]; done)) hb
      have l17_q := World.block_lt_of_cell? _ _ k17_q0
      try simp only at l17_q
      have k17_r0 := cell_keep (a := ⟨w13.heap.size, 0, none⟩) (v := .int .i64 0) (by first | (go_keep; done) | (simp [go_sem, *]; done)) hb
      have k17_r1 := cell_keep (a := ⟨w13.heap.size, 1, none⟩) (v := .int .i64 0) (by first | (go_keep; done) | (simp [go_sem, *]; done)) hb
      have l17_r := World.block_lt_of_cell? _ _ k17_r0
      try simp only at l17_r
      have k17_m0 := cell_keep (a := ⟨w14.heap.size, 0, none⟩) (v := .int .i64 0) (by first | (go_keep; done) | (simp [go_sem, *]; done)) hb
      have k17_m1 := cell_keep (a := ⟨w14.heap.size, 1, none⟩) (v := .int .i64 0) (by first | (go_keep; done) | (simp [go_sem, *]; done)) hb
      have l17_m := World.block_lt_of_cell? _ _ k17_m0
      try simp only at l17_m
      have k17_n0 := cell_keep (a := ⟨w16.heap.size, 0, none⟩) (v := .int .i64 0) (by first | (go_keep; done) | (simp [go_sem, *]; done)) hb
      have k17_n1 := cell_keep (a := ⟨w16.heap.size, 1, none⟩) (v := .int .i64 0) (by first | (go_keep; done) | (simp [go_sem, *]; done)) hb
      have l17_n := World.block_lt_of_cell? _ _ k17_n0
      try simp only at l17_n
      clear hb k16_a0 k16_a1 l16_a k16_b0 k16_b1 l16_b k16_q0 k16_q1 l16_q k16_r0 k16_r1 l16_r k16_m0 k16_m1 l16_m W16
      go_wp2_with fail
      go_ret
      exact ⟨ret_bool (by first | rfl | (simp; done)), by repeat (first | exact W17.out | refine blw_drewN ?_ _ | refine Below.setCell ?_ (by first | (simp; done) | omega | (simp; omega)) _ | refine Below.alloc ?_ (by first | (simp; done) | omega | (simp; omega)) _)⟩
end Go.Proofs.YtdmenoimamnldaaGreatDoor
