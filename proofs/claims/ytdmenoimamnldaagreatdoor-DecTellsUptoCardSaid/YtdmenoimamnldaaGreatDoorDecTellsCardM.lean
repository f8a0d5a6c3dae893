/- The law DecTells, proved where what it reads is of bulk at most 1048576: the call returns true of every input, and turns nothing that was there. Conditions: the row's own (the listed variables hold what the program's text lays; the card ties them). -/
import Derived.Test.YtdmenoimamnldaaGreatDoorDz2
import Derived.Test.YtdmenoimamnldaaGreatDoorDz26
import Derived.Test.YtdmenoimamnldaaGreatDoorDz27
import Derived.Test.YtdmenoimamnldaaGreatDoorDz28
import Derived.Test.YtdmenoimamnldaaGreatDoorDz29
import Derived.Test.YtdmenoimamnldaaGreatDoorRows
import Derived.Test.YtdmenoimamnldaaGreatDoorDz20
import Derived.LaidSub
import Derived.MakeChecks
import Derived.Lay
import Derived.LaidMore
import Derived.Test.YtdmenoimamnldaaGreatDoorDz15
import Derived.OpenShut
import Derived.Test.YtdmenoimamnldaaGreatDoorCards
import Derived.Test.YtdmenoimamnldaaGreatDoorTie
import Derived.Deep.DeepHandedRow
import Derived.Deep.DeepWitnessRowRef
import Derived.Stop.Joined
import Derived.Test.YtdmenoimamnldaaGreatDoorDz24
import Derived.Test.YtdmenoimamnldaaGreatDoorDz25
namespace Go.Proofs.YtdmenoimamnldaaGreatDoor
open Go.RowKit
open Dcm (P10 okD nrm)

set_option maxRecDepth 100000 in
set_option maxHeartbeats 1000000 in
theorem less_yes (a s b t : Int) (w : World) (ha : okD a s) (hb : okD b t) (h : nrm a s < nrm b t) :
    Calls Tryz.prog 10 #[.agg #[.int .i64 a, .int .i64 s], .agg #[.int .i64 b, .int .i64 t]] w fun e w' => e = .returned (.bool true) ∧ Below w.heap.size w w' := by
  have C1 := Lib.hid fun w => right_yes a s b t w ha hb
  have C2 := Lib.hid fun w => compared_any a s b t w ha hb
  have hv : cmpN a s b t < 0 := by unfold cmpN; (repeat' split) <;> omega
  generalize cmpN a s b t = v at *
  clear ha hb h
  go_enter Tryz.func10, Tryz.ntmps10
  go_wp2_with fail
  refine (C1.out _).mono ?_
  rintro e w1 ⟨rfl, hb⟩
  have B0 := Boxed.below (Boxed.alloc (Boxed.made _ #[.int .i64 a, .int .i64 s] 23) _) hb
  have B := Boxed.below (Boxed.made _ #[.int .i64 b, .int .i64 t] 23) hb
  have j0 := B0.cell 0 _ rfl
  have j1 := B0.cell 1 _ rfl
  have k0 := B.cell 0 _ rfl
  have k1 := B.cell 1 _ rfl
  simp at k0 k1
  have W1 := Lib.hid (blw_trans (blw_trans (blw_alloc w _) (blw_alloc _ _)) hb)
  clear hb B B0
  go_wp2_with fail
  refine (C2.out _).mono ?_
  rintro e w2 ⟨rfl, hb⟩
  go_wp2
  go_ret
  exact ⟨ret_bool (by simp; try omega), blw_trans W1.out hb⟩

set_option maxRecDepth 100000 in
set_option maxHeartbeats 1000000 in
theorem less_no (a s b t : Int) (w : World) (ha : okD a s) (hb : okD b t) (h : ¬ nrm a s < nrm b t) :
    Calls Tryz.prog 10 #[.agg #[.int .i64 a, .int .i64 s], .agg #[.int .i64 b, .int .i64 t]] w fun e w' => e = .returned (.bool false) ∧ Below w.heap.size w w' := by
  have C1 := Lib.hid fun w => right_yes a s b t w ha hb
  have C2 := Lib.hid fun w => compared_any a s b t w ha hb
  have hv : ¬ cmpN a s b t < 0 := by unfold cmpN; (repeat' split) <;> omega
  generalize cmpN a s b t = v at *
  clear ha hb h
  go_enter Tryz.func10, Tryz.ntmps10
  go_wp2_with fail
  refine (C1.out _).mono ?_
  rintro e w1 ⟨rfl, hb⟩
  have B0 := Boxed.below (Boxed.alloc (Boxed.made _ #[.int .i64 a, .int .i64 s] 23) _) hb
  have B := Boxed.below (Boxed.made _ #[.int .i64 b, .int .i64 t] 23) hb
  have j0 := B0.cell 0 _ rfl
  have j1 := B0.cell 1 _ rfl
  have k0 := B.cell 0 _ rfl
  have k1 := B.cell 1 _ rfl
  simp at k0 k1
  have W1 := Lib.hid (blw_trans (blw_trans (blw_alloc w _) (blw_alloc _ _)) hb)
  clear hb B B0
  go_wp2_with fail
  refine (C2.out _).mono ?_
  rintro e w2 ⟨rfl, hb⟩
  go_wp2
  go_ret
  exact ⟨ret_bool (by simp; try omega), blw_trans W1.out hb⟩

set_option maxRecDepth 100000 in
set_option maxHeartbeats 1000000 in
theorem less_bad (a s b t : Int) (w : World) (h : ¬ (okD a s ∧ okD b t)) :
    Calls Tryz.prog 10 #[.agg #[.int .i64 a, .int .i64 s], .agg #[.int .i64 b, .int .i64 t]] w fun e w' => e = .returned (.bool false) ∧ Below w.heap.size w w' := by
  have C1 := Lib.hid fun w => right_no a s b t w h
  clear h
  go_enter Tryz.func10, Tryz.ntmps10
  go_wp2_with fail
  refine (C1.out _).mono ?_
  rintro e w1 ⟨rfl, hb⟩
  go_wp2
  go_ret
  exact ⟨rfl, blw_trans (blw_trans (blw_alloc w _) (blw_alloc _ _)) hb⟩

end Go.Proofs.YtdmenoimamnldaaGreatDoor
namespace Go.Proofs.YtdmenoimamnldaaGreatDoor
open Go.RowKit
open Dcm (P10 okD mag)

set_option maxRecDepth 100000 in
set_option maxHeartbeats 2000000 in
theorem dt_bad (a s b u sc wy x1 x2 : Int) (t : List UInt8) (is : Bool) (ev : Value) (w : World) (hT : TM w)
    (CF : Hid (∀ w : World, Calls Tryz.prog 5 #[.agg #[.int .i64 a, .int .i64 s]] w fun e w' => e = .returned (.bool true) ∧ Below w.heap.size w w'))
    (CK : Hid (∀ w : World, Calls Tryz.prog 7 #[.agg #[.int .i64 a, .int .i64 s]] w fun e w' => e = .returned (errV 1) ∧ Below w.heap.size w w'))
    (CO : Hid (∀ w : World, Calls Tryz.prog 8 #[.string ⟨t.toArray⟩] w fun e w' => e = .returned (.tuple #[.agg #[.int .i64 x1, .int .i64 x2], .bool is]) ∧ Below w.heap.size w w'))
    (CP : Hid (∀ w : World, TM w → Calls Tryz.prog 9 #[.string ⟨t.toArray⟩] w fun e w' => e = .returned (.tuple #[.agg #[.int .i64 x1, .int .i64 x2], ev]) ∧ Below w.heap.size w w'))
    (hev : ErrNo ev (isE is))
    (CL : Hid (∀ w : World, Calls Tryz.prog 10 #[.agg #[.int .i64 a, .int .i64 s], .agg #[.int .i64 b, .int .i64 u]] w fun e w' => e = .returned (.bool false) ∧ Below w.heap.size w w'))
    (CS : Hid (∀ w : World, Calls Tryz.prog 12 #[.agg #[.int .i64 a, .int .i64 s], .agg #[.int .i64 b, .int .i64 u]] w fun e w' => e = .returned (.bool false) ∧ Below w.heap.size w w'))
    (CV : Hid (∀ w : World, Calls Tryz.prog 16 #[.agg #[.int .i64 a, .int .i64 s], .int .i64 sc, .int .i64 wy] w fun e w' => e = .returned (.tuple #[.agg #[.int .i64 0, .int .i64 0], errV 1]) ∧ Below w.heap.size w w'))
    (CA : Hid (∀ w : World, Calls Tryz.prog 18 #[.agg #[.int .i64 a, .int .i64 s], .agg #[.int .i64 b, .int .i64 u]] w fun e w' => e = .returned (.tuple #[.agg #[.int .i64 0, .int .i64 0], errV 1]) ∧ Below w.heap.size w w')) :
    Calls Tryz.prog 3 #[.agg #[.int .i64 a, .int .i64 s], .agg #[.int .i64 b, .int .i64 u], .string ⟨t.toArray⟩, .int .i64 sc, .int .i64 wy] w fun e w' => e = .returned (.bool true) ∧ Below w.heap.size w w' := by
  cases is
  all_goals
    unfold isE at hev
    go_enter Tryz.func3, Tryz.ntmps3
    go_wp2_with fail
    refine (half_any _).mono ?_
    rintro e w1 ⟨rfl, hb⟩
    have W1 := Lib.hid (blw_trans (show Below w.heap.size w _ by repeat (first | exact (Below.refl _ _) | refine blw_drewN ?_ _ | refine Below.setCell ?_ (by first | (simp; done) | omega | (simp; omega)) _ | refine Below.alloc ?_ (by first | (simp; done) | omega | (simp; omega)) _)) hb)
    have n1 := hb.size
    try simp at n1
    have k1_a0 := cell_keep (a := ⟨w.heap.size, 0, none⟩) (v := .int .i64 a) (by first | (go_keep; done) | (simp [go_sem, *]; done)) hb
    have k1_a1 := cell_keep (a := ⟨w.heap.size, 1, none⟩) (v := .int .i64 s) (by first | (go_keep; done) | (simp [go_sem, *]; done)) hb
    have l1_a := World.block_lt_of_cell? _ _ k1_a0
    try simp only at l1_a
    have k1_b0 := cell_keep (a := ⟨w.heap.size + 1, 0, none⟩) (v := .int .i64 b) (by first | (go_keep; done) | (simp [go_sem, *]; done)) hb
    have k1_b1 := cell_keep (a := ⟨w.heap.size + 1, 1, none⟩) (v := .int .i64 u) (by first | (go_keep; done) | (simp [go_sem, *]; done)) hb
    have l1_b := World.block_lt_of_cell? _ _ k1_b0
    try simp only at l1_b
    clear hb
    go_wp2_with fail
    refine (CF.out _).mono ?_
    rintro e w2 ⟨rfl, hb⟩
    have W2 := Lib.hid (blw_trans (show Below w.heap.size w _ by repeat (first | exact W1.out | refine blw_drewN ?_ _ | refine Below.setCell ?_ (by first | (simp; done) | omega | (simp; omega)) _ | refine Below.alloc ?_ (by first | (simp; done) | omega | (simp; omega)) _)) hb)
    have n2 := hb.size
    try simp at n2
    have k2_a0 := cell_keep (a := ⟨w.heap.size, 0, none⟩) (v := .int .i64 a) (by first | (go_keep; done) | (simp [go_sem, *]; done)) hb
    have k2_a1 := cell_keep (a := ⟨w.heap.size, 1, none⟩) (v := .int .i64 s) (by first | (go_keep; done) | (simp [go_sem, *]; done)) hb
    have l2_a := World.block_lt_of_cell? _ _ k2_a0
    try simp only at l2_a
    have k2_b0 := cell_keep (a := ⟨w.heap.size + 1, 0, none⟩) (v := .int .i64 b) (by first | (go_keep; done) | (simp [go_sem, *]; done)) hb
    have k2_b1 := cell_keep (a := ⟨w.heap.size + 1, 1, none⟩) (v := .int .i64 u) (by first | (go_keep; done) | (simp [go_sem, *]; done)) hb
    have l2_b := World.block_lt_of_cell? _ _ k2_b0
    try simp only at l2_b
    clear hb k1_a0 k1_a1 l1_a k1_b0 k1_b1 l1_b W1
    go_wp2_with fail
    refine (CK.out _).mono ?_
    rintro e w3 ⟨rfl, hb⟩
    have W3 := Lib.hid (blw_trans (show Below w.heap.size w _ by repeat (first | exact W2.out | refine blw_drewN ?_ _ | refine Below.setCell ?_ (by first | (simp; done) | omega | (simp; omega)) _ | refine Below.alloc ?_ (by first | (simp; done) | omega | (simp; omega)) _)) hb)
    have n3 := hb.size
    try simp at n3
    have k3_a0 := cell_keep (a := ⟨w.heap.size, 0, none⟩) (v := .int .i64 a) (by first | (go_keep; done) | (simp [go_sem, *]; done)) hb
    have k3_a1 := cell_keep (a := ⟨w.heap.size, 1, none⟩) (v := .int .i64 s) (by first | (go_keep; done) | (simp [go_sem, *]; done)) hb
    have l3_a := World.block_lt_of_cell? _ _ k3_a0
    try simp only at l3_a
    have k3_b0 := cell_keep (a := ⟨w.heap.size + 1, 0, none⟩) (v := .int .i64 b) (by first | (go_keep; done) | (simp [go_sem, *]; done)) hb
    have k3_b1 := cell_keep (a := ⟨w.heap.size + 1, 1, none⟩) (v := .int .i64 u) (by first | (go_keep; done) | (simp [go_sem, *]; done)) hb
    have l3_b := World.block_lt_of_cell? _ _ k3_b0
    try simp only at l3_b
    clear hb k2_a0 k2_a1 l2_a k2_b0 k2_b1 l2_b W2
    go_wp2_with fail
    refine (sameErr_yes (ErrNo.no 1) _ (hT.below (by repeat (first | exact W3.out | refine blw_drewN ?_ _ | refine Below.setCell ?_ (by first | (simp; done) | omega | (simp; omega)) _ | refine Below.alloc ?_ (by first | (simp; done) | omega | (simp; omega)) _))).h).mono ?_
    rintro e w4 ⟨rfl, hb⟩
    have W4 := Lib.hid (blw_trans (show Below w.heap.size w _ by repeat (first | exact W3.out | refine blw_drewN ?_ _ | refine Below.setCell ?_ (by first | (simp; done) | omega | (simp; omega)) _ | refine Below.alloc ?_ (by first | (simp; done) | omega | (simp; omega)) _)) hb)
    have n4 := hb.size
    try simp at n4
    have k4_a0 := cell_keep (a := ⟨w.heap.size, 0, none⟩) (v := .int .i64 a) (by first | (go_keep; done) | (simp [go_sem, *]; done)) hb
    have k4_a1 := cell_keep (a := ⟨w.heap.size, 1, none⟩) (v := .int .i64 s) (by first | (go_keep; done) | (simp [go_sem, *]; done)) hb
    have l4_a := World.block_lt_of_cell? _ _ k4_a0
    try simp only at l4_a
    have k4_b0 := cell_keep (a := ⟨w.heap.size + 1, 0, none⟩) (v := .int .i64 b) (by first | (go_keep; done) | (simp [go_sem, *]; done)) hb
    have k4_b1 := cell_keep (a := ⟨w.heap.size + 1, 1, none⟩) (v := .int .i64 u) (by first | (go_keep; done) | (simp [go_sem, *]; done)) hb
    have l4_b := World.block_lt_of_cell? _ _ k4_b0
    try simp only at l4_b
    clear hb k3_a0 k3_a1 l3_a k3_b0 k3_b1 l3_b W3
    go_wp2_with fail
    refine (CO.out _).mono ?_
    rintro e w5 ⟨rfl, hb⟩
    have W5 := Lib.hid (blw_trans (show Below w.heap.size w _ by repeat (first | exact W4.out | refine blw_drewN ?_ _ | refine Below.setCell ?_ (by first | (simp; done) | omega | (simp; omega)) _ | refine Below.alloc ?_ (by first | (simp; done) | omega | (simp; omega)) _)) hb)
    have n5 := hb.size
    try simp at n5
    have k5_a0 := cell_keep (a := ⟨w.heap.size, 0, none⟩) (v := .int .i64 a) (by first | (go_keep; done) | (simp [go_sem, *]; done)) hb
    have k5_a1 := cell_keep (a := ⟨w.heap.size, 1, none⟩) (v := .int .i64 s) (by first | (go_keep; done) | (simp [go_sem, *]; done)) hb
    have l5_a := World.block_lt_of_cell? _ _ k5_a0
    try simp only at l5_a
    have k5_b0 := cell_keep (a := ⟨w.heap.size + 1, 0, none⟩) (v := .int .i64 b) (by first | (go_keep; done) | (simp [go_sem, *]; done)) hb
    have k5_b1 := cell_keep (a := ⟨w.heap.size + 1, 1, none⟩) (v := .int .i64 u) (by first | (go_keep; done) | (simp [go_sem, *]; done)) hb
    have l5_b := World.block_lt_of_cell? _ _ k5_b0
    try simp only at l5_b
    clear hb k4_a0 k4_a1 l4_a k4_b0 k4_b1 l4_b W4
    go_wp2_with fail
    refine (CP.out _ (hT.below (by repeat (first | exact W5.out | refine blw_drewN ?_ _ | refine Below.setCell ?_ (by first | (simp; done) | omega | (simp; omega)) _ | refine Below.alloc ?_ (by first | (simp; done) | omega | (simp; omega)) _)))).mono ?_
    rintro e w6 ⟨rfl, hb⟩
    have W6 := Lib.hid (blw_trans (show Below w.heap.size w _ by repeat (first | exact W5.out | refine blw_drewN ?_ _ | refine Below.setCell ?_ (by first | (simp; done) | omega | (simp; omega)) _ | refine Below.alloc ?_ (by first | (simp; done) | omega | (simp; omega)) _)) hb)
    have n6 := hb.size
    try simp at n6
    have k6_a0 := cell_keep (a := ⟨w.heap.size, 0, none⟩) (v := .int .i64 a) (by first | (go_keep; done) | (simp [go_sem, *]; done)) hb
    have k6_a1 := cell_keep (a := ⟨w.heap.size, 1, none⟩) (v := .int .i64 s) (by first | (go_keep; done) | (simp [go_sem, *]; done)) hb
    have l6_a := World.block_lt_of_cell? _ _ k6_a0
    try simp only at l6_a
    have k6_b0 := cell_keep (a := ⟨w.heap.size + 1, 0, none⟩) (v := .int .i64 b) (by first | (go_keep; done) | (simp [go_sem, *]; done)) hb
    have k6_b1 := cell_keep (a := ⟨w.heap.size + 1, 1, none⟩) (v := .int .i64 u) (by first | (go_keep; done) | (simp [go_sem, *]; done)) hb
    have l6_b := World.block_lt_of_cell? _ _ k6_b0
    try simp only at l6_b
    have k6_x0 := cell_keep (a := ⟨w5.heap.size, 0, none⟩) (v := .int .i64 x1) (by first | (go_keep; done) | (simp [go_sem, *]; done)) hb
    have k6_x1 := cell_keep (a := ⟨w5.heap.size, 1, none⟩) (v := .int .i64 x2) (by first | (go_keep; done) | (simp [go_sem, *]; done)) hb
    have l6_x := World.block_lt_of_cell? _ _ k6_x0
    try simp only at l6_x
    clear hb k5_a0 k5_a1 l5_a k5_b0 k5_b1 l5_b W5
    go_wp2_with fail
    refine (sameErr_yes hev _ (hT.below (by repeat (first | exact W6.out | refine blw_drewN ?_ _ | refine Below.setCell ?_ (by first | (simp; done) | omega | (simp; omega)) _ | refine Below.alloc ?_ (by first | (simp; done) | omega | (simp; omega)) _))).h).mono ?_
    rintro e w7 ⟨rfl, hb⟩
    have W7 := Lib.hid (blw_trans (show Below w.heap.size w _ by repeat (first | exact W6.out | refine blw_drewN ?_ _ | refine Below.setCell ?_ (by first | (simp; done) | omega | (simp; omega)) _ | refine Below.alloc ?_ (by first | (simp; done) | omega | (simp; omega)) _)) hb)
    have n7 := hb.size
    try simp at n7
    have k7_a0 := cell_keep (a := ⟨w.heap.size, 0, none⟩) (v := .int .i64 a) (by first | (go_keep; done) | (simp [go_sem, *]; done)) hb
    have k7_a1 := cell_keep (a := ⟨w.heap.size, 1, none⟩) (v := .int .i64 s) (by first | (go_keep; done) | (simp [go_sem, *]; done)) hb
    have l7_a := World.block_lt_of_cell? _ _ k7_a0
    try simp only at l7_a
    have k7_b0 := cell_keep (a := ⟨w.heap.size + 1, 0, none⟩) (v := .int .i64 b) (by first | (go_keep; done) | (simp [go_sem, *]; done)) hb
    have k7_b1 := cell_keep (a := ⟨w.heap.size + 1, 1, none⟩) (v := .int .i64 u) (by first | (go_keep; done) | (simp [go_sem, *]; done)) hb
    have l7_b := World.block_lt_of_cell? _ _ k7_b0
    try simp only at l7_b
    have k7_x0 := cell_keep (a := ⟨w5.heap.size, 0, none⟩) (v := .int .i64 x1) (by first | (go_keep; done) | (simp [go_sem, *]; done)) hb
    have k7_x1 := cell_keep (a := ⟨w5.heap.size, 1, none⟩) (v := .int .i64 x2) (by first | (go_keep; done) | (simp [go_sem, *]; done)) hb
    have l7_x := World.block_lt_of_cell? _ _ k7_x0
    try simp only at l7_x
    have k7_y0 := cell_keep (a := ⟨w6.heap.size, 0, none⟩) (v := .int .i64 x1) (by first | (go_keep; done) | (simp [go_sem, *]; done)) hb
    have k7_y1 := cell_keep (a := ⟨w6.heap.size, 1, none⟩) (v := .int .i64 x2) (by first | (go_keep; done) | (simp [go_sem, *]; done)) hb
    have l7_y := World.block_lt_of_cell? _ _ k7_y0
    try simp only at l7_y
    clear hb k6_a0 k6_a1 l6_a k6_b0 k6_b1 l6_b k6_x0 k6_x1 l6_x W6
    go_wp2_with fail
    refine (CL.out _).mono ?_
    rintro e w8 ⟨rfl, hb⟩
    have W8 := Lib.hid (blw_trans (show Below w.heap.size w _ by repeat (first | exact W7.out | refine blw_drewN ?_ _ | refine Below.setCell ?_ (by first | (simp; done) | omega | (simp; omega)) _ | refine Below.alloc ?_ (by first | (simp; done) | omega | (simp; omega)) _)) hb)
    have n8 := hb.size
    try simp at n8
    have k8_a0 := cell_keep (a := ⟨w.heap.size, 0, none⟩) (v := .int .i64 a) (by first | (go_keep; done) | (simp [go_sem, *]; done)) hb
    have k8_a1 := cell_keep (a := ⟨w.heap.size, 1, none⟩) (v := .int .i64 s) (by first | (go_keep; done) | (simp [go_sem, *]; done)) hb
    have l8_a := World.block_lt_of_cell? _ _ k8_a0
    try simp only at l8_a
    have k8_b0 := cell_keep (a := ⟨w.heap.size + 1, 0, none⟩) (v := .int .i64 b) (by first | (go_keep; done) | (simp [go_sem, *]; done)) hb
    have k8_b1 := cell_keep (a := ⟨w.heap.size + 1, 1, none⟩) (v := .int .i64 u) (by first | (go_keep; done) | (simp [go_sem, *]; done)) hb
    have l8_b := World.block_lt_of_cell? _ _ k8_b0
    try simp only at l8_b
    have k8_x0 := cell_keep (a := ⟨w5.heap.size, 0, none⟩) (v := .int .i64 x1) (by first | (go_keep; done) | (simp [go_sem, *]; done)) hb
    have k8_x1 := cell_keep (a := ⟨w5.heap.size, 1, none⟩) (v := .int .i64 x2) (by first | (go_keep; done) | (simp [go_sem, *]; done)) hb
    have l8_x := World.block_lt_of_cell? _ _ k8_x0
    try simp only at l8_x
    have k8_y0 := cell_keep (a := ⟨w6.heap.size, 0, none⟩) (v := .int .i64 x1) (by first | (go_keep; done) | (simp [go_sem, *]; done)) hb
    have k8_y1 := cell_keep (a := ⟨w6.heap.size, 1, none⟩) (v := .int .i64 x2) (by first | (go_keep; done) | (simp [go_sem, *]; done)) hb
    have l8_y := World.block_lt_of_cell? _ _ k8_y0
    try simp only at l8_y
    clear hb k7_a0 k7_a1 l7_a k7_b0 k7_b1 l7_b k7_x0 k7_x1 l7_x k7_y0 k7_y1 l7_y W7
    go_wp2_with fail
    refine (CS.out _).mono ?_
    rintro e w9 ⟨rfl, hb⟩
    have W9 := Lib.hid (blw_trans (show Below w.heap.size w _ by repeat (first | exact W8.out | refine blw_drewN ?_ _ | refine Below.setCell ?_ (by first | (simp; done) | omega | (simp; omega)) _ | refine Below.alloc ?_ (by first | (simp; done) | omega | (simp; omega)) _)) hb)
    have n9 := hb.size
    try simp at n9
    have k9_a0 := cell_keep (a := ⟨w.heap.size, 0, none⟩) (v := .int .i64 a) (by first | (go_keep; done) | (simp [go_sem, *]; done)) hb
    have k9_a1 := cell_keep (a := ⟨w.heap.size, 1, none⟩) (v := .int .i64 s) (by first | (go_keep; done) | (simp [go_sem, *]; done)) hb
    have l9_a := World.block_lt_of_cell? _ _ k9_a0
    try simp only at l9_a
    have k9_b0 := cell_keep (a := ⟨w.heap.size + 1, 0, none⟩) (v := .int .i64 b) (by first | (go_keep; done) | (simp [go_sem, *]; done)) hb
    have k9_b1 := cell_keep (a := ⟨w.heap.size + 1, 1, none⟩) (v := .int .i64 u) (by first | (go_keep; done) | (simp [go_sem, *]; done)) hb
    have l9_b := World.block_lt_of_cell? _ _ k9_b0
    try simp only at l9_b
    have k9_x0 := cell_keep (a := ⟨w5.heap.size, 0, none⟩) (v := .int .i64 x1) (by first | (go_keep; done) | (simp [go_sem, *]; done)) hb
    have k9_x1 := cell_keep (a := ⟨w5.heap.size, 1, none⟩) (v := .int .i64 x2) (by first | (go_keep; done) | (simp [go_sem, *]; done)) hb
    have l9_x := World.block_lt_of_cell? _ _ k9_x0
    try simp only at l9_x
    have k9_y0 := cell_keep (a := ⟨w6.heap.size, 0, none⟩) (v := .int .i64 x1) (by first | (go_keep; done) | (simp [go_sem, *]; done)) hb
    have k9_y1 := cell_keep (a := ⟨w6.heap.size, 1, none⟩) (v := .int .i64 x2) (by first | (go_keep; done) | (simp [go_sem, *]; done)) hb
    have l9_y := World.block_lt_of_cell? _ _ k9_y0
    try simp only at l9_y
    clear hb k8_a0 k8_a1 l8_a k8_b0 k8_b1 l8_b k8_x0 k8_x1 l8_x k8_y0 k8_y1 l8_y W8
    go_wp2_with fail
    go_big_quiet (fail)
    rename Nat => nq
    have q9_a0 : (w9.drewN nq).cell? ⟨w.heap.size, 0, none⟩ = some (.int .i64 a) := by simpa using k9_a0
    have q9_a1 : (w9.drewN nq).cell? ⟨w.heap.size, 1, none⟩ = some (.int .i64 s) := by simpa using k9_a1
    have m9_a : w.heap.size < (w9.drewN nq).heap.size := by simpa using l9_a
    have q9_b0 : (w9.drewN nq).cell? ⟨w.heap.size + 1, 0, none⟩ = some (.int .i64 b) := by simpa using k9_b0
    have q9_b1 : (w9.drewN nq).cell? ⟨w.heap.size + 1, 1, none⟩ = some (.int .i64 u) := by simpa using k9_b1
    have m9_b : w.heap.size + 1 < (w9.drewN nq).heap.size := by simpa using l9_b
    have WQ := Lib.hid (blw_drewN W9.out nq)
    clear k9_a0 k9_a1 l9_a k9_b0 k9_b1 l9_b k9_x0 k9_x1 l9_x k9_y0 k9_y1 l9_y W9
    generalize w9.drewN nq = wq at *
    have k9_a0 := q9_a0
    have k9_a1 := q9_a1
    have l9_a := m9_a
    have k9_b0 := q9_b0
    have k9_b1 := q9_b1
    have l9_b := m9_b
    clear q9_a0 q9_a1 q9_b0 q9_b1 m9_a m9_b
    go_wp2_with fail
    refine (CV.out _).mono ?_
    rintro e w10 ⟨rfl, hb⟩
    have W10 := Lib.hid (blw_trans (show Below w.heap.size w _ by repeat (first | exact WQ.out | refine blw_drewN ?_ _ | refine Below.setCell ?_ (by first | (simp; done) | omega | (simp; omega)) _ | refine Below.alloc ?_ (by first | (simp; done) | omega | (simp; omega)) _)) hb)
    have n10 := hb.size
    try simp at n10
    have k10_a0 := cell_keep (a := ⟨w.heap.size, 0, none⟩) (v := .int .i64 a) (by first | (go_keep; done) | (simp [go_sem, *]; done)) hb
    have k10_a1 := cell_keep (a := ⟨w.heap.size, 1, none⟩) (v := .int .i64 s) (by first | (go_keep; done) | (simp [go_sem, *]; done)) hb
    have l10_a := World.block_lt_of_cell? _ _ k10_a0
    try simp only at l10_a
    have k10_b0 := cell_keep (a := ⟨w.heap.size + 1, 0, none⟩) (v := .int .i64 b) (by first | (go_keep; done) | (simp [go_sem, *]; done)) hb
    have k10_b1 := cell_keep (a := ⟨w.heap.size + 1, 1, none⟩) (v := .int .i64 u) (by first | (go_keep; done) | (simp [go_sem, *]; done)) hb
    have l10_b := World.block_lt_of_cell? _ _ k10_b0
    try simp only at l10_b
    have k10_q0 := cell_keep (a := ⟨wq.heap.size, 0, none⟩) (v := .int .i64 0) (by first | (go_keep; done) | (simp [go_sem, *]; done)) hb
    have k10_q1 := cell_keep (a := ⟨wq.heap.size, 1, none⟩) (v := .int .i64 0) (by first | (go_keep; done) | (simp [go_sem, *]; done)) hb
    have l10_q := World.block_lt_of_cell? _ _ k10_q0
    try simp only at l10_q
    clear hb k9_a0 k9_a1 k9_b0 k9_b1 l9_a l9_b WQ
    go_wp2_with fail
    refine (sameErr_yes (ErrNo.no 1) _ (hT.below (by repeat (first | exact W10.out | refine blw_drewN ?_ _ | refine Below.setCell ?_ (by first | (simp; done) | omega | (simp; omega)) _ | refine Below.alloc ?_ (by first | (simp; done) | omega | (simp; omega)) _))).h).mono ?_
    rintro e w11 ⟨rfl, hb⟩
    have W11 := Lib.hid (blw_trans (show Below w.heap.size w _ by repeat (first | exact W10.out | refine blw_drewN ?_ _ | refine Below.setCell ?_ (by first | (simp; done) | omega | (simp; omega)) _ | refine Below.alloc ?_ (by first | (simp; done) | omega | (simp; omega)) _)) hb)
    have n11 := hb.size
    try simp at n11
    have k11_a0 := cell_keep (a := ⟨w.heap.size, 0, none⟩) (v := .int .i64 a) (by first | (go_keep; done) | (simp [go_sem, *]; done)) hb
    have k11_a1 := cell_keep (a := ⟨w.heap.size, 1, none⟩) (v := .int .i64 s) (by first | (go_keep; done) | (simp [go_sem, *]; done)) hb
    have l11_a := World.block_lt_of_cell? _ _ k11_a0
    try simp only at l11_a
    have k11_b0 := cell_keep (a := ⟨w.heap.size + 1, 0, none⟩) (v := .int .i64 b) (by first | (go_keep; done) | (simp [go_sem, *]; done)) hb
    have k11_b1 := cell_keep (a := ⟨w.heap.size + 1, 1, none⟩) (v := .int .i64 u) (by first | (go_keep; done) | (simp [go_sem, *]; done)) hb
    have l11_b := World.block_lt_of_cell? _ _ k11_b0
    try simp only at l11_b
    have k11_q0 := cell_keep (a := ⟨wq.heap.size, 0, none⟩) (v := .int .i64 0) (by first | (go_keep; done) | (simp [go_sem, *]; done)) hb
    have k11_q1 := cell_keep (a := ⟨wq.heap.size, 1, none⟩) (v := .int .i64 0) (by first | (go_keep; done) | (simp [go_sem, *]; done)) hb
    have l11_q := World.block_lt_of_cell? _ _ k11_q0
    try simp only at l11_q
    have k11_r0 := cell_keep (a := ⟨w10.heap.size, 0, none⟩) (v := .int .i64 0) (by first | (go_keep; done) | (simp [go_sem, *]; done)) hb
    have k11_r1 := cell_keep (a := ⟨w10.heap.size, 1, none⟩) (v := .int .i64 0) (by first | (go_keep; done) | (simp [go_sem, *]; done)) hb
    have l11_r := World.block_lt_of_cell? _ _ k11_r0
    try simp only at l11_r
    clear hb k10_a0 k10_a1 l10_a k10_b0 k10_b1 l10_b k10_q0 k10_q1 l10_q W10
    go_wp2_with fail
    refine (CA.out _).mono ?_
    rintro e w12 ⟨rfl, hb⟩
    have W12 := Lib.hid (blw_trans (show Below w.heap.size w _ by repeat (first | exact W11.out | refine blw_drewN ?_ _ | refine Below.setCell ?_ (by first | (simp; done) | omega | (simp; omega)) _ | refine Below.alloc ?_ (by first | (simp; done) | omega | (simp; omega)) _)) hb)
    have n12 := hb.size
    try simp at n12
    have k12_a0 := cell_keep (a := ⟨w.heap.size, 0, none⟩) (v := .int .i64 a) (by first | (go_keep; done) | (simp [go_sem, *]; done)) hb
    have k12_a1 := cell_keep (a := ⟨w.heap.size, 1, none⟩) (v := .int .i64 s) (by first | (go_keep; done) | (simp [go_sem, *]; done)) hb
    have l12_a := World.block_lt_of_cell? _ _ k12_a0
    try simp only at l12_a
    have k12_b0 := cell_keep (a := ⟨w.heap.size + 1, 0, none⟩) (v := .int .i64 b) (by first | (go_keep; done) | (simp [go_sem, *]; done)) hb
    have k12_b1 := cell_keep (a := ⟨w.heap.size + 1, 1, none⟩) (v := .int .i64 u) (by first | (go_keep; done) | (simp [go_sem, *]; done)) hb
    have l12_b := World.block_lt_of_cell? _ _ k12_b0
    try simp only at l12_b
    have k12_q0 := cell_keep (a := ⟨wq.heap.size, 0, none⟩) (v := .int .i64 0) (by first | (go_keep; done) | (simp [go_sem, *]; done)) hb
    have k12_q1 := cell_keep (a := ⟨wq.heap.size, 1, none⟩) (v := .int .i64 0) (by first | (go_keep; done) | (simp [go_sem, *]; done)) hb
    have l12_q := World.block_lt_of_cell? _ _ k12_q0
    try simp only at l12_q
    have k12_r0 := cell_keep (a := ⟨w10.heap.size, 0, none⟩) (v := .int .i64 0) (by first | (go_keep; done) | (simp [go_sem, *]; done)) hb
    have k12_r1 := cell_keep (a := ⟨w10.heap.size, 1, none⟩) (v := .int .i64 0) (by first | (go_keep; done) | (simp [go_sem, *]; done)) hb
    have l12_r := World.block_lt_of_cell? _ _ k12_r0
    try simp only at l12_r
    have k12_m0 := cell_keep (a := ⟨w11.heap.size, 0, none⟩) (v := .int .i64 0) (by first | (go_keep; done) | (simp [go_sem, *]; done)) hb
    have k12_m1 := cell_keep (a := ⟨w11.heap.size, 1, none⟩) (v := .int .i64 0) (by first | (go_keep; done) | (simp [go_sem, *]; done)) hb
    have l12_m := World.block_lt_of_cell? _ _ k12_m0
    try simp only at l12_m
    clear hb k11_a0 k11_a1 l11_a k11_b0 k11_b1 l11_b k11_q0 k11_q1 l11_q k11_r0 k11_r1 l11_r W11
    go_wp2_with fail
    refine (sameErr_yes (ErrNo.no 1) _ (hT.below (by repeat (first | exact W12.out | refine blw_drewN ?_ _ | refine Below.setCell ?_ (by first | (simp; done) | omega | (simp; omega)) _ | refine Below.alloc ?_ (by first | (simp; done) | omega | (simp; omega)) _))).h).mono ?_
    rintro e w13 ⟨rfl, hb⟩
    have W13 := Lib.hid (blw_trans (show Below w.heap.size w _ by repeat (first | exact W12.out | refine blw_drewN ?_ _ | refine Below.setCell ?_ (by first | (simp; done) | omega | (simp; omega)) _ | refine Below.alloc ?_ (by first | (simp; done) | omega | (simp; omega)) _)) hb)
    have n13 := hb.size
    try simp at n13
    have k13_a0 := cell_keep (a := ⟨w.heap.size, 0, none⟩) (v := .int .i64 a) (by first | (go_keep; done) | (simp [go_sem, *]; done)) hb
    have k13_a1 := cell_keep (a := ⟨w.heap.size, 1, none⟩) (v := .int .i64 s) (by first | (go_keep; done) | (simp [go_sem, *]; done)) hb
    have l13_a := World.block_lt_of_cell? _ _ k13_a0
    try simp only at l13_a
    have k13_b0 := cell_keep (a := ⟨w.heap.size + 1, 0, none⟩) (v := .int .i64 b) (by first | (go_keep; done) | (simp [go_sem, *]; done)) hb
    have k13_b1 := cell_keep (a := ⟨w.heap.size + 1, 1, none⟩) (v := .int .i64 u) (by first | (go_keep; done) | (simp [go_sem, *]; done)) hb
    have l13_b := World.block_lt_of_cell? _ _ k13_b0
    try simp only at l13_b
    have k13_q0 := cell_keep (a := ⟨wq.heap.size, 0, none⟩) (v := .int .i64 0) (by first | (go_keep; done) | (simp [go_sem, *]; done)) hb
    have k13_q1 := cell_keep (a := ⟨wq.heap.size, 1, none⟩) (v := .int .i64 0) (by first | (go_keep; done) | (simp [go_sem, *]; done)) hb
    have l13_q := World.block_lt_of_cell? _ _ k13_q0
    try simp only at l13_q
    have k13_r0 := cell_keep (a := ⟨w10.heap.size, 0, none⟩) (v := .int .i64 0) (by first | (go_keep; done) | (simp [go_sem, *]; done)) hb
    have k13_r1 := cell_keep (a := ⟨w10.heap.size, 1, none⟩) (v := .int .i64 0) (by first | (go_keep; done) | (simp [go_sem, *]; done)) hb
    have l13_r := World.block_lt_of_cell? _ _ k13_r0
    try simp only at l13_r
    have k13_m0 := cell_keep (a := ⟨w11.heap.size, 0, none⟩) (v := .int .i64 0) (by first | (go_keep; done) | (simp [go_sem, *]; done)) hb
    have k13_m1 := cell_keep (a := ⟨w11.heap.size, 1, none⟩) (v := .int .i64 0) (by first | (go_keep; done) | (simp [go_sem, *]; done)) hb
    have l13_m := World.block_lt_of_cell? _ _ k13_m0
    try simp only at l13_m
    have k13_n0 := cell_keep (a := ⟨w12.heap.size, 0, none⟩) (v := .int .i64 0) (by first | (go_keep; done) | (simp [go_sem, *]; done)) hb
    have k13_n1 := cell_keep (a := ⟨w12.heap.size, 1, none⟩) (v := .int .i64 0) (by first | (go_keep; done) | (simp [go_sem, *]; done)) hb
    have l13_n := World.block_lt_of_cell? _ _ k13_n0
    try simp only at l13_n
    clear hb k12_a0 k12_a1 l12_a k12_b0 k12_b1 l12_b k12_q0 k12_q1 l12_q k12_r0 k12_r1 l12_r k12_m0 k12_m1 l12_m W12
    go_wp2_with fail
    go_ret
    exact ⟨ret_bool (by first | rfl | (simp; done)), by repeat (first | exact W13.out | refine blw_drewN ?_ _ | refine Below.setCell ?_ (by first | (simp; done) | omega | (simp; omega)) _ | refine Below.alloc ?_ (by first | (simp; done) | omega | (simp; omega)) _)⟩
end Go.Proofs.YtdmenoimamnldaaGreatDoor
namespace Go.Proofs.YtdmenoimamnldaaGreatDoor
open Go.RowKit
open Dcm (P10 okD mag nrm)

/-- a text is a number's, or none's -/
theorem text_way (t : List UInt8) (ht : t.length ≤ 4000000000) : ∃ (x1 x2 : Int) (is : Bool) (ev : Value), ErrNo ev (isE is) ∧
    (∀ w : World, Calls Tryz.prog 8 #[.string ⟨t.toArray⟩] w fun e w' => e = .returned (.tuple #[.agg #[.int .i64 x1, .int .i64 x2], .bool is]) ∧ Below w.heap.size w w') ∧
    (∀ w : World, TM w → Calls Tryz.prog 9 #[.string ⟨t.toArray⟩] w fun e w' => e = .returned (.tuple #[.agg #[.int .i64 x1, .int .i64 x2], ev]) ∧ Below w.heap.size w w') := by
  by_cases h : ∃ c s, okD c s ∧ Byt.decText c s = t
  · obtain ⟨c, s, hk, rfl⟩ := h
    refine ⟨c, s, true, .nilIface, .nil, fun w => (rdecof_any _ w ht).mono ?_, fun w hT => dparse_back c s w hT.d hk⟩
    rintro e w' (⟨c', s', hk', he, h1, h2⟩ | ⟨hno, _⟩)
    · have a := Byt.decOf_text c s hk
      have b := Byt.decOf_text c' s' hk'
      rw [he, a] at b
      obtain ⟨rfl, rfl⟩ := Prod.mk.inj (Option.some.inj b)
      exact ⟨h1, h2⟩
    · exact absurd rfl (hno c s hk)
  · refine ⟨0, 0, false, errV 3, .no 3, fun w => (rdecof_any _ w ht).mono ?_, fun w hT => (dparse_any t w hT.d ht).mono ?_⟩
    · rintro e w' (⟨c', s', hk', he, _⟩ | ⟨_, h1, h2⟩)
      · exact absurd ⟨c', s', hk', he⟩ h
      · exact ⟨h1, h2⟩
    · rintro e w' (⟨c', s', hk', he, _⟩ | ⟨_, h1, h2⟩)
      · exact absurd ⟨c', s', hk', he⟩ h
      · exact ⟨h1, h2⟩

set_option maxRecDepth 100000 in
theorem dectells_any (a s b u sc wy : Int) (t : List UInt8) (w : World) (hT : TM w) (ht : t.length ≤ 4000000000) :
    Calls Tryz.prog 3 #[.agg #[.int .i64 a, .int .i64 s], .agg #[.int .i64 b, .int .i64 u], .string ⟨t.toArray⟩, .int .i64 sc, .int .i64 wy] w fun e w' => e = .returned (.bool true) ∧ Below w.heap.size w w' := by
  obtain ⟨x1, x2, is, ev, hev, co, cp⟩ := text_way t ht
  have CO := Lib.hid co
  have CP := Lib.hid cp
  by_cases ha : okD a s
  rotate_left
  · have hre : rndE a s sc wy = 1 := by
      unfold rndE; rw [if_pos ha]
    have cv := fun w => round_no a s sc wy w (by rw [hre]; decide)
    rw [hre] at cv
    exact dt_bad a s b u sc wy x1 x2 t is ev w hT (Lib.hid fun w => dflt_yes a s w ha) (Lib.hid fun w => dchk_no a s w ha) CO CP hev
      (Lib.hid fun w => less_bad a s b u w (fun g => ha g.1)) (Lib.hid fun w => same_bad a s b u w (fun g => ha g.1)) (Lib.hid cv) (Lib.hid fun w => add_no a s b u w (fun g => ha g.1))
  have CF := Lib.hid fun w => dflt_no a s w ha
  have CK := Lib.hid fun w => dchk_yes a s w ha
  have CX := Lib.hid fun w (hT : TM w) => dtext_any a s w hT.d.p ha
  have CY := Lib.hid fun w => rdect_any a s w ha
  -- the second number
  have hB : (¬ okD b u) ∨ (okD b u ∧ addOk a s b u) ∨ (okD b u ∧ ¬ addOk a s b u) := by
    by_cases h1 : okD b u
    · by_cases h2 : addOk a s b u
      · exact .inr (.inl ⟨h1, h2⟩)
      · exact .inr (.inr ⟨h1, h2⟩)
    · exact .inl h1
  -- the rounding
  have hR : rndE a s sc wy = 0 ∨ (rndE a s sc wy = 1 ∧ 0 ≤ sc ∧ sc ≤ 9 ∧ 1 ≤ wy ∧ wy ≤ 5 ∧ s ≤ sc ∧ ¬ mag a * P10 (sc - s) ≤ 1000000000000000) ∨ (rndE a s sc wy = 1 ∧ (sc < 0 ∨ 9 < sc)) ∨ (rndE a s sc wy = 3 ∧ 0 ≤ sc ∧ sc ≤ 9 ∧ (wy < 1 ∨ 5 < wy)) := by
    unfold rndE
    rw [if_neg (fun g => g ha)]
    by_cases h1 : sc < 0 ∨ 9 < sc
    · rw [if_pos h1]; exact .inr (.inr (.inl ⟨rfl, h1⟩))
    · rw [if_neg h1]
      by_cases h2 : wy < 1 ∨ 5 < wy
      · rw [if_pos h2]; exact .inr (.inr (.inr ⟨rfl, by omega, by omega, h2⟩))
      · rw [if_neg h2]
        by_cases h3 : Dcm.rndOk a s sc
        · rw [if_pos h3]; exact .inl rfl
        · rw [if_neg h3]
          have h4 : s ≤ sc ∧ ¬ mag a * P10 (sc - s) ≤ 1000000000000000 := by
            unfold Dcm.rndOk at h3
            by_cases h5 : s ≤ sc
            · exact ⟨h5, fun g => h3 fun _ => g⟩
            · exact absurd (fun g => absurd g h5) h3
          exact .inr (.inl ⟨rfl, by omega, by omega, by omega, by omega, h4.1, h4.2⟩)
  have j12 : ∀ {p q : Prop} [Decidable p] [Decidable q], p ∨ q → (decide p = true ∨ decide p = false ∧ decide q = true) := by
    intro p q _ _ h
    by_cases hp : p
    · exact .inl (dec_yes hp)
    · exact .inr ⟨dec_no hp, dec_yes (h.resolve_left hp)⟩
  have RY : rndE a s sc wy = 0 → Hid (∀ w : World, Calls Tryz.prog 15 #[.agg #[.int .i64 a, .int .i64 s], .int .i64 sc, .int .i64 wy] w fun e w' => e = .returned (.tuple #[.agg #[.int .i64 (Dcm.rndC a s sc wy), .int .i64 sc], .bool true]) ∧ Below w.heap.size w w') := fun h => Lib.hid fun w => rof_yes a s sc wy w h
  have CV : ∀ g, rndE a s sc wy = g → g ≠ 0 → Hid (∀ w : World, Calls Tryz.prog 16 #[.agg #[.int .i64 a, .int .i64 s], .int .i64 sc, .int .i64 wy] w fun e w' => e = .returned (.tuple #[.agg #[.int .i64 0, .int .i64 0], errV g]) ∧ Below w.heap.size w w') := fun g h h0 => by
    have c := fun w => round_no a s sc wy w (by rw [h]; exact h0)
    rw [h] at c
    exact Lib.hid c
  rcases hB with hb | ⟨hb, ho⟩ | ⟨hb, ho⟩
  · have CG := Lib.hid fun w => dflt_yes b u w hb
    have CL := Lib.hid fun w => less_bad a s b u w (fun g => hb g.2)
    have CS := Lib.hid fun w => same_bad a s b u w (fun g => hb g.2)
    have CA := Lib.hid fun w => add_no a s b u w (fun g => hb g.2.1)
    rcases hR with h | ⟨h, h0, h9, h1, h5, hst, hr⟩ | ⟨h, hs⟩ | ⟨h, h0, h9, hw⟩
    · obtain ⟨_, h0, h9, h1, h5, _⟩ := rndE_zero.1 h
      exact dt_bad_ok a s b u sc wy x1 x2 t is ev _ _ w hT CF CK CO CP hev CG CL CS CX CY (RY h) (Lib.hid fun w => round_yes a s sc wy w h) CA h0 h9 h1 h5
    · exact dt_bad_full a s b u sc wy x1 x2 t is ev _ w hT CF CK CO CP hev CG CL CS CX CY (Lib.hid fun w => rof_up_no a s sc wy w ha h9 hst hr) (CV 1 h (by decide)) CA h0 h9 h1 h5
    · exact dt_bad_sc a s b u sc wy x1 x2 t is ev _ _ _ w hT CF CK CO CP hev CG CL CS CX CY (CV 1 h (by decide)) CA rfl rfl (j12 hs)
    · exact dt_bad_wy a s b u sc wy x1 x2 t is ev _ _ _ w hT CF CK CO CP hev CG CL CS CX CY (CV 3 h (by decide)) CA h0 h9 rfl rfl (j12 hw)
  all_goals
    have CG := Lib.hid fun w => dflt_no b u w hb
    have CR := Lib.hid fun w => order_any a s b u w ha hb
    have oN := Dcm.ordV_nrm ha hb
    have CL : Hid (∀ w : World, Calls Tryz.prog 10 #[.agg #[.int .i64 a, .int .i64 s], .agg #[.int .i64 b, .int .i64 u]] w fun e w' => e = .returned (.bool (decide (Dcm.ordV a s b u < 0))) ∧ Below w.heap.size w w') := by
      by_cases h : nrm a s < nrm b u
      · rw [dec_yes (oN.1.2 h)]; exact Lib.hid fun w => less_yes a s b u w ha hb h
      · rw [dec_no (fun g => h (oN.1.1 g))]; exact Lib.hid fun w => less_no a s b u w ha hb h
    have CS : Hid (∀ w : World, Calls Tryz.prog 12 #[.agg #[.int .i64 a, .int .i64 s], .agg #[.int .i64 b, .int .i64 u]] w fun e w' => e = .returned (.bool (Dcm.ordV a s b u == 0)) ∧ Below w.heap.size w w') := by
      by_cases h : nrm a s = nrm b u
      · rw [beq_yes (oN.2.2 h)]; exact Lib.hid fun w => same_yes a s b u w ha hb h
      · rw [beq_no (fun g => h (oN.2.1 g))]; exact Lib.hid fun w => same_no a s b u w ha hb h
  · have CQ := Lib.hid fun w => aof_yes a s b u w ho
    have CA := Lib.hid fun w => add_yes a s b u w ho
    rcases hR with h | ⟨h, h0, h9, h1, h5, hst, hr⟩ | ⟨h, hs⟩ | ⟨h, h0, h9, hw⟩
    · obtain ⟨_, h0, h9, h1, h5, _⟩ := rndE_zero.1 h
      exact dt_room_ok a s b u sc wy x1 x2 t is ev _ _ _ _ _ _ _ w hT CF CK CO CP hev CG CL CS CR rfl rfl CX CY (RY h) (Lib.hid fun w => round_yes a s sc wy w h) CQ CA h0 h9 h1 h5
    · exact dt_room_full a s b u sc wy x1 x2 t is ev _ _ _ _ _ _ w hT CF CK CO CP hev CG CL CS CR rfl rfl CX CY (Lib.hid fun w => rof_up_no a s sc wy w ha h9 hst hr) (CV 1 h (by decide)) CQ CA h0 h9 h1 h5
    · exact dt_room_sc a s b u sc wy x1 x2 t is ev _ _ _ _ _ _ _ _ w hT CF CK CO CP hev CG CL CS CR rfl rfl CX CY (CV 1 h (by decide)) CQ CA rfl rfl (j12 hs)
    · exact dt_room_wy a s b u sc wy x1 x2 t is ev _ _ _ _ _ _ _ _ w hT CF CK CO CP hev CG CL CS CR rfl rfl CX CY (CV 3 h (by decide)) CQ CA h0 h9 rfl rfl (j12 hw)
  · have CQ := Lib.hid fun w => aof_bad a s b u w ha hb ho
    have CA := Lib.hid fun w => add_no a s b u w ho
    rcases hR with h | ⟨h, h0, h9, h1, h5, hst, hr⟩ | ⟨h, hs⟩ | ⟨h, h0, h9, hw⟩
    · obtain ⟨_, h0, h9, h1, h5, _⟩ := rndE_zero.1 h
      exact dt_full_ok a s b u sc wy x1 x2 t is ev _ _ _ _ _ w hT CF CK CO CP hev CG CL CS CR rfl rfl CX CY (RY h) (Lib.hid fun w => round_yes a s sc wy w h) CQ CA h0 h9 h1 h5
    · exact dt_full_full a s b u sc wy x1 x2 t is ev _ _ _ _ w hT CF CK CO CP hev CG CL CS CR rfl rfl CX CY (Lib.hid fun w => rof_up_no a s sc wy w ha h9 hst hr) (CV 1 h (by decide)) CQ CA h0 h9 h1 h5
    · exact dt_full_sc a s b u sc wy x1 x2 t is ev _ _ _ _ _ _ w hT CF CK CO CP hev CG CL CS CR rfl rfl CX CY (CV 1 h (by decide)) CQ CA rfl rfl (j12 hs)
    · exact dt_full_wy a s b u sc wy x1 x2 t is ev _ _ _ _ _ _ w hT CF CK CO CP hev CG CL CS CR rfl rfl CX CY (CV 3 h (by decide)) CQ CA h0 h9 rfl rfl (j12 hw)
end Go.Proofs.YtdmenoimamnldaaGreatDoor
namespace Go.Proofs.YtdmenoimamnldaaGreatDoor
open Go.RowKit

theorem gPowT : (Tryz.prog.globals[4]?).map (·.type) = some 136 := by kernel_rfl
theorem cellsPow : Tryz.prog.cellsOf 136 = 20 := by kernel_rfl
theorem cellsU64 : Tryz.prog.cellsOf 59 = 1 := by kernel_rfl
theorem powW_of {L : List (String × DataW Unit)} {W : World} (h : laidMetH Tryz.prog L W) (hf : L.filter (fun x => x.1 == "internal/strconv.uint64pow10") = [("internal/strconv.uint64pow10", Rows.laid_internal_strconv_uint64pow10)]) : PowW W := by
  have g := laidMetH.filter (fun x => x.1 == "internal/strconv.uint64pow10") h
  rw [hf, MakeChecks.laidMetH_plain _ _ _ (by kernel_rfl)] at g
  exact Lib.tabIs_of_head gPow gPowT Tryz.underlying136 Tryz.underlying59 cellsU64 cellsPow g
end Go.Proofs.YtdmenoimamnldaaGreatDoor
namespace Go.Proofs.YtdmenoimamnldaaGreatDoor
theorem laidMet_over {P : Program} {W : World} {L : List (String × DataW Unit)} (args : Array Value) (hf : W.layFits P L [] = true) (hi : W.layIfaces P L (W.layVars P L) = true) :
    laidMet P L ((W.layVars P L).forCall (fun _ _ => 0) ⟨#[], args, []⟩).memory := by
  have e1 : (L.filter fun x => (L.map (·.1)).contains x.1) = L := List.filter_eq_self.2 fun x hx => List.contains_iff_mem.2 (List.mem_map.2 ⟨x, hx, rfl⟩)
  have e2 : (L.filter fun x => !(L.map (·.1)).contains x.1) = [] := List.filter_eq_nil_iff.2 fun x hx => by rw [List.contains_iff_mem.2 (List.mem_map.2 ⟨x, hx, rfl⟩)]; simp
  have h : laidMet P L (W.layVars P L) := laidMet_layVars (w0 := W) (L.map (·.1)) [] (by rw [e1]) (by rw [e1]; exact hf) (by rw [e1]; exact hi) (by rw [e2]; exact LaidIn.none)
  exact h.of_heap (by simp [World.memory, World.forCall, Input.heap])
end Go.Proofs.YtdmenoimamnldaaGreatDoor
namespace Go.Proofs.YtdmenoimamnldaaGreatDoor
open Go.RowKit Go.WideShapes Go.ChangeShapes

/-- the reading of these texts -/
def strsD {H : Type} (l : List (List UInt8)) (d : DataW H) : Prop := (d = .nil ∧ l = []) ∨ ∃ sp, d = .slice (l.map fun x => .lit (.string x)) sp
theorem strs_open {H : Type} {enc : TypeId × Value → H} {P : Program} {w : World} {base : Nat} {sp : Nat → Bool} {held : Bool} {fuel : Nat} {t e : TypeId} {a : Option Addr} {n c : Nat} {d : DataW H} {p : List MemPlace}
    (ht : P.underlying t = some (.slice e)) (he : P.underlying e = some .string) (hc : P.cellsOf e = 1) (h : DataW.trod enc P w base sp held fuel t (Value.slice a n c).cells.toList = some (d, p)) :
    ∃ l : List (List UInt8), StrsAt w (.slice a n c) l ∧ strsD l d := by
  rcases open_strings ht he hc h with ⟨hcs, hx⟩ | ⟨a', len', cap', ss, hcs, _, hl, hm, hz, hx, hcell, _⟩
  · have e1 : Value.slice a n c = .slice none 0 0 := by simpa [Value.cells] using hcs
    rw [e1]
    exact ⟨[], .inl ⟨rfl, none, 0, rfl⟩, .inl ⟨(congrArg Prod.fst hx), rfl⟩⟩
  · have e1 : Value.slice a n c = .slice (some a') len' cap' := by simpa [Value.cells] using hcs
    rw [e1]
    have hlen : (ss.take len').length = len' := by
      rw [List.length_take]
      split at hz <;> omega
    refine ⟨(ss.take len').map (·.data.toList), ?_, .inr ⟨strs (ss.drop len'), ?_⟩⟩
    · by_cases h0 : len' = 0
      · subst h0
        exact .inl ⟨by simp, _, _, rfl⟩
      · obtain ⟨b, off, spot⟩ := a'
        have hsp : spot = none := by simpa [Addr.add] using World.cell?_spot (hcell 0 (by split at hz <;> omega))
        subst hsp
        refine .inr ⟨b, off, cap', by rw [List.length_map, hlen], by rw [List.length_map, hlen]; omega, by rw [List.length_map, hlen]; exact hl, hm, fun j x hj => ?_⟩
        rw [List.getElem?_map] at hj
        obtain ⟨y, hy, rfl⟩ := Option.map_eq_some_iff.1 hj
        have hj' : j < (ss.take len').length := (List.getElem?_eq_some_iff.1 hy).1
        rw [List.getElem?_take, if_pos (by omega)] at hy
        have g := hcell j (List.getElem?_eq_some_iff.1 hy).1
        rw [Go.WideShapes.add_plain] at g
        rw [g, List.getD, hy]
        rfl
    · have e2 : (d : DataW H) = .slice (strs (ss.take len')) (strs (ss.drop len')) := congrArg Prod.fst hx
      rw [e2, List.map_map]
      rfl

theorem bulk_strs {H : Type} {l : List (List UInt8)} {d : DataW H} (h : strsD l d) : (l.map (·.length)).sum + l.length + 1 ≤ Rows.uptoBulk d := by
  rcases h with ⟨rfl, rfl⟩ | ⟨sp, rfl⟩
  · simp [Rows.uptoBulk]
  · have g : ∀ m : List (List UInt8), (m.map (·.length)).sum + m.length ≤ Rows.uptoBulkAll (m.map fun x => (.lit (.string x) : DataW H)) := by
      intro m
      induction m with
      | nil => simp [Rows.uptoBulkAll]
      | cons x m ih => simp only [List.map_cons, List.sum_cons, List.length_cons, Rows.uptoBulkAll, Rows.uptoBulk]; omega
    have := g l
    simp only [Rows.uptoBulk]
    omega
theorem bulk_of {H : Type} {l : List (DataW H)} (hk : Rows.uptoSmall H l = true) : Rows.uptoBulkAll l ≤ 1048576 := of_decide_eq_true hk
end Go.Proofs.YtdmenoimamnldaaGreatDoor
namespace Go.Proofs.YtdmenoimamnldaaGreatDoor.lawDecTells
open Go.ChangeShapes Go.WideShapes Go.ChangeAt Go.RowKit Go.Joins

theorem own : ownKnob Tryz.prog.godebug = none := by kernel_rfl
theorem laidOut : laidOutB Tryz.prog = true := by kernel_rfl
theorem cellsDec : Tryz.prog.cellsOf 23 = 2 := by kernel_rfl

set_option maxRecDepth 100000 in
theorem contract (H : Type) (enc : TypeId × Value → H) (W : World) (base : Nat) (args : Array Value) (ds gs : List (DataW H)) (before : List MemPlace)
    (hval : ∀ (j : Nat) t v, Tryz.f3.params[j]? = some t → args[j]? = some v → Value.okWide Tryz.prog W .any base t v)
    (hW : DataW.Whole enc Tryz.prog Tryz.f3.params.toList Rows.decTellsSpec.vars false W args.toList ds gs before) (hk : Rows.uptoSmall H (ds ++ gs) = true) (hL : laidMetH Tryz.prog Rows.decTellsUptoRow.laid W) (hS : W.ShapedOpen Tryz.prog) :
    Calls Tryz.prog 3 args W fun e W' => ∃ v, e = .returned v ∧ Rows.decTellsSpec.post enc Tryz.prog Tryz.f3 false true false false W args v W' := by
  have hpost : ∀ W', Below W.heap.size W W' → Rows.decTellsSpec.post enc Tryz.prog Tryz.f3 false true false false W args (.bool true) W' := fun W' hb =>
    law_post (tb := 4) laidOut rfl Tryz.underlying4 rfl (by kernel_rfl) (fun ds h => by match ds, h with | [x0, x1, x2, x3, x4], _ => rfl) hW hb
  obtain ⟨p, q, hA0, hV, _, hfz, hnd⟩ := hW
  have hA : DataW.TrodAll enc Tryz.prog W 0 (fun _ => true) true Tryz.f3.params.toList args.toList ds p := hA0
  obtain ⟨rfl, rfl⟩ := trodVars_none hV
  rw [Tryz.params3] at hA hval
  obtain ⟨v0, vs0, d0, ds0, p0, q0, hargs, rfl, hp0, h0, r0⟩ := trodAll_cons hA
  obtain ⟨v1, vs1, d1, ds1, p1, q1, rfl, rfl, hp1, h1, r1⟩ := trodAll_cons r0
  obtain ⟨v2, vs2, d2, ds2, p2, q2, rfl, rfl, hp2, h2, r2⟩ := trodAll_cons r1
  obtain ⟨v3, vs3, d3, ds3, p3, q3, rfl, rfl, hp3, h3, r3⟩ := trodAll_cons r2
  obtain ⟨v4, vs4, d4, ds4, p4, q4, rfl, rfl, hp4, h4, r4⟩ := trodAll_cons r3
  obtain ⟨rfl, rfl, hp⟩ := trodAll_nil r4
  obtain rfl : args = #[v0, v1, v2, v3, v4] := by cases args; simp_all
  obtain ⟨c0_0, c0_1, y0_0, y0_1, m0, rfl, rfl, rfl, hy0_0, hy0_1⟩ := open_agg2 Tryz.underlying23 (by kernel_rfl) cellsDec (hval 0 23 v0 rfl rfl) h0
  obtain ⟨a_c, e0_0, _, w_a_c⟩ := DataW.trod_int Tryz.underlying3 hy0_0
  obtain ⟨a_s, e0_1, _, w_a_s⟩ := DataW.trod_int Tryz.underlying3 hy0_1
  simp at e0_0 e0_1
  subst e0_0 e0_1
  have b_a_c := bounds_i64 w_a_c
  have b_a_s := bounds_i64 w_a_s
  obtain ⟨c1_0, c1_1, y1_0, y1_1, m1, rfl, rfl, rfl, hy1_0, hy1_1⟩ := open_agg2 Tryz.underlying23 (by kernel_rfl) cellsDec (hval 1 23 v1 rfl rfl) h1
  obtain ⟨b_c, e1_0, _, w_b_c⟩ := DataW.trod_int Tryz.underlying3 hy1_0
  obtain ⟨b_s, e1_1, _, w_b_s⟩ := DataW.trod_int Tryz.underlying3 hy1_1
  simp at e1_0 e1_1
  subst e1_0 e1_1
  have b_b_c := bounds_i64 w_b_c
  have b_b_s := bounds_i64 w_b_s
  obtain ⟨s, rfl, rfl, rfl, w_s⟩ := ChangeMaps.open_string Tryz.underlying9 (hval 2 9 v2 rfl rfl) h2
  obtain ⟨sc, rfl, rfl, rfl, w_sc⟩ := open_int Tryz.underlying3 (hval 3 3 v3 rfl rfl) h3
  have b_sc := bounds_i64 w_sc
  obtain ⟨wy, rfl, rfl, rfl, w_wy⟩ := open_int Tryz.underlying3 (hval 4 3 v4 rfl rfl) h4
  have b_wy := bounds_i64 w_wy
  clear hA0 hfz hnd hval
  have hm : MaxW W := Go.Proofs.cell_of_shapedOpen_int (zero := #[.int .i64 0]) (t := 3) hS (of_decide_eq_true (by kernel_rfl)) (by kernel_rfl) rfl (by kernel_rfl) (by kernel_rfl) Tryz.underlying3
  have hT : TM W := ⟨⟨powW_of hL (by kernel_rfl), numW_of hL (by kernel_rfl) (by kernel_rfl), hm⟩, hanW_of (by repeat (first | exact List.Mem.head _ | refine List.Mem.tail _ ?_)) hL⟩
  have hq := bulk_of hk
  simp only [List.append_nil, Rows.uptoBulkAll, Rows.uptoBulk, Array.length_toList] at hq
  have hz : ∀ x : ByteArray, x.data.size = x.size := fun _ => rfl
  rw [hz] at hq
  have hsz : s.size ≤ 4000000000 := by omega
  refine Calls.mono (?_ : Calls Tryz.prog 3 #[.agg #[.int .i64 a_c, .int .i64 a_s], .agg #[.int .i64 b_c, .int .i64 b_s], .string s, .int .i64 sc, .int .i64 wy] W fun e w' => e = .returned (.bool true) ∧ Below W.heap.size W w') fun e W' ⟨he, hb⟩ => ⟨_, he, hpost W' hb⟩
  obtain ⟨l, rfl⟩ : ∃ l : List UInt8, s = ⟨l.toArray⟩ := ⟨s.data.toList, rfl⟩
  rw [size_mkl] at hsz
  exact dectells_any a_c a_s b_c b_s sc wy l W hT hsz

theorem start_met (os : Os) : laidMetH Tryz.prog Rows.decTellsUptoRow.laid (((World.doorLaid Tryz.prog 84 os).layVars Tryz.prog (Rows.decTellsUptoRow.laid.filter fun x => x.2.handleName?.isNone)).forCall (fun _ _ => 0) ⟨#[], #[.agg #[.int .i64 0, .int .i64 0], .agg #[.int .i64 0, .int .i64 0], .string ⟨#[]⟩, .int .i64 0, .int .i64 0], []⟩).memory :=
  laidMetH_of_parts3 (fuel := 8) (laidMet_over _ (by kernel_rfl) (by kernel_rfl)) (by kernel_rfl) (by kernel_rfl)
theorem start_reads (os : Os) {H : Type} (enc : TypeId × Value → H) : ∃ places, DataW.whole enc Tryz.prog (((World.doorLaid Tryz.prog 84 os).layVars Tryz.prog (Rows.decTellsUptoRow.laid.filter fun x => x.2.handleName?.isNone)).forCall (fun _ _ => 0) ⟨#[], #[.agg #[.int .i64 0, .int .i64 0], .agg #[.int .i64 0, .int .i64 0], .string ⟨#[]⟩, .int .i64 0, .int .i64 0], []⟩).memory Tryz.f3.params.toList Rows.decTellsSpec.vars false (#[.agg #[.int .i64 0, .int .i64 0], .agg #[.int .i64 0, .int .i64 0], .string ⟨#[]⟩, .int .i64 0, .int .i64 0] : Array Value).toList 8 = some ([.agg [.lit (.int .i64 0), .lit (.int .i64 0)], .agg [.lit (.int .i64 0), .lit (.int .i64 0)], .lit (.string []), .lit (.int .i64 0), .lit (.int .i64 0)], [], places) :=
  ⟨[], by kernel_rfl⟩

set_option maxRecDepth 100000 in
theorem lifted (os : Os) (started : os.Started) (H : Type) (enc : TypeId × Value → H) (F : Stop.Interp) :
    ReturnsInHanded {} Tryz.checked os 3 .any ((Rows.OpenSpec.upto Rows.decTellsSpec).preRow enc Tryz.prog Tryz.f3 Rows.decTellsUptoRow.domain false Rows.decTellsUptoRow.laid) (((Rows.OpenSpec.upto Rows.decTellsSpec).at F).post enc Tryz.prog Tryz.f3 false true false false) := by
  obtain ⟨places, hx⟩ := start_reads os enc
  refine returnsInHanded_of_row (C := Tryz.checked) (s := Rows.OpenSpec.upto Rows.decTellsSpec) own started (by kernel_rfl) Tryz.func3
    (witness_row_atRef (enc := enc) (C := Tryz.checked) false ((World.doorLaid Tryz.prog 84 os).layVars Tryz.prog (Rows.decTellsUptoRow.laid.filter fun x => x.2.handleName?.isNone)) #[.agg #[.int .i64 0, .int .i64 0], .agg #[.int .i64 0, .int .i64 0], .string ⟨#[]⟩, .int .i64 0, .int .i64 0] (World.layVars_os _ _ _) (by kernel_rfl) (by kernel_rfl) (by kernel_rfl)
      (OpenSpec.preRow_of_cond 8 hx (by kernel_rfl) (fun k hk => by cases hk; kernel_rfl) (by kernel_rfl) (start_met os))) ?_
  intro W base args ds gs before hval hW _ hcond _ hL hS _
  exact contract H enc W base args ds gs before hval hW (hcond _ rfl) hL hS

theorem said : Rows.DecTellsUptoSaid :=
  OpenClaim.holds_of_cond 3 Tryz.f3 rfl rfl rfl rfl rfl rfl rfl ⟨rfl, rfl, rfl, rfl, rfl⟩ rfl rfl rfl rfl rfl (by kernel_rfl) Tryz.func3 (by kernel_rfl)
    (of_decide_eq_true (by kernel_rfl)) (by unfold Func.isWrapper; first | (rw [if_pos (by decide +kernel)]; kernel_rfl) | (rw [if_neg (by decide +kernel)]; exact ⟨rfl, rfl⟩))
    (fun os started H enc _ F => by rw [OpenClaim.pre_eq_preRow]; exact lifted os started H enc F)

theorem plain (f : FuncId) (fn : Func) (hf : Tryz.pinned.checked.prog.funcNamed "linguister/linguisterlaw1.DecTells" = some f) (hfn : Tryz.pinned.checked.prog.funcs[f]? = some fn) :
    true = Tryz.pinned.checked.prog.looks [] ∧ ∀ (j : Nat) t, fn.params[j]? = some t → Tryz.pinned.checked.prog.wantsStandIn t = false := by
  obtain rfl : f = 3 := Option.some.inj ((show Tryz.prog.funcNamed "linguister/linguisterlaw1.DecTells" = some 3 by kernel_rfl).symm.trans hf) |>.symm
  obtain rfl : fn = Tryz.f3 := (Option.some.inj (Tryz.func3.symm.trans hfn)).symm
  refine ⟨by kernel_rfl, fun j t ht => ?_⟩
  rw [Tryz.params3] at ht
  have hm : t ∈ [23, 23, 9, 3, 3] := by simpa using Array.mem_of_getElem? ht
  have hall : ([23, 23, 9, 3, 3].all fun u => !Tryz.prog.wantsStandIn u) = true := by kernel_rfl
  exact (show Tryz.prog.wantsStandIn t = false by simpa using List.all_eq_true.1 hall t hm)

theorem proved : Rows.DecTellsUptoCardSaid :=
  Claim7.holds_tied_plain_at .later [] _ _ _ _ said (fun _ h => by cases h) (by kernel_rfl) (fun _ h => by cases h) decTellsUpto_row_tie rfl ⟨rfl, rfl⟩ (by kernel_rfl) rfl plain (by kernel_rfl)
#print axioms proved
end Go.Proofs.YtdmenoimamnldaaGreatDoor.lawDecTells
