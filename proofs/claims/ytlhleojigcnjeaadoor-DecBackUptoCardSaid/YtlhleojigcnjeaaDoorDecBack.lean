/- The walk of the law DecBack. Conditions: the listed variables hold what the program lays; the text is short of 4000000000 bytes. -/
import Derived.Test.YtlhleojigcnjeaaDoorDecParse
import Derived.Test.YtlhleojigcnjeaaDoorDecRndE
namespace Go.Proofs.YtlhleojigcnjeaaDoor
open Go.RowKit
open Dcm (okD)

/-- a number's text tells that number -/
theorem dparse_back (c s : Int) (w : World) (hT : DM w) (h : okD c s) :
    Calls Tryd.prog 36 #[.string ⟨(Byt.decText c s).toArray⟩] w fun e w' => e = .returned (.tuple #[.agg #[.int .i64 c, .int .i64 s], .nilIface]) ∧ Below w.heap.size w w' := by
  have dl := Byt.dec_len c s h
  refine (dparse_any (Byt.decText c s) w hT (by omega)).mono ?_
  rintro e w' (⟨c', s', h', he, rfl, hb⟩ | ⟨hno, _⟩)
  · have a := Byt.dec_cut c s h
    have b := Byt.dec_cut c' s' h'
    rw [he] at b
    have e1 : c' = c := by
      have := b.1.symm.trans a.1
      injection this
    have e2 : s' = s := b.2.symm.trans a.2
    subst e1 e2
    exact ⟨rfl, hb⟩
  · exact absurd rfl (hno c s h)

set_option maxRecDepth 100000 in
set_option maxHeartbeats 1000000 in
theorem decback_yy (c s x1 x2 : Int) (t D : List UInt8) (w : World) (hT : DM w)
    (CP : Hid (∀ w : World, DM w → Calls Tryd.prog 36 #[.string ⟨t.toArray⟩] w fun e w' => e = .returned (.tuple #[.agg #[.int .i64 x1, .int .i64 x2], .nilIface]) ∧ Below w.heap.size w w'))
    (CX : Hid (∀ w : World, DM w → Calls Tryd.prog 37 #[.agg #[.int .i64 x1, .int .i64 x2]] w fun e w' => e = .returned (.string ⟨t.toArray⟩) ∧ Below w.heap.size w w'))
    (CK : Hid (∀ w : World, Calls Tryd.prog 38 #[.agg #[.int .i64 c, .int .i64 s]] w fun e w' => e = .returned (.nilIface) ∧ Below w.heap.size w w'))
    (CT : Hid (∀ w : World, DM w → Calls Tryd.prog 37 #[.agg #[.int .i64 c, .int .i64 s]] w fun e w' => e = .returned (.string ⟨D.toArray⟩) ∧ Below w.heap.size w w'))
    (CW : Hid (∀ w : World, DM w → Calls Tryd.prog 36 #[.string ⟨D.toArray⟩] w fun e w' => e = .returned (.tuple #[.agg #[.int .i64 c, .int .i64 s], .nilIface]) ∧ Below w.heap.size w w')) :
    Calls Tryd.prog 11 #[.agg #[.int .i64 c, .int .i64 s], .string ⟨t.toArray⟩] w fun e w' => e = .returned (.bool true) ∧ Below w.heap.size w w' := by
  have tt : (t != t) = false := by simp
  go_enter Tryd.func11, Tryd.ntmps11
  go_wp2_with fail
  refine (half_any _).mono ?_
  rintro e w1 ⟨rfl, hb⟩
  have W1 := Lib.hid (blw_trans (show Below w.heap.size w _ by repeat (first | exact (Below.refl _ _) | refine blw_drewN ?_ _ | refine Below.setCell ?_ (by first | (simp; done) | omega | (simp; omega)) _ | refine Below.alloc ?_ (by first | (simp; done) | omega | (simp; omega)) _)) hb)
  have n1 := hb.size
  try simp at n1
  have k1_d0 := cell_keep (a := ⟨w.heap.size, 0, none⟩) (v := .int .i64 c) (by first | (go_keep; done) | (simp [go_sem, *]; done)) hb
  have k1_d1 := cell_keep (a := ⟨w.heap.size, 1, none⟩) (v := .int .i64 s) (by first | (go_keep; done) | (simp [go_sem, *]; done)) hb
  have l1_d := World.block_lt_of_cell? _ _ k1_d0
  try simp only at l1_d
  clear hb
  go_wp2_with fail
  refine (CP.out _ (hT.below (by repeat (first | exact W1.out | refine blw_drewN ?_ _ | refine Below.setCell ?_ (by first | (simp; done) | omega | (simp; omega)) _ | refine Below.alloc ?_ (by first | (simp; done) | omega | (simp; omega)) _)))).mono ?_
  rintro e w2 ⟨rfl, hb⟩
  have W2 := Lib.hid (blw_trans (show Below w.heap.size w _ by repeat (first | exact W1.out | refine blw_drewN ?_ _ | refine Below.setCell ?_ (by first | (simp; done) | omega | (simp; omega)) _ | refine Below.alloc ?_ (by first | (simp; done) | omega | (simp; omega)) _)) hb)
  have n2 := hb.size
  try simp at n2
  have k2_d0 := cell_keep (a := ⟨w.heap.size, 0, none⟩) (v := .int .i64 c) (by first | (go_keep; done) | (simp [go_sem, *]; done)) hb
  have k2_d1 := cell_keep (a := ⟨w.heap.size, 1, none⟩) (v := .int .i64 s) (by first | (go_keep; done) | (simp [go_sem, *]; done)) hb
  have l2_d := World.block_lt_of_cell? _ _ k2_d0
  try simp only at l2_d
  clear hb k1_d0 k1_d1 l1_d W1
  go_wp2_with fail
  refine (CX.out _ (hT.below (by repeat (first | exact W2.out | refine blw_drewN ?_ _ | refine Below.setCell ?_ (by first | (simp; done) | omega | (simp; omega)) _ | refine Below.alloc ?_ (by first | (simp; done) | omega | (simp; omega)) _)))).mono ?_
  rintro e w3 ⟨rfl, hb⟩
  have W3 := Lib.hid (blw_trans (show Below w.heap.size w _ by repeat (first | exact W2.out | refine blw_drewN ?_ _ | refine Below.setCell ?_ (by first | (simp; done) | omega | (simp; omega)) _ | refine Below.alloc ?_ (by first | (simp; done) | omega | (simp; omega)) _)) hb)
  have n3 := hb.size
  try simp at n3
  have k3_d0 := cell_keep (a := ⟨w.heap.size, 0, none⟩) (v := .int .i64 c) (by first | (go_keep; done) | (simp [go_sem, *]; done)) hb
  have k3_d1 := cell_keep (a := ⟨w.heap.size, 1, none⟩) (v := .int .i64 s) (by first | (go_keep; done) | (simp [go_sem, *]; done)) hb
  have l3_d := World.block_lt_of_cell? _ _ k3_d0
  try simp only at l3_d
  clear hb k2_d0 k2_d1 l2_d W2
  go_wp2_with fail
  refine (CK.out _).mono ?_
  rintro e w4 ⟨rfl, hb⟩
  have W4 := Lib.hid (blw_trans (show Below w.heap.size w _ by repeat (first | exact W3.out | refine blw_drewN ?_ _ | refine Below.setCell ?_ (by first | (simp; done) | omega | (simp; omega)) _ | refine Below.alloc ?_ (by first | (simp; done) | omega | (simp; omega)) _)) hb)
  have n4 := hb.size
  try simp at n4
  have k4_d0 := cell_keep (a := ⟨w.heap.size, 0, none⟩) (v := .int .i64 c) (by first | (go_keep; done) | (simp [go_sem, *]; done)) hb
  have k4_d1 := cell_keep (a := ⟨w.heap.size, 1, none⟩) (v := .int .i64 s) (by first | (go_keep; done) | (simp [go_sem, *]; done)) hb
  have l4_d := World.block_lt_of_cell? _ _ k4_d0
  try simp only at l4_d
  clear hb k3_d0 k3_d1 l3_d W3
  go_wp2_with fail
  refine (CT.out _ (hT.below (by repeat (first | exact W4.out | refine blw_drewN ?_ _ | refine Below.setCell ?_ (by first | (simp; done) | omega | (simp; omega)) _ | refine Below.alloc ?_ (by first | (simp; done) | omega | (simp; omega)) _)))).mono ?_
  rintro e w5 ⟨rfl, hb⟩
  have W5 := Lib.hid (blw_trans (show Below w.heap.size w _ by repeat (first | exact W4.out | refine blw_drewN ?_ _ | refine Below.setCell ?_ (by first | (simp; done) | omega | (simp; omega)) _ | refine Below.alloc ?_ (by first | (simp; done) | omega | (simp; omega)) _)) hb)
  have n5 := hb.size
  try simp at n5
  have k5_d0 := cell_keep (a := ⟨w.heap.size, 0, none⟩) (v := .int .i64 c) (by first | (go_keep; done) | (simp [go_sem, *]; done)) hb
  have k5_d1 := cell_keep (a := ⟨w.heap.size, 1, none⟩) (v := .int .i64 s) (by first | (go_keep; done) | (simp [go_sem, *]; done)) hb
  have l5_d := World.block_lt_of_cell? _ _ k5_d0
  try simp only at l5_d
  clear hb k4_d0 k4_d1 l4_d W4
  go_wp2_with fail
  refine (CW.out _ (hT.below (by repeat (first | exact W5.out | refine blw_drewN ?_ _ | refine Below.setCell ?_ (by first | (simp; done) | omega | (simp; omega)) _ | refine Below.alloc ?_ (by first | (simp; done) | omega | (simp; omega)) _)))).mono ?_
  rintro e w6 ⟨rfl, hb⟩
  have W6 := Lib.hid (blw_trans (show Below w.heap.size w _ by repeat (first | exact W5.out | refine blw_drewN ?_ _ | refine Below.setCell ?_ (by first | (simp; done) | omega | (simp; omega)) _ | refine Below.alloc ?_ (by first | (simp; done) | omega | (simp; omega)) _)) hb)
  have n6 := hb.size
  try simp at n6
  have k6_d0 := cell_keep (a := ⟨w.heap.size, 0, none⟩) (v := .int .i64 c) (by first | (go_keep; done) | (simp [go_sem, *]; done)) hb
  have k6_d1 := cell_keep (a := ⟨w.heap.size, 1, none⟩) (v := .int .i64 s) (by first | (go_keep; done) | (simp [go_sem, *]; done)) hb
  have l6_d := World.block_lt_of_cell? _ _ k6_d0
  try simp only at l6_d
  clear hb k5_d0 k5_d1 l5_d W5
  go_wp2_with fail
  go_ret
  exact ⟨ret_bool (by first | rfl | (simp; done)), by repeat (first | exact W6.out | refine blw_drewN ?_ _ | refine Below.setCell ?_ (by first | (simp; done) | omega | (simp; omega)) _ | refine Below.alloc ?_ (by first | (simp; done) | omega | (simp; omega)) _)⟩

set_option maxRecDepth 100000 in
set_option maxHeartbeats 1000000 in
theorem decback_yn (c s x1 x2 : Int) (t : List UInt8) (w : World) (hT : DM w)
    (CP : Hid (∀ w : World, DM w → Calls Tryd.prog 36 #[.string ⟨t.toArray⟩] w fun e w' => e = .returned (.tuple #[.agg #[.int .i64 x1, .int .i64 x2], .nilIface]) ∧ Below w.heap.size w w'))
    (CX : Hid (∀ w : World, DM w → Calls Tryd.prog 37 #[.agg #[.int .i64 x1, .int .i64 x2]] w fun e w' => e = .returned (.string ⟨t.toArray⟩) ∧ Below w.heap.size w w'))
    (CK : Hid (∀ w : World, Calls Tryd.prog 38 #[.agg #[.int .i64 c, .int .i64 s]] w fun e w' => e = .returned (errV 1) ∧ Below w.heap.size w w')) :
    Calls Tryd.prog 11 #[.agg #[.int .i64 c, .int .i64 s], .string ⟨t.toArray⟩] w fun e w' => e = .returned (.bool true) ∧ Below w.heap.size w w' := by
  have tt : (t != t) = false := by simp
  go_enter Tryd.func11, Tryd.ntmps11
  go_wp2_with fail
  refine (half_any _).mono ?_
  rintro e w1 ⟨rfl, hb⟩
  have W1 := Lib.hid (blw_trans (show Below w.heap.size w _ by repeat (first | exact (Below.refl _ _) | refine blw_drewN ?_ _ | refine Below.setCell ?_ (by first | (simp; done) | omega | (simp; omega)) _ | refine Below.alloc ?_ (by first | (simp; done) | omega | (simp; omega)) _)) hb)
  have n1 := hb.size
  try simp at n1
  have k1_d0 := cell_keep (a := ⟨w.heap.size, 0, none⟩) (v := .int .i64 c) (by first | (go_keep; done) | (simp [go_sem, *]; done)) hb
  have k1_d1 := cell_keep (a := ⟨w.heap.size, 1, none⟩) (v := .int .i64 s) (by first | (go_keep; done) | (simp [go_sem, *]; done)) hb
  have l1_d := World.block_lt_of_cell? _ _ k1_d0
  try simp only at l1_d
  clear hb
  go_wp2_with fail
  refine (CP.out _ (hT.below (by repeat (first | exact W1.out | refine blw_drewN ?_ _ | refine Below.setCell ?_ (by first | (simp; done) | omega | (simp; omega)) _ | refine Below.alloc ?_ (by first | (simp; done) | omega | (simp; omega)) _)))).mono ?_
  rintro e w2 ⟨rfl, hb⟩
  have W2 := Lib.hid (blw_trans (show Below w.heap.size w _ by repeat (first | exact W1.out | refine blw_drewN ?_ _ | refine Below.setCell ?_ (by first | (simp; done) | omega | (simp; omega)) _ | refine Below.alloc ?_ (by first | (simp; done) | omega | (simp; omega)) _)) hb)
  have n2 := hb.size
  try simp at n2
  have k2_d0 := cell_keep (a := ⟨w.heap.size, 0, none⟩) (v := .int .i64 c) (by first | (go_keep; done) | (simp [go_sem, *]; done)) hb
  have k2_d1 := cell_keep (a := ⟨w.heap.size, 1, none⟩) (v := .int .i64 s) (by first | (go_keep; done) | (simp [go_sem, *]; done)) hb
  have l2_d := World.block_lt_of_cell? _ _ k2_d0
  try simp only at l2_d
  clear hb k1_d0 k1_d1 l1_d W1
  go_wp2_with fail
  refine (CX.out _ (hT.below (by repeat (first | exact W2.out | refine blw_drewN ?_ _ | refine Below.setCell ?_ (by first | (simp; done) | omega | (simp; omega)) _ | refine Below.alloc ?_ (by first | (simp; done) | omega | (simp; omega)) _)))).mono ?_
  rintro e w3 ⟨rfl, hb⟩
  have W3 := Lib.hid (blw_trans (show Below w.heap.size w _ by repeat (first | exact W2.out | refine blw_drewN ?_ _ | refine Below.setCell ?_ (by first | (simp; done) | omega | (simp; omega)) _ | refine Below.alloc ?_ (by first | (simp; done) | omega | (simp; omega)) _)) hb)
  have n3 := hb.size
  try simp at n3
  have k3_d0 := cell_keep (a := ⟨w.heap.size, 0, none⟩) (v := .int .i64 c) (by first | (go_keep; done) | (simp [go_sem, *]; done)) hb
  have k3_d1 := cell_keep (a := ⟨w.heap.size, 1, none⟩) (v := .int .i64 s) (by first | (go_keep; done) | (simp [go_sem, *]; done)) hb
  have l3_d := World.block_lt_of_cell? _ _ k3_d0
  try simp only at l3_d
  clear hb k2_d0 k2_d1 l2_d W2
  go_wp2_with fail
  refine (CK.out _).mono ?_
  rintro e w4 ⟨rfl, hb⟩
  have W4 := Lib.hid (blw_trans (show Below w.heap.size w _ by repeat (first | exact W3.out | refine blw_drewN ?_ _ | refine Below.setCell ?_ (by first | (simp; done) | omega | (simp; omega)) _ | refine Below.alloc ?_ (by first | (simp; done) | omega | (simp; omega)) _)) hb)
  have n4 := hb.size
  try simp at n4
  have k4_d0 := cell_keep (a := ⟨w.heap.size, 0, none⟩) (v := .int .i64 c) (by first | (go_keep; done) | (simp [go_sem, *]; done)) hb
  have k4_d1 := cell_keep (a := ⟨w.heap.size, 1, none⟩) (v := .int .i64 s) (by first | (go_keep; done) | (simp [go_sem, *]; done)) hb
  have l4_d := World.block_lt_of_cell? _ _ k4_d0
  try simp only at l4_d
  clear hb k3_d0 k3_d1 l3_d W3
  go_wp2_with fail
  go_ret
  exact ⟨ret_bool (by first | rfl | (simp; done)), by repeat (first | exact W4.out | refine blw_drewN ?_ _ | refine Below.setCell ?_ (by first | (simp; done) | omega | (simp; omega)) _ | refine Below.alloc ?_ (by first | (simp; done) | omega | (simp; omega)) _)⟩

set_option maxRecDepth 100000 in
set_option maxHeartbeats 1000000 in
theorem decback_ny (c s : Int) (t D : List UInt8) (w : World) (hT : DM w)
    (CP : Hid (∀ w : World, DM w → Calls Tryd.prog 36 #[.string ⟨t.toArray⟩] w fun e w' => e = .returned (.tuple #[.agg #[.int .i64 0, .int .i64 0], errV 3]) ∧ Below w.heap.size w w'))
    (CK : Hid (∀ w : World, Calls Tryd.prog 38 #[.agg #[.int .i64 c, .int .i64 s]] w fun e w' => e = .returned (.nilIface) ∧ Below w.heap.size w w'))
    (CT : Hid (∀ w : World, DM w → Calls Tryd.prog 37 #[.agg #[.int .i64 c, .int .i64 s]] w fun e w' => e = .returned (.string ⟨D.toArray⟩) ∧ Below w.heap.size w w'))
    (CW : Hid (∀ w : World, DM w → Calls Tryd.prog 36 #[.string ⟨D.toArray⟩] w fun e w' => e = .returned (.tuple #[.agg #[.int .i64 c, .int .i64 s], .nilIface]) ∧ Below w.heap.size w w')) :
    Calls Tryd.prog 11 #[.agg #[.int .i64 c, .int .i64 s], .string ⟨t.toArray⟩] w fun e w' => e = .returned (.bool true) ∧ Below w.heap.size w w' := by
  have tt : (t != t) = false := by simp
  go_enter Tryd.func11, Tryd.ntmps11
  go_wp2_with fail
  refine (half_any _).mono ?_
  rintro e w1 ⟨rfl, hb⟩
  have W1 := Lib.hid (blw_trans (show Below w.heap.size w _ by repeat (first | exact (Below.refl _ _) | refine blw_drewN ?_ _ | refine Below.setCell ?_ (by first | (simp; done) | omega | (simp; omega)) _ | refine Below.alloc ?_ (by first | (simp; done) | omega | (simp; omega)) _)) hb)
  have n1 := hb.size
  try simp at n1
  have k1_d0 := cell_keep (a := ⟨w.heap.size, 0, none⟩) (v := .int .i64 c) (by first | (go_keep; done) | (simp [go_sem, *]; done)) hb
  have k1_d1 := cell_keep (a := ⟨w.heap.size, 1, none⟩) (v := .int .i64 s) (by first | (go_keep; done) | (simp [go_sem, *]; done)) hb
  have l1_d := World.block_lt_of_cell? _ _ k1_d0
  try simp only at l1_d
  clear hb
  go_wp2_with fail
  refine (CP.out _ (hT.below (by repeat (first | exact W1.out | refine blw_drewN ?_ _ | refine Below.setCell ?_ (by first | (simp; done) | omega | (simp; omega)) _ | refine Below.alloc ?_ (by first | (simp; done) | omega | (simp; omega)) _)))).mono ?_
  rintro e w2 ⟨rfl, hb⟩
  have W2 := Lib.hid (blw_trans (show Below w.heap.size w _ by repeat (first | exact W1.out | refine blw_drewN ?_ _ | refine Below.setCell ?_ (by first | (simp; done) | omega | (simp; omega)) _ | refine Below.alloc ?_ (by first | (simp; done) | omega | (simp; omega)) _)) hb)
  have n2 := hb.size
  try simp at n2
  have k2_d0 := cell_keep (a := ⟨w.heap.size, 0, none⟩) (v := .int .i64 c) (by first | (go_keep; done) | (simp [go_sem, *]; done)) hb
  have k2_d1 := cell_keep (a := ⟨w.heap.size, 1, none⟩) (v := .int .i64 s) (by first | (go_keep; done) | (simp [go_sem, *]; done)) hb
  have l2_d := World.block_lt_of_cell? _ _ k2_d0
  try simp only at l2_d
  clear hb k1_d0 k1_d1 l1_d W1
  go_wp2_with fail
  refine (CK.out _).mono ?_
  rintro e w3 ⟨rfl, hb⟩
  have W3 := Lib.hid (blw_trans (show Below w.heap.size w _ by repeat (first | exact W2.out | refine blw_drewN ?_ _ | refine Below.setCell ?_ (by first | (simp; done) | omega | (simp; omega)) _ | refine Below.alloc ?_ (by first | (simp; done) | omega | (simp; omega)) _)) hb)
  have n3 := hb.size
  try simp at n3
  have k3_d0 := cell_keep (a := ⟨w.heap.size, 0, none⟩) (v := .int .i64 c) (by first | (go_keep; done) | (simp [go_sem, *]; done)) hb
  have k3_d1 := cell_keep (a := ⟨w.heap.size, 1, none⟩) (v := .int .i64 s) (by first | (go_keep; done) | (simp [go_sem, *]; done)) hb
  have l3_d := World.block_lt_of_cell? _ _ k3_d0
  try simp only at l3_d
  clear hb k2_d0 k2_d1 l2_d W2
  go_wp2_with fail
  refine (CT.out _ (hT.below (by repeat (first | exact W3.out | refine blw_drewN ?_ _ | refine Below.setCell ?_ (by first | (simp; done) | omega | (simp; omega)) _ | refine Below.alloc ?_ (by first | (simp; done) | omega | (simp; omega)) _)))).mono ?_
  rintro e w4 ⟨rfl, hb⟩
  have W4 := Lib.hid (blw_trans (show Below w.heap.size w _ by repeat (first | exact W3.out | refine blw_drewN ?_ _ | refine Below.setCell ?_ (by first | (simp; done) | omega | (simp; omega)) _ | refine Below.alloc ?_ (by first | (simp; done) | omega | (simp; omega)) _)) hb)
  have n4 := hb.size
  try simp at n4
  have k4_d0 := cell_keep (a := ⟨w.heap.size, 0, none⟩) (v := .int .i64 c) (by first | (go_keep; done) | (simp [go_sem, *]; done)) hb
  have k4_d1 := cell_keep (a := ⟨w.heap.size, 1, none⟩) (v := .int .i64 s) (by first | (go_keep; done) | (simp [go_sem, *]; done)) hb
  have l4_d := World.block_lt_of_cell? _ _ k4_d0
  try simp only at l4_d
  clear hb k3_d0 k3_d1 l3_d W3
  go_wp2_with fail
  refine (CW.out _ (hT.below (by repeat (first | exact W4.out | refine blw_drewN ?_ _ | refine Below.setCell ?_ (by first | (simp; done) | omega | (simp; omega)) _ | refine Below.alloc ?_ (by first | (simp; done) | omega | (simp; omega)) _)))).mono ?_
  rintro e w5 ⟨rfl, hb⟩
  have W5 := Lib.hid (blw_trans (show Below w.heap.size w _ by repeat (first | exact W4.out | refine blw_drewN ?_ _ | refine Below.setCell ?_ (by first | (simp; done) | omega | (simp; omega)) _ | refine Below.alloc ?_ (by first | (simp; done) | omega | (simp; omega)) _)) hb)
  have n5 := hb.size
  try simp at n5
  have k5_d0 := cell_keep (a := ⟨w.heap.size, 0, none⟩) (v := .int .i64 c) (by first | (go_keep; done) | (simp [go_sem, *]; done)) hb
  have k5_d1 := cell_keep (a := ⟨w.heap.size, 1, none⟩) (v := .int .i64 s) (by first | (go_keep; done) | (simp [go_sem, *]; done)) hb
  have l5_d := World.block_lt_of_cell? _ _ k5_d0
  try simp only at l5_d
  clear hb k4_d0 k4_d1 l4_d W4
  go_wp2_with fail
  go_ret
  exact ⟨ret_bool (by first | rfl | (simp; done)), by repeat (first | exact W5.out | refine blw_drewN ?_ _ | refine Below.setCell ?_ (by first | (simp; done) | omega | (simp; omega)) _ | refine Below.alloc ?_ (by first | (simp; done) | omega | (simp; omega)) _)⟩

set_option maxRecDepth 100000 in
set_option maxHeartbeats 1000000 in
theorem decback_nn (c s : Int) (t : List UInt8) (w : World) (hT : DM w)
    (CP : Hid (∀ w : World, DM w → Calls Tryd.prog 36 #[.string ⟨t.toArray⟩] w fun e w' => e = .returned (.tuple #[.agg #[.int .i64 0, .int .i64 0], errV 3]) ∧ Below w.heap.size w w'))
    (CK : Hid (∀ w : World, Calls Tryd.prog 38 #[.agg #[.int .i64 c, .int .i64 s]] w fun e w' => e = .returned (errV 1) ∧ Below w.heap.size w w')) :
    Calls Tryd.prog 11 #[.agg #[.int .i64 c, .int .i64 s], .string ⟨t.toArray⟩] w fun e w' => e = .returned (.bool true) ∧ Below w.heap.size w w' := by
  have tt : (t != t) = false := by simp
  go_enter Tryd.func11, Tryd.ntmps11
  go_wp2_with fail
  refine (half_any _).mono ?_
  rintro e w1 ⟨rfl, hb⟩
  have W1 := Lib.hid (blw_trans (show Below w.heap.size w _ by repeat (first | exact (Below.refl _ _) | refine blw_drewN ?_ _ | refine Below.setCell ?_ (by first | (simp; done) | omega | (simp; omega)) _ | refine Below.alloc ?_ (by first | (simp; done) | omega | (simp; omega)) _)) hb)
  have n1 := hb.size
  try simp at n1
  have k1_d0 := cell_keep (a := ⟨w.heap.size, 0, none⟩) (v := .int .i64 c) (by first | (go_keep; done) | (simp [go_sem, *]; done)) hb
  have k1_d1 := cell_keep (a := ⟨w.heap.size, 1, none⟩) (v := .int .i64 s) (by first | (go_keep; done) | (simp [go_sem, *]; done)) hb
  have l1_d := World.block_lt_of_cell? _ _ k1_d0
  try simp only at l1_d
  clear hb
  go_wp2_with fail
  refine (CP.out _ (hT.below (by repeat (first | exact W1.out | refine blw_drewN ?_ _ | refine Below.setCell ?_ (by first | (simp; done) | omega | (simp; omega)) _ | refine Below.alloc ?_ (by first | (simp; done) | omega | (simp; omega)) _)))).mono ?_
  rintro e w2 ⟨rfl, hb⟩
  have W2 := Lib.hid (blw_trans (show Below w.heap.size w _ by repeat (first | exact W1.out | refine blw_drewN ?_ _ | refine Below.setCell ?_ (by first | (simp; done) | omega | (simp; omega)) _ | refine Below.alloc ?_ (by first | (simp; done) | omega | (simp; omega)) _)) hb)
  have n2 := hb.size
  try simp at n2
  have k2_d0 := cell_keep (a := ⟨w.heap.size, 0, none⟩) (v := .int .i64 c) (by first | (go_keep; done) | (simp [go_sem, *]; done)) hb
  have k2_d1 := cell_keep (a := ⟨w.heap.size, 1, none⟩) (v := .int .i64 s) (by first | (go_keep; done) | (simp [go_sem, *]; done)) hb
  have l2_d := World.block_lt_of_cell? _ _ k2_d0
  try simp only at l2_d
  clear hb k1_d0 k1_d1 l1_d W1
  go_wp2_with fail
  refine (CK.out _).mono ?_
  rintro e w3 ⟨rfl, hb⟩
  have W3 := Lib.hid (blw_trans (show Below w.heap.size w _ by repeat (first | exact W2.out | refine blw_drewN ?_ _ | refine Below.setCell ?_ (by first | (simp; done) | omega | (simp; omega)) _ | refine Below.alloc ?_ (by first | (simp; done) | omega | (simp; omega)) _)) hb)
  have n3 := hb.size
  try simp at n3
  have k3_d0 := cell_keep (a := ⟨w.heap.size, 0, none⟩) (v := .int .i64 c) (by first | (go_keep; done) | (simp [go_sem, *]; done)) hb
  have k3_d1 := cell_keep (a := ⟨w.heap.size, 1, none⟩) (v := .int .i64 s) (by first | (go_keep; done) | (simp [go_sem, *]; done)) hb
  have l3_d := World.block_lt_of_cell? _ _ k3_d0
  try simp only at l3_d
  clear hb k2_d0 k2_d1 l2_d W2
  go_wp2_with fail
  go_ret
  exact ⟨ret_bool (by first | rfl | (simp; done)), by repeat (first | exact W3.out | refine blw_drewN ?_ _ | refine Below.setCell ?_ (by first | (simp; done) | omega | (simp; omega)) _ | refine Below.alloc ?_ (by first | (simp; done) | omega | (simp; omega)) _)⟩

theorem decback_any (c s : Int) (t : List UInt8) (w : World) (hT : DM w) (ht : t.length ≤ 4000000000) :
    Calls Tryd.prog 11 #[.agg #[.int .i64 c, .int .i64 s], .string ⟨t.toArray⟩] w fun e w' => e = .returned (.bool true) ∧ Below w.heap.size w w' := by
  have hp : (∃ c1 s1, okD c1 s1 ∧ Byt.decText c1 s1 = t) ∨ ∀ c1 s1, okD c1 s1 → Byt.decText c1 s1 ≠ t := by
    by_cases h : ∃ c1 s1, okD c1 s1 ∧ Byt.decText c1 s1 = t
    · exact .inl h
    · exact .inr fun c1 s1 h1 e => h ⟨c1, s1, h1, e⟩
  rcases hp with ⟨c1, s1, h1, rfl⟩ | hno
  · have CP := Lib.hid fun w hT => dparse_back c1 s1 w hT h1
    have CX := Lib.hid fun w (hT : DM w) => dtext_any c1 s1 w hT.p h1
    by_cases h : okD c s
    · exact decback_yy c s c1 s1 _ _ w hT CP CX (Lib.hid fun w => dchk_yes c s w h) (Lib.hid fun w (hT : DM w) => dtext_any c s w hT.p h) (Lib.hid fun w hT => dparse_back c s w hT h)
    · exact decback_yn c s c1 s1 _ w hT CP CX (Lib.hid fun w => dchk_no c s w h)
  · have CP := Lib.hid fun w hT => (dparse_any t w hT ht).mono fun e w' (h : DPost t w e w') => (by
      rcases h with ⟨c1, s1, h1, he, _⟩ | ⟨_, he, hb⟩
      · exact absurd he (hno c1 s1 h1)
      · exact ⟨he, hb⟩ : e = .returned (.tuple #[.agg #[.int .i64 0, .int .i64 0], errV 3]) ∧ Below w.heap.size w w')
    by_cases h : okD c s
    · exact decback_ny c s t _ w hT CP (Lib.hid fun w => dchk_yes c s w h) (Lib.hid fun w (hT : DM w) => dtext_any c s w hT.p h) (Lib.hid fun w hT => dparse_back c s w hT h)
    · exact decback_nn c s t w hT CP (Lib.hid fun w => dchk_no c s w h)
end Go.Proofs.YtlhleojigcnjeaaDoor
