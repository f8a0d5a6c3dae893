/- The walk of the law ChainOrder. Conditions: the library's variable MaxLen holds a number; the tags are of bulk at most 100000000. -/
import Derived.Test.YtlhleojigcnjeaaDoorWithin
import Derived.Test.YtlhleojigcnjeaaDoorTagged
namespace Go.Proofs.YtlhleojigcnjeaaDoor
open Go.RowKit

set_option maxRecDepth 100000 in
set_option maxHeartbeats 2000000 in
theorem order_f (xl xs xr yl ys yr zl zs zr : List UInt8) (xa ya za : Option Addr) (xn xc yn yc zn zc : Nat) (w : World) (hT : MaxW w) (n : Int) (b1 b2 b3 b4 b5 : Bool) (e2 e3 e4 e5 : Value)
    (C1 : Hid (∀ wx : World, Below w.heap.size w wx → Calls Tryd.prog 22 #[.agg #[.string ⟨xl.toArray⟩, .string ⟨xs.toArray⟩, .string ⟨xr.toArray⟩, .slice xa xn xc], .agg #[.string ⟨yl.toArray⟩, .string ⟨ys.toArray⟩, .string ⟨yr.toArray⟩, .slice ya yn yc]] wx fun e w' => e = .returned (.tuple #[.bool b1, errV n]) ∧ Below wx.heap.size wx w'))
    (C2 : Hid (∀ wx : World, Below w.heap.size w wx → Calls Tryd.prog 22 #[.agg #[.string ⟨yl.toArray⟩, .string ⟨ys.toArray⟩, .string ⟨yr.toArray⟩, .slice ya yn yc], .agg #[.string ⟨zl.toArray⟩, .string ⟨zs.toArray⟩, .string ⟨zr.toArray⟩, .slice za zn zc]] wx fun e w' => e = .returned (.tuple #[.bool b2, e2]) ∧ Below wx.heap.size wx w'))
    (C3 : Hid (∀ wx : World, Below w.heap.size w wx → Calls Tryd.prog 22 #[.agg #[.string ⟨xl.toArray⟩, .string ⟨xs.toArray⟩, .string ⟨xr.toArray⟩, .slice xa xn xc], .agg #[.string ⟨zl.toArray⟩, .string ⟨zs.toArray⟩, .string ⟨zr.toArray⟩, .slice za zn zc]] wx fun e w' => e = .returned (.tuple #[.bool b3, e3]) ∧ Below wx.heap.size wx w'))
    (C4 : Hid (∀ wx : World, Below w.heap.size w wx → Calls Tryd.prog 22 #[.agg #[.string ⟨yl.toArray⟩, .string ⟨ys.toArray⟩, .string ⟨yr.toArray⟩, .slice ya yn yc], .agg #[.string ⟨xl.toArray⟩, .string ⟨xs.toArray⟩, .string ⟨xr.toArray⟩, .slice xa xn xc]] wx fun e w' => e = .returned (.tuple #[.bool b4, e4]) ∧ Below wx.heap.size wx w'))
    (C5 : Hid (∀ wx : World, Below w.heap.size w wx → Calls Tryd.prog 22 #[.agg #[.string ⟨xl.toArray⟩, .string ⟨xs.toArray⟩, .string ⟨xr.toArray⟩, .slice xa xn xc], .agg #[.string ⟨xl.toArray⟩, .string ⟨xs.toArray⟩, .string ⟨xr.toArray⟩, .slice xa xn xc]] wx fun e w' => e = .returned (.tuple #[.bool b5, e5]) ∧ Below wx.heap.size wx w')) :
    Calls Tryd.prog 5 #[.agg #[.string ⟨xl.toArray⟩, .string ⟨xs.toArray⟩, .string ⟨xr.toArray⟩, .slice xa xn xc], .agg #[.string ⟨yl.toArray⟩, .string ⟨ys.toArray⟩, .string ⟨yr.toArray⟩, .slice ya yn yc], .agg #[.string ⟨zl.toArray⟩, .string ⟨zs.toArray⟩, .string ⟨zr.toArray⟩, .slice za zn zc]] w fun e w' => e = .returned (.bool true) ∧ Below w.heap.size w w' := by
  go_enter Tryd.func5, Tryd.ntmps5
  go_wp2_with fail
  refine (tagged_any _ (hT.below (by repeat (first | exact (Below.refl _ _) | refine blw_drewN ?_ _ | refine Below.setCell ?_ (by first | (simp; done) | omega | (simp; omega)) _ | refine Below.alloc ?_ (by first | (simp; done) | omega | (simp; omega)) _)))).mono ?_
  rintro e w1 ⟨rfl, hb⟩
  have W1 := Lib.hid (blw_trans (show Below w.heap.size w _ by repeat (first | exact (Below.refl _ _) | refine blw_drewN ?_ _ | refine Below.setCell ?_ (by first | (simp; done) | omega | (simp; omega)) _ | refine Below.alloc ?_ (by first | (simp; done) | omega | (simp; omega)) _)) hb)
  have n1 := hb.size
  try simp at n1
  have k1_x0 := cell_keep (a := ⟨w.heap.size, 0, none⟩) (v := .string ⟨xl.toArray⟩) (by first | (go_keep; done) | (simp [go_sem, *]; done)) hb
  have k1_x1 := cell_keep (a := ⟨w.heap.size, 1, none⟩) (v := .string ⟨xs.toArray⟩) (by first | (go_keep; done) | (simp [go_sem, *]; done)) hb
  have k1_x2 := cell_keep (a := ⟨w.heap.size, 2, none⟩) (v := .string ⟨xr.toArray⟩) (by first | (go_keep; done) | (simp [go_sem, *]; done)) hb
  have k1_x3 := cell_keep (a := ⟨w.heap.size, 3, none⟩) (v := .slice xa xn xc) (by first | (go_keep; done) | (simp [go_sem, *]; done)) hb
  have l1_x := World.block_lt_of_cell? _ _ k1_x0
  try simp only at l1_x
  have k1_y0 := cell_keep (a := ⟨w.heap.size + 1, 0, none⟩) (v := .string ⟨yl.toArray⟩) (by first | (go_keep; done) | (simp [go_sem, *]; done)) hb
  have k1_y1 := cell_keep (a := ⟨w.heap.size + 1, 1, none⟩) (v := .string ⟨ys.toArray⟩) (by first | (go_keep; done) | (simp [go_sem, *]; done)) hb
  have k1_y2 := cell_keep (a := ⟨w.heap.size + 1, 2, none⟩) (v := .string ⟨yr.toArray⟩) (by first | (go_keep; done) | (simp [go_sem, *]; done)) hb
  have k1_y3 := cell_keep (a := ⟨w.heap.size + 1, 3, none⟩) (v := .slice ya yn yc) (by first | (go_keep; done) | (simp [go_sem, *]; done)) hb
  have l1_y := World.block_lt_of_cell? _ _ k1_y0
  try simp only at l1_y
  have k1_z0 := cell_keep (a := ⟨w.heap.size + 1 + 1, 0, none⟩) (v := .string ⟨zl.toArray⟩) (by first | (go_keep; done) | (simp [go_sem, *]; done)) hb
  have k1_z1 := cell_keep (a := ⟨w.heap.size + 1 + 1, 1, none⟩) (v := .string ⟨zs.toArray⟩) (by first | (go_keep; done) | (simp [go_sem, *]; done)) hb
  have k1_z2 := cell_keep (a := ⟨w.heap.size + 1 + 1, 2, none⟩) (v := .string ⟨zr.toArray⟩) (by first | (go_keep; done) | (simp [go_sem, *]; done)) hb
  have k1_z3 := cell_keep (a := ⟨w.heap.size + 1 + 1, 3, none⟩) (v := .slice za zn zc) (by first | (go_keep; done) | (simp [go_sem, *]; done)) hb
  have l1_z := World.block_lt_of_cell? _ _ k1_z0
  try simp only at l1_z
  clear hb
  go_wp2_with fail
  refine (C1.out _ (by repeat (first | exact W1.out | refine blw_drewN ?_ _ | refine Below.setCell ?_ (by first | (simp; done) | omega | (simp; omega)) _ | refine Below.alloc ?_ (by first | (simp; done) | omega | (simp; omega)) _))).mono ?_
  rintro e w2 ⟨rfl, hb⟩
  have W2 := Lib.hid (blw_trans (show Below w.heap.size w _ by repeat (first | exact W1.out | refine blw_drewN ?_ _ | refine Below.setCell ?_ (by first | (simp; done) | omega | (simp; omega)) _ | refine Below.alloc ?_ (by first | (simp; done) | omega | (simp; omega)) _)) hb)
  have n2 := hb.size
  try simp at n2
  have k2_x0 := cell_keep (a := ⟨w.heap.size, 0, none⟩) (v := .string ⟨xl.toArray⟩) (by first | (go_keep; done) | (simp [go_sem, *]; done)) hb
  have k2_x1 := cell_keep (a := ⟨w.heap.size, 1, none⟩) (v := .string ⟨xs.toArray⟩) (by first | (go_keep; done) | (simp [go_sem, *]; done)) hb
  have k2_x2 := cell_keep (a := ⟨w.heap.size, 2, none⟩) (v := .string ⟨xr.toArray⟩) (by first | (go_keep; done) | (simp [go_sem, *]; done)) hb
  have k2_x3 := cell_keep (a := ⟨w.heap.size, 3, none⟩) (v := .slice xa xn xc) (by first | (go_keep; done) | (simp [go_sem, *]; done)) hb
  have l2_x := World.block_lt_of_cell? _ _ k2_x0
  try simp only at l2_x
  have k2_y0 := cell_keep (a := ⟨w.heap.size + 1, 0, none⟩) (v := .string ⟨yl.toArray⟩) (by first | (go_keep; done) | (simp [go_sem, *]; done)) hb
  have k2_y1 := cell_keep (a := ⟨w.heap.size + 1, 1, none⟩) (v := .string ⟨ys.toArray⟩) (by first | (go_keep; done) | (simp [go_sem, *]; done)) hb
  have k2_y2 := cell_keep (a := ⟨w.heap.size + 1, 2, none⟩) (v := .string ⟨yr.toArray⟩) (by first | (go_keep; done) | (simp [go_sem, *]; done)) hb
  have k2_y3 := cell_keep (a := ⟨w.heap.size + 1, 3, none⟩) (v := .slice ya yn yc) (by first | (go_keep; done) | (simp [go_sem, *]; done)) hb
  have l2_y := World.block_lt_of_cell? _ _ k2_y0
  try simp only at l2_y
  have k2_z0 := cell_keep (a := ⟨w.heap.size + 1 + 1, 0, none⟩) (v := .string ⟨zl.toArray⟩) (by first | (go_keep; done) | (simp [go_sem, *]; done)) hb
  have k2_z1 := cell_keep (a := ⟨w.heap.size + 1 + 1, 1, none⟩) (v := .string ⟨zs.toArray⟩) (by first | (go_keep; done) | (simp [go_sem, *]; done)) hb
  have k2_z2 := cell_keep (a := ⟨w.heap.size + 1 + 1, 2, none⟩) (v := .string ⟨zr.toArray⟩) (by first | (go_keep; done) | (simp [go_sem, *]; done)) hb
  have k2_z3 := cell_keep (a := ⟨w.heap.size + 1 + 1, 3, none⟩) (v := .slice za zn zc) (by first | (go_keep; done) | (simp [go_sem, *]; done)) hb
  have l2_z := World.block_lt_of_cell? _ _ k2_z0
  try simp only at l2_z
  clear hb k1_x0 k1_x1 k1_x2 k1_x3 l1_x k1_y0 k1_y1 k1_y2 k1_y3 l1_y k1_z0 k1_z1 k1_z2 k1_z3 l1_z W1
  go_wp2_with fail
  refine (C2.out _ (by repeat (first | exact W2.out | refine blw_drewN ?_ _ | refine Below.setCell ?_ (by first | (simp; done) | omega | (simp; omega)) _ | refine Below.alloc ?_ (by first | (simp; done) | omega | (simp; omega)) _))).mono ?_
  rintro e w3 ⟨rfl, hb⟩
  have W3 := Lib.hid (blw_trans (show Below w.heap.size w _ by repeat (first | exact W2.out | refine blw_drewN ?_ _ | refine Below.setCell ?_ (by first | (simp; done) | omega | (simp; omega)) _ | refine Below.alloc ?_ (by first | (simp; done) | omega | (simp; omega)) _)) hb)
  have n3 := hb.size
  try simp at n3
  have k3_x0 := cell_keep (a := ⟨w.heap.size, 0, none⟩) (v := .string ⟨xl.toArray⟩) (by first | (go_keep; done) | (simp [go_sem, *]; done)) hb
  have k3_x1 := cell_keep (a := ⟨w.heap.size, 1, none⟩) (v := .string ⟨xs.toArray⟩) (by first | (go_keep; done) | (simp [go_sem, *]; done)) hb
  have k3_x2 := cell_keep (a := ⟨w.heap.size, 2, none⟩) (v := .string ⟨xr.toArray⟩) (by first | (go_keep; done) | (simp [go_sem, *]; done)) hb
  have k3_x3 := cell_keep (a := ⟨w.heap.size, 3, none⟩) (v := .slice xa xn xc) (by first | (go_keep; done) | (simp [go_sem, *]; done)) hb
  have l3_x := World.block_lt_of_cell? _ _ k3_x0
  try simp only at l3_x
  have k3_y0 := cell_keep (a := ⟨w.heap.size + 1, 0, none⟩) (v := .string ⟨yl.toArray⟩) (by first | (go_keep; done) | (simp [go_sem, *]; done)) hb
  have k3_y1 := cell_keep (a := ⟨w.heap.size + 1, 1, none⟩) (v := .string ⟨ys.toArray⟩) (by first | (go_keep; done) | (simp [go_sem, *]; done)) hb
  have k3_y2 := cell_keep (a := ⟨w.heap.size + 1, 2, none⟩) (v := .string ⟨yr.toArray⟩) (by first | (go_keep; done) | (simp [go_sem, *]; done)) hb
  have k3_y3 := cell_keep (a := ⟨w.heap.size + 1, 3, none⟩) (v := .slice ya yn yc) (by first | (go_keep; done) | (simp [go_sem, *]; done)) hb
  have l3_y := World.block_lt_of_cell? _ _ k3_y0
  try simp only at l3_y
  have k3_z0 := cell_keep (a := ⟨w.heap.size + 1 + 1, 0, none⟩) (v := .string ⟨zl.toArray⟩) (by first | (go_keep; done) | (simp [go_sem, *]; done)) hb
  have k3_z1 := cell_keep (a := ⟨w.heap.size + 1 + 1, 1, none⟩) (v := .string ⟨zs.toArray⟩) (by first | (go_keep; done) | (simp [go_sem, *]; done)) hb
  have k3_z2 := cell_keep (a := ⟨w.heap.size + 1 + 1, 2, none⟩) (v := .string ⟨zr.toArray⟩) (by first | (go_keep; done) | (simp [go_sem, *]; done)) hb
  have k3_z3 := cell_keep (a := ⟨w.heap.size + 1 + 1, 3, none⟩) (v := .slice za zn zc) (by first | (go_keep; done) | (simp [go_sem, *]; done)) hb
  have l3_z := World.block_lt_of_cell? _ _ k3_z0
  try simp only at l3_z
  clear hb k2_x0 k2_x1 k2_x2 k2_x3 l2_x k2_y0 k2_y1 k2_y2 k2_y3 l2_y k2_z0 k2_z1 k2_z2 k2_z3 l2_z W2
  go_wp2_with fail
  refine (C3.out _ (by repeat (first | exact W3.out | refine blw_drewN ?_ _ | refine Below.setCell ?_ (by first | (simp; done) | omega | (simp; omega)) _ | refine Below.alloc ?_ (by first | (simp; done) | omega | (simp; omega)) _))).mono ?_
  rintro e w4 ⟨rfl, hb⟩
  have W4 := Lib.hid (blw_trans (show Below w.heap.size w _ by repeat (first | exact W3.out | refine blw_drewN ?_ _ | refine Below.setCell ?_ (by first | (simp; done) | omega | (simp; omega)) _ | refine Below.alloc ?_ (by first | (simp; done) | omega | (simp; omega)) _)) hb)
  have n4 := hb.size
  try simp at n4
  have k4_x0 := cell_keep (a := ⟨w.heap.size, 0, none⟩) (v := .string ⟨xl.toArray⟩) (by first | (go_keep; done) | (simp [go_sem, *]; done)) hb
  have k4_x1 := cell_keep (a := ⟨w.heap.size, 1, none⟩) (v := .string ⟨xs.toArray⟩) (by first | (go_keep; done) | (simp [go_sem, *]; done)) hb
  have k4_x2 := cell_keep (a := ⟨w.heap.size, 2, none⟩) (v := .string ⟨xr.toArray⟩) (by first | (go_keep; done) | (simp [go_sem, *]; done)) hb
  have k4_x3 := cell_keep (a := ⟨w.heap.size, 3, none⟩) (v := .slice xa xn xc) (by first | (go_keep; done) | (simp [go_sem, *]; done)) hb
  have l4_x := World.block_lt_of_cell? _ _ k4_x0
  try simp only at l4_x
  have k4_y0 := cell_keep (a := ⟨w.heap.size + 1, 0, none⟩) (v := .string ⟨yl.toArray⟩) (by first | (go_keep; done) | (simp [go_sem, *]; done)) hb
  have k4_y1 := cell_keep (a := ⟨w.heap.size + 1, 1, none⟩) (v := .string ⟨ys.toArray⟩) (by first | (go_keep; done) | (simp [go_sem, *]; done)) hb
  have k4_y2 := cell_keep (a := ⟨w.heap.size + 1, 2, none⟩) (v := .string ⟨yr.toArray⟩) (by first | (go_keep; done) | (simp [go_sem, *]; done)) hb
  have k4_y3 := cell_keep (a := ⟨w.heap.size + 1, 3, none⟩) (v := .slice ya yn yc) (by first | (go_keep; done) | (simp [go_sem, *]; done)) hb
  have l4_y := World.block_lt_of_cell? _ _ k4_y0
  try simp only at l4_y
  have k4_z0 := cell_keep (a := ⟨w.heap.size + 1 + 1, 0, none⟩) (v := .string ⟨zl.toArray⟩) (by first | (go_keep; done) | (simp [go_sem, *]; done)) hb
  have k4_z1 := cell_keep (a := ⟨w.heap.size + 1 + 1, 1, none⟩) (v := .string ⟨zs.toArray⟩) (by first | (go_keep; done) | (simp [go_sem, *]; done)) hb
  have k4_z2 := cell_keep (a := ⟨w.heap.size + 1 + 1, 2, none⟩) (v := .string ⟨zr.toArray⟩) (by first | (go_keep; done) | (simp [go_sem, *]; done)) hb
  have k4_z3 := cell_keep (a := ⟨w.heap.size + 1 + 1, 3, none⟩) (v := .slice za zn zc) (by first | (go_keep; done) | (simp [go_sem, *]; done)) hb
  have l4_z := World.block_lt_of_cell? _ _ k4_z0
  try simp only at l4_z
  clear hb k3_x0 k3_x1 k3_x2 k3_x3 l3_x k3_y0 k3_y1 k3_y2 k3_y3 l3_y k3_z0 k3_z1 k3_z2 k3_z3 l3_z W3
  go_wp2_with fail
  refine (C4.out _ (by repeat (first | exact W4.out | refine blw_drewN ?_ _ | refine Below.setCell ?_ (by first | (simp; done) | omega | (simp; omega)) _ | refine Below.alloc ?_ (by first | (simp; done) | omega | (simp; omega)) _))).mono ?_
  rintro e w5 ⟨rfl, hb⟩
  have W5 := Lib.hid (blw_trans (show Below w.heap.size w _ by repeat (first | exact W4.out | refine blw_drewN ?_ _ | refine Below.setCell ?_ (by first | (simp; done) | omega | (simp; omega)) _ | refine Below.alloc ?_ (by first | (simp; done) | omega | (simp; omega)) _)) hb)
  have n5 := hb.size
  try simp at n5
  have k5_x0 := cell_keep (a := ⟨w.heap.size, 0, none⟩) (v := .string ⟨xl.toArray⟩) (by first | (go_keep; done) | (simp [go_sem, *]; done)) hb
  have k5_x1 := cell_keep (a := ⟨w.heap.size, 1, none⟩) (v := .string ⟨xs.toArray⟩) (by first | (go_keep; done) | (simp [go_sem, *]; done)) hb
  have k5_x2 := cell_keep (a := ⟨w.heap.size, 2, none⟩) (v := .string ⟨xr.toArray⟩) (by first | (go_keep; done) | (simp [go_sem, *]; done)) hb
  have k5_x3 := cell_keep (a := ⟨w.heap.size, 3, none⟩) (v := .slice xa xn xc) (by first | (go_keep; done) | (simp [go_sem, *]; done)) hb
  have l5_x := World.block_lt_of_cell? _ _ k5_x0
  try simp only at l5_x
  have k5_y0 := cell_keep (a := ⟨w.heap.size + 1, 0, none⟩) (v := .string ⟨yl.toArray⟩) (by first | (go_keep; done) | (simp [go_sem, *]; done)) hb
  have k5_y1 := cell_keep (a := ⟨w.heap.size + 1, 1, none⟩) (v := .string ⟨ys.toArray⟩) (by first | (go_keep; done) | (simp [go_sem, *]; done)) hb
  have k5_y2 := cell_keep (a := ⟨w.heap.size + 1, 2, none⟩) (v := .string ⟨yr.toArray⟩) (by first | (go_keep; done) | (simp [go_sem, *]; done)) hb
  have k5_y3 := cell_keep (a := ⟨w.heap.size + 1, 3, none⟩) (v := .slice ya yn yc) (by first | (go_keep; done) | (simp [go_sem, *]; done)) hb
  have l5_y := World.block_lt_of_cell? _ _ k5_y0
  try simp only at l5_y
  clear hb k4_x0 k4_x1 k4_x2 k4_x3 l4_x k4_y0 k4_y1 k4_y2 k4_y3 l4_y k4_z0 k4_z1 k4_z2 k4_z3 l4_z W4
  go_wp2_with fail
  refine (C5.out _ (by repeat (first | exact W5.out | refine blw_drewN ?_ _ | refine Below.setCell ?_ (by first | (simp; done) | omega | (simp; omega)) _ | refine Below.alloc ?_ (by first | (simp; done) | omega | (simp; omega)) _))).mono ?_
  rintro e w6 ⟨rfl, hb⟩
  have W6 := Lib.hid (blw_trans (show Below w.heap.size w _ by repeat (first | exact W5.out | refine blw_drewN ?_ _ | refine Below.setCell ?_ (by first | (simp; done) | omega | (simp; omega)) _ | refine Below.alloc ?_ (by first | (simp; done) | omega | (simp; omega)) _)) hb)
  have n6 := hb.size
  try simp at n6
  have k6_x0 := cell_keep (a := ⟨w.heap.size, 0, none⟩) (v := .string ⟨xl.toArray⟩) (by first | (go_keep; done) | (simp [go_sem, *]; done)) hb
  have k6_x1 := cell_keep (a := ⟨w.heap.size, 1, none⟩) (v := .string ⟨xs.toArray⟩) (by first | (go_keep; done) | (simp [go_sem, *]; done)) hb
  have k6_x2 := cell_keep (a := ⟨w.heap.size, 2, none⟩) (v := .string ⟨xr.toArray⟩) (by first | (go_keep; done) | (simp [go_sem, *]; done)) hb
  have k6_x3 := cell_keep (a := ⟨w.heap.size, 3, none⟩) (v := .slice xa xn xc) (by first | (go_keep; done) | (simp [go_sem, *]; done)) hb
  have l6_x := World.block_lt_of_cell? _ _ k6_x0
  try simp only at l6_x
  have k6_y0 := cell_keep (a := ⟨w.heap.size + 1, 0, none⟩) (v := .string ⟨yl.toArray⟩) (by first | (go_keep; done) | (simp [go_sem, *]; done)) hb
  have k6_y1 := cell_keep (a := ⟨w.heap.size + 1, 1, none⟩) (v := .string ⟨ys.toArray⟩) (by first | (go_keep; done) | (simp [go_sem, *]; done)) hb
  have k6_y2 := cell_keep (a := ⟨w.heap.size + 1, 2, none⟩) (v := .string ⟨yr.toArray⟩) (by first | (go_keep; done) | (simp [go_sem, *]; done)) hb
  have k6_y3 := cell_keep (a := ⟨w.heap.size + 1, 3, none⟩) (v := .slice ya yn yc) (by first | (go_keep; done) | (simp [go_sem, *]; done)) hb
  have l6_y := World.block_lt_of_cell? _ _ k6_y0
  try simp only at l6_y
  clear hb k5_x0 k5_x1 k5_x2 k5_x3 l5_x k5_y0 k5_y1 k5_y2 k5_y3 l5_y W5
  go_wp2_with fail
  go_ret
  exact ⟨ret_bool (by first | rfl | (simp; done)), by repeat (first | exact W6.out | refine blw_drewN ?_ _ | refine Below.setCell ?_ (by first | (simp; done) | omega | (simp; omega)) _ | refine Below.alloc ?_ (by first | (simp; done) | omega | (simp; omega)) _)⟩

set_option maxRecDepth 100000 in
set_option maxHeartbeats 2000000 in
theorem order_g (xl xs xr yl ys yr zl zs zr : List UInt8) (xa ya za : Option Addr) (xn xc yn yc zn zc : Nat) (w : World) (hT : MaxW w) (n : Int) (b1 b2 b3 b4 b5 : Bool) (e3 e4 e5 : Value)
    (C1 : Hid (∀ wx : World, Below w.heap.size w wx → Calls Tryd.prog 22 #[.agg #[.string ⟨xl.toArray⟩, .string ⟨xs.toArray⟩, .string ⟨xr.toArray⟩, .slice xa xn xc], .agg #[.string ⟨yl.toArray⟩, .string ⟨ys.toArray⟩, .string ⟨yr.toArray⟩, .slice ya yn yc]] wx fun e w' => e = .returned (.tuple #[.bool b1, .nilIface]) ∧ Below wx.heap.size wx w'))
    (C2 : Hid (∀ wx : World, Below w.heap.size w wx → Calls Tryd.prog 22 #[.agg #[.string ⟨yl.toArray⟩, .string ⟨ys.toArray⟩, .string ⟨yr.toArray⟩, .slice ya yn yc], .agg #[.string ⟨zl.toArray⟩, .string ⟨zs.toArray⟩, .string ⟨zr.toArray⟩, .slice za zn zc]] wx fun e w' => e = .returned (.tuple #[.bool b2, errV n]) ∧ Below wx.heap.size wx w'))
    (C3 : Hid (∀ wx : World, Below w.heap.size w wx → Calls Tryd.prog 22 #[.agg #[.string ⟨xl.toArray⟩, .string ⟨xs.toArray⟩, .string ⟨xr.toArray⟩, .slice xa xn xc], .agg #[.string ⟨zl.toArray⟩, .string ⟨zs.toArray⟩, .string ⟨zr.toArray⟩, .slice za zn zc]] wx fun e w' => e = .returned (.tuple #[.bool b3, e3]) ∧ Below wx.heap.size wx w'))
    (C4 : Hid (∀ wx : World, Below w.heap.size w wx → Calls Tryd.prog 22 #[.agg #[.string ⟨yl.toArray⟩, .string ⟨ys.toArray⟩, .string ⟨yr.toArray⟩, .slice ya yn yc], .agg #[.string ⟨xl.toArray⟩, .string ⟨xs.toArray⟩, .string ⟨xr.toArray⟩, .slice xa xn xc]] wx fun e w' => e = .returned (.tuple #[.bool b4, e4]) ∧ Below wx.heap.size wx w'))
    (C5 : Hid (∀ wx : World, Below w.heap.size w wx → Calls Tryd.prog 22 #[.agg #[.string ⟨xl.toArray⟩, .string ⟨xs.toArray⟩, .string ⟨xr.toArray⟩, .slice xa xn xc], .agg #[.string ⟨xl.toArray⟩, .string ⟨xs.toArray⟩, .string ⟨xr.toArray⟩, .slice xa xn xc]] wx fun e w' => e = .returned (.tuple #[.bool b5, e5]) ∧ Below wx.heap.size wx w')) :
    Calls Tryd.prog 5 #[.agg #[.string ⟨xl.toArray⟩, .string ⟨xs.toArray⟩, .string ⟨xr.toArray⟩, .slice xa xn xc], .agg #[.string ⟨yl.toArray⟩, .string ⟨ys.toArray⟩, .string ⟨yr.toArray⟩, .slice ya yn yc], .agg #[.string ⟨zl.toArray⟩, .string ⟨zs.toArray⟩, .string ⟨zr.toArray⟩, .slice za zn zc]] w fun e w' => e = .returned (.bool true) ∧ Below w.heap.size w w' := by
  go_enter Tryd.func5, Tryd.ntmps5
  go_wp2_with fail
  refine (tagged_any _ (hT.below (by repeat (first | exact (Below.refl _ _) | refine blw_drewN ?_ _ | refine Below.setCell ?_ (by first | (simp; done) | omega | (simp; omega)) _ | refine Below.alloc ?_ (by first | (simp; done) | omega | (simp; omega)) _)))).mono ?_
  rintro e w1 ⟨rfl, hb⟩
  have W1 := Lib.hid (blw_trans (show Below w.heap.size w _ by repeat (first | exact (Below.refl _ _) | refine blw_drewN ?_ _ | refine Below.setCell ?_ (by first | (simp; done) | omega | (simp; omega)) _ | refine Below.alloc ?_ (by first | (simp; done) | omega | (simp; omega)) _)) hb)
  have n1 := hb.size
  try simp at n1
  have k1_x0 := cell_keep (a := ⟨w.heap.size, 0, none⟩) (v := .string ⟨xl.toArray⟩) (by first | (go_keep; done) | (simp [go_sem, *]; done)) hb
  have k1_x1 := cell_keep (a := ⟨w.heap.size, 1, none⟩) (v := .string ⟨xs.toArray⟩) (by first | (go_keep; done) | (simp [go_sem, *]; done)) hb
  have k1_x2 := cell_keep (a := ⟨w.heap.size, 2, none⟩) (v := .string ⟨xr.toArray⟩) (by first | (go_keep; done) | (simp [go_sem, *]; done)) hb
  have k1_x3 := cell_keep (a := ⟨w.heap.size, 3, none⟩) (v := .slice xa xn xc) (by first | (go_keep; done) | (simp [go_sem, *]; done)) hb
  have l1_x := World.block_lt_of_cell? _ _ k1_x0
  try simp only at l1_x
  have k1_y0 := cell_keep (a := ⟨w.heap.size + 1, 0, none⟩) (v := .string ⟨yl.toArray⟩) (by first | (go_keep; done) | (simp [go_sem, *]; done)) hb
  have k1_y1 := cell_keep (a := ⟨w.heap.size + 1, 1, none⟩) (v := .string ⟨ys.toArray⟩) (by first | (go_keep; done) | (simp [go_sem, *]; done)) hb
  have k1_y2 := cell_keep (a := ⟨w.heap.size + 1, 2, none⟩) (v := .string ⟨yr.toArray⟩) (by first | (go_keep; done) | (simp [go_sem, *]; done)) hb
  have k1_y3 := cell_keep (a := ⟨w.heap.size + 1, 3, none⟩) (v := .slice ya yn yc) (by first | (go_keep; done) | (simp [go_sem, *]; done)) hb
  have l1_y := World.block_lt_of_cell? _ _ k1_y0
  try simp only at l1_y
  have k1_z0 := cell_keep (a := ⟨w.heap.size + 1 + 1, 0, none⟩) (v := .string ⟨zl.toArray⟩) (by first | (go_keep; done) | (simp [go_sem, *]; done)) hb
  have k1_z1 := cell_keep (a := ⟨w.heap.size + 1 + 1, 1, none⟩) (v := .string ⟨zs.toArray⟩) (by first | (go_keep; done) | (simp [go_sem, *]; done)) hb
  have k1_z2 := cell_keep (a := ⟨w.heap.size + 1 + 1, 2, none⟩) (v := .string ⟨zr.toArray⟩) (by first | (go_keep; done) | (simp [go_sem, *]; done)) hb
  have k1_z3 := cell_keep (a := ⟨w.heap.size + 1 + 1, 3, none⟩) (v := .slice za zn zc) (by first | (go_keep; done) | (simp [go_sem, *]; done)) hb
  have l1_z := World.block_lt_of_cell? _ _ k1_z0
  try simp only at l1_z
  clear hb
  go_wp2_with fail
  refine (C1.out _ (by repeat (first | exact W1.out | refine blw_drewN ?_ _ | refine Below.setCell ?_ (by first | (simp; done) | omega | (simp; omega)) _ | refine Below.alloc ?_ (by first | (simp; done) | omega | (simp; omega)) _))).mono ?_
  rintro e w2 ⟨rfl, hb⟩
  have W2 := Lib.hid (blw_trans (show Below w.heap.size w _ by repeat (first | exact W1.out | refine blw_drewN ?_ _ | refine Below.setCell ?_ (by first | (simp; done) | omega | (simp; omega)) _ | refine Below.alloc ?_ (by first | (simp; done) | omega | (simp; omega)) _)) hb)
  have n2 := hb.size
  try simp at n2
  have k2_x0 := cell_keep (a := ⟨w.heap.size, 0, none⟩) (v := .string ⟨xl.toArray⟩) (by first | (go_keep; done) | (simp [go_sem, *]; done)) hb
  have k2_x1 := cell_keep (a := ⟨w.heap.size, 1, none⟩) (v := .string ⟨xs.toArray⟩) (by first | (go_keep; done) | (simp [go_sem, *]; done)) hb
  have k2_x2 := cell_keep (a := ⟨w.heap.size, 2, none⟩) (v := .string ⟨xr.toArray⟩) (by first | (go_keep; done) | (simp [go_sem, *]; done)) hb
  have k2_x3 := cell_keep (a := ⟨w.heap.size, 3, none⟩) (v := .slice xa xn xc) (by first | (go_keep; done) | (simp [go_sem, *]; done)) hb
  have l2_x := World.block_lt_of_cell? _ _ k2_x0
  try simp only at l2_x
  have k2_y0 := cell_keep (a := ⟨w.heap.size + 1, 0, none⟩) (v := .string ⟨yl.toArray⟩) (by first | (go_keep; done) | (simp [go_sem, *]; done)) hb
  have k2_y1 := cell_keep (a := ⟨w.heap.size + 1, 1, none⟩) (v := .string ⟨ys.toArray⟩) (by first | (go_keep; done) | (simp [go_sem, *]; done)) hb
  have k2_y2 := cell_keep (a := ⟨w.heap.size + 1, 2, none⟩) (v := .string ⟨yr.toArray⟩) (by first | (go_keep; done) | (simp [go_sem, *]; done)) hb
  have k2_y3 := cell_keep (a := ⟨w.heap.size + 1, 3, none⟩) (v := .slice ya yn yc) (by first | (go_keep; done) | (simp [go_sem, *]; done)) hb
  have l2_y := World.block_lt_of_cell? _ _ k2_y0
  try simp only at l2_y
  have k2_z0 := cell_keep (a := ⟨w.heap.size + 1 + 1, 0, none⟩) (v := .string ⟨zl.toArray⟩) (by first | (go_keep; done) | (simp [go_sem, *]; done)) hb
  have k2_z1 := cell_keep (a := ⟨w.heap.size + 1 + 1, 1, none⟩) (v := .string ⟨zs.toArray⟩) (by first | (go_keep; done) | (simp [go_sem, *]; done)) hb
  have k2_z2 := cell_keep (a := ⟨w.heap.size + 1 + 1, 2, none⟩) (v := .string ⟨zr.toArray⟩) (by first | (go_keep; done) | (simp [go_sem, *]; done)) hb
  have k2_z3 := cell_keep (a := ⟨w.heap.size + 1 + 1, 3, none⟩) (v := .slice za zn zc) (by first | (go_keep; done) | (simp [go_sem, *]; done)) hb
  have l2_z := World.block_lt_of_cell? _ _ k2_z0
  try simp only at l2_z
  clear hb k1_x0 k1_x1 k1_x2 k1_x3 l1_x k1_y0 k1_y1 k1_y2 k1_y3 l1_y k1_z0 k1_z1 k1_z2 k1_z3 l1_z W1
  go_wp2_with fail
  refine (C2.out _ (by repeat (first | exact W2.out | refine blw_drewN ?_ _ | refine Below.setCell ?_ (by first | (simp; done) | omega | (simp; omega)) _ | refine Below.alloc ?_ (by first | (simp; done) | omega | (simp; omega)) _))).mono ?_
  rintro e w3 ⟨rfl, hb⟩
  have W3 := Lib.hid (blw_trans (show Below w.heap.size w _ by repeat (first | exact W2.out | refine blw_drewN ?_ _ | refine Below.setCell ?_ (by first | (simp; done) | omega | (simp; omega)) _ | refine Below.alloc ?_ (by first | (simp; done) | omega | (simp; omega)) _)) hb)
  have n3 := hb.size
  try simp at n3
  have k3_x0 := cell_keep (a := ⟨w.heap.size, 0, none⟩) (v := .string ⟨xl.toArray⟩) (by first | (go_keep; done) | (simp [go_sem, *]; done)) hb
  have k3_x1 := cell_keep (a := ⟨w.heap.size, 1, none⟩) (v := .string ⟨xs.toArray⟩) (by first | (go_keep; done) | (simp [go_sem, *]; done)) hb
  have k3_x2 := cell_keep (a := ⟨w.heap.size, 2, none⟩) (v := .string ⟨xr.toArray⟩) (by first | (go_keep; done) | (simp [go_sem, *]; done)) hb
  have k3_x3 := cell_keep (a := ⟨w.heap.size, 3, none⟩) (v := .slice xa xn xc) (by first | (go_keep; done) | (simp [go_sem, *]; done)) hb
  have l3_x := World.block_lt_of_cell? _ _ k3_x0
  try simp only at l3_x
  have k3_y0 := cell_keep (a := ⟨w.heap.size + 1, 0, none⟩) (v := .string ⟨yl.toArray⟩) (by first | (go_keep; done) | (simp [go_sem, *]; done)) hb
  have k3_y1 := cell_keep (a := ⟨w.heap.size + 1, 1, none⟩) (v := .string ⟨ys.toArray⟩) (by first | (go_keep; done) | (simp [go_sem, *]; done)) hb
  have k3_y2 := cell_keep (a := ⟨w.heap.size + 1, 2, none⟩) (v := .string ⟨yr.toArray⟩) (by first | (go_keep; done) | (simp [go_sem, *]; done)) hb
  have k3_y3 := cell_keep (a := ⟨w.heap.size + 1, 3, none⟩) (v := .slice ya yn yc) (by first | (go_keep; done) | (simp [go_sem, *]; done)) hb
  have l3_y := World.block_lt_of_cell? _ _ k3_y0
  try simp only at l3_y
  have k3_z0 := cell_keep (a := ⟨w.heap.size + 1 + 1, 0, none⟩) (v := .string ⟨zl.toArray⟩) (by first | (go_keep; done) | (simp [go_sem, *]; done)) hb
  have k3_z1 := cell_keep (a := ⟨w.heap.size + 1 + 1, 1, none⟩) (v := .string ⟨zs.toArray⟩) (by first | (go_keep; done) | (simp [go_sem, *]; done)) hb
  have k3_z2 := cell_keep (a := ⟨w.heap.size + 1 + 1, 2, none⟩) (v := .string ⟨zr.toArray⟩) (by first | (go_keep; done) | (simp [go_sem, *]; done)) hb
  have k3_z3 := cell_keep (a := ⟨w.heap.size + 1 + 1, 3, none⟩) (v := .slice za zn zc) (by first | (go_keep; done) | (simp [go_sem, *]; done)) hb
  have l3_z := World.block_lt_of_cell? _ _ k3_z0
  try simp only at l3_z
  clear hb k2_x0 k2_x1 k2_x2 k2_x3 l2_x k2_y0 k2_y1 k2_y2 k2_y3 l2_y k2_z0 k2_z1 k2_z2 k2_z3 l2_z W2
  go_wp2_with fail
  refine (C3.out _ (by repeat (first | exact W3.out | refine blw_drewN ?_ _ | refine Below.setCell ?_ (by first | (simp; done) | omega | (simp; omega)) _ | refine Below.alloc ?_ (by first | (simp; done) | omega | (simp; omega)) _))).mono ?_
  rintro e w4 ⟨rfl, hb⟩
  have W4 := Lib.hid (blw_trans (show Below w.heap.size w _ by repeat (first | exact W3.out | refine blw_drewN ?_ _ | refine Below.setCell ?_ (by first | (simp; done) | omega | (simp; omega)) _ | refine Below.alloc ?_ (by first | (simp; done) | omega | (simp; omega)) _)) hb)
  have n4 := hb.size
  try simp at n4
  have k4_x0 := cell_keep (a := ⟨w.heap.size, 0, none⟩) (v := .string ⟨xl.toArray⟩) (by first | (go_keep; done) | (simp [go_sem, *]; done)) hb
  have k4_x1 := cell_keep (a := ⟨w.heap.size, 1, none⟩) (v := .string ⟨xs.toArray⟩) (by first | (go_keep; done) | (simp [go_sem, *]; done)) hb
  have k4_x2 := cell_keep (a := ⟨w.heap.size, 2, none⟩) (v := .string ⟨xr.toArray⟩) (by first | (go_keep; done) | (simp [go_sem, *]; done)) hb
  have k4_x3 := cell_keep (a := ⟨w.heap.size, 3, none⟩) (v := .slice xa xn xc) (by first | (go_keep; done) | (simp [go_sem, *]; done)) hb
  have l4_x := World.block_lt_of_cell? _ _ k4_x0
  try simp only at l4_x
  have k4_y0 := cell_keep (a := ⟨w.heap.size + 1, 0, none⟩) (v := .string ⟨yl.toArray⟩) (by first | (go_keep; done) | (simp [go_sem, *]; done)) hb
  have k4_y1 := cell_keep (a := ⟨w.heap.size + 1, 1, none⟩) (v := .string ⟨ys.toArray⟩) (by first | (go_keep; done) | (simp [go_sem, *]; done)) hb
  have k4_y2 := cell_keep (a := ⟨w.heap.size + 1, 2, none⟩) (v := .string ⟨yr.toArray⟩) (by first | (go_keep; done) | (simp [go_sem, *]; done)) hb
  have k4_y3 := cell_keep (a := ⟨w.heap.size + 1, 3, none⟩) (v := .slice ya yn yc) (by first | (go_keep; done) | (simp [go_sem, *]; done)) hb
  have l4_y := World.block_lt_of_cell? _ _ k4_y0
  try simp only at l4_y
  have k4_z0 := cell_keep (a := ⟨w.heap.size + 1 + 1, 0, none⟩) (v := .string ⟨zl.toArray⟩) (by first | (go_keep; done) | (simp [go_sem, *]; done)) hb
  have k4_z1 := cell_keep (a := ⟨w.heap.size + 1 + 1, 1, none⟩) (v := .string ⟨zs.toArray⟩) (by first | (go_keep; done) | (simp [go_sem, *]; done)) hb
  have k4_z2 := cell_keep (a := ⟨w.heap.size + 1 + 1, 2, none⟩) (v := .string ⟨zr.toArray⟩) (by first | (go_keep; done) | (simp [go_sem, *]; done)) hb
  have k4_z3 := cell_keep (a := ⟨w.heap.size + 1 + 1, 3, none⟩) (v := .slice za zn zc) (by first | (go_keep; done) | (simp [go_sem, *]; done)) hb
  have l4_z := World.block_lt_of_cell? _ _ k4_z0
  try simp only at l4_z
  clear hb k3_x0 k3_x1 k3_x2 k3_x3 l3_x k3_y0 k3_y1 k3_y2 k3_y3 l3_y k3_z0 k3_z1 k3_z2 k3_z3 l3_z W3
  go_wp2_with fail
  refine (C4.out _ (by repeat (first | exact W4.out | refine blw_drewN ?_ _ | refine Below.setCell ?_ (by first | (simp; done) | omega | (simp; omega)) _ | refine Below.alloc ?_ (by first | (simp; done) | omega | (simp; omega)) _))).mono ?_
  rintro e w5 ⟨rfl, hb⟩
  have W5 := Lib.hid (blw_trans (show Below w.heap.size w _ by repeat (first | exact W4.out | refine blw_drewN ?_ _ | refine Below.setCell ?_ (by first | (simp; done) | omega | (simp; omega)) _ | refine Below.alloc ?_ (by first | (simp; done) | omega | (simp; omega)) _)) hb)
  have n5 := hb.size
  try simp at n5
  have k5_x0 := cell_keep (a := ⟨w.heap.size, 0, none⟩) (v := .string ⟨xl.toArray⟩) (by first | (go_keep; done) | (simp [go_sem, *]; done)) hb
  have k5_x1 := cell_keep (a := ⟨w.heap.size, 1, none⟩) (v := .string ⟨xs.toArray⟩) (by first | (go_keep; done) | (simp [go_sem, *]; done)) hb
  have k5_x2 := cell_keep (a := ⟨w.heap.size, 2, none⟩) (v := .string ⟨xr.toArray⟩) (by first | (go_keep; done) | (simp [go_sem, *]; done)) hb
  have k5_x3 := cell_keep (a := ⟨w.heap.size, 3, none⟩) (v := .slice xa xn xc) (by first | (go_keep; done) | (simp [go_sem, *]; done)) hb
  have l5_x := World.block_lt_of_cell? _ _ k5_x0
  try simp only at l5_x
  have k5_y0 := cell_keep (a := ⟨w.heap.size + 1, 0, none⟩) (v := .string ⟨yl.toArray⟩) (by first | (go_keep; done) | (simp [go_sem, *]; done)) hb
  have k5_y1 := cell_keep (a := ⟨w.heap.size + 1, 1, none⟩) (v := .string ⟨ys.toArray⟩) (by first | (go_keep; done) | (simp [go_sem, *]; done)) hb
  have k5_y2 := cell_keep (a := ⟨w.heap.size + 1, 2, none⟩) (v := .string ⟨yr.toArray⟩) (by first | (go_keep; done) | (simp [go_sem, *]; done)) hb
  have k5_y3 := cell_keep (a := ⟨w.heap.size + 1, 3, none⟩) (v := .slice ya yn yc) (by first | (go_keep; done) | (simp [go_sem, *]; done)) hb
  have l5_y := World.block_lt_of_cell? _ _ k5_y0
  try simp only at l5_y
  clear hb k4_x0 k4_x1 k4_x2 k4_x3 l4_x k4_y0 k4_y1 k4_y2 k4_y3 l4_y k4_z0 k4_z1 k4_z2 k4_z3 l4_z W4
  go_wp2_with fail
  refine (C5.out _ (by repeat (first | exact W5.out | refine blw_drewN ?_ _ | refine Below.setCell ?_ (by first | (simp; done) | omega | (simp; omega)) _ | refine Below.alloc ?_ (by first | (simp; done) | omega | (simp; omega)) _))).mono ?_
  rintro e w6 ⟨rfl, hb⟩
  have W6 := Lib.hid (blw_trans (show Below w.heap.size w _ by repeat (first | exact W5.out | refine blw_drewN ?_ _ | refine Below.setCell ?_ (by first | (simp; done) | omega | (simp; omega)) _ | refine Below.alloc ?_ (by first | (simp; done) | omega | (simp; omega)) _)) hb)
  have n6 := hb.size
  try simp at n6
  have k6_x0 := cell_keep (a := ⟨w.heap.size, 0, none⟩) (v := .string ⟨xl.toArray⟩) (by first | (go_keep; done) | (simp [go_sem, *]; done)) hb
  have k6_x1 := cell_keep (a := ⟨w.heap.size, 1, none⟩) (v := .string ⟨xs.toArray⟩) (by first | (go_keep; done) | (simp [go_sem, *]; done)) hb
  have k6_x2 := cell_keep (a := ⟨w.heap.size, 2, none⟩) (v := .string ⟨xr.toArray⟩) (by first | (go_keep; done) | (simp [go_sem, *]; done)) hb
  have k6_x3 := cell_keep (a := ⟨w.heap.size, 3, none⟩) (v := .slice xa xn xc) (by first | (go_keep; done) | (simp [go_sem, *]; done)) hb
  have l6_x := World.block_lt_of_cell? _ _ k6_x0
  try simp only at l6_x
  have k6_y0 := cell_keep (a := ⟨w.heap.size + 1, 0, none⟩) (v := .string ⟨yl.toArray⟩) (by first | (go_keep; done) | (simp [go_sem, *]; done)) hb
  have k6_y1 := cell_keep (a := ⟨w.heap.size + 1, 1, none⟩) (v := .string ⟨ys.toArray⟩) (by first | (go_keep; done) | (simp [go_sem, *]; done)) hb
  have k6_y2 := cell_keep (a := ⟨w.heap.size + 1, 2, none⟩) (v := .string ⟨yr.toArray⟩) (by first | (go_keep; done) | (simp [go_sem, *]; done)) hb
  have k6_y3 := cell_keep (a := ⟨w.heap.size + 1, 3, none⟩) (v := .slice ya yn yc) (by first | (go_keep; done) | (simp [go_sem, *]; done)) hb
  have l6_y := World.block_lt_of_cell? _ _ k6_y0
  try simp only at l6_y
  clear hb k5_x0 k5_x1 k5_x2 k5_x3 l5_x k5_y0 k5_y1 k5_y2 k5_y3 l5_y W5
  go_wp2_with fail
  go_ret
  exact ⟨ret_bool (by first | rfl | (simp; done)), by repeat (first | exact W6.out | refine blw_drewN ?_ _ | refine Below.setCell ?_ (by first | (simp; done) | omega | (simp; omega)) _ | refine Below.alloc ?_ (by first | (simp; done) | omega | (simp; omega)) _)⟩

set_option maxRecDepth 100000 in
set_option maxHeartbeats 2000000 in
theorem order_n (xl xs xr yl ys yr zl zs zr : List UInt8) (xa ya za : Option Addr) (xn xc yn yc zn zc : Nat) (w : World) (hT : MaxW w) (bY bz bw : Bool)
    (C1 : Hid (∀ wx : World, Below w.heap.size w wx → Calls Tryd.prog 22 #[.agg #[.string ⟨xl.toArray⟩, .string ⟨xs.toArray⟩, .string ⟨xr.toArray⟩, .slice xa xn xc], .agg #[.string ⟨yl.toArray⟩, .string ⟨ys.toArray⟩, .string ⟨yr.toArray⟩, .slice ya yn yc]] wx fun e w' => e = .returned (.tuple #[.bool false, .nilIface]) ∧ Below wx.heap.size wx w'))
    (C2 : Hid (∀ wx : World, Below w.heap.size w wx → Calls Tryd.prog 22 #[.agg #[.string ⟨yl.toArray⟩, .string ⟨ys.toArray⟩, .string ⟨yr.toArray⟩, .slice ya yn yc], .agg #[.string ⟨zl.toArray⟩, .string ⟨zs.toArray⟩, .string ⟨zr.toArray⟩, .slice za zn zc]] wx fun e w' => e = .returned (.tuple #[.bool bY, .nilIface]) ∧ Below wx.heap.size wx w'))
    (C3 : Hid (∀ wx : World, Below w.heap.size w wx → Calls Tryd.prog 22 #[.agg #[.string ⟨xl.toArray⟩, .string ⟨xs.toArray⟩, .string ⟨xr.toArray⟩, .slice xa xn xc], .agg #[.string ⟨zl.toArray⟩, .string ⟨zs.toArray⟩, .string ⟨zr.toArray⟩, .slice za zn zc]] wx fun e w' => e = .returned (.tuple #[.bool bz, .nilIface]) ∧ Below wx.heap.size wx w'))
    (C4 : Hid (∀ wx : World, Below w.heap.size w wx → Calls Tryd.prog 22 #[.agg #[.string ⟨yl.toArray⟩, .string ⟨ys.toArray⟩, .string ⟨yr.toArray⟩, .slice ya yn yc], .agg #[.string ⟨xl.toArray⟩, .string ⟨xs.toArray⟩, .string ⟨xr.toArray⟩, .slice xa xn xc]] wx fun e w' => e = .returned (.tuple #[.bool bw, .nilIface]) ∧ Below wx.heap.size wx w'))
    (C5 : Hid (∀ wx : World, Below w.heap.size w wx → Calls Tryd.prog 22 #[.agg #[.string ⟨xl.toArray⟩, .string ⟨xs.toArray⟩, .string ⟨xr.toArray⟩, .slice xa xn xc], .agg #[.string ⟨xl.toArray⟩, .string ⟨xs.toArray⟩, .string ⟨xr.toArray⟩, .slice xa xn xc]] wx fun e w' => e = .returned (.tuple #[.bool true, .nilIface]) ∧ Below wx.heap.size wx w')) :
    Calls Tryd.prog 5 #[.agg #[.string ⟨xl.toArray⟩, .string ⟨xs.toArray⟩, .string ⟨xr.toArray⟩, .slice xa xn xc], .agg #[.string ⟨yl.toArray⟩, .string ⟨ys.toArray⟩, .string ⟨yr.toArray⟩, .slice ya yn yc], .agg #[.string ⟨zl.toArray⟩, .string ⟨zs.toArray⟩, .string ⟨zr.toArray⟩, .slice za zn zc]] w fun e w' => e = .returned (.bool true) ∧ Below w.heap.size w w' := by
  go_enter Tryd.func5, Tryd.ntmps5
  go_wp2_with fail
  refine (tagged_any _ (hT.below (by repeat (first | exact (Below.refl _ _) | refine blw_drewN ?_ _ | refine Below.setCell ?_ (by first | (simp; done) | omega | (simp; omega)) _ | refine Below.alloc ?_ (by first | (simp; done) | omega | (simp; omega)) _)))).mono ?_
  rintro e w1 ⟨rfl, hb⟩
  have W1 := Lib.hid (blw_trans (show Below w.heap.size w _ by repeat (first | exact (Below.refl _ _) | refine blw_drewN ?_ _ | refine Below.setCell ?_ (by first | (simp; done) | omega | (simp; omega)) _ | refine Below.alloc ?_ (by first | (simp; done) | omega | (simp; omega)) _)) hb)
  have n1 := hb.size
  try simp at n1
  have k1_x0 := cell_keep (a := ⟨w.heap.size, 0, none⟩) (v := .string ⟨xl.toArray⟩) (by first | (go_keep; done) | (simp [go_sem, *]; done)) hb
  have k1_x1 := cell_keep (a := ⟨w.heap.size, 1, none⟩) (v := .string ⟨xs.toArray⟩) (by first | (go_keep; done) | (simp [go_sem, *]; done)) hb
  have k1_x2 := cell_keep (a := ⟨w.heap.size, 2, none⟩) (v := .string ⟨xr.toArray⟩) (by first | (go_keep; done) | (simp [go_sem, *]; done)) hb
  have k1_x3 := cell_keep (a := ⟨w.heap.size, 3, none⟩) (v := .slice xa xn xc) (by first | (go_keep; done) | (simp [go_sem, *]; done)) hb
  have l1_x := World.block_lt_of_cell? _ _ k1_x0
  try simp only at l1_x
  have k1_y0 := cell_keep (a := ⟨w.heap.size + 1, 0, none⟩) (v := .string ⟨yl.toArray⟩) (by first | (go_keep; done) | (simp [go_sem, *]; done)) hb
  have k1_y1 := cell_keep (a := ⟨w.heap.size + 1, 1, none⟩) (v := .string ⟨ys.toArray⟩) (by first | (go_keep; done) | (simp [go_sem, *]; done)) hb
  have k1_y2 := cell_keep (a := ⟨w.heap.size + 1, 2, none⟩) (v := .string ⟨yr.toArray⟩) (by first | (go_keep; done) | (simp [go_sem, *]; done)) hb
  have k1_y3 := cell_keep (a := ⟨w.heap.size + 1, 3, none⟩) (v := .slice ya yn yc) (by first | (go_keep; done) | (simp [go_sem, *]; done)) hb
  have l1_y := World.block_lt_of_cell? _ _ k1_y0
  try simp only at l1_y
  have k1_z0 := cell_keep (a := ⟨w.heap.size + 1 + 1, 0, none⟩) (v := .string ⟨zl.toArray⟩) (by first | (go_keep; done) | (simp [go_sem, *]; done)) hb
  have k1_z1 := cell_keep (a := ⟨w.heap.size + 1 + 1, 1, none⟩) (v := .string ⟨zs.toArray⟩) (by first | (go_keep; done) | (simp [go_sem, *]; done)) hb
  have k1_z2 := cell_keep (a := ⟨w.heap.size + 1 + 1, 2, none⟩) (v := .string ⟨zr.toArray⟩) (by first | (go_keep; done) | (simp [go_sem, *]; done)) hb
  have k1_z3 := cell_keep (a := ⟨w.heap.size + 1 + 1, 3, none⟩) (v := .slice za zn zc) (by first | (go_keep; done) | (simp [go_sem, *]; done)) hb
  have l1_z := World.block_lt_of_cell? _ _ k1_z0
  try simp only at l1_z
  clear hb
  go_wp2_with fail
  refine (C1.out _ (by repeat (first | exact W1.out | refine blw_drewN ?_ _ | refine Below.setCell ?_ (by first | (simp; done) | omega | (simp; omega)) _ | refine Below.alloc ?_ (by first | (simp; done) | omega | (simp; omega)) _))).mono ?_
  rintro e w2 ⟨rfl, hb⟩
  have W2 := Lib.hid (blw_trans (show Below w.heap.size w _ by repeat (first | exact W1.out | refine blw_drewN ?_ _ | refine Below.setCell ?_ (by first | (simp; done) | omega | (simp; omega)) _ | refine Below.alloc ?_ (by first | (simp; done) | omega | (simp; omega)) _)) hb)
  have n2 := hb.size
  try simp at n2
  have k2_x0 := cell_keep (a := ⟨w.heap.size, 0, none⟩) (v := .string ⟨xl.toArray⟩) (by first | (go_keep; done) | (simp [go_sem, *]; done)) hb
  have k2_x1 := cell_keep (a := ⟨w.heap.size, 1, none⟩) (v := .string ⟨xs.toArray⟩) (by first | (go_keep; done) | (simp [go_sem, *]; done)) hb
  have k2_x2 := cell_keep (a := ⟨w.heap.size, 2, none⟩) (v := .string ⟨xr.toArray⟩) (by first | (go_keep; done) | (simp [go_sem, *]; done)) hb
  have k2_x3 := cell_keep (a := ⟨w.heap.size, 3, none⟩) (v := .slice xa xn xc) (by first | (go_keep; done) | (simp [go_sem, *]; done)) hb
  have l2_x := World.block_lt_of_cell? _ _ k2_x0
  try simp only at l2_x
  have k2_y0 := cell_keep (a := ⟨w.heap.size + 1, 0, none⟩) (v := .string ⟨yl.toArray⟩) (by first | (go_keep; done) | (simp [go_sem, *]; done)) hb
  have k2_y1 := cell_keep (a := ⟨w.heap.size + 1, 1, none⟩) (v := .string ⟨ys.toArray⟩) (by first | (go_keep; done) | (simp [go_sem, *]; done)) hb
  have k2_y2 := cell_keep (a := ⟨w.heap.size + 1, 2, none⟩) (v := .string ⟨yr.toArray⟩) (by first | (go_keep; done) | (simp [go_sem, *]; done)) hb
  have k2_y3 := cell_keep (a := ⟨w.heap.size + 1, 3, none⟩) (v := .slice ya yn yc) (by first | (go_keep; done) | (simp [go_sem, *]; done)) hb
  have l2_y := World.block_lt_of_cell? _ _ k2_y0
  try simp only at l2_y
  have k2_z0 := cell_keep (a := ⟨w.heap.size + 1 + 1, 0, none⟩) (v := .string ⟨zl.toArray⟩) (by first | (go_keep; done) | (simp [go_sem, *]; done)) hb
  have k2_z1 := cell_keep (a := ⟨w.heap.size + 1 + 1, 1, none⟩) (v := .string ⟨zs.toArray⟩) (by first | (go_keep; done) | (simp [go_sem, *]; done)) hb
  have k2_z2 := cell_keep (a := ⟨w.heap.size + 1 + 1, 2, none⟩) (v := .string ⟨zr.toArray⟩) (by first | (go_keep; done) | (simp [go_sem, *]; done)) hb
  have k2_z3 := cell_keep (a := ⟨w.heap.size + 1 + 1, 3, none⟩) (v := .slice za zn zc) (by first | (go_keep; done) | (simp [go_sem, *]; done)) hb
  have l2_z := World.block_lt_of_cell? _ _ k2_z0
  try simp only at l2_z
  clear hb k1_x0 k1_x1 k1_x2 k1_x3 l1_x k1_y0 k1_y1 k1_y2 k1_y3 l1_y k1_z0 k1_z1 k1_z2 k1_z3 l1_z W1
  go_wp2_with fail
  refine (C2.out _ (by repeat (first | exact W2.out | refine blw_drewN ?_ _ | refine Below.setCell ?_ (by first | (simp; done) | omega | (simp; omega)) _ | refine Below.alloc ?_ (by first | (simp; done) | omega | (simp; omega)) _))).mono ?_
  rintro e w3 ⟨rfl, hb⟩
  have W3 := Lib.hid (blw_trans (show Below w.heap.size w _ by repeat (first | exact W2.out | refine blw_drewN ?_ _ | refine Below.setCell ?_ (by first | (simp; done) | omega | (simp; omega)) _ | refine Below.alloc ?_ (by first | (simp; done) | omega | (simp; omega)) _)) hb)
  have n3 := hb.size
  try simp at n3
  have k3_x0 := cell_keep (a := ⟨w.heap.size, 0, none⟩) (v := .string ⟨xl.toArray⟩) (by first | (go_keep; done) | (simp [go_sem, *]; done)) hb
  have k3_x1 := cell_keep (a := ⟨w.heap.size, 1, none⟩) (v := .string ⟨xs.toArray⟩) (by first | (go_keep; done) | (simp [go_sem, *]; done)) hb
  have k3_x2 := cell_keep (a := ⟨w.heap.size, 2, none⟩) (v := .string ⟨xr.toArray⟩) (by first | (go_keep; done) | (simp [go_sem, *]; done)) hb
  have k3_x3 := cell_keep (a := ⟨w.heap.size, 3, none⟩) (v := .slice xa xn xc) (by first | (go_keep; done) | (simp [go_sem, *]; done)) hb
  have l3_x := World.block_lt_of_cell? _ _ k3_x0
  try simp only at l3_x
  have k3_y0 := cell_keep (a := ⟨w.heap.size + 1, 0, none⟩) (v := .string ⟨yl.toArray⟩) (by first | (go_keep; done) | (simp [go_sem, *]; done)) hb
  have k3_y1 := cell_keep (a := ⟨w.heap.size + 1, 1, none⟩) (v := .string ⟨ys.toArray⟩) (by first | (go_keep; done) | (simp [go_sem, *]; done)) hb
  have k3_y2 := cell_keep (a := ⟨w.heap.size + 1, 2, none⟩) (v := .string ⟨yr.toArray⟩) (by first | (go_keep; done) | (simp [go_sem, *]; done)) hb
  have k3_y3 := cell_keep (a := ⟨w.heap.size + 1, 3, none⟩) (v := .slice ya yn yc) (by first | (go_keep; done) | (simp [go_sem, *]; done)) hb
  have l3_y := World.block_lt_of_cell? _ _ k3_y0
  try simp only at l3_y
  have k3_z0 := cell_keep (a := ⟨w.heap.size + 1 + 1, 0, none⟩) (v := .string ⟨zl.toArray⟩) (by first | (go_keep; done) | (simp [go_sem, *]; done)) hb
  have k3_z1 := cell_keep (a := ⟨w.heap.size + 1 + 1, 1, none⟩) (v := .string ⟨zs.toArray⟩) (by first | (go_keep; done) | (simp [go_sem, *]; done)) hb
  have k3_z2 := cell_keep (a := ⟨w.heap.size + 1 + 1, 2, none⟩) (v := .string ⟨zr.toArray⟩) (by first | (go_keep; done) | (simp [go_sem, *]; done)) hb
  have k3_z3 := cell_keep (a := ⟨w.heap.size + 1 + 1, 3, none⟩) (v := .slice za zn zc) (by first | (go_keep; done) | (simp [go_sem, *]; done)) hb
  have l3_z := World.block_lt_of_cell? _ _ k3_z0
  try simp only at l3_z
  clear hb k2_x0 k2_x1 k2_x2 k2_x3 l2_x k2_y0 k2_y1 k2_y2 k2_y3 l2_y k2_z0 k2_z1 k2_z2 k2_z3 l2_z W2
  go_wp2_with fail
  refine (C3.out _ (by repeat (first | exact W3.out | refine blw_drewN ?_ _ | refine Below.setCell ?_ (by first | (simp; done) | omega | (simp; omega)) _ | refine Below.alloc ?_ (by first | (simp; done) | omega | (simp; omega)) _))).mono ?_
  rintro e w4 ⟨rfl, hb⟩
  have W4 := Lib.hid (blw_trans (show Below w.heap.size w _ by repeat (first | exact W3.out | refine blw_drewN ?_ _ | refine Below.setCell ?_ (by first | (simp; done) | omega | (simp; omega)) _ | refine Below.alloc ?_ (by first | (simp; done) | omega | (simp; omega)) _)) hb)
  have n4 := hb.size
  try simp at n4
  have k4_x0 := cell_keep (a := ⟨w.heap.size, 0, none⟩) (v := .string ⟨xl.toArray⟩) (by first | (go_keep; done) | (simp [go_sem, *]; done)) hb
  have k4_x1 := cell_keep (a := ⟨w.heap.size, 1, none⟩) (v := .string ⟨xs.toArray⟩) (by first | (go_keep; done) | (simp [go_sem, *]; done)) hb
  have k4_x2 := cell_keep (a := ⟨w.heap.size, 2, none⟩) (v := .string ⟨xr.toArray⟩) (by first | (go_keep; done) | (simp [go_sem, *]; done)) hb
  have k4_x3 := cell_keep (a := ⟨w.heap.size, 3, none⟩) (v := .slice xa xn xc) (by first | (go_keep; done) | (simp [go_sem, *]; done)) hb
  have l4_x := World.block_lt_of_cell? _ _ k4_x0
  try simp only at l4_x
  have k4_y0 := cell_keep (a := ⟨w.heap.size + 1, 0, none⟩) (v := .string ⟨yl.toArray⟩) (by first | (go_keep; done) | (simp [go_sem, *]; done)) hb
  have k4_y1 := cell_keep (a := ⟨w.heap.size + 1, 1, none⟩) (v := .string ⟨ys.toArray⟩) (by first | (go_keep; done) | (simp [go_sem, *]; done)) hb
  have k4_y2 := cell_keep (a := ⟨w.heap.size + 1, 2, none⟩) (v := .string ⟨yr.toArray⟩) (by first | (go_keep; done) | (simp [go_sem, *]; done)) hb
  have k4_y3 := cell_keep (a := ⟨w.heap.size + 1, 3, none⟩) (v := .slice ya yn yc) (by first | (go_keep; done) | (simp [go_sem, *]; done)) hb
  have l4_y := World.block_lt_of_cell? _ _ k4_y0
  try simp only at l4_y
  have k4_z0 := cell_keep (a := ⟨w.heap.size + 1 + 1, 0, none⟩) (v := .string ⟨zl.toArray⟩) (by first | (go_keep; done) | (simp [go_sem, *]; done)) hb
  have k4_z1 := cell_keep (a := ⟨w.heap.size + 1 + 1, 1, none⟩) (v := .string ⟨zs.toArray⟩) (by first | (go_keep; done) | (simp [go_sem, *]; done)) hb
  have k4_z2 := cell_keep (a := ⟨w.heap.size + 1 + 1, 2, none⟩) (v := .string ⟨zr.toArray⟩) (by first | (go_keep; done) | (simp [go_sem, *]; done)) hb
  have k4_z3 := cell_keep (a := ⟨w.heap.size + 1 + 1, 3, none⟩) (v := .slice za zn zc) (by first | (go_keep; done) | (simp [go_sem, *]; done)) hb
  have l4_z := World.block_lt_of_cell? _ _ k4_z0
  try simp only at l4_z
  clear hb k3_x0 k3_x1 k3_x2 k3_x3 l3_x k3_y0 k3_y1 k3_y2 k3_y3 l3_y k3_z0 k3_z1 k3_z2 k3_z3 l3_z W3
  go_wp2_with fail
  refine (C4.out _ (by repeat (first | exact W4.out | refine blw_drewN ?_ _ | refine Below.setCell ?_ (by first | (simp; done) | omega | (simp; omega)) _ | refine Below.alloc ?_ (by first | (simp; done) | omega | (simp; omega)) _))).mono ?_
  rintro e w5 ⟨rfl, hb⟩
  have W5 := Lib.hid (blw_trans (show Below w.heap.size w _ by repeat (first | exact W4.out | refine blw_drewN ?_ _ | refine Below.setCell ?_ (by first | (simp; done) | omega | (simp; omega)) _ | refine Below.alloc ?_ (by first | (simp; done) | omega | (simp; omega)) _)) hb)
  have n5 := hb.size
  try simp at n5
  have k5_x0 := cell_keep (a := ⟨w.heap.size, 0, none⟩) (v := .string ⟨xl.toArray⟩) (by first | (go_keep; done) | (simp [go_sem, *]; done)) hb
  have k5_x1 := cell_keep (a := ⟨w.heap.size, 1, none⟩) (v := .string ⟨xs.toArray⟩) (by first | (go_keep; done) | (simp [go_sem, *]; done)) hb
  have k5_x2 := cell_keep (a := ⟨w.heap.size, 2, none⟩) (v := .string ⟨xr.toArray⟩) (by first | (go_keep; done) | (simp [go_sem, *]; done)) hb
  have k5_x3 := cell_keep (a := ⟨w.heap.size, 3, none⟩) (v := .slice xa xn xc) (by first | (go_keep; done) | (simp [go_sem, *]; done)) hb
  have l5_x := World.block_lt_of_cell? _ _ k5_x0
  try simp only at l5_x
  have k5_y0 := cell_keep (a := ⟨w.heap.size + 1, 0, none⟩) (v := .string ⟨yl.toArray⟩) (by first | (go_keep; done) | (simp [go_sem, *]; done)) hb
  have k5_y1 := cell_keep (a := ⟨w.heap.size + 1, 1, none⟩) (v := .string ⟨ys.toArray⟩) (by first | (go_keep; done) | (simp [go_sem, *]; done)) hb
  have k5_y2 := cell_keep (a := ⟨w.heap.size + 1, 2, none⟩) (v := .string ⟨yr.toArray⟩) (by first | (go_keep; done) | (simp [go_sem, *]; done)) hb
  have k5_y3 := cell_keep (a := ⟨w.heap.size + 1, 3, none⟩) (v := .slice ya yn yc) (by first | (go_keep; done) | (simp [go_sem, *]; done)) hb
  have l5_y := World.block_lt_of_cell? _ _ k5_y0
  try simp only at l5_y
  clear hb k4_x0 k4_x1 k4_x2 k4_x3 l4_x k4_y0 k4_y1 k4_y2 k4_y3 l4_y k4_z0 k4_z1 k4_z2 k4_z3 l4_z W4
  go_wp2_with fail
  refine (C5.out _ (by repeat (first | exact W5.out | refine blw_drewN ?_ _ | refine Below.setCell ?_ (by first | (simp; done) | omega | (simp; omega)) _ | refine Below.alloc ?_ (by first | (simp; done) | omega | (simp; omega)) _))).mono ?_
  rintro e w6 ⟨rfl, hb⟩
  have W6 := Lib.hid (blw_trans (show Below w.heap.size w _ by repeat (first | exact W5.out | refine blw_drewN ?_ _ | refine Below.setCell ?_ (by first | (simp; done) | omega | (simp; omega)) _ | refine Below.alloc ?_ (by first | (simp; done) | omega | (simp; omega)) _)) hb)
  have n6 := hb.size
  try simp at n6
  have k6_x0 := cell_keep (a := ⟨w.heap.size, 0, none⟩) (v := .string ⟨xl.toArray⟩) (by first | (go_keep; done) | (simp [go_sem, *]; done)) hb
  have k6_x1 := cell_keep (a := ⟨w.heap.size, 1, none⟩) (v := .string ⟨xs.toArray⟩) (by first | (go_keep; done) | (simp [go_sem, *]; done)) hb
  have k6_x2 := cell_keep (a := ⟨w.heap.size, 2, none⟩) (v := .string ⟨xr.toArray⟩) (by first | (go_keep; done) | (simp [go_sem, *]; done)) hb
  have k6_x3 := cell_keep (a := ⟨w.heap.size, 3, none⟩) (v := .slice xa xn xc) (by first | (go_keep; done) | (simp [go_sem, *]; done)) hb
  have l6_x := World.block_lt_of_cell? _ _ k6_x0
  try simp only at l6_x
  have k6_y0 := cell_keep (a := ⟨w.heap.size + 1, 0, none⟩) (v := .string ⟨yl.toArray⟩) (by first | (go_keep; done) | (simp [go_sem, *]; done)) hb
  have k6_y1 := cell_keep (a := ⟨w.heap.size + 1, 1, none⟩) (v := .string ⟨ys.toArray⟩) (by first | (go_keep; done) | (simp [go_sem, *]; done)) hb
  have k6_y2 := cell_keep (a := ⟨w.heap.size + 1, 2, none⟩) (v := .string ⟨yr.toArray⟩) (by first | (go_keep; done) | (simp [go_sem, *]; done)) hb
  have k6_y3 := cell_keep (a := ⟨w.heap.size + 1, 3, none⟩) (v := .slice ya yn yc) (by first | (go_keep; done) | (simp [go_sem, *]; done)) hb
  have l6_y := World.block_lt_of_cell? _ _ k6_y0
  try simp only at l6_y
  clear hb k5_x0 k5_x1 k5_x2 k5_x3 l5_x k5_y0 k5_y1 k5_y2 k5_y3 l5_y W5
  go_wp2_with fail
  refine wp_region_held_drew (S := fun w' => w'.cell? ⟨w.heap.size, 0, none⟩ = some (.string ⟨xl.toArray⟩) ∧ w'.cell? ⟨w.heap.size, 1, none⟩ = some (.string ⟨xs.toArray⟩) ∧ w'.cell? ⟨w.heap.size, 2, none⟩ = some (.string ⟨xr.toArray⟩) ∧ w'.cell? ⟨w.heap.size, 3, none⟩ = some (.slice xa xn xc) ∧ w'.cell? ⟨w.heap.size + 1, 0, none⟩ = some (.string ⟨yl.toArray⟩) ∧ w'.cell? ⟨w.heap.size + 1, 1, none⟩ = some (.string ⟨ys.toArray⟩) ∧ w'.cell? ⟨w.heap.size + 1, 2, none⟩ = some (.string ⟨yr.toArray⟩) ∧ w'.cell? ⟨w.heap.size + 1, 3, none⟩ = some (.slice ya yn yc) ∧ Hid (Below w.heap.size w w')) (by kernel_rfl) (by exact ⟨by go_keep, by go_keep, by go_keep, by go_keep, by go_keep, by go_keep, by go_keep, by go_keep, Lib.hid (Below.drew (by repeat (first | exact W6.out | refine blw_drewN ?_ _ | refine Below.setCell ?_ (by first | (simp; done) | omega | (simp; omega)) _ | refine Below.alloc ?_ (by first | (simp; done) | omega | (simp; omega)) _)))⟩) (fun hHeld => ?_)
  refine take_run (d := (some 69)) (v := ?v1) 0 rfl rfl (by kernel_rfl) (by kernel_rfl) (by kernel_rfl) (fun _ _ _ h => h) (by rfl) hHeld ?hy1 ?rs1
  case hy1 => (intro w hSw; (try dsimp only at hSw); go_simp) <;> (try with_reducible rfl)
  (try simp only [Act.put, List.setIfInBounds_toArray, List.set_cons_zero, List.set_cons_succ])
  refine take_run (d := (some 70)) (v := ?v2) 1 rfl rfl (by kernel_rfl) (by kernel_rfl) (by kernel_rfl) (fun _ _ _ h => h) (by rfl) hHeld ?hy2 ?rs2
  case hy2 => (intro w hSw; (try dsimp only at hSw); go_simp) <;> (try with_reducible rfl)
  (try simp only [Act.put, List.setIfInBounds_toArray, List.set_cons_zero, List.set_cons_succ])
  refine take_run (d := (some 71)) (v := ?v3) 2 rfl rfl (by kernel_rfl) (by kernel_rfl) (by kernel_rfl) (fun _ _ _ h => h) (by rfl) hHeld ?hy3 ?rs3
  case hy3 => (intro w hSw; (try dsimp only at hSw); go_simp) <;> (try with_reducible rfl)
  (try simp only [Act.put, List.setIfInBounds_toArray, List.set_cons_zero, List.set_cons_succ])
  refine take_run (d := (some 72)) (v := ?v4) 3 rfl rfl (by kernel_rfl) (by kernel_rfl) (by kernel_rfl) (fun _ _ _ h => h) (by rfl) hHeld ?hy4 ?rs4
  case hy4 => (intro w hSw; (try dsimp only at hSw); go_simp) <;> (try with_reducible rfl)
  (try simp only [Act.put, List.setIfInBounds_toArray, List.set_cons_zero, List.set_cons_succ])
  refine take_run (d := (some 73)) (v := ?v5) 4 rfl rfl (by kernel_rfl) (by kernel_rfl) (by kernel_rfl) (fun _ _ _ h => h) (by rfl) hHeld ?hy5 ?rs5
  case hy5 => (intro w hSw; (try dsimp only at hSw); go_simp) <;> (try with_reducible rfl)
  (try simp only [Act.put, List.setIfInBounds_toArray, List.set_cons_zero, List.set_cons_succ])
  refine take_skip (d := (some 74)) 5 rfl rfl (by kernel_rfl) (by kernel_rfl) (by kernel_rfl) (fun _ _ _ h => h) (by rfl) hHeld ?_
  (try simp only [Act.put, List.setIfInBounds_toArray, List.set_cons_zero, List.set_cons_succ])
  refine take_skip (d := (some 75)) 6 rfl rfl (by kernel_rfl) (by kernel_rfl) (by kernel_rfl) (fun _ _ _ h => h) (by rfl) hHeld ?_
  (try simp only [Act.put, List.setIfInBounds_toArray, List.set_cons_zero, List.set_cons_succ])
  refine take_run (d := (some 76)) (v := ?v8) 7 rfl rfl (by kernel_rfl) (by kernel_rfl) (by kernel_rfl) (fun _ _ _ h => h) (by rfl) hHeld ?hy8 ?rs8
  case hy8 => (intro w hSw; (try dsimp only at hSw); go_simp) <;> (try with_reducible rfl)
  (try simp only [Act.put, List.setIfInBounds_toArray, List.set_cons_zero, List.set_cons_succ])
  refine take_run (d := (some 77)) (v := ?v9) 8 rfl rfl (by kernel_rfl) (by kernel_rfl) (by kernel_rfl) (fun _ _ _ h => h) (by rfl) hHeld ?hy9 ?rs9
  case hy9 => (intro w hSw; (try dsimp only at hSw); go_simp) <;> (try with_reducible rfl)
  (try simp only [Act.put, List.setIfInBounds_toArray, List.set_cons_zero, List.set_cons_succ])
  refine take_skip (d := (some 78)) 9 rfl rfl (by kernel_rfl) (by kernel_rfl) (by kernel_rfl) (fun _ _ _ h => h) (by rfl) hHeld ?_
  (try simp only [Act.put, List.setIfInBounds_toArray, List.set_cons_zero, List.set_cons_succ])
  refine take_run (d := (some 79)) (v := ?v11) 10 rfl rfl (by kernel_rfl) (by kernel_rfl) (by kernel_rfl) (fun _ _ _ h => h) (by rfl) hHeld ?hy11 ?rs11
  case hy11 => (intro w hSw; (try dsimp only at hSw); go_simp) <;> (try with_reducible rfl)
  (try simp only [Act.put, List.setIfInBounds_toArray, List.set_cons_zero, List.set_cons_succ])
  refine take_run (d := (some 80)) (v := ?v12) 11 rfl rfl (by kernel_rfl) (by kernel_rfl) (by kernel_rfl) (fun _ _ _ h => h) (by rfl) hHeld ?hy12 ?rs12
  case hy12 => (intro w hSw; (try dsimp only at hSw); go_simp) <;> (try with_reducible rfl)
  (try simp only [Act.put, List.setIfInBounds_toArray, List.set_cons_zero, List.set_cons_succ])
  refine take_run (d := (some 81)) (v := ?v13) 12 rfl rfl (by kernel_rfl) (by kernel_rfl) (by kernel_rfl) (fun _ _ _ h => h) (by rfl) hHeld ?hy13 ?rs13
  case hy13 => (intro w hSw; (try dsimp only at hSw); go_simp) <;> (try with_reducible rfl)
  (try simp only [Act.put, List.setIfInBounds_toArray, List.set_cons_zero, List.set_cons_succ])
  refine take_run (d := (some 82)) (v := ?v14) 13 rfl rfl (by kernel_rfl) (by kernel_rfl) (by kernel_rfl) (fun _ _ _ h => h) (by rfl) hHeld ?hy14 ?rs14
  case hy14 => (intro w hSw; (try dsimp only at hSw); go_simp) <;> (try with_reducible rfl)
  (try simp only [Act.put, List.setIfInBounds_toArray, List.set_cons_zero, List.set_cons_succ])
  refine take_run (d := (some 83)) (v := ?v15) 14 rfl rfl (by kernel_rfl) (by kernel_rfl) (by kernel_rfl) (fun _ _ _ h => h) (by rfl) hHeld ?hy15 ?rs15
  case hy15 => (intro w hSw; (try dsimp only at hSw); go_simp) <;> (try with_reducible rfl)
  (try simp only [Act.put, List.setIfInBounds_toArray, List.set_cons_zero, List.set_cons_succ])
  refine take_run (d := (some 84)) (v := ?v16) 15 rfl rfl (by kernel_rfl) (by kernel_rfl) (by kernel_rfl) (fun _ _ _ h => h) (by rfl) hHeld ?hy16 ?rs16
  case hy16 => (intro w hSw; (try dsimp only at hSw); go_simp) <;> (try with_reducible rfl)
  (try simp only [Act.put, List.setIfInBounds_toArray, List.set_cons_zero, List.set_cons_succ])
  refine take_skip (d := (some 85)) 16 rfl rfl (by kernel_rfl) (by kernel_rfl) (by kernel_rfl) (fun _ _ _ h => h) (by rfl) hHeld ?_
  (try simp only [Act.put, List.setIfInBounds_toArray, List.set_cons_zero, List.set_cons_succ])
  refine take_skip (d := (some 86)) 17 rfl rfl (by kernel_rfl) (by kernel_rfl) (by kernel_rfl) (fun _ _ _ h => h) (by rfl) hHeld ?_
  (try simp only [Act.put, List.setIfInBounds_toArray, List.set_cons_zero, List.set_cons_succ])
  refine take_run (d := (some 87)) (v := ?v19) 18 rfl rfl (by kernel_rfl) (by kernel_rfl) (by kernel_rfl) (fun _ _ _ h => h) (by rfl) hHeld ?hy19 ?rs19
  case hy19 => (intro w hSw; (try dsimp only at hSw); go_simp) <;> (try with_reducible rfl)
  (try simp only [Act.put, List.setIfInBounds_toArray, List.set_cons_zero, List.set_cons_succ])
  refine take_run (d := (some 88)) (v := ?v20) 19 rfl rfl (by kernel_rfl) (by kernel_rfl) (by kernel_rfl) (fun _ _ _ h => h) (by rfl) hHeld ?hy20 ?rs20
  case hy20 => (intro w hSw; (try dsimp only at hSw); go_simp) <;> (try with_reducible rfl)
  (try simp only [Act.put, List.setIfInBounds_toArray, List.set_cons_zero, List.set_cons_succ])
  refine take_skip (d := (some 89)) 20 rfl rfl (by kernel_rfl) (by kernel_rfl) (by kernel_rfl) (fun _ _ _ h => h) (by rfl) hHeld ?_
  (try simp only [Act.put, List.setIfInBounds_toArray, List.set_cons_zero, List.set_cons_succ])
  refine take_skip (d := (some 90)) 21 rfl rfl (by kernel_rfl) (by kernel_rfl) (by kernel_rfl) (fun _ _ _ h => h) (by rfl) hHeld ?_
  (try simp only [Act.put, List.setIfInBounds_toArray, List.set_cons_zero, List.set_cons_succ])
  refine take_skip (d := (some 91)) 22 rfl rfl (by kernel_rfl) (by kernel_rfl) (by kernel_rfl) (fun _ _ _ h => h) (by rfl) hHeld ?_
  (try simp only [Act.put, List.setIfInBounds_toArray, List.set_cons_zero, List.set_cons_succ])
  refine take_skip (d := (some 92)) 23 rfl rfl (by kernel_rfl) (by kernel_rfl) (by kernel_rfl) (fun _ _ _ h => h) (by rfl) hHeld ?_
  (try simp only [Act.put, List.setIfInBounds_toArray, List.set_cons_zero, List.set_cons_succ])
  refine take_skip (d := (some 93)) 24 rfl rfl (by kernel_rfl) (by kernel_rfl) (by kernel_rfl) (fun _ _ _ h => h) (by rfl) hHeld ?_
  (try simp only [Act.put, List.setIfInBounds_toArray, List.set_cons_zero, List.set_cons_succ])
  refine take_run (d := (some 94)) (v := ?v26) 25 rfl rfl (by kernel_rfl) (by kernel_rfl) (by kernel_rfl) (fun _ _ _ h => h) (by rfl) hHeld ?hy26 ?rs26
  case hy26 => (intro w hSw; (try dsimp only at hSw); go_simp) <;> (try with_reducible rfl)
  (try simp only [Act.put, List.setIfInBounds_toArray, List.set_cons_zero, List.set_cons_succ])
  refine take_run (d := (some 95)) (v := ?v27) 26 rfl rfl (by kernel_rfl) (by kernel_rfl) (by kernel_rfl) (fun _ _ _ h => h) (by rfl) hHeld ?hy27 ?rs27
  case hy27 => (intro w hSw; (try dsimp only at hSw); go_simp) <;> (try with_reducible rfl)
  (try simp only [Act.put, List.setIfInBounds_toArray, List.set_cons_zero, List.set_cons_succ])
  refine take_run (d := (some 6)) (v := ?v28) 27 rfl rfl (by kernel_rfl) (by kernel_rfl) (by kernel_rfl) (fun _ _ _ h => h) (by rfl) hHeld ?hy28 ?rs28
  case hy28 => (intro w hSw; (try dsimp only at hSw); go_simp) <;> (try with_reducible rfl)
  (try simp only [Act.put, List.setIfInBounds_toArray, List.set_cons_zero, List.set_cons_succ])
  refine wpAnyH_done (by kernel_rfl) ?_ _
  obtain ⟨z0, z1, z2, z3, z4, z5, z6, z7, zW⟩ := hHeld
  go_wp2
  go_ret
  exact ⟨ret_bool (by simp), zW.out⟩

set_option maxRecDepth 100000 in
set_option maxHeartbeats 2000000 in
theorem order_yyy (xl xs xr yl ys yr zl zs zr : List UInt8) (xa ya za : Option Addr) (xn xc yn yc zn zc : Nat) (w : World) (hT : MaxW w)  (X : List UInt8)
    (CA : Hid (∀ wx : World, Below w.heap.size w wx → Calls Tryd.prog 15 #[.agg #[.string ⟨xl.toArray⟩, .string ⟨xs.toArray⟩, .string ⟨xr.toArray⟩, .slice xa xn xc]] wx fun e w' => e = .returned (.string ⟨X.toArray⟩) ∧ Below wx.heap.size wx w'))
    (CB : Hid (∀ wx : World, Below w.heap.size w wx → Calls Tryd.prog 15 #[.agg #[.string ⟨yl.toArray⟩, .string ⟨ys.toArray⟩, .string ⟨yr.toArray⟩, .slice ya yn yc]] wx fun e w' => e = .returned (.string ⟨X.toArray⟩) ∧ Below wx.heap.size wx w'))
    (C1 : Hid (∀ wx : World, Below w.heap.size w wx → Calls Tryd.prog 22 #[.agg #[.string ⟨xl.toArray⟩, .string ⟨xs.toArray⟩, .string ⟨xr.toArray⟩, .slice xa xn xc], .agg #[.string ⟨yl.toArray⟩, .string ⟨ys.toArray⟩, .string ⟨yr.toArray⟩, .slice ya yn yc]] wx fun e w' => e = .returned (.tuple #[.bool true, .nilIface]) ∧ Below wx.heap.size wx w'))
    (C2 : Hid (∀ wx : World, Below w.heap.size w wx → Calls Tryd.prog 22 #[.agg #[.string ⟨yl.toArray⟩, .string ⟨ys.toArray⟩, .string ⟨yr.toArray⟩, .slice ya yn yc], .agg #[.string ⟨zl.toArray⟩, .string ⟨zs.toArray⟩, .string ⟨zr.toArray⟩, .slice za zn zc]] wx fun e w' => e = .returned (.tuple #[.bool true, .nilIface]) ∧ Below wx.heap.size wx w'))
    (C3 : Hid (∀ wx : World, Below w.heap.size w wx → Calls Tryd.prog 22 #[.agg #[.string ⟨xl.toArray⟩, .string ⟨xs.toArray⟩, .string ⟨xr.toArray⟩, .slice xa xn xc], .agg #[.string ⟨zl.toArray⟩, .string ⟨zs.toArray⟩, .string ⟨zr.toArray⟩, .slice za zn zc]] wx fun e w' => e = .returned (.tuple #[.bool true, .nilIface]) ∧ Below wx.heap.size wx w'))
    (C4 : Hid (∀ wx : World, Below w.heap.size w wx → Calls Tryd.prog 22 #[.agg #[.string ⟨yl.toArray⟩, .string ⟨ys.toArray⟩, .string ⟨yr.toArray⟩, .slice ya yn yc], .agg #[.string ⟨xl.toArray⟩, .string ⟨xs.toArray⟩, .string ⟨xr.toArray⟩, .slice xa xn xc]] wx fun e w' => e = .returned (.tuple #[.bool true, .nilIface]) ∧ Below wx.heap.size wx w'))
    (C5 : Hid (∀ wx : World, Below w.heap.size w wx → Calls Tryd.prog 22 #[.agg #[.string ⟨xl.toArray⟩, .string ⟨xs.toArray⟩, .string ⟨xr.toArray⟩, .slice xa xn xc], .agg #[.string ⟨xl.toArray⟩, .string ⟨xs.toArray⟩, .string ⟨xr.toArray⟩, .slice xa xn xc]] wx fun e w' => e = .returned (.tuple #[.bool true, .nilIface]) ∧ Below wx.heap.size wx w')) :
    Calls Tryd.prog 5 #[.agg #[.string ⟨xl.toArray⟩, .string ⟨xs.toArray⟩, .string ⟨xr.toArray⟩, .slice xa xn xc], .agg #[.string ⟨yl.toArray⟩, .string ⟨ys.toArray⟩, .string ⟨yr.toArray⟩, .slice ya yn yc], .agg #[.string ⟨zl.toArray⟩, .string ⟨zs.toArray⟩, .string ⟨zr.toArray⟩, .slice za zn zc]] w fun e w' => e = .returned (.bool true) ∧ Below w.heap.size w w' := by
  go_enter Tryd.func5, Tryd.ntmps5
  go_wp2_with fail
  refine (tagged_any _ (hT.below (by repeat (first | exact (Below.refl _ _) | refine blw_drewN ?_ _ | refine Below.setCell ?_ (by first | (simp; done) | omega | (simp; omega)) _ | refine Below.alloc ?_ (by first | (simp; done) | omega | (simp; omega)) _)))).mono ?_
  rintro e w1 ⟨rfl, hb⟩
  have W1 := Lib.hid (blw_trans (show Below w.heap.size w _ by repeat (first | exact (Below.refl _ _) | refine blw_drewN ?_ _ | refine Below.setCell ?_ (by first | (simp; done) | omega | (simp; omega)) _ | refine Below.alloc ?_ (by first | (simp; done) | omega | (simp; omega)) _)) hb)
  have n1 := hb.size
  try simp at n1
  have k1_x0 := cell_keep (a := ⟨w.heap.size, 0, none⟩) (v := .string ⟨xl.toArray⟩) (by first | (go_keep; done) | (simp [go_sem, *]; done)) hb
  have k1_x1 := cell_keep (a := ⟨w.heap.size, 1, none⟩) (v := .string ⟨xs.toArray⟩) (by first | (go_keep; done) | (simp [go_sem, *]; done)) hb
  have k1_x2 := cell_keep (a := ⟨w.heap.size, 2, none⟩) (v := .string ⟨xr.toArray⟩) (by first | (go_keep; done) | (simp [go_sem, *]; done)) hb
  have k1_x3 := cell_keep (a := ⟨w.heap.size, 3, none⟩) (v := .slice xa xn xc) (by first | (go_keep; done) | (simp [go_sem, *]; done)) hb
  have l1_x := World.block_lt_of_cell? _ _ k1_x0
  try simp only at l1_x
  have k1_y0 := cell_keep (a := ⟨w.heap.size + 1, 0, none⟩) (v := .string ⟨yl.toArray⟩) (by first | (go_keep; done) | (simp [go_sem, *]; done)) hb
  have k1_y1 := cell_keep (a := ⟨w.heap.size + 1, 1, none⟩) (v := .string ⟨ys.toArray⟩) (by first | (go_keep; done) | (simp [go_sem, *]; done)) hb
  have k1_y2 := cell_keep (a := ⟨w.heap.size + 1, 2, none⟩) (v := .string ⟨yr.toArray⟩) (by first | (go_keep; done) | (simp [go_sem, *]; done)) hb
  have k1_y3 := cell_keep (a := ⟨w.heap.size + 1, 3, none⟩) (v := .slice ya yn yc) (by first | (go_keep; done) | (simp [go_sem, *]; done)) hb
  have l1_y := World.block_lt_of_cell? _ _ k1_y0
  try simp only at l1_y
  have k1_z0 := cell_keep (a := ⟨w.heap.size + 1 + 1, 0, none⟩) (v := .string ⟨zl.toArray⟩) (by first | (go_keep; done) | (simp [go_sem, *]; done)) hb
  have k1_z1 := cell_keep (a := ⟨w.heap.size + 1 + 1, 1, none⟩) (v := .string ⟨zs.toArray⟩) (by first | (go_keep; done) | (simp [go_sem, *]; done)) hb
  have k1_z2 := cell_keep (a := ⟨w.heap.size + 1 + 1, 2, none⟩) (v := .string ⟨zr.toArray⟩) (by first | (go_keep; done) | (simp [go_sem, *]; done)) hb
  have k1_z3 := cell_keep (a := ⟨w.heap.size + 1 + 1, 3, none⟩) (v := .slice za zn zc) (by first | (go_keep; done) | (simp [go_sem, *]; done)) hb
  have l1_z := World.block_lt_of_cell? _ _ k1_z0
  try simp only at l1_z
  clear hb
  go_wp2_with fail
  refine (C1.out _ (by repeat (first | exact W1.out | refine blw_drewN ?_ _ | refine Below.setCell ?_ (by first | (simp; done) | omega | (simp; omega)) _ | refine Below.alloc ?_ (by first | (simp; done) | omega | (simp; omega)) _))).mono ?_
  rintro e w2 ⟨rfl, hb⟩
  have W2 := Lib.hid (blw_trans (show Below w.heap.size w _ by repeat (first | exact W1.out | refine blw_drewN ?_ _ | refine Below.setCell ?_ (by first | (simp; done) | omega | (simp; omega)) _ | refine Below.alloc ?_ (by first | (simp; done) | omega | (simp; omega)) _)) hb)
  have n2 := hb.size
  try simp at n2
  have k2_x0 := cell_keep (a := ⟨w.heap.size, 0, none⟩) (v := .string ⟨xl.toArray⟩) (by first | (go_keep; done) | (simp [go_sem, *]; done)) hb
  have k2_x1 := cell_keep (a := ⟨w.heap.size, 1, none⟩) (v := .string ⟨xs.toArray⟩) (by first | (go_keep; done) | (simp [go_sem, *]; done)) hb
  have k2_x2 := cell_keep (a := ⟨w.heap.size, 2, none⟩) (v := .string ⟨xr.toArray⟩) (by first | (go_keep; done) | (simp [go_sem, *]; done)) hb
  have k2_x3 := cell_keep (a := ⟨w.heap.size, 3, none⟩) (v := .slice xa xn xc) (by first | (go_keep; done) | (simp [go_sem, *]; done)) hb
  have l2_x := World.block_lt_of_cell? _ _ k2_x0
  try simp only at l2_x
  have k2_y0 := cell_keep (a := ⟨w.heap.size + 1, 0, none⟩) (v := .string ⟨yl.toArray⟩) (by first | (go_keep; done) | (simp [go_sem, *]; done)) hb
  have k2_y1 := cell_keep (a := ⟨w.heap.size + 1, 1, none⟩) (v := .string ⟨ys.toArray⟩) (by first | (go_keep; done) | (simp [go_sem, *]; done)) hb
  have k2_y2 := cell_keep (a := ⟨w.heap.size + 1, 2, none⟩) (v := .string ⟨yr.toArray⟩) (by first | (go_keep; done) | (simp [go_sem, *]; done)) hb
  have k2_y3 := cell_keep (a := ⟨w.heap.size + 1, 3, none⟩) (v := .slice ya yn yc) (by first | (go_keep; done) | (simp [go_sem, *]; done)) hb
  have l2_y := World.block_lt_of_cell? _ _ k2_y0
  try simp only at l2_y
  have k2_z0 := cell_keep (a := ⟨w.heap.size + 1 + 1, 0, none⟩) (v := .string ⟨zl.toArray⟩) (by first | (go_keep; done) | (simp [go_sem, *]; done)) hb
  have k2_z1 := cell_keep (a := ⟨w.heap.size + 1 + 1, 1, none⟩) (v := .string ⟨zs.toArray⟩) (by first | (go_keep; done) | (simp [go_sem, *]; done)) hb
  have k2_z2 := cell_keep (a := ⟨w.heap.size + 1 + 1, 2, none⟩) (v := .string ⟨zr.toArray⟩) (by first | (go_keep; done) | (simp [go_sem, *]; done)) hb
  have k2_z3 := cell_keep (a := ⟨w.heap.size + 1 + 1, 3, none⟩) (v := .slice za zn zc) (by first | (go_keep; done) | (simp [go_sem, *]; done)) hb
  have l2_z := World.block_lt_of_cell? _ _ k2_z0
  try simp only at l2_z
  clear hb k1_x0 k1_x1 k1_x2 k1_x3 l1_x k1_y0 k1_y1 k1_y2 k1_y3 l1_y k1_z0 k1_z1 k1_z2 k1_z3 l1_z W1
  go_wp2_with fail
  refine (C2.out _ (by repeat (first | exact W2.out | refine blw_drewN ?_ _ | refine Below.setCell ?_ (by first | (simp; done) | omega | (simp; omega)) _ | refine Below.alloc ?_ (by first | (simp; done) | omega | (simp; omega)) _))).mono ?_
  rintro e w3 ⟨rfl, hb⟩
  have W3 := Lib.hid (blw_trans (show Below w.heap.size w _ by repeat (first | exact W2.out | refine blw_drewN ?_ _ | refine Below.setCell ?_ (by first | (simp; done) | omega | (simp; omega)) _ | refine Below.alloc ?_ (by first | (simp; done) | omega | (simp; omega)) _)) hb)
  have n3 := hb.size
  try simp at n3
  have k3_x0 := cell_keep (a := ⟨w.heap.size, 0, none⟩) (v := .string ⟨xl.toArray⟩) (by first | (go_keep; done) | (simp [go_sem, *]; done)) hb
  have k3_x1 := cell_keep (a := ⟨w.heap.size, 1, none⟩) (v := .string ⟨xs.toArray⟩) (by first | (go_keep; done) | (simp [go_sem, *]; done)) hb
  have k3_x2 := cell_keep (a := ⟨w.heap.size, 2, none⟩) (v := .string ⟨xr.toArray⟩) (by first | (go_keep; done) | (simp [go_sem, *]; done)) hb
  have k3_x3 := cell_keep (a := ⟨w.heap.size, 3, none⟩) (v := .slice xa xn xc) (by first | (go_keep; done) | (simp [go_sem, *]; done)) hb
  have l3_x := World.block_lt_of_cell? _ _ k3_x0
  try simp only at l3_x
  have k3_y0 := cell_keep (a := ⟨w.heap.size + 1, 0, none⟩) (v := .string ⟨yl.toArray⟩) (by first | (go_keep; done) | (simp [go_sem, *]; done)) hb
  have k3_y1 := cell_keep (a := ⟨w.heap.size + 1, 1, none⟩) (v := .string ⟨ys.toArray⟩) (by first | (go_keep; done) | (simp [go_sem, *]; done)) hb
  have k3_y2 := cell_keep (a := ⟨w.heap.size + 1, 2, none⟩) (v := .string ⟨yr.toArray⟩) (by first | (go_keep; done) | (simp [go_sem, *]; done)) hb
  have k3_y3 := cell_keep (a := ⟨w.heap.size + 1, 3, none⟩) (v := .slice ya yn yc) (by first | (go_keep; done) | (simp [go_sem, *]; done)) hb
  have l3_y := World.block_lt_of_cell? _ _ k3_y0
  try simp only at l3_y
  have k3_z0 := cell_keep (a := ⟨w.heap.size + 1 + 1, 0, none⟩) (v := .string ⟨zl.toArray⟩) (by first | (go_keep; done) | (simp [go_sem, *]; done)) hb
  have k3_z1 := cell_keep (a := ⟨w.heap.size + 1 + 1, 1, none⟩) (v := .string ⟨zs.toArray⟩) (by first | (go_keep; done) | (simp [go_sem, *]; done)) hb
  have k3_z2 := cell_keep (a := ⟨w.heap.size + 1 + 1, 2, none⟩) (v := .string ⟨zr.toArray⟩) (by first | (go_keep; done) | (simp [go_sem, *]; done)) hb
  have k3_z3 := cell_keep (a := ⟨w.heap.size + 1 + 1, 3, none⟩) (v := .slice za zn zc) (by first | (go_keep; done) | (simp [go_sem, *]; done)) hb
  have l3_z := World.block_lt_of_cell? _ _ k3_z0
  try simp only at l3_z
  clear hb k2_x0 k2_x1 k2_x2 k2_x3 l2_x k2_y0 k2_y1 k2_y2 k2_y3 l2_y k2_z0 k2_z1 k2_z2 k2_z3 l2_z W2
  go_wp2_with fail
  refine (C3.out _ (by repeat (first | exact W3.out | refine blw_drewN ?_ _ | refine Below.setCell ?_ (by first | (simp; done) | omega | (simp; omega)) _ | refine Below.alloc ?_ (by first | (simp; done) | omega | (simp; omega)) _))).mono ?_
  rintro e w4 ⟨rfl, hb⟩
  have W4 := Lib.hid (blw_trans (show Below w.heap.size w _ by repeat (first | exact W3.out | refine blw_drewN ?_ _ | refine Below.setCell ?_ (by first | (simp; done) | omega | (simp; omega)) _ | refine Below.alloc ?_ (by first | (simp; done) | omega | (simp; omega)) _)) hb)
  have n4 := hb.size
  try simp at n4
  have k4_x0 := cell_keep (a := ⟨w.heap.size, 0, none⟩) (v := .string ⟨xl.toArray⟩) (by first | (go_keep; done) | (simp [go_sem, *]; done)) hb
  have k4_x1 := cell_keep (a := ⟨w.heap.size, 1, none⟩) (v := .string ⟨xs.toArray⟩) (by first | (go_keep; done) | (simp [go_sem, *]; done)) hb
  have k4_x2 := cell_keep (a := ⟨w.heap.size, 2, none⟩) (v := .string ⟨xr.toArray⟩) (by first | (go_keep; done) | (simp [go_sem, *]; done)) hb
  have k4_x3 := cell_keep (a := ⟨w.heap.size, 3, none⟩) (v := .slice xa xn xc) (by first | (go_keep; done) | (simp [go_sem, *]; done)) hb
  have l4_x := World.block_lt_of_cell? _ _ k4_x0
  try simp only at l4_x
  have k4_y0 := cell_keep (a := ⟨w.heap.size + 1, 0, none⟩) (v := .string ⟨yl.toArray⟩) (by first | (go_keep; done) | (simp [go_sem, *]; done)) hb
  have k4_y1 := cell_keep (a := ⟨w.heap.size + 1, 1, none⟩) (v := .string ⟨ys.toArray⟩) (by first | (go_keep; done) | (simp [go_sem, *]; done)) hb
  have k4_y2 := cell_keep (a := ⟨w.heap.size + 1, 2, none⟩) (v := .string ⟨yr.toArray⟩) (by first | (go_keep; done) | (simp [go_sem, *]; done)) hb
  have k4_y3 := cell_keep (a := ⟨w.heap.size + 1, 3, none⟩) (v := .slice ya yn yc) (by first | (go_keep; done) | (simp [go_sem, *]; done)) hb
  have l4_y := World.block_lt_of_cell? _ _ k4_y0
  try simp only at l4_y
  have k4_z0 := cell_keep (a := ⟨w.heap.size + 1 + 1, 0, none⟩) (v := .string ⟨zl.toArray⟩) (by first | (go_keep; done) | (simp [go_sem, *]; done)) hb
  have k4_z1 := cell_keep (a := ⟨w.heap.size + 1 + 1, 1, none⟩) (v := .string ⟨zs.toArray⟩) (by first | (go_keep; done) | (simp [go_sem, *]; done)) hb
  have k4_z2 := cell_keep (a := ⟨w.heap.size + 1 + 1, 2, none⟩) (v := .string ⟨zr.toArray⟩) (by first | (go_keep; done) | (simp [go_sem, *]; done)) hb
  have k4_z3 := cell_keep (a := ⟨w.heap.size + 1 + 1, 3, none⟩) (v := .slice za zn zc) (by first | (go_keep; done) | (simp [go_sem, *]; done)) hb
  have l4_z := World.block_lt_of_cell? _ _ k4_z0
  try simp only at l4_z
  clear hb k3_x0 k3_x1 k3_x2 k3_x3 l3_x k3_y0 k3_y1 k3_y2 k3_y3 l3_y k3_z0 k3_z1 k3_z2 k3_z3 l3_z W3
  go_wp2_with fail
  refine (C4.out _ (by repeat (first | exact W4.out | refine blw_drewN ?_ _ | refine Below.setCell ?_ (by first | (simp; done) | omega | (simp; omega)) _ | refine Below.alloc ?_ (by first | (simp; done) | omega | (simp; omega)) _))).mono ?_
  rintro e w5 ⟨rfl, hb⟩
  have W5 := Lib.hid (blw_trans (show Below w.heap.size w _ by repeat (first | exact W4.out | refine blw_drewN ?_ _ | refine Below.setCell ?_ (by first | (simp; done) | omega | (simp; omega)) _ | refine Below.alloc ?_ (by first | (simp; done) | omega | (simp; omega)) _)) hb)
  have n5 := hb.size
  try simp at n5
  have k5_x0 := cell_keep (a := ⟨w.heap.size, 0, none⟩) (v := .string ⟨xl.toArray⟩) (by first | (go_keep; done) | (simp [go_sem, *]; done)) hb
  have k5_x1 := cell_keep (a := ⟨w.heap.size, 1, none⟩) (v := .string ⟨xs.toArray⟩) (by first | (go_keep; done) | (simp [go_sem, *]; done)) hb
  have k5_x2 := cell_keep (a := ⟨w.heap.size, 2, none⟩) (v := .string ⟨xr.toArray⟩) (by first | (go_keep; done) | (simp [go_sem, *]; done)) hb
  have k5_x3 := cell_keep (a := ⟨w.heap.size, 3, none⟩) (v := .slice xa xn xc) (by first | (go_keep; done) | (simp [go_sem, *]; done)) hb
  have l5_x := World.block_lt_of_cell? _ _ k5_x0
  try simp only at l5_x
  have k5_y0 := cell_keep (a := ⟨w.heap.size + 1, 0, none⟩) (v := .string ⟨yl.toArray⟩) (by first | (go_keep; done) | (simp [go_sem, *]; done)) hb
  have k5_y1 := cell_keep (a := ⟨w.heap.size + 1, 1, none⟩) (v := .string ⟨ys.toArray⟩) (by first | (go_keep; done) | (simp [go_sem, *]; done)) hb
  have k5_y2 := cell_keep (a := ⟨w.heap.size + 1, 2, none⟩) (v := .string ⟨yr.toArray⟩) (by first | (go_keep; done) | (simp [go_sem, *]; done)) hb
  have k5_y3 := cell_keep (a := ⟨w.heap.size + 1, 3, none⟩) (v := .slice ya yn yc) (by first | (go_keep; done) | (simp [go_sem, *]; done)) hb
  have l5_y := World.block_lt_of_cell? _ _ k5_y0
  try simp only at l5_y
  clear hb k4_x0 k4_x1 k4_x2 k4_x3 l4_x k4_y0 k4_y1 k4_y2 k4_y3 l4_y k4_z0 k4_z1 k4_z2 k4_z3 l4_z W4
  go_wp2_with fail
  refine (C5.out _ (by repeat (first | exact W5.out | refine blw_drewN ?_ _ | refine Below.setCell ?_ (by first | (simp; done) | omega | (simp; omega)) _ | refine Below.alloc ?_ (by first | (simp; done) | omega | (simp; omega)) _))).mono ?_
  rintro e w6 ⟨rfl, hb⟩
  have W6 := Lib.hid (blw_trans (show Below w.heap.size w _ by repeat (first | exact W5.out | refine blw_drewN ?_ _ | refine Below.setCell ?_ (by first | (simp; done) | omega | (simp; omega)) _ | refine Below.alloc ?_ (by first | (simp; done) | omega | (simp; omega)) _)) hb)
  have n6 := hb.size
  try simp at n6
  have k6_x0 := cell_keep (a := ⟨w.heap.size, 0, none⟩) (v := .string ⟨xl.toArray⟩) (by first | (go_keep; done) | (simp [go_sem, *]; done)) hb
  have k6_x1 := cell_keep (a := ⟨w.heap.size, 1, none⟩) (v := .string ⟨xs.toArray⟩) (by first | (go_keep; done) | (simp [go_sem, *]; done)) hb
  have k6_x2 := cell_keep (a := ⟨w.heap.size, 2, none⟩) (v := .string ⟨xr.toArray⟩) (by first | (go_keep; done) | (simp [go_sem, *]; done)) hb
  have k6_x3 := cell_keep (a := ⟨w.heap.size, 3, none⟩) (v := .slice xa xn xc) (by first | (go_keep; done) | (simp [go_sem, *]; done)) hb
  have l6_x := World.block_lt_of_cell? _ _ k6_x0
  try simp only at l6_x
  have k6_y0 := cell_keep (a := ⟨w.heap.size + 1, 0, none⟩) (v := .string ⟨yl.toArray⟩) (by first | (go_keep; done) | (simp [go_sem, *]; done)) hb
  have k6_y1 := cell_keep (a := ⟨w.heap.size + 1, 1, none⟩) (v := .string ⟨ys.toArray⟩) (by first | (go_keep; done) | (simp [go_sem, *]; done)) hb
  have k6_y2 := cell_keep (a := ⟨w.heap.size + 1, 2, none⟩) (v := .string ⟨yr.toArray⟩) (by first | (go_keep; done) | (simp [go_sem, *]; done)) hb
  have k6_y3 := cell_keep (a := ⟨w.heap.size + 1, 3, none⟩) (v := .slice ya yn yc) (by first | (go_keep; done) | (simp [go_sem, *]; done)) hb
  have l6_y := World.block_lt_of_cell? _ _ k6_y0
  try simp only at l6_y
  clear hb k5_x0 k5_x1 k5_x2 k5_x3 l5_x k5_y0 k5_y1 k5_y2 k5_y3 l5_y W5
  go_wp2_with fail
  refine wp_region_held_drew (S := fun w' => w'.cell? ⟨w.heap.size, 0, none⟩ = some (.string ⟨xl.toArray⟩) ∧ w'.cell? ⟨w.heap.size, 1, none⟩ = some (.string ⟨xs.toArray⟩) ∧ w'.cell? ⟨w.heap.size, 2, none⟩ = some (.string ⟨xr.toArray⟩) ∧ w'.cell? ⟨w.heap.size, 3, none⟩ = some (.slice xa xn xc) ∧ w'.cell? ⟨w.heap.size + 1, 0, none⟩ = some (.string ⟨yl.toArray⟩) ∧ w'.cell? ⟨w.heap.size + 1, 1, none⟩ = some (.string ⟨ys.toArray⟩) ∧ w'.cell? ⟨w.heap.size + 1, 2, none⟩ = some (.string ⟨yr.toArray⟩) ∧ w'.cell? ⟨w.heap.size + 1, 3, none⟩ = some (.slice ya yn yc) ∧ Hid (Below w.heap.size w w')) (by kernel_rfl) (by exact ⟨by go_keep, by go_keep, by go_keep, by go_keep, by go_keep, by go_keep, by go_keep, by go_keep, Lib.hid (Below.drew (by repeat (first | exact W6.out | refine blw_drewN ?_ _ | refine Below.setCell ?_ (by first | (simp; done) | omega | (simp; omega)) _ | refine Below.alloc ?_ (by first | (simp; done) | omega | (simp; omega)) _)))⟩) (fun hHeld => ?_)
  refine take_run (d := (some 69)) (v := ?v29) 0 rfl rfl (by kernel_rfl) (by kernel_rfl) (by kernel_rfl) (fun _ _ _ h => h) (by rfl) hHeld ?hy29 ?rs29
  case hy29 => (intro w hSw; (try dsimp only at hSw); go_simp) <;> (try with_reducible rfl)
  (try simp only [Act.put, List.setIfInBounds_toArray, List.set_cons_zero, List.set_cons_succ])
  refine take_run (d := (some 70)) (v := ?v30) 1 rfl rfl (by kernel_rfl) (by kernel_rfl) (by kernel_rfl) (fun _ _ _ h => h) (by rfl) hHeld ?hy30 ?rs30
  case hy30 => (intro w hSw; (try dsimp only at hSw); go_simp) <;> (try with_reducible rfl)
  (try simp only [Act.put, List.setIfInBounds_toArray, List.set_cons_zero, List.set_cons_succ])
  refine take_run (d := (some 71)) (v := ?v31) 2 rfl rfl (by kernel_rfl) (by kernel_rfl) (by kernel_rfl) (fun _ _ _ h => h) (by rfl) hHeld ?hy31 ?rs31
  case hy31 => (intro w hSw; (try dsimp only at hSw); go_simp) <;> (try with_reducible rfl)
  (try simp only [Act.put, List.setIfInBounds_toArray, List.set_cons_zero, List.set_cons_succ])
  refine take_run (d := (some 72)) (v := ?v32) 3 rfl rfl (by kernel_rfl) (by kernel_rfl) (by kernel_rfl) (fun _ _ _ h => h) (by rfl) hHeld ?hy32 ?rs32
  case hy32 => (intro w hSw; (try dsimp only at hSw); go_simp) <;> (try with_reducible rfl)
  (try simp only [Act.put, List.setIfInBounds_toArray, List.set_cons_zero, List.set_cons_succ])
  refine take_run (d := (some 73)) (v := ?v33) 4 rfl rfl (by kernel_rfl) (by kernel_rfl) (by kernel_rfl) (fun _ _ _ h => h) (by rfl) hHeld ?hy33 ?rs33
  case hy33 => (intro w hSw; (try dsimp only at hSw); go_simp) <;> (try with_reducible rfl)
  (try simp only [Act.put, List.setIfInBounds_toArray, List.set_cons_zero, List.set_cons_succ])
  refine take_run (d := (some 74)) (v := ?v34) 5 rfl rfl (by kernel_rfl) (by kernel_rfl) (by kernel_rfl) (fun _ _ _ h => h) (by rfl) hHeld ?hy34 ?rs34
  case hy34 => (intro w hSw; (try dsimp only at hSw); go_simp) <;> (try with_reducible rfl)
  (try simp only [Act.put, List.setIfInBounds_toArray, List.set_cons_zero, List.set_cons_succ])
  refine take_run (d := (some 75)) (v := ?v35) 6 rfl rfl (by kernel_rfl) (by kernel_rfl) (by kernel_rfl) (fun _ _ _ h => h) (by rfl) hHeld ?hy35 ?rs35
  case hy35 => (intro w hSw; (try dsimp only at hSw); go_simp) <;> (try with_reducible rfl)
  (try simp only [Act.put, List.setIfInBounds_toArray, List.set_cons_zero, List.set_cons_succ])
  refine take_run (d := (some 76)) (v := ?v36) 7 rfl rfl (by kernel_rfl) (by kernel_rfl) (by kernel_rfl) (fun _ _ _ h => h) (by rfl) hHeld ?hy36 ?rs36
  case hy36 => (intro w hSw; (try dsimp only at hSw); go_simp) <;> (try with_reducible rfl)
  (try simp only [Act.put, List.setIfInBounds_toArray, List.set_cons_zero, List.set_cons_succ])
  refine take_run (d := (some 77)) (v := ?v37) 8 rfl rfl (by kernel_rfl) (by kernel_rfl) (by kernel_rfl) (fun _ _ _ h => h) (by rfl) hHeld ?hy37 ?rs37
  case hy37 => (intro w hSw; (try dsimp only at hSw); go_simp) <;> (try with_reducible rfl)
  (try simp only [Act.put, List.setIfInBounds_toArray, List.set_cons_zero, List.set_cons_succ])
  refine take_run (d := (some 78)) (v := ?v38) 9 rfl rfl (by kernel_rfl) (by kernel_rfl) (by kernel_rfl) (fun _ _ _ h => h) (by rfl) hHeld ?hy38 ?rs38
  case hy38 => (intro w hSw; (try dsimp only at hSw); go_simp) <;> (try with_reducible rfl)
  (try simp only [Act.put, List.setIfInBounds_toArray, List.set_cons_zero, List.set_cons_succ])
  refine take_run (d := (some 79)) (v := ?v39) 10 rfl rfl (by kernel_rfl) (by kernel_rfl) (by kernel_rfl) (fun _ _ _ h => h) (by rfl) hHeld ?hy39 ?rs39
  case hy39 => (intro w hSw; (try dsimp only at hSw); go_simp) <;> (try with_reducible rfl)
  (try simp only [Act.put, List.setIfInBounds_toArray, List.set_cons_zero, List.set_cons_succ])
  refine take_run (d := (some 80)) (v := ?v40) 11 rfl rfl (by kernel_rfl) (by kernel_rfl) (by kernel_rfl) (fun _ _ _ h => h) (by rfl) hHeld ?hy40 ?rs40
  case hy40 => (intro w hSw; (try dsimp only at hSw); go_simp) <;> (try with_reducible rfl)
  (try simp only [Act.put, List.setIfInBounds_toArray, List.set_cons_zero, List.set_cons_succ])
  refine take_run (d := (some 81)) (v := ?v41) 12 rfl rfl (by kernel_rfl) (by kernel_rfl) (by kernel_rfl) (fun _ _ _ h => h) (by rfl) hHeld ?hy41 ?rs41
  case hy41 => (intro w hSw; (try dsimp only at hSw); go_simp) <;> (try with_reducible rfl)
  (try simp only [Act.put, List.setIfInBounds_toArray, List.set_cons_zero, List.set_cons_succ])
  refine take_run (d := (some 82)) (v := ?v42) 13 rfl rfl (by kernel_rfl) (by kernel_rfl) (by kernel_rfl) (fun _ _ _ h => h) (by rfl) hHeld ?hy42 ?rs42
  case hy42 => (intro w hSw; (try dsimp only at hSw); go_simp) <;> (try with_reducible rfl)
  (try simp only [Act.put, List.setIfInBounds_toArray, List.set_cons_zero, List.set_cons_succ])
  refine take_run (d := (some 83)) (v := ?v43) 14 rfl rfl (by kernel_rfl) (by kernel_rfl) (by kernel_rfl) (fun _ _ _ h => h) (by rfl) hHeld ?hy43 ?rs43
  case hy43 => (intro w hSw; (try dsimp only at hSw); go_simp) <;> (try with_reducible rfl)
  (try simp only [Act.put, List.setIfInBounds_toArray, List.set_cons_zero, List.set_cons_succ])
  refine take_run (d := (some 84)) (v := ?v44) 15 rfl rfl (by kernel_rfl) (by kernel_rfl) (by kernel_rfl) (fun _ _ _ h => h) (by rfl) hHeld ?hy44 ?rs44
  case hy44 => (intro w hSw; (try dsimp only at hSw); go_simp) <;> (try with_reducible rfl)
  (try simp only [Act.put, List.setIfInBounds_toArray, List.set_cons_zero, List.set_cons_succ])
  refine take_run (d := (some 85)) (v := ?v45) 16 rfl rfl (by kernel_rfl) (by kernel_rfl) (by kernel_rfl) (fun _ _ _ h => h) (by rfl) hHeld ?hy45 ?rs45
  case hy45 => (intro w hSw; (try dsimp only at hSw); go_simp) <;> (try with_reducible rfl)
  (try simp only [Act.put, List.setIfInBounds_toArray, List.set_cons_zero, List.set_cons_succ])
  refine take_run (d := (some 86)) (v := ?v46) 17 rfl rfl (by kernel_rfl) (by kernel_rfl) (by kernel_rfl) (fun _ _ _ h => h) (by rfl) hHeld ?hy46 ?rs46
  case hy46 => (intro w hSw; (try dsimp only at hSw); go_simp) <;> (try with_reducible rfl)
  (try simp only [Act.put, List.setIfInBounds_toArray, List.set_cons_zero, List.set_cons_succ])
  refine take_run (d := (some 87)) (v := ?v47) 18 rfl rfl (by kernel_rfl) (by kernel_rfl) (by kernel_rfl) (fun _ _ _ h => h) (by rfl) hHeld ?hy47 ?rs47
  case hy47 => (intro w hSw; (try dsimp only at hSw); go_simp) <;> (try with_reducible rfl)
  (try simp only [Act.put, List.setIfInBounds_toArray, List.set_cons_zero, List.set_cons_succ])
  refine take_run (d := (some 88)) (v := ?v48) 19 rfl rfl (by kernel_rfl) (by kernel_rfl) (by kernel_rfl) (fun _ _ _ h => h) (by rfl) hHeld ?hy48 ?rs48
  case hy48 => (intro w hSw; (try dsimp only at hSw); go_simp) <;> (try with_reducible rfl)
  (try simp only [Act.put, List.setIfInBounds_toArray, List.set_cons_zero, List.set_cons_succ])
  refine take_run (d := (some 89)) (v := ?v49) 20 rfl rfl (by kernel_rfl) (by kernel_rfl) (by kernel_rfl) (fun _ _ _ h => h) (by rfl) hHeld ?hy49 ?rs49
  case hy49 => (intro w hSw; (try dsimp only at hSw); go_simp) <;> (try with_reducible rfl)
  (try simp only [Act.put, List.setIfInBounds_toArray, List.set_cons_zero, List.set_cons_succ])
  refine take_run (d := (some 91)) (v := ?v50) 22 rfl rfl (by kernel_rfl) (by kernel_rfl) (by kernel_rfl) (fun _ _ _ h => h) (by rfl) hHeld ?hy50 ?rs50
  case hy50 => (intro w hSw; (try dsimp only at hSw); go_simp) <;> (try with_reducible rfl)
  (try simp only [Act.put, List.setIfInBounds_toArray, List.set_cons_zero, List.set_cons_succ])
  refine take_call 21 rfl (by kernel_rfl) (by rfl) (fun K hK => ?_)
  go_simp
  refine (CA.out _ (by obtain ⟨_, _, _, _, _, _, _, _, h1⟩ := hHeld; exact h1.out)).mono ?_
  rintro e w' ⟨rfl, hb⟩
  refine hK.out _ _ (by obtain ⟨h0, h1, h2, h3, h4, h5, h6, h7, hw⟩ := hHeld; exact ⟨cell_keep h0 hb, cell_keep h1 hb, cell_keep h2 hb, cell_keep h3 hb, cell_keep h4 hb, cell_keep h5 hb, cell_keep h6 hb, cell_keep h7 hb, Lib.hid (blw_trans hw.out hb)⟩) (fun hHeld => ?_)
  clear hK K
  (try simp only [Act.put, List.setIfInBounds_toArray, List.set_cons_zero, List.set_cons_succ])
  refine take_call 23 rfl (by kernel_rfl) (by rfl) (fun K hK => ?_)
  go_simp
  refine (CB.out _ (by obtain ⟨_, _, _, _, _, _, _, _, h1⟩ := hHeld; exact h1.out)).mono ?_
  rintro e w' ⟨rfl, hb⟩
  refine hK.out _ _ (by obtain ⟨h0, h1, h2, h3, h4, h5, h6, h7, hw⟩ := hHeld; exact ⟨cell_keep h0 hb, cell_keep h1 hb, cell_keep h2 hb, cell_keep h3 hb, cell_keep h4 hb, cell_keep h5 hb, cell_keep h6 hb, cell_keep h7 hb, Lib.hid (blw_trans hw.out hb)⟩) (fun hHeld => ?_)
  clear hK K
  (try simp only [Act.put, List.setIfInBounds_toArray, List.set_cons_zero, List.set_cons_succ])
  refine take_run (d := (some 93)) (v := ?v53) 24 rfl rfl (by kernel_rfl) (by kernel_rfl) (by kernel_rfl) (fun _ _ _ h => h) (by rfl) hHeld ?hy53 ?rs53
  case hy53 => (intro w hSw; (try dsimp only at hSw); go_simp) <;> (try with_reducible rfl)
  (try simp only [Act.put, List.setIfInBounds_toArray, List.set_cons_zero, List.set_cons_succ])
  refine take_run (d := (some 94)) (v := ?v54) 25 rfl rfl (by kernel_rfl) (by kernel_rfl) (by kernel_rfl) (fun _ _ _ h => h) (by rfl) hHeld ?hy54 ?rs54
  case hy54 => (intro w hSw; (try dsimp only at hSw); go_simp) <;> (try with_reducible rfl)
  (try simp only [Act.put, List.setIfInBounds_toArray, List.set_cons_zero, List.set_cons_succ])
  refine take_run (d := (some 95)) (v := ?v55) 26 rfl rfl (by kernel_rfl) (by kernel_rfl) (by kernel_rfl) (fun _ _ _ h => h) (by rfl) hHeld ?hy55 ?rs55
  case hy55 => (intro w hSw; (try dsimp only at hSw); go_simp) <;> (try with_reducible rfl)
  (try simp only [Act.put, List.setIfInBounds_toArray, List.set_cons_zero, List.set_cons_succ])
  refine take_run (d := (some 6)) (v := ?v56) 27 rfl rfl (by kernel_rfl) (by kernel_rfl) (by kernel_rfl) (fun _ _ _ h => h) (by rfl) hHeld ?hy56 ?rs56
  case hy56 => (intro w hSw; (try dsimp only at hSw); go_simp) <;> (try with_reducible rfl)
  (try simp only [Act.put, List.setIfInBounds_toArray, List.set_cons_zero, List.set_cons_succ])
  refine wpAnyH_done (by kernel_rfl) ?_ _
  obtain ⟨z0, z1, z2, z3, z4, z5, z6, z7, zW⟩ := hHeld
  go_wp2
  go_ret
  exact ⟨ret_bool (by simp), zW.out⟩

set_option maxRecDepth 100000 in
set_option maxHeartbeats 2000000 in
theorem order_yyn (xl xs xr yl ys yr zl zs zr : List UInt8) (xa ya za : Option Addr) (xn xc yn yc zn zc : Nat) (w : World) (hT : MaxW w) 
    (C1 : Hid (∀ wx : World, Below w.heap.size w wx → Calls Tryd.prog 22 #[.agg #[.string ⟨xl.toArray⟩, .string ⟨xs.toArray⟩, .string ⟨xr.toArray⟩, .slice xa xn xc], .agg #[.string ⟨yl.toArray⟩, .string ⟨ys.toArray⟩, .string ⟨yr.toArray⟩, .slice ya yn yc]] wx fun e w' => e = .returned (.tuple #[.bool true, .nilIface]) ∧ Below wx.heap.size wx w'))
    (C2 : Hid (∀ wx : World, Below w.heap.size w wx → Calls Tryd.prog 22 #[.agg #[.string ⟨yl.toArray⟩, .string ⟨ys.toArray⟩, .string ⟨yr.toArray⟩, .slice ya yn yc], .agg #[.string ⟨zl.toArray⟩, .string ⟨zs.toArray⟩, .string ⟨zr.toArray⟩, .slice za zn zc]] wx fun e w' => e = .returned (.tuple #[.bool true, .nilIface]) ∧ Below wx.heap.size wx w'))
    (C3 : Hid (∀ wx : World, Below w.heap.size w wx → Calls Tryd.prog 22 #[.agg #[.string ⟨xl.toArray⟩, .string ⟨xs.toArray⟩, .string ⟨xr.toArray⟩, .slice xa xn xc], .agg #[.string ⟨zl.toArray⟩, .string ⟨zs.toArray⟩, .string ⟨zr.toArray⟩, .slice za zn zc]] wx fun e w' => e = .returned (.tuple #[.bool true, .nilIface]) ∧ Below wx.heap.size wx w'))
    (C4 : Hid (∀ wx : World, Below w.heap.size w wx → Calls Tryd.prog 22 #[.agg #[.string ⟨yl.toArray⟩, .string ⟨ys.toArray⟩, .string ⟨yr.toArray⟩, .slice ya yn yc], .agg #[.string ⟨xl.toArray⟩, .string ⟨xs.toArray⟩, .string ⟨xr.toArray⟩, .slice xa xn xc]] wx fun e w' => e = .returned (.tuple #[.bool false, .nilIface]) ∧ Below wx.heap.size wx w'))
    (C5 : Hid (∀ wx : World, Below w.heap.size w wx → Calls Tryd.prog 22 #[.agg #[.string ⟨xl.toArray⟩, .string ⟨xs.toArray⟩, .string ⟨xr.toArray⟩, .slice xa xn xc], .agg #[.string ⟨xl.toArray⟩, .string ⟨xs.toArray⟩, .string ⟨xr.toArray⟩, .slice xa xn xc]] wx fun e w' => e = .returned (.tuple #[.bool true, .nilIface]) ∧ Below wx.heap.size wx w')) :
    Calls Tryd.prog 5 #[.agg #[.string ⟨xl.toArray⟩, .string ⟨xs.toArray⟩, .string ⟨xr.toArray⟩, .slice xa xn xc], .agg #[.string ⟨yl.toArray⟩, .string ⟨ys.toArray⟩, .string ⟨yr.toArray⟩, .slice ya yn yc], .agg #[.string ⟨zl.toArray⟩, .string ⟨zs.toArray⟩, .string ⟨zr.toArray⟩, .slice za zn zc]] w fun e w' => e = .returned (.bool true) ∧ Below w.heap.size w w' := by
  go_enter Tryd.func5, Tryd.ntmps5
  go_wp2_with fail
  refine (tagged_any _ (hT.below (by repeat (first | exact (Below.refl _ _) | refine blw_drewN ?_ _ | refine Below.setCell ?_ (by first | (simp; done) | omega | (simp; omega)) _ | refine Below.alloc ?_ (by first | (simp; done) | omega | (simp; omega)) _)))).mono ?_
  rintro e w1 ⟨rfl, hb⟩
  have W1 := Lib.hid (blw_trans (show Below w.heap.size w _ by repeat (first | exact (Below.refl _ _) | refine blw_drewN ?_ _ | refine Below.setCell ?_ (by first | (simp; done) | omega | (simp; omega)) _ | refine Below.alloc ?_ (by first | (simp; done) | omega | (simp; omega)) _)) hb)
  have n1 := hb.size
  try simp at n1
  have k1_x0 := cell_keep (a := ⟨w.heap.size, 0, none⟩) (v := .string ⟨xl.toArray⟩) (by first | (go_keep; done) | (simp [go_sem, *]; done)) hb
  have k1_x1 := cell_keep (a := ⟨w.heap.size, 1, none⟩) (v := .string ⟨xs.toArray⟩) (by first | (go_keep; done) | (simp [go_sem, *]; done)) hb
  have k1_x2 := cell_keep (a := ⟨w.heap.size, 2, none⟩) (v := .string ⟨xr.toArray⟩) (by first | (go_keep; done) | (simp [go_sem, *]; done)) hb
  have k1_x3 := cell_keep (a := ⟨w.heap.size, 3, none⟩) (v := .slice xa xn xc) (by first | (go_keep; done) | (simp [go_sem, *]; done)) hb
  have l1_x := World.block_lt_of_cell? _ _ k1_x0
  try simp only at l1_x
  have k1_y0 := cell_keep (a := ⟨w.heap.size + 1, 0, none⟩) (v := .string ⟨yl.toArray⟩) (by first | (go_keep; done) | (simp [go_sem, *]; done)) hb
  have k1_y1 := cell_keep (a := ⟨w.heap.size + 1, 1, none⟩) (v := .string ⟨ys.toArray⟩) (by first | (go_keep; done) | (simp [go_sem, *]; done)) hb
  have k1_y2 := cell_keep (a := ⟨w.heap.size + 1, 2, none⟩) (v := .string ⟨yr.toArray⟩) (by first | (go_keep; done) | (simp [go_sem, *]; done)) hb
  have k1_y3 := cell_keep (a := ⟨w.heap.size + 1, 3, none⟩) (v := .slice ya yn yc) (by first | (go_keep; done) | (simp [go_sem, *]; done)) hb
  have l1_y := World.block_lt_of_cell? _ _ k1_y0
  try simp only at l1_y
  have k1_z0 := cell_keep (a := ⟨w.heap.size + 1 + 1, 0, none⟩) (v := .string ⟨zl.toArray⟩) (by first | (go_keep; done) | (simp [go_sem, *]; done)) hb
  have k1_z1 := cell_keep (a := ⟨w.heap.size + 1 + 1, 1, none⟩) (v := .string ⟨zs.toArray⟩) (by first | (go_keep; done) | (simp [go_sem, *]; done)) hb
  have k1_z2 := cell_keep (a := ⟨w.heap.size + 1 + 1, 2, none⟩) (v := .string ⟨zr.toArray⟩) (by first | (go_keep; done) | (simp [go_sem, *]; done)) hb
  have k1_z3 := cell_keep (a := ⟨w.heap.size + 1 + 1, 3, none⟩) (v := .slice za zn zc) (by first | (go_keep; done) | (simp [go_sem, *]; done)) hb
  have l1_z := World.block_lt_of_cell? _ _ k1_z0
  try simp only at l1_z
  clear hb
  go_wp2_with fail
  refine (C1.out _ (by repeat (first | exact W1.out | refine blw_drewN ?_ _ | refine Below.setCell ?_ (by first | (simp; done) | omega | (simp; omega)) _ | refine Below.alloc ?_ (by first | (simp; done) | omega | (simp; omega)) _))).mono ?_
  rintro e w2 ⟨rfl, hb⟩
  have W2 := Lib.hid (blw_trans (show Below w.heap.size w _ by repeat (first | exact W1.out | refine blw_drewN ?_ _ | refine Below.setCell ?_ (by first | (simp; done) | omega | (simp; omega)) _ | refine Below.alloc ?_ (by first | (simp; done) | omega | (simp; omega)) _)) hb)
  have n2 := hb.size
  try simp at n2
  have k2_x0 := cell_keep (a := ⟨w.heap.size, 0, none⟩) (v := .string ⟨xl.toArray⟩) (by first | (go_keep; done) | (simp [go_sem, *]; done)) hb
  have k2_x1 := cell_keep (a := ⟨w.heap.size, 1, none⟩) (v := .string ⟨xs.toArray⟩) (by first | (go_keep; done) | (simp [go_sem, *]; done)) hb
  have k2_x2 := cell_keep (a := ⟨w.heap.size, 2, none⟩) (v := .string ⟨xr.toArray⟩) (by first | (go_keep; done) | (simp [go_sem, *]; done)) hb
  have k2_x3 := cell_keep (a := ⟨w.heap.size, 3, none⟩) (v := .slice xa xn xc) (by first | (go_keep; done) | (simp [go_sem, *]; done)) hb
  have l2_x := World.block_lt_of_cell? _ _ k2_x0
  try simp only at l2_x
  have k2_y0 := cell_keep (a := ⟨w.heap.size + 1, 0, none⟩) (v := .string ⟨yl.toArray⟩) (by first | (go_keep; done) | (simp [go_sem, *]; done)) hb
  have k2_y1 := cell_keep (a := ⟨w.heap.size + 1, 1, none⟩) (v := .string ⟨ys.toArray⟩) (by first | (go_keep; done) | (simp [go_sem, *]; done)) hb
  have k2_y2 := cell_keep (a := ⟨w.heap.size + 1, 2, none⟩) (v := .string ⟨yr.toArray⟩) (by first | (go_keep; done) | (simp [go_sem, *]; done)) hb
  have k2_y3 := cell_keep (a := ⟨w.heap.size + 1, 3, none⟩) (v := .slice ya yn yc) (by first | (go_keep; done) | (simp [go_sem, *]; done)) hb
  have l2_y := World.block_lt_of_cell? _ _ k2_y0
  try simp only at l2_y
  have k2_z0 := cell_keep (a := ⟨w.heap.size + 1 + 1, 0, none⟩) (v := .string ⟨zl.toArray⟩) (by first | (go_keep; done) | (simp [go_sem, *]; done)) hb
  have k2_z1 := cell_keep (a := ⟨w.heap.size + 1 + 1, 1, none⟩) (v := .string ⟨zs.toArray⟩) (by first | (go_keep; done) | (simp [go_sem, *]; done)) hb
  have k2_z2 := cell_keep (a := ⟨w.heap.size + 1 + 1, 2, none⟩) (v := .string ⟨zr.toArray⟩) (by first | (go_keep; done) | (simp [go_sem, *]; done)) hb
  have k2_z3 := cell_keep (a := ⟨w.heap.size + 1 + 1, 3, none⟩) (v := .slice za zn zc) (by first | (go_keep; done) | (simp [go_sem, *]; done)) hb
  have l2_z := World.block_lt_of_cell? _ _ k2_z0
  try simp only at l2_z
  clear hb k1_x0 k1_x1 k1_x2 k1_x3 l1_x k1_y0 k1_y1 k1_y2 k1_y3 l1_y k1_z0 k1_z1 k1_z2 k1_z3 l1_z W1
  go_wp2_with fail
  refine (C2.out _ (by repeat (first | exact W2.out | refine blw_drewN ?_ _ | refine Below.setCell ?_ (by first | (simp; done) | omega | (simp; omega)) _ | refine Below.alloc ?_ (by first | (simp; done) | omega | (simp; omega)) _))).mono ?_
  rintro e w3 ⟨rfl, hb⟩
  have W3 := Lib.hid (blw_trans (show Below w.heap.size w _ by repeat (first | exact W2.out | refine blw_drewN ?_ _ | refine Below.setCell ?_ (by first | (simp; done) | omega | (simp; omega)) _ | refine Below.alloc ?_ (by first | (simp; done) | omega | (simp; omega)) _)) hb)
  have n3 := hb.size
  try simp at n3
  have k3_x0 := cell_keep (a := ⟨w.heap.size, 0, none⟩) (v := .string ⟨xl.toArray⟩) (by first | (go_keep; done) | (simp [go_sem, *]; done)) hb
  have k3_x1 := cell_keep (a := ⟨w.heap.size, 1, none⟩) (v := .string ⟨xs.toArray⟩) (by first | (go_keep; done) | (simp [go_sem, *]; done)) hb
  have k3_x2 := cell_keep (a := ⟨w.heap.size, 2, none⟩) (v := .string ⟨xr.toArray⟩) (by first | (go_keep; done) | (simp [go_sem, *]; done)) hb
  have k3_x3 := cell_keep (a := ⟨w.heap.size, 3, none⟩) (v := .slice xa xn xc) (by first | (go_keep; done) | (simp [go_sem, *]; done)) hb
  have l3_x := World.block_lt_of_cell? _ _ k3_x0
  try simp only at l3_x
  have k3_y0 := cell_keep (a := ⟨w.heap.size + 1, 0, none⟩) (v := .string ⟨yl.toArray⟩) (by first | (go_keep; done) | (simp [go_sem, *]; done)) hb
  have k3_y1 := cell_keep (a := ⟨w.heap.size + 1, 1, none⟩) (v := .string ⟨ys.toArray⟩) (by first | (go_keep; done) | (simp [go_sem, *]; done)) hb
  have k3_y2 := cell_keep (a := ⟨w.heap.size + 1, 2, none⟩) (v := .string ⟨yr.toArray⟩) (by first | (go_keep; done) | (simp [go_sem, *]; done)) hb
  have k3_y3 := cell_keep (a := ⟨w.heap.size + 1, 3, none⟩) (v := .slice ya yn yc) (by first | (go_keep; done) | (simp [go_sem, *]; done)) hb
  have l3_y := World.block_lt_of_cell? _ _ k3_y0
  try simp only at l3_y
  have k3_z0 := cell_keep (a := ⟨w.heap.size + 1 + 1, 0, none⟩) (v := .string ⟨zl.toArray⟩) (by first | (go_keep; done) | (simp [go_sem, *]; done)) hb
  have k3_z1 := cell_keep (a := ⟨w.heap.size + 1 + 1, 1, none⟩) (v := .string ⟨zs.toArray⟩) (by first | (go_keep; done) | (simp [go_sem, *]; done)) hb
  have k3_z2 := cell_keep (a := ⟨w.heap.size + 1 + 1, 2, none⟩) (v := .string ⟨zr.toArray⟩) (by first | (go_keep; done) | (simp [go_sem, *]; done)) hb
  have k3_z3 := cell_keep (a := ⟨w.heap.size + 1 + 1, 3, none⟩) (v := .slice za zn zc) (by first | (go_keep; done) | (simp [go_sem, *]; done)) hb
  have l3_z := World.block_lt_of_cell? _ _ k3_z0
  try simp only at l3_z
  clear hb k2_x0 k2_x1 k2_x2 k2_x3 l2_x k2_y0 k2_y1 k2_y2 k2_y3 l2_y k2_z0 k2_z1 k2_z2 k2_z3 l2_z W2
  go_wp2_with fail
  refine (C3.out _ (by repeat (first | exact W3.out | refine blw_drewN ?_ _ | refine Below.setCell ?_ (by first | (simp; done) | omega | (simp; omega)) _ | refine Below.alloc ?_ (by first | (simp; done) | omega | (simp; omega)) _))).mono ?_
  rintro e w4 ⟨rfl, hb⟩
  have W4 := Lib.hid (blw_trans (show Below w.heap.size w _ by repeat (first | exact W3.out | refine blw_drewN ?_ _ | refine Below.setCell ?_ (by first | (simp; done) | omega | (simp; omega)) _ | refine Below.alloc ?_ (by first | (simp; done) | omega | (simp; omega)) _)) hb)
  have n4 := hb.size
  try simp at n4
  have k4_x0 := cell_keep (a := ⟨w.heap.size, 0, none⟩) (v := .string ⟨xl.toArray⟩) (by first | (go_keep; done) | (simp [go_sem, *]; done)) hb
  have k4_x1 := cell_keep (a := ⟨w.heap.size, 1, none⟩) (v := .string ⟨xs.toArray⟩) (by first | (go_keep; done) | (simp [go_sem, *]; done)) hb
  have k4_x2 := cell_keep (a := ⟨w.heap.size, 2, none⟩) (v := .string ⟨xr.toArray⟩) (by first | (go_keep; done) | (simp [go_sem, *]; done)) hb
  have k4_x3 := cell_keep (a := ⟨w.heap.size, 3, none⟩) (v := .slice xa xn xc) (by first | (go_keep; done) | (simp [go_sem, *]; done)) hb
  have l4_x := World.block_lt_of_cell? _ _ k4_x0
  try simp only at l4_x
  have k4_y0 := cell_keep (a := ⟨w.heap.size + 1, 0, none⟩) (v := .string ⟨yl.toArray⟩) (by first | (go_keep; done) | (simp [go_sem, *]; done)) hb
  have k4_y1 := cell_keep (a := ⟨w.heap.size + 1, 1, none⟩) (v := .string ⟨ys.toArray⟩) (by first | (go_keep; done) | (simp [go_sem, *]; done)) hb
  have k4_y2 := cell_keep (a := ⟨w.heap.size + 1, 2, none⟩) (v := .string ⟨yr.toArray⟩) (by first | (go_keep; done) | (simp [go_sem, *]; done)) hb
  have k4_y3 := cell_keep (a := ⟨w.heap.size + 1, 3, none⟩) (v := .slice ya yn yc) (by first | (go_keep; done) | (simp [go_sem, *]; done)) hb
  have l4_y := World.block_lt_of_cell? _ _ k4_y0
  try simp only at l4_y
  have k4_z0 := cell_keep (a := ⟨w.heap.size + 1 + 1, 0, none⟩) (v := .string ⟨zl.toArray⟩) (by first | (go_keep; done) | (simp [go_sem, *]; done)) hb
  have k4_z1 := cell_keep (a := ⟨w.heap.size + 1 + 1, 1, none⟩) (v := .string ⟨zs.toArray⟩) (by first | (go_keep; done) | (simp [go_sem, *]; done)) hb
  have k4_z2 := cell_keep (a := ⟨w.heap.size + 1 + 1, 2, none⟩) (v := .string ⟨zr.toArray⟩) (by first | (go_keep; done) | (simp [go_sem, *]; done)) hb
  have k4_z3 := cell_keep (a := ⟨w.heap.size + 1 + 1, 3, none⟩) (v := .slice za zn zc) (by first | (go_keep; done) | (simp [go_sem, *]; done)) hb
  have l4_z := World.block_lt_of_cell? _ _ k4_z0
  try simp only at l4_z
  clear hb k3_x0 k3_x1 k3_x2 k3_x3 l3_x k3_y0 k3_y1 k3_y2 k3_y3 l3_y k3_z0 k3_z1 k3_z2 k3_z3 l3_z W3
  go_wp2_with fail
  refine (C4.out _ (by repeat (first | exact W4.out | refine blw_drewN ?_ _ | refine Below.setCell ?_ (by first | (simp; done) | omega | (simp; omega)) _ | refine Below.alloc ?_ (by first | (simp; done) | omega | (simp; omega)) _))).mono ?_
  rintro e w5 ⟨rfl, hb⟩
  have W5 := Lib.hid (blw_trans (show Below w.heap.size w _ by repeat (first | exact W4.out | refine blw_drewN ?_ _ | refine Below.setCell ?_ (by first | (simp; done) | omega | (simp; omega)) _ | refine Below.alloc ?_ (by first | (simp; done) | omega | (simp; omega)) _)) hb)
  have n5 := hb.size
  try simp at n5
  have k5_x0 := cell_keep (a := ⟨w.heap.size, 0, none⟩) (v := .string ⟨xl.toArray⟩) (by first | (go_keep; done) | (simp [go_sem, *]; done)) hb
  have k5_x1 := cell_keep (a := ⟨w.heap.size, 1, none⟩) (v := .string ⟨xs.toArray⟩) (by first | (go_keep; done) | (simp [go_sem, *]; done)) hb
  have k5_x2 := cell_keep (a := ⟨w.heap.size, 2, none⟩) (v := .string ⟨xr.toArray⟩) (by first | (go_keep; done) | (simp [go_sem, *]; done)) hb
  have k5_x3 := cell_keep (a := ⟨w.heap.size, 3, none⟩) (v := .slice xa xn xc) (by first | (go_keep; done) | (simp [go_sem, *]; done)) hb
  have l5_x := World.block_lt_of_cell? _ _ k5_x0
  try simp only at l5_x
  have k5_y0 := cell_keep (a := ⟨w.heap.size + 1, 0, none⟩) (v := .string ⟨yl.toArray⟩) (by first | (go_keep; done) | (simp [go_sem, *]; done)) hb
  have k5_y1 := cell_keep (a := ⟨w.heap.size + 1, 1, none⟩) (v := .string ⟨ys.toArray⟩) (by first | (go_keep; done) | (simp [go_sem, *]; done)) hb
  have k5_y2 := cell_keep (a := ⟨w.heap.size + 1, 2, none⟩) (v := .string ⟨yr.toArray⟩) (by first | (go_keep; done) | (simp [go_sem, *]; done)) hb
  have k5_y3 := cell_keep (a := ⟨w.heap.size + 1, 3, none⟩) (v := .slice ya yn yc) (by first | (go_keep; done) | (simp [go_sem, *]; done)) hb
  have l5_y := World.block_lt_of_cell? _ _ k5_y0
  try simp only at l5_y
  clear hb k4_x0 k4_x1 k4_x2 k4_x3 l4_x k4_y0 k4_y1 k4_y2 k4_y3 l4_y k4_z0 k4_z1 k4_z2 k4_z3 l4_z W4
  go_wp2_with fail
  refine (C5.out _ (by repeat (first | exact W5.out | refine blw_drewN ?_ _ | refine Below.setCell ?_ (by first | (simp; done) | omega | (simp; omega)) _ | refine Below.alloc ?_ (by first | (simp; done) | omega | (simp; omega)) _))).mono ?_
  rintro e w6 ⟨rfl, hb⟩
  have W6 := Lib.hid (blw_trans (show Below w.heap.size w _ by repeat (first | exact W5.out | refine blw_drewN ?_ _ | refine Below.setCell ?_ (by first | (simp; done) | omega | (simp; omega)) _ | refine Below.alloc ?_ (by first | (simp; done) | omega | (simp; omega)) _)) hb)
  have n6 := hb.size
  try simp at n6
  have k6_x0 := cell_keep (a := ⟨w.heap.size, 0, none⟩) (v := .string ⟨xl.toArray⟩) (by first | (go_keep; done) | (simp [go_sem, *]; done)) hb
  have k6_x1 := cell_keep (a := ⟨w.heap.size, 1, none⟩) (v := .string ⟨xs.toArray⟩) (by first | (go_keep; done) | (simp [go_sem, *]; done)) hb
  have k6_x2 := cell_keep (a := ⟨w.heap.size, 2, none⟩) (v := .string ⟨xr.toArray⟩) (by first | (go_keep; done) | (simp [go_sem, *]; done)) hb
  have k6_x3 := cell_keep (a := ⟨w.heap.size, 3, none⟩) (v := .slice xa xn xc) (by first | (go_keep; done) | (simp [go_sem, *]; done)) hb
  have l6_x := World.block_lt_of_cell? _ _ k6_x0
  try simp only at l6_x
  have k6_y0 := cell_keep (a := ⟨w.heap.size + 1, 0, none⟩) (v := .string ⟨yl.toArray⟩) (by first | (go_keep; done) | (simp [go_sem, *]; done)) hb
  have k6_y1 := cell_keep (a := ⟨w.heap.size + 1, 1, none⟩) (v := .string ⟨ys.toArray⟩) (by first | (go_keep; done) | (simp [go_sem, *]; done)) hb
  have k6_y2 := cell_keep (a := ⟨w.heap.size + 1, 2, none⟩) (v := .string ⟨yr.toArray⟩) (by first | (go_keep; done) | (simp [go_sem, *]; done)) hb
  have k6_y3 := cell_keep (a := ⟨w.heap.size + 1, 3, none⟩) (v := .slice ya yn yc) (by first | (go_keep; done) | (simp [go_sem, *]; done)) hb
  have l6_y := World.block_lt_of_cell? _ _ k6_y0
  try simp only at l6_y
  clear hb k5_x0 k5_x1 k5_x2 k5_x3 l5_x k5_y0 k5_y1 k5_y2 k5_y3 l5_y W5
  go_wp2_with fail
  refine wp_region_held_drew (S := fun w' => w'.cell? ⟨w.heap.size, 0, none⟩ = some (.string ⟨xl.toArray⟩) ∧ w'.cell? ⟨w.heap.size, 1, none⟩ = some (.string ⟨xs.toArray⟩) ∧ w'.cell? ⟨w.heap.size, 2, none⟩ = some (.string ⟨xr.toArray⟩) ∧ w'.cell? ⟨w.heap.size, 3, none⟩ = some (.slice xa xn xc) ∧ w'.cell? ⟨w.heap.size + 1, 0, none⟩ = some (.string ⟨yl.toArray⟩) ∧ w'.cell? ⟨w.heap.size + 1, 1, none⟩ = some (.string ⟨ys.toArray⟩) ∧ w'.cell? ⟨w.heap.size + 1, 2, none⟩ = some (.string ⟨yr.toArray⟩) ∧ w'.cell? ⟨w.heap.size + 1, 3, none⟩ = some (.slice ya yn yc) ∧ Hid (Below w.heap.size w w')) (by kernel_rfl) (by exact ⟨by go_keep, by go_keep, by go_keep, by go_keep, by go_keep, by go_keep, by go_keep, by go_keep, Lib.hid (Below.drew (by repeat (first | exact W6.out | refine blw_drewN ?_ _ | refine Below.setCell ?_ (by first | (simp; done) | omega | (simp; omega)) _ | refine Below.alloc ?_ (by first | (simp; done) | omega | (simp; omega)) _)))⟩) (fun hHeld => ?_)
  refine take_run (d := (some 69)) (v := ?v57) 0 rfl rfl (by kernel_rfl) (by kernel_rfl) (by kernel_rfl) (fun _ _ _ h => h) (by rfl) hHeld ?hy57 ?rs57
  case hy57 => (intro w hSw; (try dsimp only at hSw); go_simp) <;> (try with_reducible rfl)
  (try simp only [Act.put, List.setIfInBounds_toArray, List.set_cons_zero, List.set_cons_succ])
  refine take_run (d := (some 70)) (v := ?v58) 1 rfl rfl (by kernel_rfl) (by kernel_rfl) (by kernel_rfl) (fun _ _ _ h => h) (by rfl) hHeld ?hy58 ?rs58
  case hy58 => (intro w hSw; (try dsimp only at hSw); go_simp) <;> (try with_reducible rfl)
  (try simp only [Act.put, List.setIfInBounds_toArray, List.set_cons_zero, List.set_cons_succ])
  refine take_run (d := (some 71)) (v := ?v59) 2 rfl rfl (by kernel_rfl) (by kernel_rfl) (by kernel_rfl) (fun _ _ _ h => h) (by rfl) hHeld ?hy59 ?rs59
  case hy59 => (intro w hSw; (try dsimp only at hSw); go_simp) <;> (try with_reducible rfl)
  (try simp only [Act.put, List.setIfInBounds_toArray, List.set_cons_zero, List.set_cons_succ])
  refine take_run (d := (some 72)) (v := ?v60) 3 rfl rfl (by kernel_rfl) (by kernel_rfl) (by kernel_rfl) (fun _ _ _ h => h) (by rfl) hHeld ?hy60 ?rs60
  case hy60 => (intro w hSw; (try dsimp only at hSw); go_simp) <;> (try with_reducible rfl)
  (try simp only [Act.put, List.setIfInBounds_toArray, List.set_cons_zero, List.set_cons_succ])
  refine take_run (d := (some 73)) (v := ?v61) 4 rfl rfl (by kernel_rfl) (by kernel_rfl) (by kernel_rfl) (fun _ _ _ h => h) (by rfl) hHeld ?hy61 ?rs61
  case hy61 => (intro w hSw; (try dsimp only at hSw); go_simp) <;> (try with_reducible rfl)
  (try simp only [Act.put, List.setIfInBounds_toArray, List.set_cons_zero, List.set_cons_succ])
  refine take_run (d := (some 74)) (v := ?v62) 5 rfl rfl (by kernel_rfl) (by kernel_rfl) (by kernel_rfl) (fun _ _ _ h => h) (by rfl) hHeld ?hy62 ?rs62
  case hy62 => (intro w hSw; (try dsimp only at hSw); go_simp) <;> (try with_reducible rfl)
  (try simp only [Act.put, List.setIfInBounds_toArray, List.set_cons_zero, List.set_cons_succ])
  refine take_run (d := (some 75)) (v := ?v63) 6 rfl rfl (by kernel_rfl) (by kernel_rfl) (by kernel_rfl) (fun _ _ _ h => h) (by rfl) hHeld ?hy63 ?rs63
  case hy63 => (intro w hSw; (try dsimp only at hSw); go_simp) <;> (try with_reducible rfl)
  (try simp only [Act.put, List.setIfInBounds_toArray, List.set_cons_zero, List.set_cons_succ])
  refine take_run (d := (some 76)) (v := ?v64) 7 rfl rfl (by kernel_rfl) (by kernel_rfl) (by kernel_rfl) (fun _ _ _ h => h) (by rfl) hHeld ?hy64 ?rs64
  case hy64 => (intro w hSw; (try dsimp only at hSw); go_simp) <;> (try with_reducible rfl)
  (try simp only [Act.put, List.setIfInBounds_toArray, List.set_cons_zero, List.set_cons_succ])
  refine take_run (d := (some 77)) (v := ?v65) 8 rfl rfl (by kernel_rfl) (by kernel_rfl) (by kernel_rfl) (fun _ _ _ h => h) (by rfl) hHeld ?hy65 ?rs65
  case hy65 => (intro w hSw; (try dsimp only at hSw); go_simp) <;> (try with_reducible rfl)
  (try simp only [Act.put, List.setIfInBounds_toArray, List.set_cons_zero, List.set_cons_succ])
  refine take_run (d := (some 78)) (v := ?v66) 9 rfl rfl (by kernel_rfl) (by kernel_rfl) (by kernel_rfl) (fun _ _ _ h => h) (by rfl) hHeld ?hy66 ?rs66
  case hy66 => (intro w hSw; (try dsimp only at hSw); go_simp) <;> (try with_reducible rfl)
  (try simp only [Act.put, List.setIfInBounds_toArray, List.set_cons_zero, List.set_cons_succ])
  refine take_run (d := (some 79)) (v := ?v67) 10 rfl rfl (by kernel_rfl) (by kernel_rfl) (by kernel_rfl) (fun _ _ _ h => h) (by rfl) hHeld ?hy67 ?rs67
  case hy67 => (intro w hSw; (try dsimp only at hSw); go_simp) <;> (try with_reducible rfl)
  (try simp only [Act.put, List.setIfInBounds_toArray, List.set_cons_zero, List.set_cons_succ])
  refine take_run (d := (some 80)) (v := ?v68) 11 rfl rfl (by kernel_rfl) (by kernel_rfl) (by kernel_rfl) (fun _ _ _ h => h) (by rfl) hHeld ?hy68 ?rs68
  case hy68 => (intro w hSw; (try dsimp only at hSw); go_simp) <;> (try with_reducible rfl)
  (try simp only [Act.put, List.setIfInBounds_toArray, List.set_cons_zero, List.set_cons_succ])
  refine take_run (d := (some 81)) (v := ?v69) 12 rfl rfl (by kernel_rfl) (by kernel_rfl) (by kernel_rfl) (fun _ _ _ h => h) (by rfl) hHeld ?hy69 ?rs69
  case hy69 => (intro w hSw; (try dsimp only at hSw); go_simp) <;> (try with_reducible rfl)
  (try simp only [Act.put, List.setIfInBounds_toArray, List.set_cons_zero, List.set_cons_succ])
  refine take_run (d := (some 82)) (v := ?v70) 13 rfl rfl (by kernel_rfl) (by kernel_rfl) (by kernel_rfl) (fun _ _ _ h => h) (by rfl) hHeld ?hy70 ?rs70
  case hy70 => (intro w hSw; (try dsimp only at hSw); go_simp) <;> (try with_reducible rfl)
  (try simp only [Act.put, List.setIfInBounds_toArray, List.set_cons_zero, List.set_cons_succ])
  refine take_run (d := (some 83)) (v := ?v71) 14 rfl rfl (by kernel_rfl) (by kernel_rfl) (by kernel_rfl) (fun _ _ _ h => h) (by rfl) hHeld ?hy71 ?rs71
  case hy71 => (intro w hSw; (try dsimp only at hSw); go_simp) <;> (try with_reducible rfl)
  (try simp only [Act.put, List.setIfInBounds_toArray, List.set_cons_zero, List.set_cons_succ])
  refine take_run (d := (some 84)) (v := ?v72) 15 rfl rfl (by kernel_rfl) (by kernel_rfl) (by kernel_rfl) (fun _ _ _ h => h) (by rfl) hHeld ?hy72 ?rs72
  case hy72 => (intro w hSw; (try dsimp only at hSw); go_simp) <;> (try with_reducible rfl)
  (try simp only [Act.put, List.setIfInBounds_toArray, List.set_cons_zero, List.set_cons_succ])
  refine take_run (d := (some 85)) (v := ?v73) 16 rfl rfl (by kernel_rfl) (by kernel_rfl) (by kernel_rfl) (fun _ _ _ h => h) (by rfl) hHeld ?hy73 ?rs73
  case hy73 => (intro w hSw; (try dsimp only at hSw); go_simp) <;> (try with_reducible rfl)
  (try simp only [Act.put, List.setIfInBounds_toArray, List.set_cons_zero, List.set_cons_succ])
  refine take_run (d := (some 86)) (v := ?v74) 17 rfl rfl (by kernel_rfl) (by kernel_rfl) (by kernel_rfl) (fun _ _ _ h => h) (by rfl) hHeld ?hy74 ?rs74
  case hy74 => (intro w hSw; (try dsimp only at hSw); go_simp) <;> (try with_reducible rfl)
  (try simp only [Act.put, List.setIfInBounds_toArray, List.set_cons_zero, List.set_cons_succ])
  refine take_run (d := (some 87)) (v := ?v75) 18 rfl rfl (by kernel_rfl) (by kernel_rfl) (by kernel_rfl) (fun _ _ _ h => h) (by rfl) hHeld ?hy75 ?rs75
  case hy75 => (intro w hSw; (try dsimp only at hSw); go_simp) <;> (try with_reducible rfl)
  (try simp only [Act.put, List.setIfInBounds_toArray, List.set_cons_zero, List.set_cons_succ])
  refine take_run (d := (some 88)) (v := ?v76) 19 rfl rfl (by kernel_rfl) (by kernel_rfl) (by kernel_rfl) (fun _ _ _ h => h) (by rfl) hHeld ?hy76 ?rs76
  case hy76 => (intro w hSw; (try dsimp only at hSw); go_simp) <;> (try with_reducible rfl)
  (try simp only [Act.put, List.setIfInBounds_toArray, List.set_cons_zero, List.set_cons_succ])
  refine take_skip (d := (some 89)) 20 rfl rfl (by kernel_rfl) (by kernel_rfl) (by kernel_rfl) (fun _ _ _ h => h) (by rfl) hHeld ?_
  (try simp only [Act.put, List.setIfInBounds_toArray, List.set_cons_zero, List.set_cons_succ])
  refine take_skip (d := (some 90)) 21 rfl rfl (by kernel_rfl) (by kernel_rfl) (by kernel_rfl) (fun _ _ _ h => h) (by rfl) hHeld ?_
  (try simp only [Act.put, List.setIfInBounds_toArray, List.set_cons_zero, List.set_cons_succ])
  refine take_skip (d := (some 91)) 22 rfl rfl (by kernel_rfl) (by kernel_rfl) (by kernel_rfl) (fun _ _ _ h => h) (by rfl) hHeld ?_
  (try simp only [Act.put, List.setIfInBounds_toArray, List.set_cons_zero, List.set_cons_succ])
  refine take_skip (d := (some 92)) 23 rfl rfl (by kernel_rfl) (by kernel_rfl) (by kernel_rfl) (fun _ _ _ h => h) (by rfl) hHeld ?_
  (try simp only [Act.put, List.setIfInBounds_toArray, List.set_cons_zero, List.set_cons_succ])
  refine take_skip (d := (some 93)) 24 rfl rfl (by kernel_rfl) (by kernel_rfl) (by kernel_rfl) (fun _ _ _ h => h) (by rfl) hHeld ?_
  (try simp only [Act.put, List.setIfInBounds_toArray, List.set_cons_zero, List.set_cons_succ])
  refine take_run (d := (some 94)) (v := ?v82) 25 rfl rfl (by kernel_rfl) (by kernel_rfl) (by kernel_rfl) (fun _ _ _ h => h) (by rfl) hHeld ?hy82 ?rs82
  case hy82 => (intro w hSw; (try dsimp only at hSw); go_simp) <;> (try with_reducible rfl)
  (try simp only [Act.put, List.setIfInBounds_toArray, List.set_cons_zero, List.set_cons_succ])
  refine take_run (d := (some 95)) (v := ?v83) 26 rfl rfl (by kernel_rfl) (by kernel_rfl) (by kernel_rfl) (fun _ _ _ h => h) (by rfl) hHeld ?hy83 ?rs83
  case hy83 => (intro w hSw; (try dsimp only at hSw); go_simp) <;> (try with_reducible rfl)
  (try simp only [Act.put, List.setIfInBounds_toArray, List.set_cons_zero, List.set_cons_succ])
  refine take_run (d := (some 6)) (v := ?v84) 27 rfl rfl (by kernel_rfl) (by kernel_rfl) (by kernel_rfl) (fun _ _ _ h => h) (by rfl) hHeld ?hy84 ?rs84
  case hy84 => (intro w hSw; (try dsimp only at hSw); go_simp) <;> (try with_reducible rfl)
  (try simp only [Act.put, List.setIfInBounds_toArray, List.set_cons_zero, List.set_cons_succ])
  refine wpAnyH_done (by kernel_rfl) ?_ _
  obtain ⟨z0, z1, z2, z3, z4, z5, z6, z7, zW⟩ := hHeld
  go_wp2
  go_ret
  exact ⟨ret_bool (by simp), zW.out⟩

set_option maxRecDepth 100000 in
set_option maxHeartbeats 2000000 in
theorem order_yny (xl xs xr yl ys yr zl zs zr : List UInt8) (xa ya za : Option Addr) (xn xc yn yc zn zc : Nat) (w : World) (hT : MaxW w) (bz : Bool) (X : List UInt8)
    (CA : Hid (∀ wx : World, Below w.heap.size w wx → Calls Tryd.prog 15 #[.agg #[.string ⟨xl.toArray⟩, .string ⟨xs.toArray⟩, .string ⟨xr.toArray⟩, .slice xa xn xc]] wx fun e w' => e = .returned (.string ⟨X.toArray⟩) ∧ Below wx.heap.size wx w'))
    (CB : Hid (∀ wx : World, Below w.heap.size w wx → Calls Tryd.prog 15 #[.agg #[.string ⟨yl.toArray⟩, .string ⟨ys.toArray⟩, .string ⟨yr.toArray⟩, .slice ya yn yc]] wx fun e w' => e = .returned (.string ⟨X.toArray⟩) ∧ Below wx.heap.size wx w'))
    (C1 : Hid (∀ wx : World, Below w.heap.size w wx → Calls Tryd.prog 22 #[.agg #[.string ⟨xl.toArray⟩, .string ⟨xs.toArray⟩, .string ⟨xr.toArray⟩, .slice xa xn xc], .agg #[.string ⟨yl.toArray⟩, .string ⟨ys.toArray⟩, .string ⟨yr.toArray⟩, .slice ya yn yc]] wx fun e w' => e = .returned (.tuple #[.bool true, .nilIface]) ∧ Below wx.heap.size wx w'))
    (C2 : Hid (∀ wx : World, Below w.heap.size w wx → Calls Tryd.prog 22 #[.agg #[.string ⟨yl.toArray⟩, .string ⟨ys.toArray⟩, .string ⟨yr.toArray⟩, .slice ya yn yc], .agg #[.string ⟨zl.toArray⟩, .string ⟨zs.toArray⟩, .string ⟨zr.toArray⟩, .slice za zn zc]] wx fun e w' => e = .returned (.tuple #[.bool false, .nilIface]) ∧ Below wx.heap.size wx w'))
    (C3 : Hid (∀ wx : World, Below w.heap.size w wx → Calls Tryd.prog 22 #[.agg #[.string ⟨xl.toArray⟩, .string ⟨xs.toArray⟩, .string ⟨xr.toArray⟩, .slice xa xn xc], .agg #[.string ⟨zl.toArray⟩, .string ⟨zs.toArray⟩, .string ⟨zr.toArray⟩, .slice za zn zc]] wx fun e w' => e = .returned (.tuple #[.bool bz, .nilIface]) ∧ Below wx.heap.size wx w'))
    (C4 : Hid (∀ wx : World, Below w.heap.size w wx → Calls Tryd.prog 22 #[.agg #[.string ⟨yl.toArray⟩, .string ⟨ys.toArray⟩, .string ⟨yr.toArray⟩, .slice ya yn yc], .agg #[.string ⟨xl.toArray⟩, .string ⟨xs.toArray⟩, .string ⟨xr.toArray⟩, .slice xa xn xc]] wx fun e w' => e = .returned (.tuple #[.bool true, .nilIface]) ∧ Below wx.heap.size wx w'))
    (C5 : Hid (∀ wx : World, Below w.heap.size w wx → Calls Tryd.prog 22 #[.agg #[.string ⟨xl.toArray⟩, .string ⟨xs.toArray⟩, .string ⟨xr.toArray⟩, .slice xa xn xc], .agg #[.string ⟨xl.toArray⟩, .string ⟨xs.toArray⟩, .string ⟨xr.toArray⟩, .slice xa xn xc]] wx fun e w' => e = .returned (.tuple #[.bool true, .nilIface]) ∧ Below wx.heap.size wx w')) :
    Calls Tryd.prog 5 #[.agg #[.string ⟨xl.toArray⟩, .string ⟨xs.toArray⟩, .string ⟨xr.toArray⟩, .slice xa xn xc], .agg #[.string ⟨yl.toArray⟩, .string ⟨ys.toArray⟩, .string ⟨yr.toArray⟩, .slice ya yn yc], .agg #[.string ⟨zl.toArray⟩, .string ⟨zs.toArray⟩, .string ⟨zr.toArray⟩, .slice za zn zc]] w fun e w' => e = .returned (.bool true) ∧ Below w.heap.size w w' := by
  go_enter Tryd.func5, Tryd.ntmps5
  go_wp2_with fail
  refine (tagged_any _ (hT.below (by repeat (first | exact (Below.refl _ _) | refine blw_drewN ?_ _ | refine Below.setCell ?_ (by first | (simp; done) | omega | (simp; omega)) _ | refine Below.alloc ?_ (by first | (simp; done) | omega | (simp; omega)) _)))).mono ?_
  rintro e w1 ⟨rfl, hb⟩
  have W1 := Lib.hid (blw_trans (show Below w.heap.size w _ by repeat (first | exact (Below.refl _ _) | refine blw_drewN ?_ _ | refine Below.setCell ?_ (by first | (simp; done) | omega | (simp; omega)) _ | refine Below.alloc ?_ (by first | (simp; done) | omega | (simp; omega)) _)) hb)
  have n1 := hb.size
  try simp at n1
  have k1_x0 := cell_keep (a := ⟨w.heap.size, 0, none⟩) (v := .string ⟨xl.toArray⟩) (by first | (go_keep; done) | (simp [go_sem, *]; done)) hb
  have k1_x1 := cell_keep (a := ⟨w.heap.size, 1, none⟩) (v := .string ⟨xs.toArray⟩) (by first | (go_keep; done) | (simp [go_sem, *]; done)) hb
  have k1_x2 := cell_keep (a := ⟨w.heap.size, 2, none⟩) (v := .string ⟨xr.toArray⟩) (by first | (go_keep; done) | (simp [go_sem, *]; done)) hb
  have k1_x3 := cell_keep (a := ⟨w.heap.size, 3, none⟩) (v := .slice xa xn xc) (by first | (go_keep; done) | (simp [go_sem, *]; done)) hb
  have l1_x := World.block_lt_of_cell? _ _ k1_x0
  try simp only at l1_x
  have k1_y0 := cell_keep (a := ⟨w.heap.size + 1, 0, none⟩) (v := .string ⟨yl.toArray⟩) (by first | (go_keep; done) | (simp [go_sem, *]; done)) hb
  have k1_y1 := cell_keep (a := ⟨w.heap.size + 1, 1, none⟩) (v := .string ⟨ys.toArray⟩) (by first | (go_keep; done) | (simp [go_sem, *]; done)) hb
  have k1_y2 := cell_keep (a := ⟨w.heap.size + 1, 2, none⟩) (v := .string ⟨yr.toArray⟩) (by first | (go_keep; done) | (simp [go_sem, *]; done)) hb
  have k1_y3 := cell_keep (a := ⟨w.heap.size + 1, 3, none⟩) (v := .slice ya yn yc) (by first | (go_keep; done) | (simp [go_sem, *]; done)) hb
  have l1_y := World.block_lt_of_cell? _ _ k1_y0
  try simp only at l1_y
  have k1_z0 := cell_keep (a := ⟨w.heap.size + 1 + 1, 0, none⟩) (v := .string ⟨zl.toArray⟩) (by first | (go_keep; done) | (simp [go_sem, *]; done)) hb
  have k1_z1 := cell_keep (a := ⟨w.heap.size + 1 + 1, 1, none⟩) (v := .string ⟨zs.toArray⟩) (by first | (go_keep; done) | (simp [go_sem, *]; done)) hb
  have k1_z2 := cell_keep (a := ⟨w.heap.size + 1 + 1, 2, none⟩) (v := .string ⟨zr.toArray⟩) (by first | (go_keep; done) | (simp [go_sem, *]; done)) hb
  have k1_z3 := cell_keep (a := ⟨w.heap.size + 1 + 1, 3, none⟩) (v := .slice za zn zc) (by first | (go_keep; done) | (simp [go_sem, *]; done)) hb
  have l1_z := World.block_lt_of_cell? _ _ k1_z0
  try simp only at l1_z
  clear hb
  go_wp2_with fail
  refine (C1.out _ (by repeat (first | exact W1.out | refine blw_drewN ?_ _ | refine Below.setCell ?_ (by first | (simp; done) | omega | (simp; omega)) _ | refine Below.alloc ?_ (by first | (simp; done) | omega | (simp; omega)) _))).mono ?_
  rintro e w2 ⟨rfl, hb⟩
  have W2 := Lib.hid (blw_trans (show Below w.heap.size w _ by repeat (first | exact W1.out | refine blw_drewN ?_ _ | refine Below.setCell ?_ (by first | (simp; done) | omega | (simp; omega)) _ | refine Below.alloc ?_ (by first | (simp; done) | omega | (simp; omega)) _)) hb)
  have n2 := hb.size
  try simp at n2
  have k2_x0 := cell_keep (a := ⟨w.heap.size, 0, none⟩) (v := .string ⟨xl.toArray⟩) (by first | (go_keep; done) | (simp [go_sem, *]; done)) hb
  have k2_x1 := cell_keep (a := ⟨w.heap.size, 1, none⟩) (v := .string ⟨xs.toArray⟩) (by first | (go_keep; done) | (simp [go_sem, *]; done)) hb
  have k2_x2 := cell_keep (a := ⟨w.heap.size, 2, none⟩) (v := .string ⟨xr.toArray⟩) (by first | (go_keep; done) | (simp [go_sem, *]; done)) hb
  have k2_x3 := cell_keep (a := ⟨w.heap.size, 3, none⟩) (v := .slice xa xn xc) (by first | (go_keep; done) | (simp [go_sem, *]; done)) hb
  have l2_x := World.block_lt_of_cell? _ _ k2_x0
  try simp only at l2_x
  have k2_y0 := cell_keep (a := ⟨w.heap.size + 1, 0, none⟩) (v := .string ⟨yl.toArray⟩) (by first | (go_keep; done) | (simp [go_sem, *]; done)) hb
  have k2_y1 := cell_keep (a := ⟨w.heap.size + 1, 1, none⟩) (v := .string ⟨ys.toArray⟩) (by first | (go_keep; done) | (simp [go_sem, *]; done)) hb
  have k2_y2 := cell_keep (a := ⟨w.heap.size + 1, 2, none⟩) (v := .string ⟨yr.toArray⟩) (by first | (go_keep; done) | (simp [go_sem, *]; done)) hb
  have k2_y3 := cell_keep (a := ⟨w.heap.size + 1, 3, none⟩) (v := .slice ya yn yc) (by first | (go_keep; done) | (simp [go_sem, *]; done)) hb
  have l2_y := World.block_lt_of_cell? _ _ k2_y0
  try simp only at l2_y
  have k2_z0 := cell_keep (a := ⟨w.heap.size + 1 + 1, 0, none⟩) (v := .string ⟨zl.toArray⟩) (by first | (go_keep; done) | (simp [go_sem, *]; done)) hb
  have k2_z1 := cell_keep (a := ⟨w.heap.size + 1 + 1, 1, none⟩) (v := .string ⟨zs.toArray⟩) (by first | (go_keep; done) | (simp [go_sem, *]; done)) hb
  have k2_z2 := cell_keep (a := ⟨w.heap.size + 1 + 1, 2, none⟩) (v := .string ⟨zr.toArray⟩) (by first | (go_keep; done) | (simp [go_sem, *]; done)) hb
  have k2_z3 := cell_keep (a := ⟨w.heap.size + 1 + 1, 3, none⟩) (v := .slice za zn zc) (by first | (go_keep; done) | (simp [go_sem, *]; done)) hb
  have l2_z := World.block_lt_of_cell? _ _ k2_z0
  try simp only at l2_z
  clear hb k1_x0 k1_x1 k1_x2 k1_x3 l1_x k1_y0 k1_y1 k1_y2 k1_y3 l1_y k1_z0 k1_z1 k1_z2 k1_z3 l1_z W1
  go_wp2_with fail
  refine (C2.out _ (by repeat (first | exact W2.out | refine blw_drewN ?_ _ | refine Below.setCell ?_ (by first | (simp; done) | omega | (simp; omega)) _ | refine Below.alloc ?_ (by first | (simp; done) | omega | (simp; omega)) _))).mono ?_
  rintro e w3 ⟨rfl, hb⟩
  have W3 := Lib.hid (blw_trans (show Below w.heap.size w _ by repeat (first | exact W2.out | refine blw_drewN ?_ _ | refine Below.setCell ?_ (by first | (simp; done) | omega | (simp; omega)) _ | refine Below.alloc ?_ (by first | (simp; done) | omega | (simp; omega)) _)) hb)
  have n3 := hb.size
  try simp at n3
  have k3_x0 := cell_keep (a := ⟨w.heap.size, 0, none⟩) (v := .string ⟨xl.toArray⟩) (by first | (go_keep; done) | (simp [go_sem, *]; done)) hb
  have k3_x1 := cell_keep (a := ⟨w.heap.size, 1, none⟩) (v := .string ⟨xs.toArray⟩) (by first | (go_keep; done) | (simp [go_sem, *]; done)) hb
  have k3_x2 := cell_keep (a := ⟨w.heap.size, 2, none⟩) (v := .string ⟨xr.toArray⟩) (by first | (go_keep; done) | (simp [go_sem, *]; done)) hb
  have k3_x3 := cell_keep (a := ⟨w.heap.size, 3, none⟩) (v := .slice xa xn xc) (by first | (go_keep; done) | (simp [go_sem, *]; done)) hb
  have l3_x := World.block_lt_of_cell? _ _ k3_x0
  try simp only at l3_x
  have k3_y0 := cell_keep (a := ⟨w.heap.size + 1, 0, none⟩) (v := .string ⟨yl.toArray⟩) (by first | (go_keep; done) | (simp [go_sem, *]; done)) hb
  have k3_y1 := cell_keep (a := ⟨w.heap.size + 1, 1, none⟩) (v := .string ⟨ys.toArray⟩) (by first | (go_keep; done) | (simp [go_sem, *]; done)) hb
  have k3_y2 := cell_keep (a := ⟨w.heap.size + 1, 2, none⟩) (v := .string ⟨yr.toArray⟩) (by first | (go_keep; done) | (simp [go_sem, *]; done)) hb
  have k3_y3 := cell_keep (a := ⟨w.heap.size + 1, 3, none⟩) (v := .slice ya yn yc) (by first | (go_keep; done) | (simp [go_sem, *]; done)) hb
  have l3_y := World.block_lt_of_cell? _ _ k3_y0
  try simp only at l3_y
  have k3_z0 := cell_keep (a := ⟨w.heap.size + 1 + 1, 0, none⟩) (v := .string ⟨zl.toArray⟩) (by first | (go_keep; done) | (simp [go_sem, *]; done)) hb
  have k3_z1 := cell_keep (a := ⟨w.heap.size + 1 + 1, 1, none⟩) (v := .string ⟨zs.toArray⟩) (by first | (go_keep; done) | (simp [go_sem, *]; done)) hb
  have k3_z2 := cell_keep (a := ⟨w.heap.size + 1 + 1, 2, none⟩) (v := .string ⟨zr.toArray⟩) (by first | (go_keep; done) | (simp [go_sem, *]; done)) hb
  have k3_z3 := cell_keep (a := ⟨w.heap.size + 1 + 1, 3, none⟩) (v := .slice za zn zc) (by first | (go_keep; done) | (simp [go_sem, *]; done)) hb
  have l3_z := World.block_lt_of_cell? _ _ k3_z0
  try simp only at l3_z
  clear hb k2_x0 k2_x1 k2_x2 k2_x3 l2_x k2_y0 k2_y1 k2_y2 k2_y3 l2_y k2_z0 k2_z1 k2_z2 k2_z3 l2_z W2
  go_wp2_with fail
  refine (C3.out _ (by repeat (first | exact W3.out | refine blw_drewN ?_ _ | refine Below.setCell ?_ (by first | (simp; done) | omega | (simp; omega)) _ | refine Below.alloc ?_ (by first | (simp; done) | omega | (simp; omega)) _))).mono ?_
  rintro e w4 ⟨rfl, hb⟩
  have W4 := Lib.hid (blw_trans (show Below w.heap.size w _ by repeat (first | exact W3.out | refine blw_drewN ?_ _ | refine Below.setCell ?_ (by first | (simp; done) | omega | (simp; omega)) _ | refine Below.alloc ?_ (by first | (simp; done) | omega | (simp; omega)) _)) hb)
  have n4 := hb.size
  try simp at n4
  have k4_x0 := cell_keep (a := ⟨w.heap.size, 0, none⟩) (v := .string ⟨xl.toArray⟩) (by first | (go_keep; done) | (simp [go_sem, *]; done)) hb
  have k4_x1 := cell_keep (a := ⟨w.heap.size, 1, none⟩) (v := .string ⟨xs.toArray⟩) (by first | (go_keep; done) | (simp [go_sem, *]; done)) hb
  have k4_x2 := cell_keep (a := ⟨w.heap.size, 2, none⟩) (v := .string ⟨xr.toArray⟩) (by first | (go_keep; done) | (simp [go_sem, *]; done)) hb
  have k4_x3 := cell_keep (a := ⟨w.heap.size, 3, none⟩) (v := .slice xa xn xc) (by first | (go_keep; done) | (simp [go_sem, *]; done)) hb
  have l4_x := World.block_lt_of_cell? _ _ k4_x0
  try simp only at l4_x
  have k4_y0 := cell_keep (a := ⟨w.heap.size + 1, 0, none⟩) (v := .string ⟨yl.toArray⟩) (by first | (go_keep; done) | (simp [go_sem, *]; done)) hb
  have k4_y1 := cell_keep (a := ⟨w.heap.size + 1, 1, none⟩) (v := .string ⟨ys.toArray⟩) (by first | (go_keep; done) | (simp [go_sem, *]; done)) hb
  have k4_y2 := cell_keep (a := ⟨w.heap.size + 1, 2, none⟩) (v := .string ⟨yr.toArray⟩) (by first | (go_keep; done) | (simp [go_sem, *]; done)) hb
  have k4_y3 := cell_keep (a := ⟨w.heap.size + 1, 3, none⟩) (v := .slice ya yn yc) (by first | (go_keep; done) | (simp [go_sem, *]; done)) hb
  have l4_y := World.block_lt_of_cell? _ _ k4_y0
  try simp only at l4_y
  have k4_z0 := cell_keep (a := ⟨w.heap.size + 1 + 1, 0, none⟩) (v := .string ⟨zl.toArray⟩) (by first | (go_keep; done) | (simp [go_sem, *]; done)) hb
  have k4_z1 := cell_keep (a := ⟨w.heap.size + 1 + 1, 1, none⟩) (v := .string ⟨zs.toArray⟩) (by first | (go_keep; done) | (simp [go_sem, *]; done)) hb
  have k4_z2 := cell_keep (a := ⟨w.heap.size + 1 + 1, 2, none⟩) (v := .string ⟨zr.toArray⟩) (by first | (go_keep; done) | (simp [go_sem, *]; done)) hb
  have k4_z3 := cell_keep (a := ⟨w.heap.size + 1 + 1, 3, none⟩) (v := .slice za zn zc) (by first | (go_keep; done) | (simp [go_sem, *]; done)) hb
  have l4_z := World.block_lt_of_cell? _ _ k4_z0
  try simp only at l4_z
  clear hb k3_x0 k3_x1 k3_x2 k3_x3 l3_x k3_y0 k3_y1 k3_y2 k3_y3 l3_y k3_z0 k3_z1 k3_z2 k3_z3 l3_z W3
  go_wp2_with fail
  refine (C4.out _ (by repeat (first | exact W4.out | refine blw_drewN ?_ _ | refine Below.setCell ?_ (by first | (simp; done) | omega | (simp; omega)) _ | refine Below.alloc ?_ (by first | (simp; done) | omega | (simp; omega)) _))).mono ?_
  rintro e w5 ⟨rfl, hb⟩
  have W5 := Lib.hid (blw_trans (show Below w.heap.size w _ by repeat (first | exact W4.out | refine blw_drewN ?_ _ | refine Below.setCell ?_ (by first | (simp; done) | omega | (simp; omega)) _ | refine Below.alloc ?_ (by first | (simp; done) | omega | (simp; omega)) _)) hb)
  have n5 := hb.size
  try simp at n5
  have k5_x0 := cell_keep (a := ⟨w.heap.size, 0, none⟩) (v := .string ⟨xl.toArray⟩) (by first | (go_keep; done) | (simp [go_sem, *]; done)) hb
  have k5_x1 := cell_keep (a := ⟨w.heap.size, 1, none⟩) (v := .string ⟨xs.toArray⟩) (by first | (go_keep; done) | (simp [go_sem, *]; done)) hb
  have k5_x2 := cell_keep (a := ⟨w.heap.size, 2, none⟩) (v := .string ⟨xr.toArray⟩) (by first | (go_keep; done) | (simp [go_sem, *]; done)) hb
  have k5_x3 := cell_keep (a := ⟨w.heap.size, 3, none⟩) (v := .slice xa xn xc) (by first | (go_keep; done) | (simp [go_sem, *]; done)) hb
  have l5_x := World.block_lt_of_cell? _ _ k5_x0
  try simp only at l5_x
  have k5_y0 := cell_keep (a := ⟨w.heap.size + 1, 0, none⟩) (v := .string ⟨yl.toArray⟩) (by first | (go_keep; done) | (simp [go_sem, *]; done)) hb
  have k5_y1 := cell_keep (a := ⟨w.heap.size + 1, 1, none⟩) (v := .string ⟨ys.toArray⟩) (by first | (go_keep; done) | (simp [go_sem, *]; done)) hb
  have k5_y2 := cell_keep (a := ⟨w.heap.size + 1, 2, none⟩) (v := .string ⟨yr.toArray⟩) (by first | (go_keep; done) | (simp [go_sem, *]; done)) hb
  have k5_y3 := cell_keep (a := ⟨w.heap.size + 1, 3, none⟩) (v := .slice ya yn yc) (by first | (go_keep; done) | (simp [go_sem, *]; done)) hb
  have l5_y := World.block_lt_of_cell? _ _ k5_y0
  try simp only at l5_y
  clear hb k4_x0 k4_x1 k4_x2 k4_x3 l4_x k4_y0 k4_y1 k4_y2 k4_y3 l4_y k4_z0 k4_z1 k4_z2 k4_z3 l4_z W4
  go_wp2_with fail
  refine (C5.out _ (by repeat (first | exact W5.out | refine blw_drewN ?_ _ | refine Below.setCell ?_ (by first | (simp; done) | omega | (simp; omega)) _ | refine Below.alloc ?_ (by first | (simp; done) | omega | (simp; omega)) _))).mono ?_
  rintro e w6 ⟨rfl, hb⟩
  have W6 := Lib.hid (blw_trans (show Below w.heap.size w _ by repeat (first | exact W5.out | refine blw_drewN ?_ _ | refine Below.setCell ?_ (by first | (simp; done) | omega | (simp; omega)) _ | refine Below.alloc ?_ (by first | (simp; done) | omega | (simp; omega)) _)) hb)
  have n6 := hb.size
  try simp at n6
  have k6_x0 := cell_keep (a := ⟨w.heap.size, 0, none⟩) (v := .string ⟨xl.toArray⟩) (by first | (go_keep; done) | (simp [go_sem, *]; done)) hb
  have k6_x1 := cell_keep (a := ⟨w.heap.size, 1, none⟩) (v := .string ⟨xs.toArray⟩) (by first | (go_keep; done) | (simp [go_sem, *]; done)) hb
  have k6_x2 := cell_keep (a := ⟨w.heap.size, 2, none⟩) (v := .string ⟨xr.toArray⟩) (by first | (go_keep; done) | (simp [go_sem, *]; done)) hb
  have k6_x3 := cell_keep (a := ⟨w.heap.size, 3, none⟩) (v := .slice xa xn xc) (by first | (go_keep; done) | (simp [go_sem, *]; done)) hb
  have l6_x := World.block_lt_of_cell? _ _ k6_x0
  try simp only at l6_x
  have k6_y0 := cell_keep (a := ⟨w.heap.size + 1, 0, none⟩) (v := .string ⟨yl.toArray⟩) (by first | (go_keep; done) | (simp [go_sem, *]; done)) hb
  have k6_y1 := cell_keep (a := ⟨w.heap.size + 1, 1, none⟩) (v := .string ⟨ys.toArray⟩) (by first | (go_keep; done) | (simp [go_sem, *]; done)) hb
  have k6_y2 := cell_keep (a := ⟨w.heap.size + 1, 2, none⟩) (v := .string ⟨yr.toArray⟩) (by first | (go_keep; done) | (simp [go_sem, *]; done)) hb
  have k6_y3 := cell_keep (a := ⟨w.heap.size + 1, 3, none⟩) (v := .slice ya yn yc) (by first | (go_keep; done) | (simp [go_sem, *]; done)) hb
  have l6_y := World.block_lt_of_cell? _ _ k6_y0
  try simp only at l6_y
  clear hb k5_x0 k5_x1 k5_x2 k5_x3 l5_x k5_y0 k5_y1 k5_y2 k5_y3 l5_y W5
  go_wp2_with fail
  refine wp_region_held_drew (S := fun w' => w'.cell? ⟨w.heap.size, 0, none⟩ = some (.string ⟨xl.toArray⟩) ∧ w'.cell? ⟨w.heap.size, 1, none⟩ = some (.string ⟨xs.toArray⟩) ∧ w'.cell? ⟨w.heap.size, 2, none⟩ = some (.string ⟨xr.toArray⟩) ∧ w'.cell? ⟨w.heap.size, 3, none⟩ = some (.slice xa xn xc) ∧ w'.cell? ⟨w.heap.size + 1, 0, none⟩ = some (.string ⟨yl.toArray⟩) ∧ w'.cell? ⟨w.heap.size + 1, 1, none⟩ = some (.string ⟨ys.toArray⟩) ∧ w'.cell? ⟨w.heap.size + 1, 2, none⟩ = some (.string ⟨yr.toArray⟩) ∧ w'.cell? ⟨w.heap.size + 1, 3, none⟩ = some (.slice ya yn yc) ∧ Hid (Below w.heap.size w w')) (by kernel_rfl) (by exact ⟨by go_keep, by go_keep, by go_keep, by go_keep, by go_keep, by go_keep, by go_keep, by go_keep, Lib.hid (Below.drew (by repeat (first | exact W6.out | refine blw_drewN ?_ _ | refine Below.setCell ?_ (by first | (simp; done) | omega | (simp; omega)) _ | refine Below.alloc ?_ (by first | (simp; done) | omega | (simp; omega)) _)))⟩) (fun hHeld => ?_)
  refine take_run (d := (some 69)) (v := ?v85) 0 rfl rfl (by kernel_rfl) (by kernel_rfl) (by kernel_rfl) (fun _ _ _ h => h) (by rfl) hHeld ?hy85 ?rs85
  case hy85 => (intro w hSw; (try dsimp only at hSw); go_simp) <;> (try with_reducible rfl)
  (try simp only [Act.put, List.setIfInBounds_toArray, List.set_cons_zero, List.set_cons_succ])
  refine take_run (d := (some 70)) (v := ?v86) 1 rfl rfl (by kernel_rfl) (by kernel_rfl) (by kernel_rfl) (fun _ _ _ h => h) (by rfl) hHeld ?hy86 ?rs86
  case hy86 => (intro w hSw; (try dsimp only at hSw); go_simp) <;> (try with_reducible rfl)
  (try simp only [Act.put, List.setIfInBounds_toArray, List.set_cons_zero, List.set_cons_succ])
  refine take_run (d := (some 71)) (v := ?v87) 2 rfl rfl (by kernel_rfl) (by kernel_rfl) (by kernel_rfl) (fun _ _ _ h => h) (by rfl) hHeld ?hy87 ?rs87
  case hy87 => (intro w hSw; (try dsimp only at hSw); go_simp) <;> (try with_reducible rfl)
  (try simp only [Act.put, List.setIfInBounds_toArray, List.set_cons_zero, List.set_cons_succ])
  refine take_run (d := (some 72)) (v := ?v88) 3 rfl rfl (by kernel_rfl) (by kernel_rfl) (by kernel_rfl) (fun _ _ _ h => h) (by rfl) hHeld ?hy88 ?rs88
  case hy88 => (intro w hSw; (try dsimp only at hSw); go_simp) <;> (try with_reducible rfl)
  (try simp only [Act.put, List.setIfInBounds_toArray, List.set_cons_zero, List.set_cons_succ])
  refine take_run (d := (some 73)) (v := ?v89) 4 rfl rfl (by kernel_rfl) (by kernel_rfl) (by kernel_rfl) (fun _ _ _ h => h) (by rfl) hHeld ?hy89 ?rs89
  case hy89 => (intro w hSw; (try dsimp only at hSw); go_simp) <;> (try with_reducible rfl)
  (try simp only [Act.put, List.setIfInBounds_toArray, List.set_cons_zero, List.set_cons_succ])
  refine take_run (d := (some 74)) (v := ?v90) 5 rfl rfl (by kernel_rfl) (by kernel_rfl) (by kernel_rfl) (fun _ _ _ h => h) (by rfl) hHeld ?hy90 ?rs90
  case hy90 => (intro w hSw; (try dsimp only at hSw); go_simp) <;> (try with_reducible rfl)
  (try simp only [Act.put, List.setIfInBounds_toArray, List.set_cons_zero, List.set_cons_succ])
  refine take_run (d := (some 75)) (v := ?v91) 6 rfl rfl (by kernel_rfl) (by kernel_rfl) (by kernel_rfl) (fun _ _ _ h => h) (by rfl) hHeld ?hy91 ?rs91
  case hy91 => (intro w hSw; (try dsimp only at hSw); go_simp) <;> (try with_reducible rfl)
  (try simp only [Act.put, List.setIfInBounds_toArray, List.set_cons_zero, List.set_cons_succ])
  refine take_run (d := (some 76)) (v := ?v92) 7 rfl rfl (by kernel_rfl) (by kernel_rfl) (by kernel_rfl) (fun _ _ _ h => h) (by rfl) hHeld ?hy92 ?rs92
  case hy92 => (intro w hSw; (try dsimp only at hSw); go_simp) <;> (try with_reducible rfl)
  (try simp only [Act.put, List.setIfInBounds_toArray, List.set_cons_zero, List.set_cons_succ])
  refine take_run (d := (some 77)) (v := ?v93) 8 rfl rfl (by kernel_rfl) (by kernel_rfl) (by kernel_rfl) (fun _ _ _ h => h) (by rfl) hHeld ?hy93 ?rs93
  case hy93 => (intro w hSw; (try dsimp only at hSw); go_simp) <;> (try with_reducible rfl)
  (try simp only [Act.put, List.setIfInBounds_toArray, List.set_cons_zero, List.set_cons_succ])
  refine take_skip (d := (some 78)) 9 rfl rfl (by kernel_rfl) (by kernel_rfl) (by kernel_rfl) (fun _ _ _ h => h) (by rfl) hHeld ?_
  (try simp only [Act.put, List.setIfInBounds_toArray, List.set_cons_zero, List.set_cons_succ])
  refine take_run (d := (some 79)) (v := ?v95) 10 rfl rfl (by kernel_rfl) (by kernel_rfl) (by kernel_rfl) (fun _ _ _ h => h) (by rfl) hHeld ?hy95 ?rs95
  case hy95 => (intro w hSw; (try dsimp only at hSw); go_simp) <;> (try with_reducible rfl)
  (try simp only [Act.put, List.setIfInBounds_toArray, List.set_cons_zero, List.set_cons_succ])
  refine take_run (d := (some 80)) (v := ?v96) 11 rfl rfl (by kernel_rfl) (by kernel_rfl) (by kernel_rfl) (fun _ _ _ h => h) (by rfl) hHeld ?hy96 ?rs96
  case hy96 => (intro w hSw; (try dsimp only at hSw); go_simp) <;> (try with_reducible rfl)
  (try simp only [Act.put, List.setIfInBounds_toArray, List.set_cons_zero, List.set_cons_succ])
  refine take_run (d := (some 81)) (v := ?v97) 12 rfl rfl (by kernel_rfl) (by kernel_rfl) (by kernel_rfl) (fun _ _ _ h => h) (by rfl) hHeld ?hy97 ?rs97
  case hy97 => (intro w hSw; (try dsimp only at hSw); go_simp) <;> (try with_reducible rfl)
  (try simp only [Act.put, List.setIfInBounds_toArray, List.set_cons_zero, List.set_cons_succ])
  refine take_run (d := (some 82)) (v := ?v98) 13 rfl rfl (by kernel_rfl) (by kernel_rfl) (by kernel_rfl) (fun _ _ _ h => h) (by rfl) hHeld ?hy98 ?rs98
  case hy98 => (intro w hSw; (try dsimp only at hSw); go_simp) <;> (try with_reducible rfl)
  (try simp only [Act.put, List.setIfInBounds_toArray, List.set_cons_zero, List.set_cons_succ])
  refine take_run (d := (some 83)) (v := ?v99) 14 rfl rfl (by kernel_rfl) (by kernel_rfl) (by kernel_rfl) (fun _ _ _ h => h) (by rfl) hHeld ?hy99 ?rs99
  case hy99 => (intro w hSw; (try dsimp only at hSw); go_simp) <;> (try with_reducible rfl)
  (try simp only [Act.put, List.setIfInBounds_toArray, List.set_cons_zero, List.set_cons_succ])
  refine take_run (d := (some 84)) (v := ?v100) 15 rfl rfl (by kernel_rfl) (by kernel_rfl) (by kernel_rfl) (fun _ _ _ h => h) (by rfl) hHeld ?hy100 ?rs100
  case hy100 => (intro w hSw; (try dsimp only at hSw); go_simp) <;> (try with_reducible rfl)
  (try simp only [Act.put, List.setIfInBounds_toArray, List.set_cons_zero, List.set_cons_succ])
  refine take_run (d := (some 85)) (v := ?v101) 16 rfl rfl (by kernel_rfl) (by kernel_rfl) (by kernel_rfl) (fun _ _ _ h => h) (by rfl) hHeld ?hy101 ?rs101
  case hy101 => (intro w hSw; (try dsimp only at hSw); go_simp) <;> (try with_reducible rfl)
  (try simp only [Act.put, List.setIfInBounds_toArray, List.set_cons_zero, List.set_cons_succ])
  refine take_run (d := (some 86)) (v := ?v102) 17 rfl rfl (by kernel_rfl) (by kernel_rfl) (by kernel_rfl) (fun _ _ _ h => h) (by rfl) hHeld ?hy102 ?rs102
  case hy102 => (intro w hSw; (try dsimp only at hSw); go_simp) <;> (try with_reducible rfl)
  (try simp only [Act.put, List.setIfInBounds_toArray, List.set_cons_zero, List.set_cons_succ])
  refine take_run (d := (some 87)) (v := ?v103) 18 rfl rfl (by kernel_rfl) (by kernel_rfl) (by kernel_rfl) (fun _ _ _ h => h) (by rfl) hHeld ?hy103 ?rs103
  case hy103 => (intro w hSw; (try dsimp only at hSw); go_simp) <;> (try with_reducible rfl)
  (try simp only [Act.put, List.setIfInBounds_toArray, List.set_cons_zero, List.set_cons_succ])
  refine take_run (d := (some 88)) (v := ?v104) 19 rfl rfl (by kernel_rfl) (by kernel_rfl) (by kernel_rfl) (fun _ _ _ h => h) (by rfl) hHeld ?hy104 ?rs104
  case hy104 => (intro w hSw; (try dsimp only at hSw); go_simp) <;> (try with_reducible rfl)
  (try simp only [Act.put, List.setIfInBounds_toArray, List.set_cons_zero, List.set_cons_succ])
  refine take_run (d := (some 89)) (v := ?v105) 20 rfl rfl (by kernel_rfl) (by kernel_rfl) (by kernel_rfl) (fun _ _ _ h => h) (by rfl) hHeld ?hy105 ?rs105
  case hy105 => (intro w hSw; (try dsimp only at hSw); go_simp) <;> (try with_reducible rfl)
  (try simp only [Act.put, List.setIfInBounds_toArray, List.set_cons_zero, List.set_cons_succ])
  refine take_run (d := (some 91)) (v := ?v106) 22 rfl rfl (by kernel_rfl) (by kernel_rfl) (by kernel_rfl) (fun _ _ _ h => h) (by rfl) hHeld ?hy106 ?rs106
  case hy106 => (intro w hSw; (try dsimp only at hSw); go_simp) <;> (try with_reducible rfl)
  (try simp only [Act.put, List.setIfInBounds_toArray, List.set_cons_zero, List.set_cons_succ])
  refine take_call 21 rfl (by kernel_rfl) (by rfl) (fun K hK => ?_)
  go_simp
  refine (CA.out _ (by obtain ⟨_, _, _, _, _, _, _, _, h1⟩ := hHeld; exact h1.out)).mono ?_
  rintro e w' ⟨rfl, hb⟩
  refine hK.out _ _ (by obtain ⟨h0, h1, h2, h3, h4, h5, h6, h7, hw⟩ := hHeld; exact ⟨cell_keep h0 hb, cell_keep h1 hb, cell_keep h2 hb, cell_keep h3 hb, cell_keep h4 hb, cell_keep h5 hb, cell_keep h6 hb, cell_keep h7 hb, Lib.hid (blw_trans hw.out hb)⟩) (fun hHeld => ?_)
  clear hK K
  (try simp only [Act.put, List.setIfInBounds_toArray, List.set_cons_zero, List.set_cons_succ])
  refine take_call 23 rfl (by kernel_rfl) (by rfl) (fun K hK => ?_)
  go_simp
  refine (CB.out _ (by obtain ⟨_, _, _, _, _, _, _, _, h1⟩ := hHeld; exact h1.out)).mono ?_
  rintro e w' ⟨rfl, hb⟩
  refine hK.out _ _ (by obtain ⟨h0, h1, h2, h3, h4, h5, h6, h7, hw⟩ := hHeld; exact ⟨cell_keep h0 hb, cell_keep h1 hb, cell_keep h2 hb, cell_keep h3 hb, cell_keep h4 hb, cell_keep h5 hb, cell_keep h6 hb, cell_keep h7 hb, Lib.hid (blw_trans hw.out hb)⟩) (fun hHeld => ?_)
  clear hK K
  (try simp only [Act.put, List.setIfInBounds_toArray, List.set_cons_zero, List.set_cons_succ])
  refine take_run (d := (some 93)) (v := ?v109) 24 rfl rfl (by kernel_rfl) (by kernel_rfl) (by kernel_rfl) (fun _ _ _ h => h) (by rfl) hHeld ?hy109 ?rs109
  case hy109 => (intro w hSw; (try dsimp only at hSw); go_simp) <;> (try with_reducible rfl)
  (try simp only [Act.put, List.setIfInBounds_toArray, List.set_cons_zero, List.set_cons_succ])
  refine take_run (d := (some 94)) (v := ?v110) 25 rfl rfl (by kernel_rfl) (by kernel_rfl) (by kernel_rfl) (fun _ _ _ h => h) (by rfl) hHeld ?hy110 ?rs110
  case hy110 => (intro w hSw; (try dsimp only at hSw); go_simp) <;> (try with_reducible rfl)
  (try simp only [Act.put, List.setIfInBounds_toArray, List.set_cons_zero, List.set_cons_succ])
  refine take_run (d := (some 95)) (v := ?v111) 26 rfl rfl (by kernel_rfl) (by kernel_rfl) (by kernel_rfl) (fun _ _ _ h => h) (by rfl) hHeld ?hy111 ?rs111
  case hy111 => (intro w hSw; (try dsimp only at hSw); go_simp) <;> (try with_reducible rfl)
  (try simp only [Act.put, List.setIfInBounds_toArray, List.set_cons_zero, List.set_cons_succ])
  refine take_run (d := (some 6)) (v := ?v112) 27 rfl rfl (by kernel_rfl) (by kernel_rfl) (by kernel_rfl) (fun _ _ _ h => h) (by rfl) hHeld ?hy112 ?rs112
  case hy112 => (intro w hSw; (try dsimp only at hSw); go_simp) <;> (try with_reducible rfl)
  (try simp only [Act.put, List.setIfInBounds_toArray, List.set_cons_zero, List.set_cons_succ])
  refine wpAnyH_done (by kernel_rfl) ?_ _
  obtain ⟨z0, z1, z2, z3, z4, z5, z6, z7, zW⟩ := hHeld
  go_wp2
  go_ret
  exact ⟨ret_bool (by simp), zW.out⟩

set_option maxRecDepth 100000 in
set_option maxHeartbeats 2000000 in
theorem order_ynn (xl xs xr yl ys yr zl zs zr : List UInt8) (xa ya za : Option Addr) (xn xc yn yc zn zc : Nat) (w : World) (hT : MaxW w) (bz : Bool)
    (C1 : Hid (∀ wx : World, Below w.heap.size w wx → Calls Tryd.prog 22 #[.agg #[.string ⟨xl.toArray⟩, .string ⟨xs.toArray⟩, .string ⟨xr.toArray⟩, .slice xa xn xc], .agg #[.string ⟨yl.toArray⟩, .string ⟨ys.toArray⟩, .string ⟨yr.toArray⟩, .slice ya yn yc]] wx fun e w' => e = .returned (.tuple #[.bool true, .nilIface]) ∧ Below wx.heap.size wx w'))
    (C2 : Hid (∀ wx : World, Below w.heap.size w wx → Calls Tryd.prog 22 #[.agg #[.string ⟨yl.toArray⟩, .string ⟨ys.toArray⟩, .string ⟨yr.toArray⟩, .slice ya yn yc], .agg #[.string ⟨zl.toArray⟩, .string ⟨zs.toArray⟩, .string ⟨zr.toArray⟩, .slice za zn zc]] wx fun e w' => e = .returned (.tuple #[.bool false, .nilIface]) ∧ Below wx.heap.size wx w'))
    (C3 : Hid (∀ wx : World, Below w.heap.size w wx → Calls Tryd.prog 22 #[.agg #[.string ⟨xl.toArray⟩, .string ⟨xs.toArray⟩, .string ⟨xr.toArray⟩, .slice xa xn xc], .agg #[.string ⟨zl.toArray⟩, .string ⟨zs.toArray⟩, .string ⟨zr.toArray⟩, .slice za zn zc]] wx fun e w' => e = .returned (.tuple #[.bool bz, .nilIface]) ∧ Below wx.heap.size wx w'))
    (C4 : Hid (∀ wx : World, Below w.heap.size w wx → Calls Tryd.prog 22 #[.agg #[.string ⟨yl.toArray⟩, .string ⟨ys.toArray⟩, .string ⟨yr.toArray⟩, .slice ya yn yc], .agg #[.string ⟨xl.toArray⟩, .string ⟨xs.toArray⟩, .string ⟨xr.toArray⟩, .slice xa xn xc]] wx fun e w' => e = .returned (.tuple #[.bool false, .nilIface]) ∧ Below wx.heap.size wx w'))
    (C5 : Hid (∀ wx : World, Below w.heap.size w wx → Calls Tryd.prog 22 #[.agg #[.string ⟨xl.toArray⟩, .string ⟨xs.toArray⟩, .string ⟨xr.toArray⟩, .slice xa xn xc], .agg #[.string ⟨xl.toArray⟩, .string ⟨xs.toArray⟩, .string ⟨xr.toArray⟩, .slice xa xn xc]] wx fun e w' => e = .returned (.tuple #[.bool true, .nilIface]) ∧ Below wx.heap.size wx w')) :
    Calls Tryd.prog 5 #[.agg #[.string ⟨xl.toArray⟩, .string ⟨xs.toArray⟩, .string ⟨xr.toArray⟩, .slice xa xn xc], .agg #[.string ⟨yl.toArray⟩, .string ⟨ys.toArray⟩, .string ⟨yr.toArray⟩, .slice ya yn yc], .agg #[.string ⟨zl.toArray⟩, .string ⟨zs.toArray⟩, .string ⟨zr.toArray⟩, .slice za zn zc]] w fun e w' => e = .returned (.bool true) ∧ Below w.heap.size w w' := by
  go_enter Tryd.func5, Tryd.ntmps5
  go_wp2_with fail
  refine (tagged_any _ (hT.below (by repeat (first | exact (Below.refl _ _) | refine blw_drewN ?_ _ | refine Below.setCell ?_ (by first | (simp; done) | omega | (simp; omega)) _ | refine Below.alloc ?_ (by first | (simp; done) | omega | (simp; omega)) _)))).mono ?_
  rintro e w1 ⟨rfl, hb⟩
  have W1 := Lib.hid (blw_trans (show Below w.heap.size w _ by repeat (first | exact (Below.refl _ _) | refine blw_drewN ?_ _ | refine Below.setCell ?_ (by first | (simp; done) | omega | (simp; omega)) _ | refine Below.alloc ?_ (by first | (simp; done) | omega | (simp; omega)) _)) hb)
  have n1 := hb.size
  try simp at n1
  have k1_x0 := cell_keep (a := ⟨w.heap.size, 0, none⟩) (v := .string ⟨xl.toArray⟩) (by first | (go_keep; done) | (simp [go_sem, *]; done)) hb
  have k1_x1 := cell_keep (a := ⟨w.heap.size, 1, none⟩) (v := .string ⟨xs.toArray⟩) (by first | (go_keep; done) | (simp [go_sem, *]; done)) hb
  have k1_x2 := cell_keep (a := ⟨w.heap.size, 2, none⟩) (v := .string ⟨xr.toArray⟩) (by first | (go_keep; done) | (simp [go_sem, *]; done)) hb
  have k1_x3 := cell_keep (a := ⟨w.heap.size, 3, none⟩) (v := .slice xa xn xc) (by first | (go_keep; done) | (simp [go_sem, *]; done)) hb
  have l1_x := World.block_lt_of_cell? _ _ k1_x0
  try simp only at l1_x
  have k1_y0 := cell_keep (a := ⟨w.heap.size + 1, 0, none⟩) (v := .string ⟨yl.toArray⟩) (by first | (go_keep; done) | (simp [go_sem, *]; done)) hb
  have k1_y1 := cell_keep (a := ⟨w.heap.size + 1, 1, none⟩) (v := .string ⟨ys.toArray⟩) (by first | (go_keep; done) | (simp [go_sem, *]; done)) hb
  have k1_y2 := cell_keep (a := ⟨w.heap.size + 1, 2, none⟩) (v := .string ⟨yr.toArray⟩) (by first | (go_keep; done) | (simp [go_sem, *]; done)) hb
  have k1_y3 := cell_keep (a := ⟨w.heap.size + 1, 3, none⟩) (v := .slice ya yn yc) (by first | (go_keep; done) | (simp [go_sem, *]; done)) hb
  have l1_y := World.block_lt_of_cell? _ _ k1_y0
  try simp only at l1_y
  have k1_z0 := cell_keep (a := ⟨w.heap.size + 1 + 1, 0, none⟩) (v := .string ⟨zl.toArray⟩) (by first | (go_keep; done) | (simp [go_sem, *]; done)) hb
  have k1_z1 := cell_keep (a := ⟨w.heap.size + 1 + 1, 1, none⟩) (v := .string ⟨zs.toArray⟩) (by first | (go_keep; done) | (simp [go_sem, *]; done)) hb
  have k1_z2 := cell_keep (a := ⟨w.heap.size + 1 + 1, 2, none⟩) (v := .string ⟨zr.toArray⟩) (by first | (go_keep; done) | (simp [go_sem, *]; done)) hb
  have k1_z3 := cell_keep (a := ⟨w.heap.size + 1 + 1, 3, none⟩) (v := .slice za zn zc) (by first | (go_keep; done) | (simp [go_sem, *]; done)) hb
  have l1_z := World.block_lt_of_cell? _ _ k1_z0
  try simp only at l1_z
  clear hb
  go_wp2_with fail
  refine (C1.out _ (by repeat (first | exact W1.out | refine blw_drewN ?_ _ | refine Below.setCell ?_ (by first | (simp; done) | omega | (simp; omega)) _ | refine Below.alloc ?_ (by first | (simp; done) | omega | (simp; omega)) _))).mono ?_
  rintro e w2 ⟨rfl, hb⟩
  have W2 := Lib.hid (blw_trans (show Below w.heap.size w _ by repeat (first | exact W1.out | refine blw_drewN ?_ _ | refine Below.setCell ?_ (by first | (simp; done) | omega | (simp; omega)) _ | refine Below.alloc ?_ (by first | (simp; done) | omega | (simp; omega)) _)) hb)
  have n2 := hb.size
  try simp at n2
  have k2_x0 := cell_keep (a := ⟨w.heap.size, 0, none⟩) (v := .string ⟨xl.toArray⟩) (by first | (go_keep; done) | (simp [go_sem, *]; done)) hb
  have k2_x1 := cell_keep (a := ⟨w.heap.size, 1, none⟩) (v := .string ⟨xs.toArray⟩) (by first | (go_keep; done) | (simp [go_sem, *]; done)) hb
  have k2_x2 := cell_keep (a := ⟨w.heap.size, 2, none⟩) (v := .string ⟨xr.toArray⟩) (by first | (go_keep; done) | (simp [go_sem, *]; done)) hb
  have k2_x3 := cell_keep (a := ⟨w.heap.size, 3, none⟩) (v := .slice xa xn xc) (by first | (go_keep; done) | (simp [go_sem, *]; done)) hb
  have l2_x := World.block_lt_of_cell? _ _ k2_x0
  try simp only at l2_x
  have k2_y0 := cell_keep (a := ⟨w.heap.size + 1, 0, none⟩) (v := .string ⟨yl.toArray⟩) (by first | (go_keep; done) | (simp [go_sem, *]; done)) hb
  have k2_y1 := cell_keep (a := ⟨w.heap.size + 1, 1, none⟩) (v := .string ⟨ys.toArray⟩) (by first | (go_keep; done) | (simp [go_sem, *]; done)) hb
  have k2_y2 := cell_keep (a := ⟨w.heap.size + 1, 2, none⟩) (v := .string ⟨yr.toArray⟩) (by first | (go_keep; done) | (simp [go_sem, *]; done)) hb
  have k2_y3 := cell_keep (a := ⟨w.heap.size + 1, 3, none⟩) (v := .slice ya yn yc) (by first | (go_keep; done) | (simp [go_sem, *]; done)) hb
  have l2_y := World.block_lt_of_cell? _ _ k2_y0
  try simp only at l2_y
  have k2_z0 := cell_keep (a := ⟨w.heap.size + 1 + 1, 0, none⟩) (v := .string ⟨zl.toArray⟩) (by first | (go_keep; done) | (simp [go_sem, *]; done)) hb
  have k2_z1 := cell_keep (a := ⟨w.heap.size + 1 + 1, 1, none⟩) (v := .string ⟨zs.toArray⟩) (by first | (go_keep; done) | (simp [go_sem, *]; done)) hb
  have k2_z2 := cell_keep (a := ⟨w.heap.size + 1 + 1, 2, none⟩) (v := .string ⟨zr.toArray⟩) (by first | (go_keep; done) | (simp [go_sem, *]; done)) hb
  have k2_z3 := cell_keep (a := ⟨w.heap.size + 1 + 1, 3, none⟩) (v := .slice za zn zc) (by first | (go_keep; done) | (simp [go_sem, *]; done)) hb
  have l2_z := World.block_lt_of_cell? _ _ k2_z0
  try simp only at l2_z
  clear hb k1_x0 k1_x1 k1_x2 k1_x3 l1_x k1_y0 k1_y1 k1_y2 k1_y3 l1_y k1_z0 k1_z1 k1_z2 k1_z3 l1_z W1
  go_wp2_with fail
  refine (C2.out _ (by repeat (first | exact W2.out | refine blw_drewN ?_ _ | refine Below.setCell ?_ (by first | (simp; done) | omega | (simp; omega)) _ | refine Below.alloc ?_ (by first | (simp; done) | omega | (simp; omega)) _))).mono ?_
  rintro e w3 ⟨rfl, hb⟩
  have W3 := Lib.hid (blw_trans (show Below w.heap.size w _ by repeat (first | exact W2.out | refine blw_drewN ?_ _ | refine Below.setCell ?_ (by first | (simp; done) | omega | (simp; omega)) _ | refine Below.alloc ?_ (by first | (simp; done) | omega | (simp; omega)) _)) hb)
  have n3 := hb.size
  try simp at n3
  have k3_x0 := cell_keep (a := ⟨w.heap.size, 0, none⟩) (v := .string ⟨xl.toArray⟩) (by first | (go_keep; done) | (simp [go_sem, *]; done)) hb
  have k3_x1 := cell_keep (a := ⟨w.heap.size, 1, none⟩) (v := .string ⟨xs.toArray⟩) (by first | (go_keep; done) | (simp [go_sem, *]; done)) hb
  have k3_x2 := cell_keep (a := ⟨w.heap.size, 2, none⟩) (v := .string ⟨xr.toArray⟩) (by first | (go_keep; done) | (simp [go_sem, *]; done)) hb
  have k3_x3 := cell_keep (a := ⟨w.heap.size, 3, none⟩) (v := .slice xa xn xc) (by first | (go_keep; done) | (simp [go_sem, *]; done)) hb
  have l3_x := World.block_lt_of_cell? _ _ k3_x0
  try simp only at l3_x
  have k3_y0 := cell_keep (a := ⟨w.heap.size + 1, 0, none⟩) (v := .string ⟨yl.toArray⟩) (by first | (go_keep; done) | (simp [go_sem, *]; done)) hb
  have k3_y1 := cell_keep (a := ⟨w.heap.size + 1, 1, none⟩) (v := .string ⟨ys.toArray⟩) (by first | (go_keep; done) | (simp [go_sem, *]; done)) hb
  have k3_y2 := cell_keep (a := ⟨w.heap.size + 1, 2, none⟩) (v := .string ⟨yr.toArray⟩) (by first | (go_keep; done) | (simp [go_sem, *]; done)) hb
  have k3_y3 := cell_keep (a := ⟨w.heap.size + 1, 3, none⟩) (v := .slice ya yn yc) (by first | (go_keep; done) | (simp [go_sem, *]; done)) hb
  have l3_y := World.block_lt_of_cell? _ _ k3_y0
  try simp only at l3_y
  have k3_z0 := cell_keep (a := ⟨w.heap.size + 1 + 1, 0, none⟩) (v := .string ⟨zl.toArray⟩) (by first | (go_keep; done) | (simp [go_sem, *]; done)) hb
  have k3_z1 := cell_keep (a := ⟨w.heap.size + 1 + 1, 1, none⟩) (v := .string ⟨zs.toArray⟩) (by first | (go_keep; done) | (simp [go_sem, *]; done)) hb
  have k3_z2 := cell_keep (a := ⟨w.heap.size + 1 + 1, 2, none⟩) (v := .string ⟨zr.toArray⟩) (by first | (go_keep; done) | (simp [go_sem, *]; done)) hb
  have k3_z3 := cell_keep (a := ⟨w.heap.size + 1 + 1, 3, none⟩) (v := .slice za zn zc) (by first | (go_keep; done) | (simp [go_sem, *]; done)) hb
  have l3_z := World.block_lt_of_cell? _ _ k3_z0
  try simp only at l3_z
  clear hb k2_x0 k2_x1 k2_x2 k2_x3 l2_x k2_y0 k2_y1 k2_y2 k2_y3 l2_y k2_z0 k2_z1 k2_z2 k2_z3 l2_z W2
  go_wp2_with fail
  refine (C3.out _ (by repeat (first | exact W3.out | refine blw_drewN ?_ _ | refine Below.setCell ?_ (by first | (simp; done) | omega | (simp; omega)) _ | refine Below.alloc ?_ (by first | (simp; done) | omega | (simp; omega)) _))).mono ?_
  rintro e w4 ⟨rfl, hb⟩
  have W4 := Lib.hid (blw_trans (show Below w.heap.size w _ by repeat (first | exact W3.out | refine blw_drewN ?_ _ | refine Below.setCell ?_ (by first | (simp; done) | omega | (simp; omega)) _ | refine Below.alloc ?_ (by first | (simp; done) | omega | (simp; omega)) _)) hb)
  have n4 := hb.size
  try simp at n4
  have k4_x0 := cell_keep (a := ⟨w.heap.size, 0, none⟩) (v := .string ⟨xl.toArray⟩) (by first | (go_keep; done) | (simp [go_sem, *]; done)) hb
  have k4_x1 := cell_keep (a := ⟨w.heap.size, 1, none⟩) (v := .string ⟨xs.toArray⟩) (by first | (go_keep; done) | (simp [go_sem, *]; done)) hb
  have k4_x2 := cell_keep (a := ⟨w.heap.size, 2, none⟩) (v := .string ⟨xr.toArray⟩) (by first | (go_keep; done) | (simp [go_sem, *]; done)) hb
  have k4_x3 := cell_keep (a := ⟨w.heap.size, 3, none⟩) (v := .slice xa xn xc) (by first | (go_keep; done) | (simp [go_sem, *]; done)) hb
  have l4_x := World.block_lt_of_cell? _ _ k4_x0
  try simp only at l4_x
  have k4_y0 := cell_keep (a := ⟨w.heap.size + 1, 0, none⟩) (v := .string ⟨yl.toArray⟩) (by first | (go_keep; done) | (simp [go_sem, *]; done)) hb
  have k4_y1 := cell_keep (a := ⟨w.heap.size + 1, 1, none⟩) (v := .string ⟨ys.toArray⟩) (by first | (go_keep; done) | (simp [go_sem, *]; done)) hb
  have k4_y2 := cell_keep (a := ⟨w.heap.size + 1, 2, none⟩) (v := .string ⟨yr.toArray⟩) (by first | (go_keep; done) | (simp [go_sem, *]; done)) hb
  have k4_y3 := cell_keep (a := ⟨w.heap.size + 1, 3, none⟩) (v := .slice ya yn yc) (by first | (go_keep; done) | (simp [go_sem, *]; done)) hb
  have l4_y := World.block_lt_of_cell? _ _ k4_y0
  try simp only at l4_y
  have k4_z0 := cell_keep (a := ⟨w.heap.size + 1 + 1, 0, none⟩) (v := .string ⟨zl.toArray⟩) (by first | (go_keep; done) | (simp [go_sem, *]; done)) hb
  have k4_z1 := cell_keep (a := ⟨w.heap.size + 1 + 1, 1, none⟩) (v := .string ⟨zs.toArray⟩) (by first | (go_keep; done) | (simp [go_sem, *]; done)) hb
  have k4_z2 := cell_keep (a := ⟨w.heap.size + 1 + 1, 2, none⟩) (v := .string ⟨zr.toArray⟩) (by first | (go_keep; done) | (simp [go_sem, *]; done)) hb
  have k4_z3 := cell_keep (a := ⟨w.heap.size + 1 + 1, 3, none⟩) (v := .slice za zn zc) (by first | (go_keep; done) | (simp [go_sem, *]; done)) hb
  have l4_z := World.block_lt_of_cell? _ _ k4_z0
  try simp only at l4_z
  clear hb k3_x0 k3_x1 k3_x2 k3_x3 l3_x k3_y0 k3_y1 k3_y2 k3_y3 l3_y k3_z0 k3_z1 k3_z2 k3_z3 l3_z W3
  go_wp2_with fail
  refine (C4.out _ (by repeat (first | exact W4.out | refine blw_drewN ?_ _ | refine Below.setCell ?_ (by first | (simp; done) | omega | (simp; omega)) _ | refine Below.alloc ?_ (by first | (simp; done) | omega | (simp; omega)) _))).mono ?_
  rintro e w5 ⟨rfl, hb⟩
  have W5 := Lib.hid (blw_trans (show Below w.heap.size w _ by repeat (first | exact W4.out | refine blw_drewN ?_ _ | refine Below.setCell ?_ (by first | (simp; done) | omega | (simp; omega)) _ | refine Below.alloc ?_ (by first | (simp; done) | omega | (simp; omega)) _)) hb)
  have n5 := hb.size
  try simp at n5
  have k5_x0 := cell_keep (a := ⟨w.heap.size, 0, none⟩) (v := .string ⟨xl.toArray⟩) (by first | (go_keep; done) | (simp [go_sem, *]; done)) hb
  have k5_x1 := cell_keep (a := ⟨w.heap.size, 1, none⟩) (v := .string ⟨xs.toArray⟩) (by first | (go_keep; done) | (simp [go_sem, *]; done)) hb
  have k5_x2 := cell_keep (a := ⟨w.heap.size, 2, none⟩) (v := .string ⟨xr.toArray⟩) (by first | (go_keep; done) | (simp [go_sem, *]; done)) hb
  have k5_x3 := cell_keep (a := ⟨w.heap.size, 3, none⟩) (v := .slice xa xn xc) (by first | (go_keep; done) | (simp [go_sem, *]; done)) hb
  have l5_x := World.block_lt_of_cell? _ _ k5_x0
  try simp only at l5_x
  have k5_y0 := cell_keep (a := ⟨w.heap.size + 1, 0, none⟩) (v := .string ⟨yl.toArray⟩) (by first | (go_keep; done) | (simp [go_sem, *]; done)) hb
  have k5_y1 := cell_keep (a := ⟨w.heap.size + 1, 1, none⟩) (v := .string ⟨ys.toArray⟩) (by first | (go_keep; done) | (simp [go_sem, *]; done)) hb
  have k5_y2 := cell_keep (a := ⟨w.heap.size + 1, 2, none⟩) (v := .string ⟨yr.toArray⟩) (by first | (go_keep; done) | (simp [go_sem, *]; done)) hb
  have k5_y3 := cell_keep (a := ⟨w.heap.size + 1, 3, none⟩) (v := .slice ya yn yc) (by first | (go_keep; done) | (simp [go_sem, *]; done)) hb
  have l5_y := World.block_lt_of_cell? _ _ k5_y0
  try simp only at l5_y
  clear hb k4_x0 k4_x1 k4_x2 k4_x3 l4_x k4_y0 k4_y1 k4_y2 k4_y3 l4_y k4_z0 k4_z1 k4_z2 k4_z3 l4_z W4
  go_wp2_with fail
  refine (C5.out _ (by repeat (first | exact W5.out | refine blw_drewN ?_ _ | refine Below.setCell ?_ (by first | (simp; done) | omega | (simp; omega)) _ | refine Below.alloc ?_ (by first | (simp; done) | omega | (simp; omega)) _))).mono ?_
  rintro e w6 ⟨rfl, hb⟩
  have W6 := Lib.hid (blw_trans (show Below w.heap.size w _ by repeat (first | exact W5.out | refine blw_drewN ?_ _ | refine Below.setCell ?_ (by first | (simp; done) | omega | (simp; omega)) _ | refine Below.alloc ?_ (by first | (simp; done) | omega | (simp; omega)) _)) hb)
  have n6 := hb.size
  try simp at n6
  have k6_x0 := cell_keep (a := ⟨w.heap.size, 0, none⟩) (v := .string ⟨xl.toArray⟩) (by first | (go_keep; done) | (simp [go_sem, *]; done)) hb
  have k6_x1 := cell_keep (a := ⟨w.heap.size, 1, none⟩) (v := .string ⟨xs.toArray⟩) (by first | (go_keep; done) | (simp [go_sem, *]; done)) hb
  have k6_x2 := cell_keep (a := ⟨w.heap.size, 2, none⟩) (v := .string ⟨xr.toArray⟩) (by first | (go_keep; done) | (simp [go_sem, *]; done)) hb
  have k6_x3 := cell_keep (a := ⟨w.heap.size, 3, none⟩) (v := .slice xa xn xc) (by first | (go_keep; done) | (simp [go_sem, *]; done)) hb
  have l6_x := World.block_lt_of_cell? _ _ k6_x0
  try simp only at l6_x
  have k6_y0 := cell_keep (a := ⟨w.heap.size + 1, 0, none⟩) (v := .string ⟨yl.toArray⟩) (by first | (go_keep; done) | (simp [go_sem, *]; done)) hb
  have k6_y1 := cell_keep (a := ⟨w.heap.size + 1, 1, none⟩) (v := .string ⟨ys.toArray⟩) (by first | (go_keep; done) | (simp [go_sem, *]; done)) hb
  have k6_y2 := cell_keep (a := ⟨w.heap.size + 1, 2, none⟩) (v := .string ⟨yr.toArray⟩) (by first | (go_keep; done) | (simp [go_sem, *]; done)) hb
  have k6_y3 := cell_keep (a := ⟨w.heap.size + 1, 3, none⟩) (v := .slice ya yn yc) (by first | (go_keep; done) | (simp [go_sem, *]; done)) hb
  have l6_y := World.block_lt_of_cell? _ _ k6_y0
  try simp only at l6_y
  clear hb k5_x0 k5_x1 k5_x2 k5_x3 l5_x k5_y0 k5_y1 k5_y2 k5_y3 l5_y W5
  go_wp2_with fail
  refine wp_region_held_drew (S := fun w' => w'.cell? ⟨w.heap.size, 0, none⟩ = some (.string ⟨xl.toArray⟩) ∧ w'.cell? ⟨w.heap.size, 1, none⟩ = some (.string ⟨xs.toArray⟩) ∧ w'.cell? ⟨w.heap.size, 2, none⟩ = some (.string ⟨xr.toArray⟩) ∧ w'.cell? ⟨w.heap.size, 3, none⟩ = some (.slice xa xn xc) ∧ w'.cell? ⟨w.heap.size + 1, 0, none⟩ = some (.string ⟨yl.toArray⟩) ∧ w'.cell? ⟨w.heap.size + 1, 1, none⟩ = some (.string ⟨ys.toArray⟩) ∧ w'.cell? ⟨w.heap.size + 1, 2, none⟩ = some (.string ⟨yr.toArray⟩) ∧ w'.cell? ⟨w.heap.size + 1, 3, none⟩ = some (.slice ya yn yc) ∧ Hid (Below w.heap.size w w')) (by kernel_rfl) (by exact ⟨by go_keep, by go_keep, by go_keep, by go_keep, by go_keep, by go_keep, by go_keep, by go_keep, Lib.hid (Below.drew (by repeat (first | exact W6.out | refine blw_drewN ?_ _ | refine Below.setCell ?_ (by first | (simp; done) | omega | (simp; omega)) _ | refine Below.alloc ?_ (by first | (simp; done) | omega | (simp; omega)) _)))⟩) (fun hHeld => ?_)
  refine take_run (d := (some 69)) (v := ?v113) 0 rfl rfl (by kernel_rfl) (by kernel_rfl) (by kernel_rfl) (fun _ _ _ h => h) (by rfl) hHeld ?hy113 ?rs113
  case hy113 => (intro w hSw; (try dsimp only at hSw); go_simp) <;> (try with_reducible rfl)
  (try simp only [Act.put, List.setIfInBounds_toArray, List.set_cons_zero, List.set_cons_succ])
  refine take_run (d := (some 70)) (v := ?v114) 1 rfl rfl (by kernel_rfl) (by kernel_rfl) (by kernel_rfl) (fun _ _ _ h => h) (by rfl) hHeld ?hy114 ?rs114
  case hy114 => (intro w hSw; (try dsimp only at hSw); go_simp) <;> (try with_reducible rfl)
  (try simp only [Act.put, List.setIfInBounds_toArray, List.set_cons_zero, List.set_cons_succ])
  refine take_run (d := (some 71)) (v := ?v115) 2 rfl rfl (by kernel_rfl) (by kernel_rfl) (by kernel_rfl) (fun _ _ _ h => h) (by rfl) hHeld ?hy115 ?rs115
  case hy115 => (intro w hSw; (try dsimp only at hSw); go_simp) <;> (try with_reducible rfl)
  (try simp only [Act.put, List.setIfInBounds_toArray, List.set_cons_zero, List.set_cons_succ])
  refine take_run (d := (some 72)) (v := ?v116) 3 rfl rfl (by kernel_rfl) (by kernel_rfl) (by kernel_rfl) (fun _ _ _ h => h) (by rfl) hHeld ?hy116 ?rs116
  case hy116 => (intro w hSw; (try dsimp only at hSw); go_simp) <;> (try with_reducible rfl)
  (try simp only [Act.put, List.setIfInBounds_toArray, List.set_cons_zero, List.set_cons_succ])
  refine take_run (d := (some 73)) (v := ?v117) 4 rfl rfl (by kernel_rfl) (by kernel_rfl) (by kernel_rfl) (fun _ _ _ h => h) (by rfl) hHeld ?hy117 ?rs117
  case hy117 => (intro w hSw; (try dsimp only at hSw); go_simp) <;> (try with_reducible rfl)
  (try simp only [Act.put, List.setIfInBounds_toArray, List.set_cons_zero, List.set_cons_succ])
  refine take_run (d := (some 74)) (v := ?v118) 5 rfl rfl (by kernel_rfl) (by kernel_rfl) (by kernel_rfl) (fun _ _ _ h => h) (by rfl) hHeld ?hy118 ?rs118
  case hy118 => (intro w hSw; (try dsimp only at hSw); go_simp) <;> (try with_reducible rfl)
  (try simp only [Act.put, List.setIfInBounds_toArray, List.set_cons_zero, List.set_cons_succ])
  refine take_run (d := (some 75)) (v := ?v119) 6 rfl rfl (by kernel_rfl) (by kernel_rfl) (by kernel_rfl) (fun _ _ _ h => h) (by rfl) hHeld ?hy119 ?rs119
  case hy119 => (intro w hSw; (try dsimp only at hSw); go_simp) <;> (try with_reducible rfl)
  (try simp only [Act.put, List.setIfInBounds_toArray, List.set_cons_zero, List.set_cons_succ])
  refine take_run (d := (some 76)) (v := ?v120) 7 rfl rfl (by kernel_rfl) (by kernel_rfl) (by kernel_rfl) (fun _ _ _ h => h) (by rfl) hHeld ?hy120 ?rs120
  case hy120 => (intro w hSw; (try dsimp only at hSw); go_simp) <;> (try with_reducible rfl)
  (try simp only [Act.put, List.setIfInBounds_toArray, List.set_cons_zero, List.set_cons_succ])
  refine take_run (d := (some 77)) (v := ?v121) 8 rfl rfl (by kernel_rfl) (by kernel_rfl) (by kernel_rfl) (fun _ _ _ h => h) (by rfl) hHeld ?hy121 ?rs121
  case hy121 => (intro w hSw; (try dsimp only at hSw); go_simp) <;> (try with_reducible rfl)
  (try simp only [Act.put, List.setIfInBounds_toArray, List.set_cons_zero, List.set_cons_succ])
  refine take_skip (d := (some 78)) 9 rfl rfl (by kernel_rfl) (by kernel_rfl) (by kernel_rfl) (fun _ _ _ h => h) (by rfl) hHeld ?_
  (try simp only [Act.put, List.setIfInBounds_toArray, List.set_cons_zero, List.set_cons_succ])
  refine take_run (d := (some 79)) (v := ?v123) 10 rfl rfl (by kernel_rfl) (by kernel_rfl) (by kernel_rfl) (fun _ _ _ h => h) (by rfl) hHeld ?hy123 ?rs123
  case hy123 => (intro w hSw; (try dsimp only at hSw); go_simp) <;> (try with_reducible rfl)
  (try simp only [Act.put, List.setIfInBounds_toArray, List.set_cons_zero, List.set_cons_succ])
  refine take_run (d := (some 80)) (v := ?v124) 11 rfl rfl (by kernel_rfl) (by kernel_rfl) (by kernel_rfl) (fun _ _ _ h => h) (by rfl) hHeld ?hy124 ?rs124
  case hy124 => (intro w hSw; (try dsimp only at hSw); go_simp) <;> (try with_reducible rfl)
  (try simp only [Act.put, List.setIfInBounds_toArray, List.set_cons_zero, List.set_cons_succ])
  refine take_run (d := (some 81)) (v := ?v125) 12 rfl rfl (by kernel_rfl) (by kernel_rfl) (by kernel_rfl) (fun _ _ _ h => h) (by rfl) hHeld ?hy125 ?rs125
  case hy125 => (intro w hSw; (try dsimp only at hSw); go_simp) <;> (try with_reducible rfl)
  (try simp only [Act.put, List.setIfInBounds_toArray, List.set_cons_zero, List.set_cons_succ])
  refine take_run (d := (some 82)) (v := ?v126) 13 rfl rfl (by kernel_rfl) (by kernel_rfl) (by kernel_rfl) (fun _ _ _ h => h) (by rfl) hHeld ?hy126 ?rs126
  case hy126 => (intro w hSw; (try dsimp only at hSw); go_simp) <;> (try with_reducible rfl)
  (try simp only [Act.put, List.setIfInBounds_toArray, List.set_cons_zero, List.set_cons_succ])
  refine take_run (d := (some 83)) (v := ?v127) 14 rfl rfl (by kernel_rfl) (by kernel_rfl) (by kernel_rfl) (fun _ _ _ h => h) (by rfl) hHeld ?hy127 ?rs127
  case hy127 => (intro w hSw; (try dsimp only at hSw); go_simp) <;> (try with_reducible rfl)
  (try simp only [Act.put, List.setIfInBounds_toArray, List.set_cons_zero, List.set_cons_succ])
  refine take_run (d := (some 84)) (v := ?v128) 15 rfl rfl (by kernel_rfl) (by kernel_rfl) (by kernel_rfl) (fun _ _ _ h => h) (by rfl) hHeld ?hy128 ?rs128
  case hy128 => (intro w hSw; (try dsimp only at hSw); go_simp) <;> (try with_reducible rfl)
  (try simp only [Act.put, List.setIfInBounds_toArray, List.set_cons_zero, List.set_cons_succ])
  refine take_run (d := (some 85)) (v := ?v129) 16 rfl rfl (by kernel_rfl) (by kernel_rfl) (by kernel_rfl) (fun _ _ _ h => h) (by rfl) hHeld ?hy129 ?rs129
  case hy129 => (intro w hSw; (try dsimp only at hSw); go_simp) <;> (try with_reducible rfl)
  (try simp only [Act.put, List.setIfInBounds_toArray, List.set_cons_zero, List.set_cons_succ])
  refine take_run (d := (some 86)) (v := ?v130) 17 rfl rfl (by kernel_rfl) (by kernel_rfl) (by kernel_rfl) (fun _ _ _ h => h) (by rfl) hHeld ?hy130 ?rs130
  case hy130 => (intro w hSw; (try dsimp only at hSw); go_simp) <;> (try with_reducible rfl)
  (try simp only [Act.put, List.setIfInBounds_toArray, List.set_cons_zero, List.set_cons_succ])
  refine take_run (d := (some 87)) (v := ?v131) 18 rfl rfl (by kernel_rfl) (by kernel_rfl) (by kernel_rfl) (fun _ _ _ h => h) (by rfl) hHeld ?hy131 ?rs131
  case hy131 => (intro w hSw; (try dsimp only at hSw); go_simp) <;> (try with_reducible rfl)
  (try simp only [Act.put, List.setIfInBounds_toArray, List.set_cons_zero, List.set_cons_succ])
  refine take_run (d := (some 88)) (v := ?v132) 19 rfl rfl (by kernel_rfl) (by kernel_rfl) (by kernel_rfl) (fun _ _ _ h => h) (by rfl) hHeld ?hy132 ?rs132
  case hy132 => (intro w hSw; (try dsimp only at hSw); go_simp) <;> (try with_reducible rfl)
  (try simp only [Act.put, List.setIfInBounds_toArray, List.set_cons_zero, List.set_cons_succ])
  refine take_skip (d := (some 89)) 20 rfl rfl (by kernel_rfl) (by kernel_rfl) (by kernel_rfl) (fun _ _ _ h => h) (by rfl) hHeld ?_
  (try simp only [Act.put, List.setIfInBounds_toArray, List.set_cons_zero, List.set_cons_succ])
  refine take_skip (d := (some 90)) 21 rfl rfl (by kernel_rfl) (by kernel_rfl) (by kernel_rfl) (fun _ _ _ h => h) (by rfl) hHeld ?_
  (try simp only [Act.put, List.setIfInBounds_toArray, List.set_cons_zero, List.set_cons_succ])
  refine take_skip (d := (some 91)) 22 rfl rfl (by kernel_rfl) (by kernel_rfl) (by kernel_rfl) (fun _ _ _ h => h) (by rfl) hHeld ?_
  (try simp only [Act.put, List.setIfInBounds_toArray, List.set_cons_zero, List.set_cons_succ])
  refine take_skip (d := (some 92)) 23 rfl rfl (by kernel_rfl) (by kernel_rfl) (by kernel_rfl) (fun _ _ _ h => h) (by rfl) hHeld ?_
  (try simp only [Act.put, List.setIfInBounds_toArray, List.set_cons_zero, List.set_cons_succ])
  refine take_skip (d := (some 93)) 24 rfl rfl (by kernel_rfl) (by kernel_rfl) (by kernel_rfl) (fun _ _ _ h => h) (by rfl) hHeld ?_
  (try simp only [Act.put, List.setIfInBounds_toArray, List.set_cons_zero, List.set_cons_succ])
  refine take_run (d := (some 94)) (v := ?v138) 25 rfl rfl (by kernel_rfl) (by kernel_rfl) (by kernel_rfl) (fun _ _ _ h => h) (by rfl) hHeld ?hy138 ?rs138
  case hy138 => (intro w hSw; (try dsimp only at hSw); go_simp) <;> (try with_reducible rfl)
  (try simp only [Act.put, List.setIfInBounds_toArray, List.set_cons_zero, List.set_cons_succ])
  refine take_run (d := (some 95)) (v := ?v139) 26 rfl rfl (by kernel_rfl) (by kernel_rfl) (by kernel_rfl) (fun _ _ _ h => h) (by rfl) hHeld ?hy139 ?rs139
  case hy139 => (intro w hSw; (try dsimp only at hSw); go_simp) <;> (try with_reducible rfl)
  (try simp only [Act.put, List.setIfInBounds_toArray, List.set_cons_zero, List.set_cons_succ])
  refine take_run (d := (some 6)) (v := ?v140) 27 rfl rfl (by kernel_rfl) (by kernel_rfl) (by kernel_rfl) (fun _ _ _ h => h) (by rfl) hHeld ?hy140 ?rs140
  case hy140 => (intro w hSw; (try dsimp only at hSw); go_simp) <;> (try with_reducible rfl)
  (try simp only [Act.put, List.setIfInBounds_toArray, List.set_cons_zero, List.set_cons_succ])
  refine wpAnyH_done (by kernel_rfl) ?_ _
  obtain ⟨z0, z1, z2, z3, z4, z5, z6, z7, zW⟩ := hHeld
  go_wp2
  go_ret
  exact ⟨ret_bool (by simp), zW.out⟩

theorem chainorder_any (xl xs xr yl ys yr zl zs zr : List UInt8) (xvs : List (List UInt8)) (XV : Value) (yvs : List (List UInt8)) (YV : Value) (zvs : List (List UInt8)) (ZV : Value) (w : World) (hT : MaxW w)
    (hx : StrsAt w XV xvs) (x0 : Nil0 XV) (bx : xl.length + xs.length + xr.length + Lib.lens xvs + xvs.length ≤ 100000000)
    (hy : StrsAt w YV yvs) (y0 : Nil0 YV) (by' : yl.length + ys.length + yr.length + Lib.lens yvs + yvs.length ≤ 100000000)
    (hz : StrsAt w ZV zvs) (z0 : Nil0 ZV) (bz : zl.length + zs.length + zr.length + Lib.lens zvs + zvs.length ≤ 100000000) :
    Calls Tryd.prog 5 #[.agg #[.string ⟨xl.toArray⟩, .string ⟨xs.toArray⟩, .string ⟨xr.toArray⟩, XV], .agg #[.string ⟨yl.toArray⟩, .string ⟨ys.toArray⟩, .string ⟨yr.toArray⟩, YV], .agg #[.string ⟨zl.toArray⟩, .string ⟨zs.toArray⟩, .string ⟨zr.toArray⟩, ZV]] w fun e w' => e = .returned (.bool true) ∧ Below w.heap.size w w' := by
  obtain ⟨xa, xn, xc, rfl⟩ := hx.isSlice
  obtain ⟨ya, yn, yc, rfl⟩ := hy.isSlice
  obtain ⟨za, zn, zc, rfl⟩ := hz.isSlice
  have C1 := Lib.hid fun wx (h : Below w.heap.size w wx) => within_any ⟨xl, xs, xr, xvs⟩ ⟨yl, ys, yr, yvs⟩ _ _ wx (hx.below h) x0 bx (hy.below h) y0 by'
  have C2 := Lib.hid fun wx (h : Below w.heap.size w wx) => within_any ⟨yl, ys, yr, yvs⟩ ⟨zl, zs, zr, zvs⟩ _ _ wx (hy.below h) y0 by' (hz.below h) z0 bz
  have C3 := Lib.hid fun wx (h : Below w.heap.size w wx) => within_any ⟨xl, xs, xr, xvs⟩ ⟨zl, zs, zr, zvs⟩ _ _ wx (hx.below h) x0 bx (hz.below h) z0 bz
  have C4 := Lib.hid fun wx (h : Below w.heap.size w wx) => within_any ⟨yl, ys, yr, yvs⟩ ⟨xl, xs, xr, xvs⟩ _ _ wx (hy.below h) y0 by' (hx.below h) x0 bx
  have C5 := Lib.hid fun wx (h : Below w.heap.size w wx) => within_any ⟨xl, xs, xr, xvs⟩ ⟨xl, xs, xr, xvs⟩ _ _ wx (hx.below h) x0 bx (hx.below h) x0 bx
  by_cases fx : (⟨xl, xs, xr, xvs⟩ : Tg).fault = 0
  · by_cases fy : (⟨yl, ys, yr, yvs⟩ : Tg).fault = 0
    · by_cases fz : (⟨zl, zs, zr, zvs⟩ : Tg).fault = 0
      · have ox : (⟨xl, xs, xr, xvs⟩ : Tg).Ok := right_of fx
        have oy : (⟨yl, ys, yr, yvs⟩ : Tg).Ok := right_of fy
        have oz : (⟨zl, zs, zr, zvs⟩ : Tg).Ok := right_of fz
        simp only [fx, fy, fz, if_pos, errE_nil, decide_true, Bool.true_and, inChain_self ox] at C1 C2 C3 C4 C5
        have HT := Lib.hid (show inChain ⟨xl, xs, xr, xvs⟩ ⟨yl, ys, yr, yvs⟩ = true → inChain ⟨yl, ys, yr, yvs⟩ ⟨zl, zs, zr, zvs⟩ = true → inChain ⟨xl, xs, xr, xvs⟩ ⟨zl, zs, zr, zvs⟩ = true from inChain_on ox oy oz)
        have HB := Lib.hid (show inChain ⟨xl, xs, xr, xvs⟩ ⟨yl, ys, yr, yvs⟩ = true → inChain ⟨yl, ys, yr, yvs⟩ ⟨xl, xs, xr, xvs⟩ = true → tagText xl xs xr xvs = tagText yl ys yr yvs from inChain_both ox oy)
        have CA := Lib.hid fun wx (h : Below w.heap.size w wx) => text_any xl xs xr xvs _ wx (hx.below h) x0 bx
        have CB := Lib.hid fun wx (h : Below w.heap.size w wx) => text_any yl ys yr yvs _ wx (hy.below h) y0 by'
        generalize inChain ⟨xl, xs, xr, xvs⟩ ⟨yl, ys, yr, yvs⟩ = b1 at *
        generalize inChain ⟨yl, ys, yr, yvs⟩ ⟨zl, zs, zr, zvs⟩ = b2 at *
        generalize inChain ⟨xl, xs, xr, xvs⟩ ⟨zl, zs, zr, zvs⟩ = b3 at *
        generalize inChain ⟨yl, ys, yr, yvs⟩ ⟨xl, xs, xr, xvs⟩ = b4 at *
        cases b1 with
        | false => exact order_n xl xs xr yl ys yr zl zs zr xa ya za xn xc yn yc zn zc w hT b2 b3 b4 C1 C2 C3 C4 C5
        | true =>
          cases b2 with
          | true =>
            obtain rfl := HT.out rfl rfl
            cases b4 with
            | true => exact order_yyy xl xs xr yl ys yr zl zs zr xa ya za xn xc yn yc zn zc w hT _ CA (by rw [HB.out rfl rfl]; exact CB) C1 C2 C3 C4 C5
            | false => exact order_yyn xl xs xr yl ys yr zl zs zr xa ya za xn xc yn yc zn zc w hT C1 C2 C3 C4 C5
          | false =>
            cases b4 with
            | true => exact order_yny xl xs xr yl ys yr zl zs zr xa ya za xn xc yn yc zn zc w hT b3 _ CA (by rw [HB.out rfl rfl]; exact CB) C1 C2 C3 C4 C5
            | false => exact order_ynn xl xs xr yl ys yr zl zs zr xa ya za xn xc yn yc zn zc w hT b3 C1 C2 C3 C4 C5
      · simp only [fx, fy, if_pos, errE_nil] at C1
        simp only [fy, if_pos] at C2
        rw [errE_some fz] at C2
        exact order_g xl xs xr yl ys yr zl zs zr xa ya za xn xc yn yc zn zc w hT _ _ _ _ _ _ _ _ _ C1 C2 C3 C4 C5
    · simp only [fx, if_pos] at C1
      rw [errE_some fy] at C1
      exact order_f xl xs xr yl ys yr zl zs zr xa ya za xn xc yn yc zn zc w hT _ _ _ _ _ _ _ _ _ _ C1 C2 C3 C4 C5
  · rw [if_neg fx, errE_some fx] at C1
    exact order_f xl xs xr yl ys yr zl zs zr xa ya za xn xc yn yc zn zc w hT _ _ _ _ _ _ _ _ _ _ C1 C2 C3 C4 C5
end Go.Proofs.YtlhleojigcnjeaaDoor
