/- The walk of the law WeekTells: it returns true of whatever day, week and year. -/
import Derived.Test.YtdcemkfljhdceaaDoorHasDay
import Derived.Test.YtdcemkfljhdceaaDoorKeep
import Derived.Test.YtdcemkfljhdceaaDoorWeekTxt
import Derived.Test.YtdcemkfljhdceaaDoorRwd
import Derived.Test.YtdcemkfljhdceaaDoorDigits
import Derived.Test.YtdcemkfljhdceaaDoorPH
namespace Go.Proofs.YtdcemkfljhdceaaDoor
open Go.RowKit

structure TPH (w : World) : Prop where
  t : TabW w
  p : PowW w
  h : HanW w
theorem TPH.below {w w' : World} (h : TPH w) (hb : Below w.heap.size w w') : TPH w' := ⟨h.t.below hb, h.p.below hb, h.h.below hb⟩
theorem TPH.alloc {w : World} (h : TPH w) (o : Obj) : TPH (w.alloc o) := h.below (blw_alloc w o)

set_option maxRecDepth 100000 in
set_option maxHeartbeats 4000000 in
theorem weekTells_dwok (y m d p q r x p0 q0 r0 A1 A2 A3 X1 X2 X3 K : Int) (P Q R T : List UInt8) (w : World) (hT : TPH w)
    (lp : P.length ≤ 120) (lq : Q.length ≤ 120) (lr : R.length ≤ 120) (HX : P ++ [45, 87] ++ Q ++ [45] ++ R = T)
    (mp : max p 0 = p0) (mq : max q 0 = q0) (mr : max r 0 = r0)
    (CF : Hid (∀ w : World, Calls Tryd.prog 6 #[.agg #[.int .i64 y, .int .i64 m, .int .i64 d]] w fun e w' => e = .returned (.bool false) ∧ Below w.heap.size w w'))
    (CW : Hid (∀ w : World, Calls Tryd.prog 7 #[.agg #[.int .i64 y, .int .i64 m, .int .i64 d]] w fun e w' => e = .returned (.agg #[.int .i64 A1, .int .i64 A2, .int .i64 A3]) ∧ Below w.heap.size w w'))
    (CO : Hid (∀ w : World, TPH w → Calls Tryd.prog 8 #[.agg #[.int .i64 y, .int .i64 m, .int .i64 d]] w fun e w' => e = .returned (.tuple #[.agg #[.int .i64 A1, .int .i64 A2, .int .i64 A3], .nilIface]) ∧ Below w.heap.size w w'))
    (CX : Hid (∀ w : World, Calls Tryd.prog 10 #[.agg #[.int .i64 p, .int .i64 q, .int .i64 r]] w fun e w' => e = .returned (.tuple #[.agg #[.int .i64 X1, .int .i64 X2, .int .i64 X3], .bool true]) ∧ Below w.heap.size w w'))
    (D1 : Hid (∀ w : World, Calls Tryd.prog 11 #[.int .i64 p0, .int .i64 4] w fun e w' => e = .returned (.string ⟨P.toArray⟩) ∧ Below w.heap.size w w'))
    (D2 : Hid (∀ w : World, Calls Tryd.prog 11 #[.int .i64 q0, .int .i64 2] w fun e w' => e = .returned (.string ⟨Q.toArray⟩) ∧ Below w.heap.size w w'))
    (D3 : Hid (∀ w : World, Calls Tryd.prog 11 #[.int .i64 r0, .int .i64 1] w fun e w' => e = .returned (.string ⟨R.toArray⟩) ∧ Below w.heap.size w w'))
    (CB : Hid (∀ w : World, TPH w → Calls Tryd.prog 12 #[.agg #[.int .i64 p, .int .i64 q, .int .i64 r]] w fun e w' => e = .returned (.tuple #[.agg #[.int .i64 X1, .int .i64 X2, .int .i64 X3], .nilIface]) ∧ Below w.heap.size w w'))
    (CT : Hid (∀ w : World, TPH w → Calls Tryd.prog 13 #[.agg #[.int .i64 p, .int .i64 q, .int .i64 r]] w fun e w' => e = .returned (.tuple #[.string ⟨T.toArray⟩, .nilIface]) ∧ Below w.heap.size w w'))
    (y0 : ¬ x < 1) (y1 : ¬ 9999 < x) (CY : Hid (∀ w : World, Calls Tryd.prog 14 #[.int .i64 x] w fun e w' => e = .returned (.int .i64 K) ∧ w = w'))
    (CN : Hid (∀ w : World, Calls Tryd.prog 15 #[.int .i64 x] w fun e w' => e = .returned (.tuple #[.int .i64 K, .nilIface]) ∧ w = w')) :
    Calls Tryd.prog 3 #[.agg #[.int .i64 y, .int .i64 m, .int .i64 d], .agg #[.int .i64 p, .int .i64 q, .int .i64 r], .int .i64 x] w fun e w' => e = .returned (.bool true) ∧ Below w.heap.size w w' := by
  have C0 := Lib.hid fun w (hT : TPH w) => weekly_any w hT.t
  have E0 := Lib.hid fun w (hT : TPH w) => sameErr_yes ErrNo.nil w hT.h
  have E1 := Lib.hid fun w (hT : TPH w) => sameErr_yes (ErrNo.no 1) w hT.h
  have g1 : decide (x < 1) = false := dec_no y0
  have g2 : decide (9999 < x) = false := dec_no y1
  obtain ⟨Y1, x1⟩ : ∃ X, X = P ++ [45, 87] := ⟨_, rfl⟩
  have S1 : ∀ w, (Op.stringOp .add ⟨P.toArray⟩ ⟨#[45, 87]⟩).run Tryd.prog w = .ok (.string ⟨Y1.toArray⟩) w := fun w => by rw [x1]; exact add_str (P := Tryd.prog) P [45, 87] (by first | omega | (simp; omega)) w
  have m1 : Y1.length = P.length + 2 := by rw [x1]; simp
  obtain ⟨Y2, x2⟩ : ∃ X, X = Y1 ++ Q := ⟨_, rfl⟩
  have S2 : ∀ w, (Op.stringOp .add ⟨Y1.toArray⟩ ⟨Q.toArray⟩).run Tryd.prog w = .ok (.string ⟨Y2.toArray⟩) w := fun w => by rw [x2]; exact add_str (P := Tryd.prog) Y1 Q (by first | omega | (simp; omega)) w
  have m2 : Y2.length = Y1.length + Q.length := by rw [x2]; simp
  obtain ⟨Y3, x3⟩ : ∃ X, X = Y2 ++ [45] := ⟨_, rfl⟩
  have S3 : ∀ w, (Op.stringOp .add ⟨Y2.toArray⟩ ⟨#[45]⟩).run Tryd.prog w = .ok (.string ⟨Y3.toArray⟩) w := fun w => by rw [x3]; exact add_str (P := Tryd.prog) Y2 [45] (by first | omega | (simp; omega)) w
  have m3 : Y3.length = Y2.length + 1 := by rw [x3]; simp
  have S4 : ∀ w, (Op.stringOp .add ⟨Y3.toArray⟩ ⟨R.toArray⟩).run Tryd.prog w = .ok (.string ⟨T.toArray⟩) w := fun w => by rw [← HX, ← x1, ← x2, ← x3]; exact add_str (P := Tryd.prog) Y3 R (by omega) w
  clear x1 x2 x3 m1 m2 m3 HX lp lq lr
  go_enter Tryd.func3, Tryd.ntmps3
  go_wp2_with fail
  refine (C0.out _ (hT.below (by repeat (first | exact (Below.refl _ _) | refine blw_drewN ?_ _ | refine Below.setCell ?_ (by first | (simp; done) | omega | (simp; omega)) _ | refine Below.alloc ?_ (by first | (simp; done) | omega | (simp; omega)) _)))).mono ?_
  rintro e w1 ⟨rfl, hb⟩
  have W1 := Lib.hid (blw_trans (show Below w.heap.size w _ by repeat (first | exact (Below.refl _ _) | refine blw_drewN ?_ _ | refine Below.setCell ?_ (by first | (simp; done) | omega | (simp; omega)) _ | refine Below.alloc ?_ (by first | (simp; done) | omega | (simp; omega)) _)) hb)
  have n1 := hb.size
  try simp at n1
  have k1_d0 := cell_keep (a := ⟨w.heap.size, 0, none⟩) (v := .int .i64 y) (by first | (go_keep; done) | (simp [go_sem, *]; done)) hb
  have k1_d1 := cell_keep (a := ⟨w.heap.size, 1, none⟩) (v := .int .i64 m) (by first | (go_keep; done) | (simp [go_sem, *]; done)) hb
  have k1_d2 := cell_keep (a := ⟨w.heap.size, 2, none⟩) (v := .int .i64 d) (by first | (go_keep; done) | (simp [go_sem, *]; done)) hb
  have l1_d := World.block_lt_of_cell? _ _ k1_d0
  try simp only at l1_d
  have k1_u0 := cell_keep (a := ⟨w.heap.size + 1, 0, none⟩) (v := .int .i64 p) (by first | (go_keep; done) | (simp [go_sem, *]; done)) hb
  have k1_u1 := cell_keep (a := ⟨w.heap.size + 1, 1, none⟩) (v := .int .i64 q) (by first | (go_keep; done) | (simp [go_sem, *]; done)) hb
  have k1_u2 := cell_keep (a := ⟨w.heap.size + 1, 2, none⟩) (v := .int .i64 r) (by first | (go_keep; done) | (simp [go_sem, *]; done)) hb
  have l1_u := World.block_lt_of_cell? _ _ k1_u0
  try simp only at l1_u
  clear hb
  have ne1 : ¬ w1.heap.size = w.heap.size := by omega
  have me1 : ¬ w.heap.size = w1.heap.size := by omega
  have ne2 : ¬ w1.heap.size = w.heap.size + 1 := by omega
  have me2 : ¬ w.heap.size + 1 = w1.heap.size := by omega
  go_wp2_with fail
  refine (CF.out _).mono ?_
  rintro e w2 ⟨rfl, hb⟩
  have W2 := Lib.hid (blw_trans (show Below w.heap.size w _ by repeat (first | exact W1.out | refine blw_drewN ?_ _ | refine Below.setCell ?_ (by first | (simp; done) | omega | (simp; omega)) _ | refine Below.alloc ?_ (by first | (simp; done) | omega | (simp; omega)) _)) hb)
  have n2 := hb.size
  try simp at n2
  have k2_d0 := cell_keep (a := ⟨w.heap.size, 0, none⟩) (v := .int .i64 y) (by first | (go_keep; done) | (simp [go_sem, *]; done)) hb
  have k2_d1 := cell_keep (a := ⟨w.heap.size, 1, none⟩) (v := .int .i64 m) (by first | (go_keep; done) | (simp [go_sem, *]; done)) hb
  have k2_d2 := cell_keep (a := ⟨w.heap.size, 2, none⟩) (v := .int .i64 d) (by first | (go_keep; done) | (simp [go_sem, *]; done)) hb
  have l2_d := World.block_lt_of_cell? _ _ k2_d0
  try simp only at l2_d
  have k2_u0 := cell_keep (a := ⟨w.heap.size + 1, 0, none⟩) (v := .int .i64 p) (by first | (go_keep; done) | (simp [go_sem, *]; done)) hb
  have k2_u1 := cell_keep (a := ⟨w.heap.size + 1, 1, none⟩) (v := .int .i64 q) (by first | (go_keep; done) | (simp [go_sem, *]; done)) hb
  have k2_u2 := cell_keep (a := ⟨w.heap.size + 1, 2, none⟩) (v := .int .i64 r) (by first | (go_keep; done) | (simp [go_sem, *]; done)) hb
  have l2_u := World.block_lt_of_cell? _ _ k2_u0
  try simp only at l2_u
  have k2_t0 := cell_keep (a := ⟨w1.heap.size, 0, none⟩) (v := .int .i64 0) (by first | (go_keep; done) | (simp [go_sem, *]; done)) hb
  have f2_t0 := (hb.frozen (p := ⟨w1.heap.size, 0, none⟩) (by first | (simp; done) | omega | (simp; omega))).trans (show _ = false by first | (simp; done) | (simp [go_sem]; done))
  have k2_t1 := cell_keep (a := ⟨w1.heap.size, 1, none⟩) (v := .int .i64 0) (by first | (go_keep; done) | (simp [go_sem, *]; done)) hb
  have f2_t1 := (hb.frozen (p := ⟨w1.heap.size, 1, none⟩) (by first | (simp; done) | omega | (simp; omega))).trans (show _ = false by first | (simp; done) | (simp [go_sem]; done))
  have k2_t2 := cell_keep (a := ⟨w1.heap.size, 2, none⟩) (v := .int .i64 0) (by first | (go_keep; done) | (simp [go_sem, *]; done)) hb
  have f2_t2 := (hb.frozen (p := ⟨w1.heap.size, 2, none⟩) (by first | (simp; done) | omega | (simp; omega))).trans (show _ = false by first | (simp; done) | (simp [go_sem]; done))
  have l2_t := World.block_lt_of_cell? _ _ k2_t0
  try simp only at l2_t
  clear hb k1_d0 k1_d1 k1_d2 l1_d k1_u0 k1_u1 k1_u2 l1_u W1
  go_wp2_with fail
  refine (CW.out _).mono ?_
  rintro e w3 ⟨rfl, hb⟩
  have W3 := Lib.hid (blw_trans (show Below w.heap.size w _ by repeat (first | exact W2.out | refine blw_drewN ?_ _ | refine Below.setCell ?_ (by first | (simp; done) | omega | (simp; omega)) _ | refine Below.alloc ?_ (by first | (simp; done) | omega | (simp; omega)) _)) hb)
  have n3 := hb.size
  try simp at n3
  have k3_d0 := cell_keep (a := ⟨w.heap.size, 0, none⟩) (v := .int .i64 y) (by first | (go_keep; done) | (simp [go_sem, *]; done)) hb
  have k3_d1 := cell_keep (a := ⟨w.heap.size, 1, none⟩) (v := .int .i64 m) (by first | (go_keep; done) | (simp [go_sem, *]; done)) hb
  have k3_d2 := cell_keep (a := ⟨w.heap.size, 2, none⟩) (v := .int .i64 d) (by first | (go_keep; done) | (simp [go_sem, *]; done)) hb
  have l3_d := World.block_lt_of_cell? _ _ k3_d0
  try simp only at l3_d
  have k3_u0 := cell_keep (a := ⟨w.heap.size + 1, 0, none⟩) (v := .int .i64 p) (by first | (go_keep; done) | (simp [go_sem, *]; done)) hb
  have k3_u1 := cell_keep (a := ⟨w.heap.size + 1, 1, none⟩) (v := .int .i64 q) (by first | (go_keep; done) | (simp [go_sem, *]; done)) hb
  have k3_u2 := cell_keep (a := ⟨w.heap.size + 1, 2, none⟩) (v := .int .i64 r) (by first | (go_keep; done) | (simp [go_sem, *]; done)) hb
  have l3_u := World.block_lt_of_cell? _ _ k3_u0
  try simp only at l3_u
  have k3_t0 := cell_keep (a := ⟨w1.heap.size, 0, none⟩) (v := .int .i64 0) (by first | (go_keep; done) | (simp [go_sem, *]; done)) hb
  have f3_t0 := (hb.frozen (p := ⟨w1.heap.size, 0, none⟩) (by first | (simp; done) | omega | (simp; omega))).trans (show _ = false by first | exact f2_t0 | (simp; done) | (simp [go_sem]; done) | (simp [f2_t0]; done))
  have k3_t1 := cell_keep (a := ⟨w1.heap.size, 1, none⟩) (v := .int .i64 0) (by first | (go_keep; done) | (simp [go_sem, *]; done)) hb
  have f3_t1 := (hb.frozen (p := ⟨w1.heap.size, 1, none⟩) (by first | (simp; done) | omega | (simp; omega))).trans (show _ = false by first | exact f2_t1 | (simp; done) | (simp [go_sem]; done) | (simp [f2_t1]; done))
  have k3_t2 := cell_keep (a := ⟨w1.heap.size, 2, none⟩) (v := .int .i64 0) (by first | (go_keep; done) | (simp [go_sem, *]; done)) hb
  have f3_t2 := (hb.frozen (p := ⟨w1.heap.size, 2, none⟩) (by first | (simp; done) | omega | (simp; omega))).trans (show _ = false by first | exact f2_t2 | (simp; done) | (simp [go_sem]; done) | (simp [f2_t2]; done))
  have l3_t := World.block_lt_of_cell? _ _ k3_t0
  try simp only at l3_t
  clear hb k2_d0 k2_d1 k2_d2 l2_d k2_u0 k2_u1 k2_u2 l2_u k2_t0 f2_t0 k2_t1 f2_t1 k2_t2 f2_t2 l2_t W2
  go_wp2_with fail
  refine (CO.out _ (hT.below (by repeat (first | exact W3.out | refine blw_drewN ?_ _ | refine Below.setCell ?_ (by first | (simp; done) | omega | (simp; omega)) _ | refine Below.alloc ?_ (by first | (simp; done) | omega | (simp; omega)) _)))).mono ?_
  rintro e w4 ⟨rfl, hb⟩
  have W4 := Lib.hid (blw_trans (show Below w.heap.size w _ by repeat (first | exact W3.out | refine blw_drewN ?_ _ | refine Below.setCell ?_ (by first | (simp; done) | omega | (simp; omega)) _ | refine Below.alloc ?_ (by first | (simp; done) | omega | (simp; omega)) _)) hb)
  have n4 := hb.size
  try simp at n4
  have k4_u0 := cell_keep (a := ⟨w.heap.size + 1, 0, none⟩) (v := .int .i64 p) (by first | (go_keep; done) | (simp [go_sem, *]; done)) hb
  have k4_u1 := cell_keep (a := ⟨w.heap.size + 1, 1, none⟩) (v := .int .i64 q) (by first | (go_keep; done) | (simp [go_sem, *]; done)) hb
  have k4_u2 := cell_keep (a := ⟨w.heap.size + 1, 2, none⟩) (v := .int .i64 r) (by first | (go_keep; done) | (simp [go_sem, *]; done)) hb
  have l4_u := World.block_lt_of_cell? _ _ k4_u0
  try simp only at l4_u
  have k4_t0 := cell_keep (a := ⟨w1.heap.size, 0, none⟩) (v := .int .i64 A1) (by first | (go_keep; done) | (simp [go_sem, *]; done)) hb
  have k4_t1 := cell_keep (a := ⟨w1.heap.size, 1, none⟩) (v := .int .i64 A2) (by first | (go_keep; done) | (simp [go_sem, *]; done)) hb
  have k4_t2 := cell_keep (a := ⟨w1.heap.size, 2, none⟩) (v := .int .i64 A3) (by first | (go_keep; done) | (simp [go_sem, *]; done)) hb
  have l4_t := World.block_lt_of_cell? _ _ k4_t0
  try simp only at l4_t
  clear hb k3_d0 k3_d1 k3_d2 l3_d k3_u0 k3_u1 k3_u2 l3_u k3_t0 f3_t0 k3_t1 f3_t1 k3_t2 f3_t2 l3_t W3
  go_wp2_with fail
  refine (E0.out _ (hT.below (by repeat (first | exact W4.out | refine blw_drewN ?_ _ | refine Below.setCell ?_ (by first | (simp; done) | omega | (simp; omega)) _ | refine Below.alloc ?_ (by first | (simp; done) | omega | (simp; omega)) _)))).mono ?_
  rintro e w5 ⟨rfl, hb⟩
  have W5 := Lib.hid (blw_trans (show Below w.heap.size w _ by repeat (first | exact W4.out | refine blw_drewN ?_ _ | refine Below.setCell ?_ (by first | (simp; done) | omega | (simp; omega)) _ | refine Below.alloc ?_ (by first | (simp; done) | omega | (simp; omega)) _)) hb)
  have n5 := hb.size
  try simp at n5
  have k5_u0 := cell_keep (a := ⟨w.heap.size + 1, 0, none⟩) (v := .int .i64 p) (by first | (go_keep; done) | (simp [go_sem, *]; done)) hb
  have k5_u1 := cell_keep (a := ⟨w.heap.size + 1, 1, none⟩) (v := .int .i64 q) (by first | (go_keep; done) | (simp [go_sem, *]; done)) hb
  have k5_u2 := cell_keep (a := ⟨w.heap.size + 1, 2, none⟩) (v := .int .i64 r) (by first | (go_keep; done) | (simp [go_sem, *]; done)) hb
  have l5_u := World.block_lt_of_cell? _ _ k5_u0
  try simp only at l5_u
  have k5_t0 := cell_keep (a := ⟨w1.heap.size, 0, none⟩) (v := .int .i64 A1) (by first | (go_keep; done) | (simp [go_sem, *]; done)) hb
  have k5_t1 := cell_keep (a := ⟨w1.heap.size, 1, none⟩) (v := .int .i64 A2) (by first | (go_keep; done) | (simp [go_sem, *]; done)) hb
  have k5_t2 := cell_keep (a := ⟨w1.heap.size, 2, none⟩) (v := .int .i64 A3) (by first | (go_keep; done) | (simp [go_sem, *]; done)) hb
  have l5_t := World.block_lt_of_cell? _ _ k5_t0
  try simp only at l5_t
  have k5_a0 := cell_keep (a := ⟨w4.heap.size, 0, none⟩) (v := .int .i64 A1) (by first | (go_keep; done) | (simp [go_sem, *]; done)) hb
  have k5_a1 := cell_keep (a := ⟨w4.heap.size, 1, none⟩) (v := .int .i64 A2) (by first | (go_keep; done) | (simp [go_sem, *]; done)) hb
  have k5_a2 := cell_keep (a := ⟨w4.heap.size, 2, none⟩) (v := .int .i64 A3) (by first | (go_keep; done) | (simp [go_sem, *]; done)) hb
  have l5_a := World.block_lt_of_cell? _ _ k5_a0
  try simp only at l5_a
  clear hb k4_u0 k4_u1 k4_u2 l4_u k4_t0 k4_t1 k4_t2 l4_t W4
  go_wp2_with fail
  refine (CX.out _).mono ?_
  rintro e w6 ⟨rfl, hb⟩
  have W6 := Lib.hid (blw_trans (show Below w.heap.size w _ by repeat (first | exact W5.out | refine blw_drewN ?_ _ | refine Below.setCell ?_ (by first | (simp; done) | omega | (simp; omega)) _ | refine Below.alloc ?_ (by first | (simp; done) | omega | (simp; omega)) _)) hb)
  have n6 := hb.size
  try simp at n6
  have k6_u0 := cell_keep (a := ⟨w.heap.size + 1, 0, none⟩) (v := .int .i64 p) (by first | (go_keep; done) | (simp [go_sem, *]; done)) hb
  have k6_u1 := cell_keep (a := ⟨w.heap.size + 1, 1, none⟩) (v := .int .i64 q) (by first | (go_keep; done) | (simp [go_sem, *]; done)) hb
  have k6_u2 := cell_keep (a := ⟨w.heap.size + 1, 2, none⟩) (v := .int .i64 r) (by first | (go_keep; done) | (simp [go_sem, *]; done)) hb
  have l6_u := World.block_lt_of_cell? _ _ k6_u0
  try simp only at l6_u
  have k6_t0 := cell_keep (a := ⟨w1.heap.size, 0, none⟩) (v := .int .i64 A1) (by first | (go_keep; done) | (simp [go_sem, *]; done)) hb
  have k6_t1 := cell_keep (a := ⟨w1.heap.size, 1, none⟩) (v := .int .i64 A2) (by first | (go_keep; done) | (simp [go_sem, *]; done)) hb
  have k6_t2 := cell_keep (a := ⟨w1.heap.size, 2, none⟩) (v := .int .i64 A3) (by first | (go_keep; done) | (simp [go_sem, *]; done)) hb
  have l6_t := World.block_lt_of_cell? _ _ k6_t0
  try simp only at l6_t
  have k6_a0 := cell_keep (a := ⟨w4.heap.size, 0, none⟩) (v := .int .i64 A1) (by first | (go_keep; done) | (simp [go_sem, *]; done)) hb
  have k6_a1 := cell_keep (a := ⟨w4.heap.size, 1, none⟩) (v := .int .i64 A2) (by first | (go_keep; done) | (simp [go_sem, *]; done)) hb
  have k6_a2 := cell_keep (a := ⟨w4.heap.size, 2, none⟩) (v := .int .i64 A3) (by first | (go_keep; done) | (simp [go_sem, *]; done)) hb
  have l6_a := World.block_lt_of_cell? _ _ k6_a0
  try simp only at l6_a
  clear hb k5_u0 k5_u1 k5_u2 l5_u k5_t0 k5_t1 k5_t2 l5_t k5_a0 k5_a1 k5_a2 l5_a W5
  go_wp2_with fail
  refine wp_region_held_drew (S := fun w' => w'.cell? ⟨w.heap.size + 1, 0, none⟩ = some (.int .i64 p) ∧ w'.cell? ⟨w.heap.size + 1, 1, none⟩ = some (.int .i64 q) ∧ w'.cell? ⟨w.heap.size + 1, 2, none⟩ = some (.int .i64 r) ∧ w'.cell? ⟨w1.heap.size, 0, none⟩ = some (.int .i64 A1) ∧ w'.cell? ⟨w1.heap.size, 1, none⟩ = some (.int .i64 A2) ∧ w'.cell? ⟨w1.heap.size, 2, none⟩ = some (.int .i64 A3) ∧ w'.cell? ⟨w4.heap.size, 0, none⟩ = some (.int .i64 A1) ∧ w'.cell? ⟨w4.heap.size, 1, none⟩ = some (.int .i64 A2) ∧ w'.cell? ⟨w4.heap.size, 2, none⟩ = some (.int .i64 A3) ∧ w'.cell? ⟨w6.heap.size, 0, none⟩ = some (.int .i64 X1) ∧ w'.cell? ⟨w6.heap.size, 1, none⟩ = some (.int .i64 X2) ∧ w'.cell? ⟨w6.heap.size, 2, none⟩ = some (.int .i64 X3) ∧ Hid (Below w.heap.size w w')) (by kernel_rfl) (by refine ⟨by go_keep, by go_keep, by go_keep, by go_keep, by go_keep, by go_keep, by go_keep, by go_keep, by go_keep, by go_keep, by go_keep, by go_keep, Lib.hid (Below.drew ?_)⟩; repeat (first | exact W6.out | refine blw_drewN ?_ _ | refine Below.setCell ?_ (by first | (simp; done) | omega | (simp; omega)) _ | refine Below.alloc ?_ (by first | (simp; done) | omega | (simp; omega)) _)) (fun hHeld => ?_)
  refine take_run (d := (some 41)) (v := ?v1) 0 rfl rfl (by kernel_rfl) (by kernel_rfl) (by kernel_rfl) (fun _ _ _ h => h) (by rfl) hHeld ?hy1 ?rs1
  case hy1 => (intro w hSw; (try dsimp only at hSw); go_simp) <;> (try with_reducible rfl)
  (try simp only [Act.put, List.setIfInBounds_toArray, List.set_cons_zero, List.set_cons_succ])
  refine take_run (d := (some 42)) (v := ?v2) 1 rfl rfl (by kernel_rfl) (by kernel_rfl) (by kernel_rfl) (fun _ _ _ h => h) (by rfl) hHeld ?hy2 ?rs2
  case hy2 => (intro w hSw; (try dsimp only at hSw); go_simp) <;> (try with_reducible rfl)
  (try simp only [Act.put, List.setIfInBounds_toArray, List.set_cons_zero, List.set_cons_succ])
  refine take_run (d := (some 43)) (v := ?v3) 2 rfl rfl (by kernel_rfl) (by kernel_rfl) (by kernel_rfl) (fun _ _ _ h => h) (by rfl) hHeld ?hy3 ?rs3
  case hy3 => (intro w hSw; (try dsimp only at hSw); go_simp) <;> (try with_reducible rfl)
  (try simp only [Act.put, List.setIfInBounds_toArray, List.set_cons_zero, List.set_cons_succ])
  refine take_run (d := (some 46)) (v := ?v4) 5 rfl rfl (by kernel_rfl) (by kernel_rfl) (by kernel_rfl) (fun _ _ _ h => h) (by rfl) hHeld ?hy4 ?rs4
  case hy4 => (intro w hSw; (try dsimp only at hSw); go_simp) <;> (try with_reducible rfl)
  (try simp only [Act.put, List.setIfInBounds_toArray, List.set_cons_zero, List.set_cons_succ])
  refine take_run (d := (some 47)) (v := ?v5) 6 rfl rfl (by kernel_rfl) (by kernel_rfl) (by kernel_rfl) (fun _ _ _ h => h) (by rfl) hHeld ?hy5 ?rs5
  case hy5 => (intro w hSw; (try dsimp only at hSw); go_simp) <;> (try with_reducible rfl)
  (try simp only [Act.put, List.setIfInBounds_toArray, List.set_cons_zero, List.set_cons_succ])
  refine take_run (d := (some 48)) (v := ?v6) 7 rfl rfl (by kernel_rfl) (by kernel_rfl) (by kernel_rfl) (fun _ _ _ h => h) (by rfl) hHeld ?hy6 ?rs6
  case hy6 => (intro w hSw; (try dsimp only at hSw); go_simp) <;> (try with_reducible rfl)
  (try simp only [Act.put, List.setIfInBounds_toArray, List.set_cons_zero, List.set_cons_succ])
  refine take_run (d := (some 52)) (v := ?v7) 11 rfl rfl (by kernel_rfl) (by kernel_rfl) (by kernel_rfl) (fun _ _ _ h => h) (by rfl) hHeld ?hy7 ?rs7
  case hy7 => (intro w hSw; (try dsimp only at hSw); go_simp) <;> (try with_reducible rfl)
  (try simp only [Act.put, List.setIfInBounds_toArray, List.set_cons_zero, List.set_cons_succ])
  refine take_run (d := (some 53)) (v := ?v8) 12 rfl rfl (by kernel_rfl) (by kernel_rfl) (by kernel_rfl) (fun _ _ _ h => h) (by rfl) hHeld ?hy8 ?rs8
  case hy8 => (intro w hSw; (try dsimp only at hSw); go_simp) <;> (try with_reducible rfl)
  (try simp only [Act.put, List.setIfInBounds_toArray, List.set_cons_zero, List.set_cons_succ])
  refine take_run (d := (some 54)) (v := ?v9) 13 rfl rfl (by kernel_rfl) (by kernel_rfl) (by kernel_rfl) (fun _ _ _ h => h) (by rfl) hHeld ?hy9 ?rs9
  case hy9 => (intro w hSw; (try dsimp only at hSw); go_simp) <;> (try with_reducible rfl)
  (try simp only [Act.put, List.setIfInBounds_toArray, List.set_cons_zero, List.set_cons_succ])
  refine take_call 3 rfl (by kernel_rfl) (by rfl) (fun K hK => ?_)
  go_simp
  refine (D1.out _).mono ?_
  rintro e w' ⟨rfl, hb⟩
  refine hK.out _ _ (by obtain ⟨h0, h1, h2, h3, h4, h5, h6, h7, h8, h9, h10, h11, hw⟩ := hHeld; exact ⟨cell_keep h0 hb, cell_keep h1 hb, cell_keep h2 hb, cell_keep h3 hb, cell_keep h4 hb, cell_keep h5 hb, cell_keep h6 hb, cell_keep h7 hb, cell_keep h8 hb, cell_keep h9 hb, cell_keep h10 hb, cell_keep h11 hb, Lib.hid (blw_trans hw.out hb)⟩) (fun hHeld => ?_)
  clear hK K
  (try simp only [Act.put, List.setIfInBounds_toArray, List.set_cons_zero, List.set_cons_succ])
  refine take_run (d := (some 45)) (v := ?v11) 4 rfl rfl (by kernel_rfl) (by kernel_rfl) (by kernel_rfl) (fun _ _ _ h => h) (by rfl) hHeld ?hy11 ?rs11
  case hy11 => (intro w hSw; (try dsimp only at hSw); go_simp) <;> (try with_reducible rfl)
  (try simp only [Act.put, List.setIfInBounds_toArray, List.set_cons_zero, List.set_cons_succ])
  refine take_call 8 rfl (by kernel_rfl) (by rfl) (fun K hK => ?_)
  go_simp
  refine (D2.out _).mono ?_
  rintro e w' ⟨rfl, hb⟩
  refine hK.out _ _ (by obtain ⟨h0, h1, h2, h3, h4, h5, h6, h7, h8, h9, h10, h11, hw⟩ := hHeld; exact ⟨cell_keep h0 hb, cell_keep h1 hb, cell_keep h2 hb, cell_keep h3 hb, cell_keep h4 hb, cell_keep h5 hb, cell_keep h6 hb, cell_keep h7 hb, cell_keep h8 hb, cell_keep h9 hb, cell_keep h10 hb, cell_keep h11 hb, Lib.hid (blw_trans hw.out hb)⟩) (fun hHeld => ?_)
  clear hK K
  (try simp only [Act.put, List.setIfInBounds_toArray, List.set_cons_zero, List.set_cons_succ])
  refine take_run (d := (some 50)) (v := ?v13) 9 rfl rfl (by kernel_rfl) (by kernel_rfl) (by kernel_rfl) (fun _ _ _ h => h) (by rfl) hHeld ?hy13 ?rs13
  case hy13 => (intro w hSw; (try dsimp only at hSw); go_simp) <;> (try with_reducible rfl)
  (try simp only [Act.put, List.setIfInBounds_toArray, List.set_cons_zero, List.set_cons_succ])
  refine take_run (d := (some 51)) (v := ?v14) 10 rfl rfl (by kernel_rfl) (by kernel_rfl) (by kernel_rfl) (fun _ _ _ h => h) (by rfl) hHeld ?hy14 ?rs14
  case hy14 => (intro w hSw; (try dsimp only at hSw); go_simp) <;> (try with_reducible rfl)
  (try simp only [Act.put, List.setIfInBounds_toArray, List.set_cons_zero, List.set_cons_succ])
  refine take_call 14 rfl (by kernel_rfl) (by rfl) (fun K hK => ?_)
  go_simp
  refine (D3.out _).mono ?_
  rintro e w' ⟨rfl, hb⟩
  refine hK.out _ _ (by obtain ⟨h0, h1, h2, h3, h4, h5, h6, h7, h8, h9, h10, h11, hw⟩ := hHeld; exact ⟨cell_keep h0 hb, cell_keep h1 hb, cell_keep h2 hb, cell_keep h3 hb, cell_keep h4 hb, cell_keep h5 hb, cell_keep h6 hb, cell_keep h7 hb, cell_keep h8 hb, cell_keep h9 hb, cell_keep h10 hb, cell_keep h11 hb, Lib.hid (blw_trans hw.out hb)⟩) (fun hHeld => ?_)
  clear hK K
  (try simp only [Act.put, List.setIfInBounds_toArray, List.set_cons_zero, List.set_cons_succ])
  refine take_run (d := (some 56)) (v := ?v16) 15 rfl rfl (by kernel_rfl) (by kernel_rfl) (by kernel_rfl) (fun _ _ _ h => h) (by rfl) hHeld ?hy16 ?rs16
  case hy16 => (intro w hSw; (try dsimp only at hSw); go_simp) <;> (try with_reducible rfl)
  (try simp only [Act.put, List.setIfInBounds_toArray, List.set_cons_zero, List.set_cons_succ])
  refine take_run (d := (some 15)) (v := ?v17) 16 rfl rfl (by kernel_rfl) (by kernel_rfl) (by kernel_rfl) (fun _ _ _ h => h) (by rfl) hHeld ?hy17 ?rs17
  case hy17 => (intro w hSw; (try dsimp only at hSw); go_simp) <;> (try with_reducible rfl)
  (try simp only [Act.put, List.setIfInBounds_toArray, List.set_cons_zero, List.set_cons_succ])
  refine wpAnyH_done (by kernel_rfl) ?_ _
  obtain ⟨z0, z1, z2, z3, z4, z5, z6, z7, z8, z9, z10, z11, zW⟩ := hHeld
  have lz_u := World.block_lt_of_cell? _ _ z0
  try simp only at lz_u
  have lz_t := World.block_lt_of_cell? _ _ z3
  try simp only at lz_t
  have lz_a := World.block_lt_of_cell? _ _ z6
  try simp only at lz_a
  have lz_x := World.block_lt_of_cell? _ _ z9
  try simp only at lz_x
  go_wp2_with fail
  refine (CB.out _ (hT.below (by repeat (first | exact zW.out | refine blw_drewN ?_ _ | refine Below.setCell ?_ (by first | (simp; done) | omega | (simp; omega)) _ | refine Below.alloc ?_ (by first | (simp; done) | omega | (simp; omega)) _)))).mono ?_
  rintro e w107 ⟨rfl, hb⟩
  have W107 := Lib.hid (blw_trans (show Below w.heap.size w _ by repeat (first | exact zW.out | refine blw_drewN ?_ _ | refine Below.setCell ?_ (by first | (simp; done) | omega | (simp; omega)) _ | refine Below.alloc ?_ (by first | (simp; done) | omega | (simp; omega)) _)) hb)
  have n107 := hb.size
  try simp at n107
  have k107_u0 := cell_keep (a := ⟨w.heap.size + 1, 0, none⟩) (v := .int .i64 p) (by first | (go_keep; done) | (simp [go_sem, *]; done)) hb
  have k107_u1 := cell_keep (a := ⟨w.heap.size + 1, 1, none⟩) (v := .int .i64 q) (by first | (go_keep; done) | (simp [go_sem, *]; done)) hb
  have k107_u2 := cell_keep (a := ⟨w.heap.size + 1, 2, none⟩) (v := .int .i64 r) (by first | (go_keep; done) | (simp [go_sem, *]; done)) hb
  have l107_u := World.block_lt_of_cell? _ _ k107_u0
  try simp only at l107_u
  have k107_t0 := cell_keep (a := ⟨w1.heap.size, 0, none⟩) (v := .int .i64 A1) (by first | (go_keep; done) | (simp [go_sem, *]; done)) hb
  have k107_t1 := cell_keep (a := ⟨w1.heap.size, 1, none⟩) (v := .int .i64 A2) (by first | (go_keep; done) | (simp [go_sem, *]; done)) hb
  have k107_t2 := cell_keep (a := ⟨w1.heap.size, 2, none⟩) (v := .int .i64 A3) (by first | (go_keep; done) | (simp [go_sem, *]; done)) hb
  have l107_t := World.block_lt_of_cell? _ _ k107_t0
  try simp only at l107_t
  have k107_a0 := cell_keep (a := ⟨w4.heap.size, 0, none⟩) (v := .int .i64 A1) (by first | (go_keep; done) | (simp [go_sem, *]; done)) hb
  have k107_a1 := cell_keep (a := ⟨w4.heap.size, 1, none⟩) (v := .int .i64 A2) (by first | (go_keep; done) | (simp [go_sem, *]; done)) hb
  have k107_a2 := cell_keep (a := ⟨w4.heap.size, 2, none⟩) (v := .int .i64 A3) (by first | (go_keep; done) | (simp [go_sem, *]; done)) hb
  have l107_a := World.block_lt_of_cell? _ _ k107_a0
  try simp only at l107_a
  have k107_x0 := cell_keep (a := ⟨w6.heap.size, 0, none⟩) (v := .int .i64 X1) (by first | (go_keep; done) | (simp [go_sem, *]; done)) hb
  have k107_x1 := cell_keep (a := ⟨w6.heap.size, 1, none⟩) (v := .int .i64 X2) (by first | (go_keep; done) | (simp [go_sem, *]; done)) hb
  have k107_x2 := cell_keep (a := ⟨w6.heap.size, 2, none⟩) (v := .int .i64 X3) (by first | (go_keep; done) | (simp [go_sem, *]; done)) hb
  have l107_x := World.block_lt_of_cell? _ _ k107_x0
  try simp only at l107_x
  clear hb z0 z1 z2 z3 z4 z5 z6 z7 z8 z9 z10 z11 lz_u lz_t lz_a lz_x zW
  go_wp2_with fail
  refine (E0.out _ (hT.below (by repeat (first | exact W107.out | refine blw_drewN ?_ _ | refine Below.setCell ?_ (by first | (simp; done) | omega | (simp; omega)) _ | refine Below.alloc ?_ (by first | (simp; done) | omega | (simp; omega)) _)))).mono ?_
  rintro e w108 ⟨rfl, hb⟩
  have W108 := Lib.hid (blw_trans (show Below w.heap.size w _ by repeat (first | exact W107.out | refine blw_drewN ?_ _ | refine Below.setCell ?_ (by first | (simp; done) | omega | (simp; omega)) _ | refine Below.alloc ?_ (by first | (simp; done) | omega | (simp; omega)) _)) hb)
  have n108 := hb.size
  try simp at n108
  have k108_u0 := cell_keep (a := ⟨w.heap.size + 1, 0, none⟩) (v := .int .i64 p) (by first | (go_keep; done) | (simp [go_sem, *]; done)) hb
  have k108_u1 := cell_keep (a := ⟨w.heap.size + 1, 1, none⟩) (v := .int .i64 q) (by first | (go_keep; done) | (simp [go_sem, *]; done)) hb
  have k108_u2 := cell_keep (a := ⟨w.heap.size + 1, 2, none⟩) (v := .int .i64 r) (by first | (go_keep; done) | (simp [go_sem, *]; done)) hb
  have l108_u := World.block_lt_of_cell? _ _ k108_u0
  try simp only at l108_u
  have k108_t0 := cell_keep (a := ⟨w1.heap.size, 0, none⟩) (v := .int .i64 A1) (by first | (go_keep; done) | (simp [go_sem, *]; done)) hb
  have k108_t1 := cell_keep (a := ⟨w1.heap.size, 1, none⟩) (v := .int .i64 A2) (by first | (go_keep; done) | (simp [go_sem, *]; done)) hb
  have k108_t2 := cell_keep (a := ⟨w1.heap.size, 2, none⟩) (v := .int .i64 A3) (by first | (go_keep; done) | (simp [go_sem, *]; done)) hb
  have l108_t := World.block_lt_of_cell? _ _ k108_t0
  try simp only at l108_t
  have k108_a0 := cell_keep (a := ⟨w4.heap.size, 0, none⟩) (v := .int .i64 A1) (by first | (go_keep; done) | (simp [go_sem, *]; done)) hb
  have k108_a1 := cell_keep (a := ⟨w4.heap.size, 1, none⟩) (v := .int .i64 A2) (by first | (go_keep; done) | (simp [go_sem, *]; done)) hb
  have k108_a2 := cell_keep (a := ⟨w4.heap.size, 2, none⟩) (v := .int .i64 A3) (by first | (go_keep; done) | (simp [go_sem, *]; done)) hb
  have l108_a := World.block_lt_of_cell? _ _ k108_a0
  try simp only at l108_a
  have k108_x0 := cell_keep (a := ⟨w6.heap.size, 0, none⟩) (v := .int .i64 X1) (by first | (go_keep; done) | (simp [go_sem, *]; done)) hb
  have k108_x1 := cell_keep (a := ⟨w6.heap.size, 1, none⟩) (v := .int .i64 X2) (by first | (go_keep; done) | (simp [go_sem, *]; done)) hb
  have k108_x2 := cell_keep (a := ⟨w6.heap.size, 2, none⟩) (v := .int .i64 X3) (by first | (go_keep; done) | (simp [go_sem, *]; done)) hb
  have l108_x := World.block_lt_of_cell? _ _ k108_x0
  try simp only at l108_x
  have k108_b0 := cell_keep (a := ⟨w107.heap.size, 0, none⟩) (v := .int .i64 X1) (by first | (go_keep; done) | (simp [go_sem, *]; done)) hb
  have k108_b1 := cell_keep (a := ⟨w107.heap.size, 1, none⟩) (v := .int .i64 X2) (by first | (go_keep; done) | (simp [go_sem, *]; done)) hb
  have k108_b2 := cell_keep (a := ⟨w107.heap.size, 2, none⟩) (v := .int .i64 X3) (by first | (go_keep; done) | (simp [go_sem, *]; done)) hb
  have l108_b := World.block_lt_of_cell? _ _ k108_b0
  try simp only at l108_b
  clear hb k107_u0 k107_u1 k107_u2 l107_u k107_t0 k107_t1 k107_t2 l107_t k107_a0 k107_a1 k107_a2 l107_a k107_x0 k107_x1 k107_x2 l107_x W107
  go_wp2_with fail
  refine (CT.out _ (hT.below (by repeat (first | exact W108.out | refine blw_drewN ?_ _ | refine Below.setCell ?_ (by first | (simp; done) | omega | (simp; omega)) _ | refine Below.alloc ?_ (by first | (simp; done) | omega | (simp; omega)) _)))).mono ?_
  rintro e w109 ⟨rfl, hb⟩
  have W109 := Lib.hid (blw_trans (show Below w.heap.size w _ by repeat (first | exact W108.out | refine blw_drewN ?_ _ | refine Below.setCell ?_ (by first | (simp; done) | omega | (simp; omega)) _ | refine Below.alloc ?_ (by first | (simp; done) | omega | (simp; omega)) _)) hb)
  have n109 := hb.size
  try simp at n109
  have k109_u0 := cell_keep (a := ⟨w.heap.size + 1, 0, none⟩) (v := .int .i64 p) (by first | (go_keep; done) | (simp [go_sem, *]; done)) hb
  have k109_u1 := cell_keep (a := ⟨w.heap.size + 1, 1, none⟩) (v := .int .i64 q) (by first | (go_keep; done) | (simp [go_sem, *]; done)) hb
  have k109_u2 := cell_keep (a := ⟨w.heap.size + 1, 2, none⟩) (v := .int .i64 r) (by first | (go_keep; done) | (simp [go_sem, *]; done)) hb
  have l109_u := World.block_lt_of_cell? _ _ k109_u0
  try simp only at l109_u
  have k109_t0 := cell_keep (a := ⟨w1.heap.size, 0, none⟩) (v := .int .i64 A1) (by first | (go_keep; done) | (simp [go_sem, *]; done)) hb
  have k109_t1 := cell_keep (a := ⟨w1.heap.size, 1, none⟩) (v := .int .i64 A2) (by first | (go_keep; done) | (simp [go_sem, *]; done)) hb
  have k109_t2 := cell_keep (a := ⟨w1.heap.size, 2, none⟩) (v := .int .i64 A3) (by first | (go_keep; done) | (simp [go_sem, *]; done)) hb
  have l109_t := World.block_lt_of_cell? _ _ k109_t0
  try simp only at l109_t
  have k109_a0 := cell_keep (a := ⟨w4.heap.size, 0, none⟩) (v := .int .i64 A1) (by first | (go_keep; done) | (simp [go_sem, *]; done)) hb
  have k109_a1 := cell_keep (a := ⟨w4.heap.size, 1, none⟩) (v := .int .i64 A2) (by first | (go_keep; done) | (simp [go_sem, *]; done)) hb
  have k109_a2 := cell_keep (a := ⟨w4.heap.size, 2, none⟩) (v := .int .i64 A3) (by first | (go_keep; done) | (simp [go_sem, *]; done)) hb
  have l109_a := World.block_lt_of_cell? _ _ k109_a0
  try simp only at l109_a
  have k109_x0 := cell_keep (a := ⟨w6.heap.size, 0, none⟩) (v := .int .i64 X1) (by first | (go_keep; done) | (simp [go_sem, *]; done)) hb
  have k109_x1 := cell_keep (a := ⟨w6.heap.size, 1, none⟩) (v := .int .i64 X2) (by first | (go_keep; done) | (simp [go_sem, *]; done)) hb
  have k109_x2 := cell_keep (a := ⟨w6.heap.size, 2, none⟩) (v := .int .i64 X3) (by first | (go_keep; done) | (simp [go_sem, *]; done)) hb
  have l109_x := World.block_lt_of_cell? _ _ k109_x0
  try simp only at l109_x
  have k109_b0 := cell_keep (a := ⟨w107.heap.size, 0, none⟩) (v := .int .i64 X1) (by first | (go_keep; done) | (simp [go_sem, *]; done)) hb
  have k109_b1 := cell_keep (a := ⟨w107.heap.size, 1, none⟩) (v := .int .i64 X2) (by first | (go_keep; done) | (simp [go_sem, *]; done)) hb
  have k109_b2 := cell_keep (a := ⟨w107.heap.size, 2, none⟩) (v := .int .i64 X3) (by first | (go_keep; done) | (simp [go_sem, *]; done)) hb
  have l109_b := World.block_lt_of_cell? _ _ k109_b0
  try simp only at l109_b
  clear hb k108_u0 k108_u1 k108_u2 l108_u k108_t0 k108_t1 k108_t2 l108_t k108_a0 k108_a1 k108_a2 l108_a k108_x0 k108_x1 k108_x2 l108_x k108_b0 k108_b1 k108_b2 l108_b W108
  go_wp2_with fail
  refine (E0.out _ (hT.below (by repeat (first | exact W109.out | refine blw_drewN ?_ _ | refine Below.setCell ?_ (by first | (simp; done) | omega | (simp; omega)) _ | refine Below.alloc ?_ (by first | (simp; done) | omega | (simp; omega)) _)))).mono ?_
  rintro e w110 ⟨rfl, hb⟩
  have W110 := Lib.hid (blw_trans (show Below w.heap.size w _ by repeat (first | exact W109.out | refine blw_drewN ?_ _ | refine Below.setCell ?_ (by first | (simp; done) | omega | (simp; omega)) _ | refine Below.alloc ?_ (by first | (simp; done) | omega | (simp; omega)) _)) hb)
  have n110 := hb.size
  try simp at n110
  have k110_t0 := cell_keep (a := ⟨w1.heap.size, 0, none⟩) (v := .int .i64 A1) (by first | (go_keep; done) | (simp [go_sem, *]; done)) hb
  have k110_t1 := cell_keep (a := ⟨w1.heap.size, 1, none⟩) (v := .int .i64 A2) (by first | (go_keep; done) | (simp [go_sem, *]; done)) hb
  have k110_t2 := cell_keep (a := ⟨w1.heap.size, 2, none⟩) (v := .int .i64 A3) (by first | (go_keep; done) | (simp [go_sem, *]; done)) hb
  have l110_t := World.block_lt_of_cell? _ _ k110_t0
  try simp only at l110_t
  have k110_a0 := cell_keep (a := ⟨w4.heap.size, 0, none⟩) (v := .int .i64 A1) (by first | (go_keep; done) | (simp [go_sem, *]; done)) hb
  have k110_a1 := cell_keep (a := ⟨w4.heap.size, 1, none⟩) (v := .int .i64 A2) (by first | (go_keep; done) | (simp [go_sem, *]; done)) hb
  have k110_a2 := cell_keep (a := ⟨w4.heap.size, 2, none⟩) (v := .int .i64 A3) (by first | (go_keep; done) | (simp [go_sem, *]; done)) hb
  have l110_a := World.block_lt_of_cell? _ _ k110_a0
  try simp only at l110_a
  have k110_x0 := cell_keep (a := ⟨w6.heap.size, 0, none⟩) (v := .int .i64 X1) (by first | (go_keep; done) | (simp [go_sem, *]; done)) hb
  have k110_x1 := cell_keep (a := ⟨w6.heap.size, 1, none⟩) (v := .int .i64 X2) (by first | (go_keep; done) | (simp [go_sem, *]; done)) hb
  have k110_x2 := cell_keep (a := ⟨w6.heap.size, 2, none⟩) (v := .int .i64 X3) (by first | (go_keep; done) | (simp [go_sem, *]; done)) hb
  have l110_x := World.block_lt_of_cell? _ _ k110_x0
  try simp only at l110_x
  have k110_b0 := cell_keep (a := ⟨w107.heap.size, 0, none⟩) (v := .int .i64 X1) (by first | (go_keep; done) | (simp [go_sem, *]; done)) hb
  have k110_b1 := cell_keep (a := ⟨w107.heap.size, 1, none⟩) (v := .int .i64 X2) (by first | (go_keep; done) | (simp [go_sem, *]; done)) hb
  have k110_b2 := cell_keep (a := ⟨w107.heap.size, 2, none⟩) (v := .int .i64 X3) (by first | (go_keep; done) | (simp [go_sem, *]; done)) hb
  have l110_b := World.block_lt_of_cell? _ _ k110_b0
  try simp only at l110_b
  clear hb k109_u0 k109_u1 k109_u2 l109_u k109_t0 k109_t1 k109_t2 l109_t k109_a0 k109_a1 k109_a2 l109_a k109_x0 k109_x1 k109_x2 l109_x k109_b0 k109_b1 k109_b2 l109_b W109
  go_wp2_with fail
  refine (CY.out _).mono ?_
  rintro e w' ⟨rfl, rfl⟩
  go_wp2_with fail
  refine (CN.out _).mono ?_
  rintro e w' ⟨rfl, rfl⟩
  go_wp2_with fail
  refine (E0.out _ (hT.below (by repeat (first | exact W110.out | refine blw_drewN ?_ _ | refine Below.setCell ?_ (by first | (simp; done) | omega | (simp; omega)) _ | refine Below.alloc ?_ (by first | (simp; done) | omega | (simp; omega)) _)))).mono ?_
  rintro e w111 ⟨rfl, hb⟩
  have W111 := Lib.hid (blw_trans (show Below w.heap.size w _ by repeat (first | exact W110.out | refine blw_drewN ?_ _ | refine Below.setCell ?_ (by first | (simp; done) | omega | (simp; omega)) _ | refine Below.alloc ?_ (by first | (simp; done) | omega | (simp; omega)) _)) hb)
  have n111 := hb.size
  try simp at n111
  have k111_t0 := cell_keep (a := ⟨w1.heap.size, 0, none⟩) (v := .int .i64 A1) (by first | (go_keep; done) | (simp [go_sem, *]; done)) hb
  have k111_t1 := cell_keep (a := ⟨w1.heap.size, 1, none⟩) (v := .int .i64 A2) (by first | (go_keep; done) | (simp [go_sem, *]; done)) hb
  have k111_t2 := cell_keep (a := ⟨w1.heap.size, 2, none⟩) (v := .int .i64 A3) (by first | (go_keep; done) | (simp [go_sem, *]; done)) hb
  have l111_t := World.block_lt_of_cell? _ _ k111_t0
  try simp only at l111_t
  have k111_a0 := cell_keep (a := ⟨w4.heap.size, 0, none⟩) (v := .int .i64 A1) (by first | (go_keep; done) | (simp [go_sem, *]; done)) hb
  have k111_a1 := cell_keep (a := ⟨w4.heap.size, 1, none⟩) (v := .int .i64 A2) (by first | (go_keep; done) | (simp [go_sem, *]; done)) hb
  have k111_a2 := cell_keep (a := ⟨w4.heap.size, 2, none⟩) (v := .int .i64 A3) (by first | (go_keep; done) | (simp [go_sem, *]; done)) hb
  have l111_a := World.block_lt_of_cell? _ _ k111_a0
  try simp only at l111_a
  have k111_x0 := cell_keep (a := ⟨w6.heap.size, 0, none⟩) (v := .int .i64 X1) (by first | (go_keep; done) | (simp [go_sem, *]; done)) hb
  have k111_x1 := cell_keep (a := ⟨w6.heap.size, 1, none⟩) (v := .int .i64 X2) (by first | (go_keep; done) | (simp [go_sem, *]; done)) hb
  have k111_x2 := cell_keep (a := ⟨w6.heap.size, 2, none⟩) (v := .int .i64 X3) (by first | (go_keep; done) | (simp [go_sem, *]; done)) hb
  have l111_x := World.block_lt_of_cell? _ _ k111_x0
  try simp only at l111_x
  have k111_b0 := cell_keep (a := ⟨w107.heap.size, 0, none⟩) (v := .int .i64 X1) (by first | (go_keep; done) | (simp [go_sem, *]; done)) hb
  have k111_b1 := cell_keep (a := ⟨w107.heap.size, 1, none⟩) (v := .int .i64 X2) (by first | (go_keep; done) | (simp [go_sem, *]; done)) hb
  have k111_b2 := cell_keep (a := ⟨w107.heap.size, 2, none⟩) (v := .int .i64 X3) (by first | (go_keep; done) | (simp [go_sem, *]; done)) hb
  have l111_b := World.block_lt_of_cell? _ _ k111_b0
  try simp only at l111_b
  clear hb k110_t0 k110_t1 k110_t2 l110_t k110_a0 k110_a1 k110_a2 l110_a k110_x0 k110_x1 k110_x2 l110_x k110_b0 k110_b1 k110_b2 l110_b W110
  go_wp2
  go_ret
  exact ⟨ret_bool (by simp), by repeat (first | exact W111.out | refine blw_drewN ?_ _ | refine Below.setCell ?_ (by first | (simp; done) | omega | (simp; omega)) _ | refine Below.alloc ?_ (by first | (simp; done) | omega | (simp; omega)) _)⟩

set_option maxRecDepth 100000 in
set_option maxHeartbeats 4000000 in
theorem weekTells_dwlt (y m d p q r x p0 q0 r0 A1 A2 A3 X1 X2 X3 : Int) (P Q R T : List UInt8) (w : World) (hT : TPH w)
    (lp : P.length ≤ 120) (lq : Q.length ≤ 120) (lr : R.length ≤ 120) (HX : P ++ [45, 87] ++ Q ++ [45] ++ R = T)
    (mp : max p 0 = p0) (mq : max q 0 = q0) (mr : max r 0 = r0)
    (CF : Hid (∀ w : World, Calls Tryd.prog 6 #[.agg #[.int .i64 y, .int .i64 m, .int .i64 d]] w fun e w' => e = .returned (.bool false) ∧ Below w.heap.size w w'))
    (CW : Hid (∀ w : World, Calls Tryd.prog 7 #[.agg #[.int .i64 y, .int .i64 m, .int .i64 d]] w fun e w' => e = .returned (.agg #[.int .i64 A1, .int .i64 A2, .int .i64 A3]) ∧ Below w.heap.size w w'))
    (CO : Hid (∀ w : World, TPH w → Calls Tryd.prog 8 #[.agg #[.int .i64 y, .int .i64 m, .int .i64 d]] w fun e w' => e = .returned (.tuple #[.agg #[.int .i64 A1, .int .i64 A2, .int .i64 A3], .nilIface]) ∧ Below w.heap.size w w'))
    (CX : Hid (∀ w : World, Calls Tryd.prog 10 #[.agg #[.int .i64 p, .int .i64 q, .int .i64 r]] w fun e w' => e = .returned (.tuple #[.agg #[.int .i64 X1, .int .i64 X2, .int .i64 X3], .bool true]) ∧ Below w.heap.size w w'))
    (D1 : Hid (∀ w : World, Calls Tryd.prog 11 #[.int .i64 p0, .int .i64 4] w fun e w' => e = .returned (.string ⟨P.toArray⟩) ∧ Below w.heap.size w w'))
    (D2 : Hid (∀ w : World, Calls Tryd.prog 11 #[.int .i64 q0, .int .i64 2] w fun e w' => e = .returned (.string ⟨Q.toArray⟩) ∧ Below w.heap.size w w'))
    (D3 : Hid (∀ w : World, Calls Tryd.prog 11 #[.int .i64 r0, .int .i64 1] w fun e w' => e = .returned (.string ⟨R.toArray⟩) ∧ Below w.heap.size w w'))
    (CB : Hid (∀ w : World, TPH w → Calls Tryd.prog 12 #[.agg #[.int .i64 p, .int .i64 q, .int .i64 r]] w fun e w' => e = .returned (.tuple #[.agg #[.int .i64 X1, .int .i64 X2, .int .i64 X3], .nilIface]) ∧ Below w.heap.size w w'))
    (CT : Hid (∀ w : World, TPH w → Calls Tryd.prog 13 #[.agg #[.int .i64 p, .int .i64 q, .int .i64 r]] w fun e w' => e = .returned (.tuple #[.string ⟨T.toArray⟩, .nilIface]) ∧ Below w.heap.size w w'))
    (y0 : x < 1)
    (CN : Hid (∀ w : World, Calls Tryd.prog 15 #[.int .i64 x] w fun e w' => e = .returned (.tuple #[.int .i64 0, errV 1]) ∧ w = w')) :
    Calls Tryd.prog 3 #[.agg #[.int .i64 y, .int .i64 m, .int .i64 d], .agg #[.int .i64 p, .int .i64 q, .int .i64 r], .int .i64 x] w fun e w' => e = .returned (.bool true) ∧ Below w.heap.size w w' := by
  have C0 := Lib.hid fun w (hT : TPH w) => weekly_any w hT.t
  have E0 := Lib.hid fun w (hT : TPH w) => sameErr_yes ErrNo.nil w hT.h
  have E1 := Lib.hid fun w (hT : TPH w) => sameErr_yes (ErrNo.no 1) w hT.h
  have g1 : decide (x < 1) = true := dec_yes y0
  obtain ⟨Y1, x1⟩ : ∃ X, X = P ++ [45, 87] := ⟨_, rfl⟩
  have S1 : ∀ w, (Op.stringOp .add ⟨P.toArray⟩ ⟨#[45, 87]⟩).run Tryd.prog w = .ok (.string ⟨Y1.toArray⟩) w := fun w => by rw [x1]; exact add_str (P := Tryd.prog) P [45, 87] (by first | omega | (simp; omega)) w
  have m1 : Y1.length = P.length + 2 := by rw [x1]; simp
  obtain ⟨Y2, x2⟩ : ∃ X, X = Y1 ++ Q := ⟨_, rfl⟩
  have S2 : ∀ w, (Op.stringOp .add ⟨Y1.toArray⟩ ⟨Q.toArray⟩).run Tryd.prog w = .ok (.string ⟨Y2.toArray⟩) w := fun w => by rw [x2]; exact add_str (P := Tryd.prog) Y1 Q (by first | omega | (simp; omega)) w
  have m2 : Y2.length = Y1.length + Q.length := by rw [x2]; simp
  obtain ⟨Y3, x3⟩ : ∃ X, X = Y2 ++ [45] := ⟨_, rfl⟩
  have S3 : ∀ w, (Op.stringOp .add ⟨Y2.toArray⟩ ⟨#[45]⟩).run Tryd.prog w = .ok (.string ⟨Y3.toArray⟩) w := fun w => by rw [x3]; exact add_str (P := Tryd.prog) Y2 [45] (by first | omega | (simp; omega)) w
  have m3 : Y3.length = Y2.length + 1 := by rw [x3]; simp
  have S4 : ∀ w, (Op.stringOp .add ⟨Y3.toArray⟩ ⟨R.toArray⟩).run Tryd.prog w = .ok (.string ⟨T.toArray⟩) w := fun w => by rw [← HX, ← x1, ← x2, ← x3]; exact add_str (P := Tryd.prog) Y3 R (by omega) w
  clear x1 x2 x3 m1 m2 m3 HX lp lq lr
  go_enter Tryd.func3, Tryd.ntmps3
  go_wp2_with fail
  refine (C0.out _ (hT.below (by repeat (first | exact (Below.refl _ _) | refine blw_drewN ?_ _ | refine Below.setCell ?_ (by first | (simp; done) | omega | (simp; omega)) _ | refine Below.alloc ?_ (by first | (simp; done) | omega | (simp; omega)) _)))).mono ?_
  rintro e w1 ⟨rfl, hb⟩
  have W1 := Lib.hid (blw_trans (show Below w.heap.size w _ by repeat (first | exact (Below.refl _ _) | refine blw_drewN ?_ _ | refine Below.setCell ?_ (by first | (simp; done) | omega | (simp; omega)) _ | refine Below.alloc ?_ (by first | (simp; done) | omega | (simp; omega)) _)) hb)
  have n1 := hb.size
  try simp at n1
  have k1_d0 := cell_keep (a := ⟨w.heap.size, 0, none⟩) (v := .int .i64 y) (by first | (go_keep; done) | (simp [go_sem, *]; done)) hb
  have k1_d1 := cell_keep (a := ⟨w.heap.size, 1, none⟩) (v := .int .i64 m) (by first | (go_keep; done) | (simp [go_sem, *]; done)) hb
  have k1_d2 := cell_keep (a := ⟨w.heap.size, 2, none⟩) (v := .int .i64 d) (by first | (go_keep; done) | (simp [go_sem, *]; done)) hb
  have l1_d := World.block_lt_of_cell? _ _ k1_d0
  try simp only at l1_d
  have k1_u0 := cell_keep (a := ⟨w.heap.size + 1, 0, none⟩) (v := .int .i64 p) (by first | (go_keep; done) | (simp [go_sem, *]; done)) hb
  have k1_u1 := cell_keep (a := ⟨w.heap.size + 1, 1, none⟩) (v := .int .i64 q) (by first | (go_keep; done) | (simp [go_sem, *]; done)) hb
  have k1_u2 := cell_keep (a := ⟨w.heap.size + 1, 2, none⟩) (v := .int .i64 r) (by first | (go_keep; done) | (simp [go_sem, *]; done)) hb
  have l1_u := World.block_lt_of_cell? _ _ k1_u0
  try simp only at l1_u
  clear hb
  have ne1 : ¬ w1.heap.size = w.heap.size := by omega
  have me1 : ¬ w.heap.size = w1.heap.size := by omega
  have ne2 : ¬ w1.heap.size = w.heap.size + 1 := by omega
  have me2 : ¬ w.heap.size + 1 = w1.heap.size := by omega
  go_wp2_with fail
  refine (CF.out _).mono ?_
  rintro e w2 ⟨rfl, hb⟩
  have W2 := Lib.hid (blw_trans (show Below w.heap.size w _ by repeat (first | exact W1.out | refine blw_drewN ?_ _ | refine Below.setCell ?_ (by first | (simp; done) | omega | (simp; omega)) _ | refine Below.alloc ?_ (by first | (simp; done) | omega | (simp; omega)) _)) hb)
  have n2 := hb.size
  try simp at n2
  have k2_d0 := cell_keep (a := ⟨w.heap.size, 0, none⟩) (v := .int .i64 y) (by first | (go_keep; done) | (simp [go_sem, *]; done)) hb
  have k2_d1 := cell_keep (a := ⟨w.heap.size, 1, none⟩) (v := .int .i64 m) (by first | (go_keep; done) | (simp [go_sem, *]; done)) hb
  have k2_d2 := cell_keep (a := ⟨w.heap.size, 2, none⟩) (v := .int .i64 d) (by first | (go_keep; done) | (simp [go_sem, *]; done)) hb
  have l2_d := World.block_lt_of_cell? _ _ k2_d0
  try simp only at l2_d
  have k2_u0 := cell_keep (a := ⟨w.heap.size + 1, 0, none⟩) (v := .int .i64 p) (by first | (go_keep; done) | (simp [go_sem, *]; done)) hb
  have k2_u1 := cell_keep (a := ⟨w.heap.size + 1, 1, none⟩) (v := .int .i64 q) (by first | (go_keep; done) | (simp [go_sem, *]; done)) hb
  have k2_u2 := cell_keep (a := ⟨w.heap.size + 1, 2, none⟩) (v := .int .i64 r) (by first | (go_keep; done) | (simp [go_sem, *]; done)) hb
  have l2_u := World.block_lt_of_cell? _ _ k2_u0
  try simp only at l2_u
  have k2_t0 := cell_keep (a := ⟨w1.heap.size, 0, none⟩) (v := .int .i64 0) (by first | (go_keep; done) | (simp [go_sem, *]; done)) hb
  have f2_t0 := (hb.frozen (p := ⟨w1.heap.size, 0, none⟩) (by first | (simp; done) | omega | (simp; omega))).trans (show _ = false by first | (simp; done) | (simp [go_sem]; done))
  have k2_t1 := cell_keep (a := ⟨w1.heap.size, 1, none⟩) (v := .int .i64 0) (by first | (go_keep; done) | (simp [go_sem, *]; done)) hb
  have f2_t1 := (hb.frozen (p := ⟨w1.heap.size, 1, none⟩) (by first | (simp; done) | omega | (simp; omega))).trans (show _ = false by first | (simp; done) | (simp [go_sem]; done))
  have k2_t2 := cell_keep (a := ⟨w1.heap.size, 2, none⟩) (v := .int .i64 0) (by first | (go_keep; done) | (simp [go_sem, *]; done)) hb
  have f2_t2 := (hb.frozen (p := ⟨w1.heap.size, 2, none⟩) (by first | (simp; done) | omega | (simp; omega))).trans (show _ = false by first | (simp; done) | (simp [go_sem]; done))
  have l2_t := World.block_lt_of_cell? _ _ k2_t0
  try simp only at l2_t
  clear hb k1_d0 k1_d1 k1_d2 l1_d k1_u0 k1_u1 k1_u2 l1_u W1
  go_wp2_with fail
  refine (CW.out _).mono ?_
  rintro e w3 ⟨rfl, hb⟩
  have W3 := Lib.hid (blw_trans (show Below w.heap.size w _ by repeat (first | exact W2.out | refine blw_drewN ?_ _ | refine Below.setCell ?_ (by first | (simp; done) | omega | (simp; omega)) _ | refine Below.alloc ?_ (by first | (simp; done) | omega | (simp; omega)) _)) hb)
  have n3 := hb.size
  try simp at n3
  have k3_d0 := cell_keep (a := ⟨w.heap.size, 0, none⟩) (v := .int .i64 y) (by first | (go_keep; done) | (simp [go_sem, *]; done)) hb
  have k3_d1 := cell_keep (a := ⟨w.heap.size, 1, none⟩) (v := .int .i64 m) (by first | (go_keep; done) | (simp [go_sem, *]; done)) hb
  have k3_d2 := cell_keep (a := ⟨w.heap.size, 2, none⟩) (v := .int .i64 d) (by first | (go_keep; done) | (simp [go_sem, *]; done)) hb
  have l3_d := World.block_lt_of_cell? _ _ k3_d0
  try simp only at l3_d
  have k3_u0 := cell_keep (a := ⟨w.heap.size + 1, 0, none⟩) (v := .int .i64 p) (by first | (go_keep; done) | (simp [go_sem, *]; done)) hb
  have k3_u1 := cell_keep (a := ⟨w.heap.size + 1, 1, none⟩) (v := .int .i64 q) (by first | (go_keep; done) | (simp [go_sem, *]; done)) hb
  have k3_u2 := cell_keep (a := ⟨w.heap.size + 1, 2, none⟩) (v := .int .i64 r) (by first | (go_keep; done) | (simp [go_sem, *]; done)) hb
  have l3_u := World.block_lt_of_cell? _ _ k3_u0
  try simp only at l3_u
  have k3_t0 := cell_keep (a := ⟨w1.heap.size, 0, none⟩) (v := .int .i64 0) (by first | (go_keep; done) | (simp [go_sem, *]; done)) hb
  have f3_t0 := (hb.frozen (p := ⟨w1.heap.size, 0, none⟩) (by first | (simp; done) | omega | (simp; omega))).trans (show _ = false by first | exact f2_t0 | (simp; done) | (simp [go_sem]; done) | (simp [f2_t0]; done))
  have k3_t1 := cell_keep (a := ⟨w1.heap.size, 1, none⟩) (v := .int .i64 0) (by first | (go_keep; done) | (simp [go_sem, *]; done)) hb
  have f3_t1 := (hb.frozen (p := ⟨w1.heap.size, 1, none⟩) (by first | (simp; done) | omega | (simp; omega))).trans (show _ = false by first | exact f2_t1 | (simp; done) | (simp [go_sem]; done) | (simp [f2_t1]; done))
  have k3_t2 := cell_keep (a := ⟨w1.heap.size, 2, none⟩) (v := .int .i64 0) (by first | (go_keep; done) | (simp [go_sem, *]; done)) hb
  have f3_t2 := (hb.frozen (p := ⟨w1.heap.size, 2, none⟩) (by first | (simp; done) | omega | (simp; omega))).trans (show _ = false by first | exact f2_t2 | (simp; done) | (simp [go_sem]; done) | (simp [f2_t2]; done))
  have l3_t := World.block_lt_of_cell? _ _ k3_t0
  try simp only at l3_t
  clear hb k2_d0 k2_d1 k2_d2 l2_d k2_u0 k2_u1 k2_u2 l2_u k2_t0 f2_t0 k2_t1 f2_t1 k2_t2 f2_t2 l2_t W2
  go_wp2_with fail
  refine (CO.out _ (hT.below (by repeat (first | exact W3.out | refine blw_drewN ?_ _ | refine Below.setCell ?_ (by first | (simp; done) | omega | (simp; omega)) _ | refine Below.alloc ?_ (by first | (simp; done) | omega | (simp; omega)) _)))).mono ?_
  rintro e w4 ⟨rfl, hb⟩
  have W4 := Lib.hid (blw_trans (show Below w.heap.size w _ by repeat (first | exact W3.out | refine blw_drewN ?_ _ | refine Below.setCell ?_ (by first | (simp; done) | omega | (simp; omega)) _ | refine Below.alloc ?_ (by first | (simp; done) | omega | (simp; omega)) _)) hb)
  have n4 := hb.size
  try simp at n4
  have k4_u0 := cell_keep (a := ⟨w.heap.size + 1, 0, none⟩) (v := .int .i64 p) (by first | (go_keep; done) | (simp [go_sem, *]; done)) hb
  have k4_u1 := cell_keep (a := ⟨w.heap.size + 1, 1, none⟩) (v := .int .i64 q) (by first | (go_keep; done) | (simp [go_sem, *]; done)) hb
  have k4_u2 := cell_keep (a := ⟨w.heap.size + 1, 2, none⟩) (v := .int .i64 r) (by first | (go_keep; done) | (simp [go_sem, *]; done)) hb
  have l4_u := World.block_lt_of_cell? _ _ k4_u0
  try simp only at l4_u
  have k4_t0 := cell_keep (a := ⟨w1.heap.size, 0, none⟩) (v := .int .i64 A1) (by first | (go_keep; done) | (simp [go_sem, *]; done)) hb
  have k4_t1 := cell_keep (a := ⟨w1.heap.size, 1, none⟩) (v := .int .i64 A2) (by first | (go_keep; done) | (simp [go_sem, *]; done)) hb
  have k4_t2 := cell_keep (a := ⟨w1.heap.size, 2, none⟩) (v := .int .i64 A3) (by first | (go_keep; done) | (simp [go_sem, *]; done)) hb
  have l4_t := World.block_lt_of_cell? _ _ k4_t0
  try simp only at l4_t
  clear hb k3_d0 k3_d1 k3_d2 l3_d k3_u0 k3_u1 k3_u2 l3_u k3_t0 f3_t0 k3_t1 f3_t1 k3_t2 f3_t2 l3_t W3
  go_wp2_with fail
  refine (E0.out _ (hT.below (by repeat (first | exact W4.out | refine blw_drewN ?_ _ | refine Below.setCell ?_ (by first | (simp; done) | omega | (simp; omega)) _ | refine Below.alloc ?_ (by first | (simp; done) | omega | (simp; omega)) _)))).mono ?_
  rintro e w5 ⟨rfl, hb⟩
  have W5 := Lib.hid (blw_trans (show Below w.heap.size w _ by repeat (first | exact W4.out | refine blw_drewN ?_ _ | refine Below.setCell ?_ (by first | (simp; done) | omega | (simp; omega)) _ | refine Below.alloc ?_ (by first | (simp; done) | omega | (simp; omega)) _)) hb)
  have n5 := hb.size
  try simp at n5
  have k5_u0 := cell_keep (a := ⟨w.heap.size + 1, 0, none⟩) (v := .int .i64 p) (by first | (go_keep; done) | (simp [go_sem, *]; done)) hb
  have k5_u1 := cell_keep (a := ⟨w.heap.size + 1, 1, none⟩) (v := .int .i64 q) (by first | (go_keep; done) | (simp [go_sem, *]; done)) hb
  have k5_u2 := cell_keep (a := ⟨w.heap.size + 1, 2, none⟩) (v := .int .i64 r) (by first | (go_keep; done) | (simp [go_sem, *]; done)) hb
  have l5_u := World.block_lt_of_cell? _ _ k5_u0
  try simp only at l5_u
  have k5_t0 := cell_keep (a := ⟨w1.heap.size, 0, none⟩) (v := .int .i64 A1) (by first | (go_keep; done) | (simp [go_sem, *]; done)) hb
  have k5_t1 := cell_keep (a := ⟨w1.heap.size, 1, none⟩) (v := .int .i64 A2) (by first | (go_keep; done) | (simp [go_sem, *]; done)) hb
  have k5_t2 := cell_keep (a := ⟨w1.heap.size, 2, none⟩) (v := .int .i64 A3) (by first | (go_keep; done) | (simp [go_sem, *]; done)) hb
  have l5_t := World.block_lt_of_cell? _ _ k5_t0
  try simp only at l5_t
  have k5_a0 := cell_keep (a := ⟨w4.heap.size, 0, none⟩) (v := .int .i64 A1) (by first | (go_keep; done) | (simp [go_sem, *]; done)) hb
  have k5_a1 := cell_keep (a := ⟨w4.heap.size, 1, none⟩) (v := .int .i64 A2) (by first | (go_keep; done) | (simp [go_sem, *]; done)) hb
  have k5_a2 := cell_keep (a := ⟨w4.heap.size, 2, none⟩) (v := .int .i64 A3) (by first | (go_keep; done) | (simp [go_sem, *]; done)) hb
  have l5_a := World.block_lt_of_cell? _ _ k5_a0
  try simp only at l5_a
  clear hb k4_u0 k4_u1 k4_u2 l4_u k4_t0 k4_t1 k4_t2 l4_t W4
  go_wp2_with fail
  refine (CX.out _).mono ?_
  rintro e w6 ⟨rfl, hb⟩
  have W6 := Lib.hid (blw_trans (show Below w.heap.size w _ by repeat (first | exact W5.out | refine blw_drewN ?_ _ | refine Below.setCell ?_ (by first | (simp; done) | omega | (simp; omega)) _ | refine Below.alloc ?_ (by first | (simp; done) | omega | (simp; omega)) _)) hb)
  have n6 := hb.size
  try simp at n6
  have k6_u0 := cell_keep (a := ⟨w.heap.size + 1, 0, none⟩) (v := .int .i64 p) (by first | (go_keep; done) | (simp [go_sem, *]; done)) hb
  have k6_u1 := cell_keep (a := ⟨w.heap.size + 1, 1, none⟩) (v := .int .i64 q) (by first | (go_keep; done) | (simp [go_sem, *]; done)) hb
  have k6_u2 := cell_keep (a := ⟨w.heap.size + 1, 2, none⟩) (v := .int .i64 r) (by first | (go_keep; done) | (simp [go_sem, *]; done)) hb
  have l6_u := World.block_lt_of_cell? _ _ k6_u0
  try simp only at l6_u
  have k6_t0 := cell_keep (a := ⟨w1.heap.size, 0, none⟩) (v := .int .i64 A1) (by first | (go_keep; done) | (simp [go_sem, *]; done)) hb
  have k6_t1 := cell_keep (a := ⟨w1.heap.size, 1, none⟩) (v := .int .i64 A2) (by first | (go_keep; done) | (simp [go_sem, *]; done)) hb
  have k6_t2 := cell_keep (a := ⟨w1.heap.size, 2, none⟩) (v := .int .i64 A3) (by first | (go_keep; done) | (simp [go_sem, *]; done)) hb
  have l6_t := World.block_lt_of_cell? _ _ k6_t0
  try simp only at l6_t
  have k6_a0 := cell_keep (a := ⟨w4.heap.size, 0, none⟩) (v := .int .i64 A1) (by first | (go_keep; done) | (simp [go_sem, *]; done)) hb
  have k6_a1 := cell_keep (a := ⟨w4.heap.size, 1, none⟩) (v := .int .i64 A2) (by first | (go_keep; done) | (simp [go_sem, *]; done)) hb
  have k6_a2 := cell_keep (a := ⟨w4.heap.size, 2, none⟩) (v := .int .i64 A3) (by first | (go_keep; done) | (simp [go_sem, *]; done)) hb
  have l6_a := World.block_lt_of_cell? _ _ k6_a0
  try simp only at l6_a
  clear hb k5_u0 k5_u1 k5_u2 l5_u k5_t0 k5_t1 k5_t2 l5_t k5_a0 k5_a1 k5_a2 l5_a W5
  go_wp2_with fail
  refine wp_region_held_drew (S := fun w' => w'.cell? ⟨w.heap.size + 1, 0, none⟩ = some (.int .i64 p) ∧ w'.cell? ⟨w.heap.size + 1, 1, none⟩ = some (.int .i64 q) ∧ w'.cell? ⟨w.heap.size + 1, 2, none⟩ = some (.int .i64 r) ∧ w'.cell? ⟨w1.heap.size, 0, none⟩ = some (.int .i64 A1) ∧ w'.cell? ⟨w1.heap.size, 1, none⟩ = some (.int .i64 A2) ∧ w'.cell? ⟨w1.heap.size, 2, none⟩ = some (.int .i64 A3) ∧ w'.cell? ⟨w4.heap.size, 0, none⟩ = some (.int .i64 A1) ∧ w'.cell? ⟨w4.heap.size, 1, none⟩ = some (.int .i64 A2) ∧ w'.cell? ⟨w4.heap.size, 2, none⟩ = some (.int .i64 A3) ∧ w'.cell? ⟨w6.heap.size, 0, none⟩ = some (.int .i64 X1) ∧ w'.cell? ⟨w6.heap.size, 1, none⟩ = some (.int .i64 X2) ∧ w'.cell? ⟨w6.heap.size, 2, none⟩ = some (.int .i64 X3) ∧ Hid (Below w.heap.size w w')) (by kernel_rfl) (by refine ⟨by go_keep, by go_keep, by go_keep, by go_keep, by go_keep, by go_keep, by go_keep, by go_keep, by go_keep, by go_keep, by go_keep, by go_keep, Lib.hid (Below.drew ?_)⟩; repeat (first | exact W6.out | refine blw_drewN ?_ _ | refine Below.setCell ?_ (by first | (simp; done) | omega | (simp; omega)) _ | refine Below.alloc ?_ (by first | (simp; done) | omega | (simp; omega)) _)) (fun hHeld => ?_)
  refine take_run (d := (some 41)) (v := ?v18) 0 rfl rfl (by kernel_rfl) (by kernel_rfl) (by kernel_rfl) (fun _ _ _ h => h) (by rfl) hHeld ?hy18 ?rs18
  case hy18 => (intro w hSw; (try dsimp only at hSw); go_simp) <;> (try with_reducible rfl)
  (try simp only [Act.put, List.setIfInBounds_toArray, List.set_cons_zero, List.set_cons_succ])
  refine take_run (d := (some 42)) (v := ?v19) 1 rfl rfl (by kernel_rfl) (by kernel_rfl) (by kernel_rfl) (fun _ _ _ h => h) (by rfl) hHeld ?hy19 ?rs19
  case hy19 => (intro w hSw; (try dsimp only at hSw); go_simp) <;> (try with_reducible rfl)
  (try simp only [Act.put, List.setIfInBounds_toArray, List.set_cons_zero, List.set_cons_succ])
  refine take_run (d := (some 43)) (v := ?v20) 2 rfl rfl (by kernel_rfl) (by kernel_rfl) (by kernel_rfl) (fun _ _ _ h => h) (by rfl) hHeld ?hy20 ?rs20
  case hy20 => (intro w hSw; (try dsimp only at hSw); go_simp) <;> (try with_reducible rfl)
  (try simp only [Act.put, List.setIfInBounds_toArray, List.set_cons_zero, List.set_cons_succ])
  refine take_run (d := (some 46)) (v := ?v21) 5 rfl rfl (by kernel_rfl) (by kernel_rfl) (by kernel_rfl) (fun _ _ _ h => h) (by rfl) hHeld ?hy21 ?rs21
  case hy21 => (intro w hSw; (try dsimp only at hSw); go_simp) <;> (try with_reducible rfl)
  (try simp only [Act.put, List.setIfInBounds_toArray, List.set_cons_zero, List.set_cons_succ])
  refine take_run (d := (some 47)) (v := ?v22) 6 rfl rfl (by kernel_rfl) (by kernel_rfl) (by kernel_rfl) (fun _ _ _ h => h) (by rfl) hHeld ?hy22 ?rs22
  case hy22 => (intro w hSw; (try dsimp only at hSw); go_simp) <;> (try with_reducible rfl)
  (try simp only [Act.put, List.setIfInBounds_toArray, List.set_cons_zero, List.set_cons_succ])
  refine take_run (d := (some 48)) (v := ?v23) 7 rfl rfl (by kernel_rfl) (by kernel_rfl) (by kernel_rfl) (fun _ _ _ h => h) (by rfl) hHeld ?hy23 ?rs23
  case hy23 => (intro w hSw; (try dsimp only at hSw); go_simp) <;> (try with_reducible rfl)
  (try simp only [Act.put, List.setIfInBounds_toArray, List.set_cons_zero, List.set_cons_succ])
  refine take_run (d := (some 52)) (v := ?v24) 11 rfl rfl (by kernel_rfl) (by kernel_rfl) (by kernel_rfl) (fun _ _ _ h => h) (by rfl) hHeld ?hy24 ?rs24
  case hy24 => (intro w hSw; (try dsimp only at hSw); go_simp) <;> (try with_reducible rfl)
  (try simp only [Act.put, List.setIfInBounds_toArray, List.set_cons_zero, List.set_cons_succ])
  refine take_run (d := (some 53)) (v := ?v25) 12 rfl rfl (by kernel_rfl) (by kernel_rfl) (by kernel_rfl) (fun _ _ _ h => h) (by rfl) hHeld ?hy25 ?rs25
  case hy25 => (intro w hSw; (try dsimp only at hSw); go_simp) <;> (try with_reducible rfl)
  (try simp only [Act.put, List.setIfInBounds_toArray, List.set_cons_zero, List.set_cons_succ])
  refine take_run (d := (some 54)) (v := ?v26) 13 rfl rfl (by kernel_rfl) (by kernel_rfl) (by kernel_rfl) (fun _ _ _ h => h) (by rfl) hHeld ?hy26 ?rs26
  case hy26 => (intro w hSw; (try dsimp only at hSw); go_simp) <;> (try with_reducible rfl)
  (try simp only [Act.put, List.setIfInBounds_toArray, List.set_cons_zero, List.set_cons_succ])
  refine take_call 3 rfl (by kernel_rfl) (by rfl) (fun K hK => ?_)
  go_simp
  refine (D1.out _).mono ?_
  rintro e w' ⟨rfl, hb⟩
  refine hK.out _ _ (by obtain ⟨h0, h1, h2, h3, h4, h5, h6, h7, h8, h9, h10, h11, hw⟩ := hHeld; exact ⟨cell_keep h0 hb, cell_keep h1 hb, cell_keep h2 hb, cell_keep h3 hb, cell_keep h4 hb, cell_keep h5 hb, cell_keep h6 hb, cell_keep h7 hb, cell_keep h8 hb, cell_keep h9 hb, cell_keep h10 hb, cell_keep h11 hb, Lib.hid (blw_trans hw.out hb)⟩) (fun hHeld => ?_)
  clear hK K
  (try simp only [Act.put, List.setIfInBounds_toArray, List.set_cons_zero, List.set_cons_succ])
  refine take_run (d := (some 45)) (v := ?v28) 4 rfl rfl (by kernel_rfl) (by kernel_rfl) (by kernel_rfl) (fun _ _ _ h => h) (by rfl) hHeld ?hy28 ?rs28
  case hy28 => (intro w hSw; (try dsimp only at hSw); go_simp) <;> (try with_reducible rfl)
  (try simp only [Act.put, List.setIfInBounds_toArray, List.set_cons_zero, List.set_cons_succ])
  refine take_call 8 rfl (by kernel_rfl) (by rfl) (fun K hK => ?_)
  go_simp
  refine (D2.out _).mono ?_
  rintro e w' ⟨rfl, hb⟩
  refine hK.out _ _ (by obtain ⟨h0, h1, h2, h3, h4, h5, h6, h7, h8, h9, h10, h11, hw⟩ := hHeld; exact ⟨cell_keep h0 hb, cell_keep h1 hb, cell_keep h2 hb, cell_keep h3 hb, cell_keep h4 hb, cell_keep h5 hb, cell_keep h6 hb, cell_keep h7 hb, cell_keep h8 hb, cell_keep h9 hb, cell_keep h10 hb, cell_keep h11 hb, Lib.hid (blw_trans hw.out hb)⟩) (fun hHeld => ?_)
  clear hK K
  (try simp only [Act.put, List.setIfInBounds_toArray, List.set_cons_zero, List.set_cons_succ])
  refine take_run (d := (some 50)) (v := ?v30) 9 rfl rfl (by kernel_rfl) (by kernel_rfl) (by kernel_rfl) (fun _ _ _ h => h) (by rfl) hHeld ?hy30 ?rs30
  case hy30 => (intro w hSw; (try dsimp only at hSw); go_simp) <;> (try with_reducible rfl)
  (try simp only [Act.put, List.setIfInBounds_toArray, List.set_cons_zero, List.set_cons_succ])
  refine take_run (d := (some 51)) (v := ?v31) 10 rfl rfl (by kernel_rfl) (by kernel_rfl) (by kernel_rfl) (fun _ _ _ h => h) (by rfl) hHeld ?hy31 ?rs31
  case hy31 => (intro w hSw; (try dsimp only at hSw); go_simp) <;> (try with_reducible rfl)
  (try simp only [Act.put, List.setIfInBounds_toArray, List.set_cons_zero, List.set_cons_succ])
  refine take_call 14 rfl (by kernel_rfl) (by rfl) (fun K hK => ?_)
  go_simp
  refine (D3.out _).mono ?_
  rintro e w' ⟨rfl, hb⟩
  refine hK.out _ _ (by obtain ⟨h0, h1, h2, h3, h4, h5, h6, h7, h8, h9, h10, h11, hw⟩ := hHeld; exact ⟨cell_keep h0 hb, cell_keep h1 hb, cell_keep h2 hb, cell_keep h3 hb, cell_keep h4 hb, cell_keep h5 hb, cell_keep h6 hb, cell_keep h7 hb, cell_keep h8 hb, cell_keep h9 hb, cell_keep h10 hb, cell_keep h11 hb, Lib.hid (blw_trans hw.out hb)⟩) (fun hHeld => ?_)
  clear hK K
  (try simp only [Act.put, List.setIfInBounds_toArray, List.set_cons_zero, List.set_cons_succ])
  refine take_run (d := (some 56)) (v := ?v33) 15 rfl rfl (by kernel_rfl) (by kernel_rfl) (by kernel_rfl) (fun _ _ _ h => h) (by rfl) hHeld ?hy33 ?rs33
  case hy33 => (intro w hSw; (try dsimp only at hSw); go_simp) <;> (try with_reducible rfl)
  (try simp only [Act.put, List.setIfInBounds_toArray, List.set_cons_zero, List.set_cons_succ])
  refine take_run (d := (some 15)) (v := ?v34) 16 rfl rfl (by kernel_rfl) (by kernel_rfl) (by kernel_rfl) (fun _ _ _ h => h) (by rfl) hHeld ?hy34 ?rs34
  case hy34 => (intro w hSw; (try dsimp only at hSw); go_simp) <;> (try with_reducible rfl)
  (try simp only [Act.put, List.setIfInBounds_toArray, List.set_cons_zero, List.set_cons_succ])
  refine wpAnyH_done (by kernel_rfl) ?_ _
  obtain ⟨z0, z1, z2, z3, z4, z5, z6, z7, z8, z9, z10, z11, zW⟩ := hHeld
  have lz_u := World.block_lt_of_cell? _ _ z0
  try simp only at lz_u
  have lz_t := World.block_lt_of_cell? _ _ z3
  try simp only at lz_t
  have lz_a := World.block_lt_of_cell? _ _ z6
  try simp only at lz_a
  have lz_x := World.block_lt_of_cell? _ _ z9
  try simp only at lz_x
  go_wp2_with fail
  refine (CB.out _ (hT.below (by repeat (first | exact zW.out | refine blw_drewN ?_ _ | refine Below.setCell ?_ (by first | (simp; done) | omega | (simp; omega)) _ | refine Below.alloc ?_ (by first | (simp; done) | omega | (simp; omega)) _)))).mono ?_
  rintro e w107 ⟨rfl, hb⟩
  have W107 := Lib.hid (blw_trans (show Below w.heap.size w _ by repeat (first | exact zW.out | refine blw_drewN ?_ _ | refine Below.setCell ?_ (by first | (simp; done) | omega | (simp; omega)) _ | refine Below.alloc ?_ (by first | (simp; done) | omega | (simp; omega)) _)) hb)
  have n107 := hb.size
  try simp at n107
  have k107_u0 := cell_keep (a := ⟨w.heap.size + 1, 0, none⟩) (v := .int .i64 p) (by first | (go_keep; done) | (simp [go_sem, *]; done)) hb
  have k107_u1 := cell_keep (a := ⟨w.heap.size + 1, 1, none⟩) (v := .int .i64 q) (by first | (go_keep; done) | (simp [go_sem, *]; done)) hb
  have k107_u2 := cell_keep (a := ⟨w.heap.size + 1, 2, none⟩) (v := .int .i64 r) (by first | (go_keep; done) | (simp [go_sem, *]; done)) hb
  have l107_u := World.block_lt_of_cell? _ _ k107_u0
  try simp only at l107_u
  have k107_t0 := cell_keep (a := ⟨w1.heap.size, 0, none⟩) (v := .int .i64 A1) (by first | (go_keep; done) | (simp [go_sem, *]; done)) hb
  have k107_t1 := cell_keep (a := ⟨w1.heap.size, 1, none⟩) (v := .int .i64 A2) (by first | (go_keep; done) | (simp [go_sem, *]; done)) hb
  have k107_t2 := cell_keep (a := ⟨w1.heap.size, 2, none⟩) (v := .int .i64 A3) (by first | (go_keep; done) | (simp [go_sem, *]; done)) hb
  have l107_t := World.block_lt_of_cell? _ _ k107_t0
  try simp only at l107_t
  have k107_a0 := cell_keep (a := ⟨w4.heap.size, 0, none⟩) (v := .int .i64 A1) (by first | (go_keep; done) | (simp [go_sem, *]; done)) hb
  have k107_a1 := cell_keep (a := ⟨w4.heap.size, 1, none⟩) (v := .int .i64 A2) (by first | (go_keep; done) | (simp [go_sem, *]; done)) hb
  have k107_a2 := cell_keep (a := ⟨w4.heap.size, 2, none⟩) (v := .int .i64 A3) (by first | (go_keep; done) | (simp [go_sem, *]; done)) hb
  have l107_a := World.block_lt_of_cell? _ _ k107_a0
  try simp only at l107_a
  have k107_x0 := cell_keep (a := ⟨w6.heap.size, 0, none⟩) (v := .int .i64 X1) (by first | (go_keep; done) | (simp [go_sem, *]; done)) hb
  have k107_x1 := cell_keep (a := ⟨w6.heap.size, 1, none⟩) (v := .int .i64 X2) (by first | (go_keep; done) | (simp [go_sem, *]; done)) hb
  have k107_x2 := cell_keep (a := ⟨w6.heap.size, 2, none⟩) (v := .int .i64 X3) (by first | (go_keep; done) | (simp [go_sem, *]; done)) hb
  have l107_x := World.block_lt_of_cell? _ _ k107_x0
  try simp only at l107_x
  clear hb z0 z1 z2 z3 z4 z5 z6 z7 z8 z9 z10 z11 lz_u lz_t lz_a lz_x zW
  go_wp2_with fail
  refine (E0.out _ (hT.below (by repeat (first | exact W107.out | refine blw_drewN ?_ _ | refine Below.setCell ?_ (by first | (simp; done) | omega | (simp; omega)) _ | refine Below.alloc ?_ (by first | (simp; done) | omega | (simp; omega)) _)))).mono ?_
  rintro e w108 ⟨rfl, hb⟩
  have W108 := Lib.hid (blw_trans (show Below w.heap.size w _ by repeat (first | exact W107.out | refine blw_drewN ?_ _ | refine Below.setCell ?_ (by first | (simp; done) | omega | (simp; omega)) _ | refine Below.alloc ?_ (by first | (simp; done) | omega | (simp; omega)) _)) hb)
  have n108 := hb.size
  try simp at n108
  have k108_u0 := cell_keep (a := ⟨w.heap.size + 1, 0, none⟩) (v := .int .i64 p) (by first | (go_keep; done) | (simp [go_sem, *]; done)) hb
  have k108_u1 := cell_keep (a := ⟨w.heap.size + 1, 1, none⟩) (v := .int .i64 q) (by first | (go_keep; done) | (simp [go_sem, *]; done)) hb
  have k108_u2 := cell_keep (a := ⟨w.heap.size + 1, 2, none⟩) (v := .int .i64 r) (by first | (go_keep; done) | (simp [go_sem, *]; done)) hb
  have l108_u := World.block_lt_of_cell? _ _ k108_u0
  try simp only at l108_u
  have k108_t0 := cell_keep (a := ⟨w1.heap.size, 0, none⟩) (v := .int .i64 A1) (by first | (go_keep; done) | (simp [go_sem, *]; done)) hb
  have k108_t1 := cell_keep (a := ⟨w1.heap.size, 1, none⟩) (v := .int .i64 A2) (by first | (go_keep; done) | (simp [go_sem, *]; done)) hb
  have k108_t2 := cell_keep (a := ⟨w1.heap.size, 2, none⟩) (v := .int .i64 A3) (by first | (go_keep; done) | (simp [go_sem, *]; done)) hb
  have l108_t := World.block_lt_of_cell? _ _ k108_t0
  try simp only at l108_t
  have k108_a0 := cell_keep (a := ⟨w4.heap.size, 0, none⟩) (v := .int .i64 A1) (by first | (go_keep; done) | (simp [go_sem, *]; done)) hb
  have k108_a1 := cell_keep (a := ⟨w4.heap.size, 1, none⟩) (v := .int .i64 A2) (by first | (go_keep; done) | (simp [go_sem, *]; done)) hb
  have k108_a2 := cell_keep (a := ⟨w4.heap.size, 2, none⟩) (v := .int .i64 A3) (by first | (go_keep; done) | (simp [go_sem, *]; done)) hb
  have l108_a := World.block_lt_of_cell? _ _ k108_a0
  try simp only at l108_a
  have k108_x0 := cell_keep (a := ⟨w6.heap.size, 0, none⟩) (v := .int .i64 X1) (by first | (go_keep; done) | (simp [go_sem, *]; done)) hb
  have k108_x1 := cell_keep (a := ⟨w6.heap.size, 1, none⟩) (v := .int .i64 X2) (by first | (go_keep; done) | (simp [go_sem, *]; done)) hb
  have k108_x2 := cell_keep (a := ⟨w6.heap.size, 2, none⟩) (v := .int .i64 X3) (by first | (go_keep; done) | (simp [go_sem, *]; done)) hb
  have l108_x := World.block_lt_of_cell? _ _ k108_x0
  try simp only at l108_x
  have k108_b0 := cell_keep (a := ⟨w107.heap.size, 0, none⟩) (v := .int .i64 X1) (by first | (go_keep; done) | (simp [go_sem, *]; done)) hb
  have k108_b1 := cell_keep (a := ⟨w107.heap.size, 1, none⟩) (v := .int .i64 X2) (by first | (go_keep; done) | (simp [go_sem, *]; done)) hb
  have k108_b2 := cell_keep (a := ⟨w107.heap.size, 2, none⟩) (v := .int .i64 X3) (by first | (go_keep; done) | (simp [go_sem, *]; done)) hb
  have l108_b := World.block_lt_of_cell? _ _ k108_b0
  try simp only at l108_b
  clear hb k107_u0 k107_u1 k107_u2 l107_u k107_t0 k107_t1 k107_t2 l107_t k107_a0 k107_a1 k107_a2 l107_a k107_x0 k107_x1 k107_x2 l107_x W107
  go_wp2_with fail
  refine (CT.out _ (hT.below (by repeat (first | exact W108.out | refine blw_drewN ?_ _ | refine Below.setCell ?_ (by first | (simp; done) | omega | (simp; omega)) _ | refine Below.alloc ?_ (by first | (simp; done) | omega | (simp; omega)) _)))).mono ?_
  rintro e w109 ⟨rfl, hb⟩
  have W109 := Lib.hid (blw_trans (show Below w.heap.size w _ by repeat (first | exact W108.out | refine blw_drewN ?_ _ | refine Below.setCell ?_ (by first | (simp; done) | omega | (simp; omega)) _ | refine Below.alloc ?_ (by first | (simp; done) | omega | (simp; omega)) _)) hb)
  have n109 := hb.size
  try simp at n109
  have k109_u0 := cell_keep (a := ⟨w.heap.size + 1, 0, none⟩) (v := .int .i64 p) (by first | (go_keep; done) | (simp [go_sem, *]; done)) hb
  have k109_u1 := cell_keep (a := ⟨w.heap.size + 1, 1, none⟩) (v := .int .i64 q) (by first | (go_keep; done) | (simp [go_sem, *]; done)) hb
  have k109_u2 := cell_keep (a := ⟨w.heap.size + 1, 2, none⟩) (v := .int .i64 r) (by first | (go_keep; done) | (simp [go_sem, *]; done)) hb
  have l109_u := World.block_lt_of_cell? _ _ k109_u0
  try simp only at l109_u
  have k109_t0 := cell_keep (a := ⟨w1.heap.size, 0, none⟩) (v := .int .i64 A1) (by first | (go_keep; done) | (simp [go_sem, *]; done)) hb
  have k109_t1 := cell_keep (a := ⟨w1.heap.size, 1, none⟩) (v := .int .i64 A2) (by first | (go_keep; done) | (simp [go_sem, *]; done)) hb
  have k109_t2 := cell_keep (a := ⟨w1.heap.size, 2, none⟩) (v := .int .i64 A3) (by first | (go_keep; done) | (simp [go_sem, *]; done)) hb
  have l109_t := World.block_lt_of_cell? _ _ k109_t0
  try simp only at l109_t
  have k109_a0 := cell_keep (a := ⟨w4.heap.size, 0, none⟩) (v := .int .i64 A1) (by first | (go_keep; done) | (simp [go_sem, *]; done)) hb
  have k109_a1 := cell_keep (a := ⟨w4.heap.size, 1, none⟩) (v := .int .i64 A2) (by first | (go_keep; done) | (simp [go_sem, *]; done)) hb
  have k109_a2 := cell_keep (a := ⟨w4.heap.size, 2, none⟩) (v := .int .i64 A3) (by first | (go_keep; done) | (simp [go_sem, *]; done)) hb
  have l109_a := World.block_lt_of_cell? _ _ k109_a0
  try simp only at l109_a
  have k109_x0 := cell_keep (a := ⟨w6.heap.size, 0, none⟩) (v := .int .i64 X1) (by first | (go_keep; done) | (simp [go_sem, *]; done)) hb
  have k109_x1 := cell_keep (a := ⟨w6.heap.size, 1, none⟩) (v := .int .i64 X2) (by first | (go_keep; done) | (simp [go_sem, *]; done)) hb
  have k109_x2 := cell_keep (a := ⟨w6.heap.size, 2, none⟩) (v := .int .i64 X3) (by first | (go_keep; done) | (simp [go_sem, *]; done)) hb
  have l109_x := World.block_lt_of_cell? _ _ k109_x0
  try simp only at l109_x
  have k109_b0 := cell_keep (a := ⟨w107.heap.size, 0, none⟩) (v := .int .i64 X1) (by first | (go_keep; done) | (simp [go_sem, *]; done)) hb
  have k109_b1 := cell_keep (a := ⟨w107.heap.size, 1, none⟩) (v := .int .i64 X2) (by first | (go_keep; done) | (simp [go_sem, *]; done)) hb
  have k109_b2 := cell_keep (a := ⟨w107.heap.size, 2, none⟩) (v := .int .i64 X3) (by first | (go_keep; done) | (simp [go_sem, *]; done)) hb
  have l109_b := World.block_lt_of_cell? _ _ k109_b0
  try simp only at l109_b
  clear hb k108_u0 k108_u1 k108_u2 l108_u k108_t0 k108_t1 k108_t2 l108_t k108_a0 k108_a1 k108_a2 l108_a k108_x0 k108_x1 k108_x2 l108_x k108_b0 k108_b1 k108_b2 l108_b W108
  go_wp2_with fail
  refine (E0.out _ (hT.below (by repeat (first | exact W109.out | refine blw_drewN ?_ _ | refine Below.setCell ?_ (by first | (simp; done) | omega | (simp; omega)) _ | refine Below.alloc ?_ (by first | (simp; done) | omega | (simp; omega)) _)))).mono ?_
  rintro e w110 ⟨rfl, hb⟩
  have W110 := Lib.hid (blw_trans (show Below w.heap.size w _ by repeat (first | exact W109.out | refine blw_drewN ?_ _ | refine Below.setCell ?_ (by first | (simp; done) | omega | (simp; omega)) _ | refine Below.alloc ?_ (by first | (simp; done) | omega | (simp; omega)) _)) hb)
  have n110 := hb.size
  try simp at n110
  have k110_t0 := cell_keep (a := ⟨w1.heap.size, 0, none⟩) (v := .int .i64 A1) (by first | (go_keep; done) | (simp [go_sem, *]; done)) hb
  have k110_t1 := cell_keep (a := ⟨w1.heap.size, 1, none⟩) (v := .int .i64 A2) (by first | (go_keep; done) | (simp [go_sem, *]; done)) hb
  have k110_t2 := cell_keep (a := ⟨w1.heap.size, 2, none⟩) (v := .int .i64 A3) (by first | (go_keep; done) | (simp [go_sem, *]; done)) hb
  have l110_t := World.block_lt_of_cell? _ _ k110_t0
  try simp only at l110_t
  have k110_a0 := cell_keep (a := ⟨w4.heap.size, 0, none⟩) (v := .int .i64 A1) (by first | (go_keep; done) | (simp [go_sem, *]; done)) hb
  have k110_a1 := cell_keep (a := ⟨w4.heap.size, 1, none⟩) (v := .int .i64 A2) (by first | (go_keep; done) | (simp [go_sem, *]; done)) hb
  have k110_a2 := cell_keep (a := ⟨w4.heap.size, 2, none⟩) (v := .int .i64 A3) (by first | (go_keep; done) | (simp [go_sem, *]; done)) hb
  have l110_a := World.block_lt_of_cell? _ _ k110_a0
  try simp only at l110_a
  have k110_x0 := cell_keep (a := ⟨w6.heap.size, 0, none⟩) (v := .int .i64 X1) (by first | (go_keep; done) | (simp [go_sem, *]; done)) hb
  have k110_x1 := cell_keep (a := ⟨w6.heap.size, 1, none⟩) (v := .int .i64 X2) (by first | (go_keep; done) | (simp [go_sem, *]; done)) hb
  have k110_x2 := cell_keep (a := ⟨w6.heap.size, 2, none⟩) (v := .int .i64 X3) (by first | (go_keep; done) | (simp [go_sem, *]; done)) hb
  have l110_x := World.block_lt_of_cell? _ _ k110_x0
  try simp only at l110_x
  have k110_b0 := cell_keep (a := ⟨w107.heap.size, 0, none⟩) (v := .int .i64 X1) (by first | (go_keep; done) | (simp [go_sem, *]; done)) hb
  have k110_b1 := cell_keep (a := ⟨w107.heap.size, 1, none⟩) (v := .int .i64 X2) (by first | (go_keep; done) | (simp [go_sem, *]; done)) hb
  have k110_b2 := cell_keep (a := ⟨w107.heap.size, 2, none⟩) (v := .int .i64 X3) (by first | (go_keep; done) | (simp [go_sem, *]; done)) hb
  have l110_b := World.block_lt_of_cell? _ _ k110_b0
  try simp only at l110_b
  clear hb k109_u0 k109_u1 k109_u2 l109_u k109_t0 k109_t1 k109_t2 l109_t k109_a0 k109_a1 k109_a2 l109_a k109_x0 k109_x1 k109_x2 l109_x k109_b0 k109_b1 k109_b2 l109_b W109
  go_wp2_with fail
  refine (CN.out _).mono ?_
  rintro e w' ⟨rfl, rfl⟩
  go_wp2_with fail
  refine (E1.out _ (hT.below (by repeat (first | exact W110.out | refine blw_drewN ?_ _ | refine Below.setCell ?_ (by first | (simp; done) | omega | (simp; omega)) _ | refine Below.alloc ?_ (by first | (simp; done) | omega | (simp; omega)) _)))).mono ?_
  rintro e w111 ⟨rfl, hb⟩
  have W111 := Lib.hid (blw_trans (show Below w.heap.size w _ by repeat (first | exact W110.out | refine blw_drewN ?_ _ | refine Below.setCell ?_ (by first | (simp; done) | omega | (simp; omega)) _ | refine Below.alloc ?_ (by first | (simp; done) | omega | (simp; omega)) _)) hb)
  have n111 := hb.size
  try simp at n111
  have k111_t0 := cell_keep (a := ⟨w1.heap.size, 0, none⟩) (v := .int .i64 A1) (by first | (go_keep; done) | (simp [go_sem, *]; done)) hb
  have k111_t1 := cell_keep (a := ⟨w1.heap.size, 1, none⟩) (v := .int .i64 A2) (by first | (go_keep; done) | (simp [go_sem, *]; done)) hb
  have k111_t2 := cell_keep (a := ⟨w1.heap.size, 2, none⟩) (v := .int .i64 A3) (by first | (go_keep; done) | (simp [go_sem, *]; done)) hb
  have l111_t := World.block_lt_of_cell? _ _ k111_t0
  try simp only at l111_t
  have k111_a0 := cell_keep (a := ⟨w4.heap.size, 0, none⟩) (v := .int .i64 A1) (by first | (go_keep; done) | (simp [go_sem, *]; done)) hb
  have k111_a1 := cell_keep (a := ⟨w4.heap.size, 1, none⟩) (v := .int .i64 A2) (by first | (go_keep; done) | (simp [go_sem, *]; done)) hb
  have k111_a2 := cell_keep (a := ⟨w4.heap.size, 2, none⟩) (v := .int .i64 A3) (by first | (go_keep; done) | (simp [go_sem, *]; done)) hb
  have l111_a := World.block_lt_of_cell? _ _ k111_a0
  try simp only at l111_a
  have k111_x0 := cell_keep (a := ⟨w6.heap.size, 0, none⟩) (v := .int .i64 X1) (by first | (go_keep; done) | (simp [go_sem, *]; done)) hb
  have k111_x1 := cell_keep (a := ⟨w6.heap.size, 1, none⟩) (v := .int .i64 X2) (by first | (go_keep; done) | (simp [go_sem, *]; done)) hb
  have k111_x2 := cell_keep (a := ⟨w6.heap.size, 2, none⟩) (v := .int .i64 X3) (by first | (go_keep; done) | (simp [go_sem, *]; done)) hb
  have l111_x := World.block_lt_of_cell? _ _ k111_x0
  try simp only at l111_x
  have k111_b0 := cell_keep (a := ⟨w107.heap.size, 0, none⟩) (v := .int .i64 X1) (by first | (go_keep; done) | (simp [go_sem, *]; done)) hb
  have k111_b1 := cell_keep (a := ⟨w107.heap.size, 1, none⟩) (v := .int .i64 X2) (by first | (go_keep; done) | (simp [go_sem, *]; done)) hb
  have k111_b2 := cell_keep (a := ⟨w107.heap.size, 2, none⟩) (v := .int .i64 X3) (by first | (go_keep; done) | (simp [go_sem, *]; done)) hb
  have l111_b := World.block_lt_of_cell? _ _ k111_b0
  try simp only at l111_b
  clear hb k110_t0 k110_t1 k110_t2 l110_t k110_a0 k110_a1 k110_a2 l110_a k110_x0 k110_x1 k110_x2 l110_x k110_b0 k110_b1 k110_b2 l110_b W110
  go_wp2
  go_ret
  exact ⟨ret_bool (by simp), by repeat (first | exact W111.out | refine blw_drewN ?_ _ | refine Below.setCell ?_ (by first | (simp; done) | omega | (simp; omega)) _ | refine Below.alloc ?_ (by first | (simp; done) | omega | (simp; omega)) _)⟩

set_option maxRecDepth 100000 in
set_option maxHeartbeats 4000000 in
theorem weekTells_dwgt (y m d p q r x p0 q0 r0 A1 A2 A3 X1 X2 X3 : Int) (P Q R T : List UInt8) (w : World) (hT : TPH w)
    (lp : P.length ≤ 120) (lq : Q.length ≤ 120) (lr : R.length ≤ 120) (HX : P ++ [45, 87] ++ Q ++ [45] ++ R = T)
    (mp : max p 0 = p0) (mq : max q 0 = q0) (mr : max r 0 = r0)
    (CF : Hid (∀ w : World, Calls Tryd.prog 6 #[.agg #[.int .i64 y, .int .i64 m, .int .i64 d]] w fun e w' => e = .returned (.bool false) ∧ Below w.heap.size w w'))
    (CW : Hid (∀ w : World, Calls Tryd.prog 7 #[.agg #[.int .i64 y, .int .i64 m, .int .i64 d]] w fun e w' => e = .returned (.agg #[.int .i64 A1, .int .i64 A2, .int .i64 A3]) ∧ Below w.heap.size w w'))
    (CO : Hid (∀ w : World, TPH w → Calls Tryd.prog 8 #[.agg #[.int .i64 y, .int .i64 m, .int .i64 d]] w fun e w' => e = .returned (.tuple #[.agg #[.int .i64 A1, .int .i64 A2, .int .i64 A3], .nilIface]) ∧ Below w.heap.size w w'))
    (CX : Hid (∀ w : World, Calls Tryd.prog 10 #[.agg #[.int .i64 p, .int .i64 q, .int .i64 r]] w fun e w' => e = .returned (.tuple #[.agg #[.int .i64 X1, .int .i64 X2, .int .i64 X3], .bool true]) ∧ Below w.heap.size w w'))
    (D1 : Hid (∀ w : World, Calls Tryd.prog 11 #[.int .i64 p0, .int .i64 4] w fun e w' => e = .returned (.string ⟨P.toArray⟩) ∧ Below w.heap.size w w'))
    (D2 : Hid (∀ w : World, Calls Tryd.prog 11 #[.int .i64 q0, .int .i64 2] w fun e w' => e = .returned (.string ⟨Q.toArray⟩) ∧ Below w.heap.size w w'))
    (D3 : Hid (∀ w : World, Calls Tryd.prog 11 #[.int .i64 r0, .int .i64 1] w fun e w' => e = .returned (.string ⟨R.toArray⟩) ∧ Below w.heap.size w w'))
    (CB : Hid (∀ w : World, TPH w → Calls Tryd.prog 12 #[.agg #[.int .i64 p, .int .i64 q, .int .i64 r]] w fun e w' => e = .returned (.tuple #[.agg #[.int .i64 X1, .int .i64 X2, .int .i64 X3], .nilIface]) ∧ Below w.heap.size w w'))
    (CT : Hid (∀ w : World, TPH w → Calls Tryd.prog 13 #[.agg #[.int .i64 p, .int .i64 q, .int .i64 r]] w fun e w' => e = .returned (.tuple #[.string ⟨T.toArray⟩, .nilIface]) ∧ Below w.heap.size w w'))
    (y0 : ¬ x < 1) (y1 : 9999 < x)
    (CN : Hid (∀ w : World, Calls Tryd.prog 15 #[.int .i64 x] w fun e w' => e = .returned (.tuple #[.int .i64 0, errV 1]) ∧ w = w')) :
    Calls Tryd.prog 3 #[.agg #[.int .i64 y, .int .i64 m, .int .i64 d], .agg #[.int .i64 p, .int .i64 q, .int .i64 r], .int .i64 x] w fun e w' => e = .returned (.bool true) ∧ Below w.heap.size w w' := by
  have C0 := Lib.hid fun w (hT : TPH w) => weekly_any w hT.t
  have E0 := Lib.hid fun w (hT : TPH w) => sameErr_yes ErrNo.nil w hT.h
  have E1 := Lib.hid fun w (hT : TPH w) => sameErr_yes (ErrNo.no 1) w hT.h
  have g1 : decide (x < 1) = false := dec_no y0
  have g2 : decide (9999 < x) = true := dec_yes y1
  obtain ⟨Y1, x1⟩ : ∃ X, X = P ++ [45, 87] := ⟨_, rfl⟩
  have S1 : ∀ w, (Op.stringOp .add ⟨P.toArray⟩ ⟨#[45, 87]⟩).run Tryd.prog w = .ok (.string ⟨Y1.toArray⟩) w := fun w => by rw [x1]; exact add_str (P := Tryd.prog) P [45, 87] (by first | omega | (simp; omega)) w
  have m1 : Y1.length = P.length + 2 := by rw [x1]; simp
  obtain ⟨Y2, x2⟩ : ∃ X, X = Y1 ++ Q := ⟨_, rfl⟩
  have S2 : ∀ w, (Op.stringOp .add ⟨Y1.toArray⟩ ⟨Q.toArray⟩).run Tryd.prog w = .ok (.string ⟨Y2.toArray⟩) w := fun w => by rw [x2]; exact add_str (P := Tryd.prog) Y1 Q (by first | omega | (simp; omega)) w
  have m2 : Y2.length = Y1.length + Q.length := by rw [x2]; simp
  obtain ⟨Y3, x3⟩ : ∃ X, X = Y2 ++ [45] := ⟨_, rfl⟩
  have S3 : ∀ w, (Op.stringOp .add ⟨Y2.toArray⟩ ⟨#[45]⟩).run Tryd.prog w = .ok (.string ⟨Y3.toArray⟩) w := fun w => by rw [x3]; exact add_str (P := Tryd.prog) Y2 [45] (by first | omega | (simp; omega)) w
  have m3 : Y3.length = Y2.length + 1 := by rw [x3]; simp
  have S4 : ∀ w, (Op.stringOp .add ⟨Y3.toArray⟩ ⟨R.toArray⟩).run Tryd.prog w = .ok (.string ⟨T.toArray⟩) w := fun w => by rw [← HX, ← x1, ← x2, ← x3]; exact add_str (P := Tryd.prog) Y3 R (by omega) w
  clear x1 x2 x3 m1 m2 m3 HX lp lq lr
  go_enter Tryd.func3, Tryd.ntmps3
  go_wp2_with fail
  refine (C0.out _ (hT.below (by repeat (first | exact (Below.refl _ _) | refine blw_drewN ?_ _ | refine Below.setCell ?_ (by first | (simp; done) | omega | (simp; omega)) _ | refine Below.alloc ?_ (by first | (simp; done) | omega | (simp; omega)) _)))).mono ?_
  rintro e w1 ⟨rfl, hb⟩
  have W1 := Lib.hid (blw_trans (show Below w.heap.size w _ by repeat (first | exact (Below.refl _ _) | refine blw_drewN ?_ _ | refine Below.setCell ?_ (by first | (simp; done) | omega | (simp; omega)) _ | refine Below.alloc ?_ (by first | (simp; done) | omega | (simp; omega)) _)) hb)
  have n1 := hb.size
  try simp at n1
  have k1_d0 := cell_keep (a := ⟨w.heap.size, 0, none⟩) (v := .int .i64 y) (by first | (go_keep; done) | (simp [go_sem, *]; done)) hb
  have k1_d1 := cell_keep (a := ⟨w.heap.size, 1, none⟩) (v := .int .i64 m) (by first | (go_keep; done) | (simp [go_sem, *]; done)) hb
  have k1_d2 := cell_keep (a := ⟨w.heap.size, 2, none⟩) (v := .int .i64 d) (by first | (go_keep; done) | (simp [go_sem, *]; done)) hb
  have l1_d := World.block_lt_of_cell? _ _ k1_d0
  try simp only at l1_d
  have k1_u0 := cell_keep (a := ⟨w.heap.size + 1, 0, none⟩) (v := .int .i64 p) (by first | (go_keep; done) | (simp [go_sem, *]; done)) hb
  have k1_u1 := cell_keep (a := ⟨w.heap.size + 1, 1, none⟩) (v := .int .i64 q) (by first | (go_keep; done) | (simp [go_sem, *]; done)) hb
  have k1_u2 := cell_keep (a := ⟨w.heap.size + 1, 2, none⟩) (v := .int .i64 r) (by first | (go_keep; done) | (simp [go_sem, *]; done)) hb
  have l1_u := World.block_lt_of_cell? _ _ k1_u0
  try simp only at l1_u
  clear hb
  have ne1 : ¬ w1.heap.size = w.heap.size := by omega
  have me1 : ¬ w.heap.size = w1.heap.size := by omega
  have ne2 : ¬ w1.heap.size = w.heap.size + 1 := by omega
  have me2 : ¬ w.heap.size + 1 = w1.heap.size := by omega
  go_wp2_with fail
  refine (CF.out _).mono ?_
  rintro e w2 ⟨rfl, hb⟩
  have W2 := Lib.hid (blw_trans (show Below w.heap.size w _ by repeat (first | exact W1.out | refine blw_drewN ?_ _ | refine Below.setCell ?_ (by first | (simp; done) | omega | (simp; omega)) _ | refine Below.alloc ?_ (by first | (simp; done) | omega | (simp; omega)) _)) hb)
  have n2 := hb.size
  try simp at n2
  have k2_d0 := cell_keep (a := ⟨w.heap.size, 0, none⟩) (v := .int .i64 y) (by first | (go_keep; done) | (simp [go_sem, *]; done)) hb
  have k2_d1 := cell_keep (a := ⟨w.heap.size, 1, none⟩) (v := .int .i64 m) (by first | (go_keep; done) | (simp [go_sem, *]; done)) hb
  have k2_d2 := cell_keep (a := ⟨w.heap.size, 2, none⟩) (v := .int .i64 d) (by first | (go_keep; done) | (simp [go_sem, *]; done)) hb
  have l2_d := World.block_lt_of_cell? _ _ k2_d0
  try simp only at l2_d
  have k2_u0 := cell_keep (a := ⟨w.heap.size + 1, 0, none⟩) (v := .int .i64 p) (by first | (go_keep; done) | (simp [go_sem, *]; done)) hb
  have k2_u1 := cell_keep (a := ⟨w.heap.size + 1, 1, none⟩) (v := .int .i64 q) (by first | (go_keep; done) | (simp [go_sem, *]; done)) hb
  have k2_u2 := cell_keep (a := ⟨w.heap.size + 1, 2, none⟩) (v := .int .i64 r) (by first | (go_keep; done) | (simp [go_sem, *]; done)) hb
  have l2_u := World.block_lt_of_cell? _ _ k2_u0
  try simp only at l2_u
  have k2_t0 := cell_keep (a := ⟨w1.heap.size, 0, none⟩) (v := .int .i64 0) (by first | (go_keep; done) | (simp [go_sem, *]; done)) hb
  have f2_t0 := (hb.frozen (p := ⟨w1.heap.size, 0, none⟩) (by first | (simp; done) | omega | (simp; omega))).trans (show _ = false by first | (simp; done) | (simp [go_sem]; done))
  have k2_t1 := cell_keep (a := ⟨w1.heap.size, 1, none⟩) (v := .int .i64 0) (by first | (go_keep; done) | (simp [go_sem, *]; done)) hb
  have f2_t1 := (hb.frozen (p := ⟨w1.heap.size, 1, none⟩) (by first | (simp; done) | omega | (simp; omega))).trans (show _ = false by first | (simp; done) | (simp [go_sem]; done))
  have k2_t2 := cell_keep (a := ⟨w1.heap.size, 2, none⟩) (v := .int .i64 0) (by first | (go_keep; done) | (simp [go_sem, *]; done)) hb
  have f2_t2 := (hb.frozen (p := ⟨w1.heap.size, 2, none⟩) (by first | (simp; done) | omega | (simp; omega))).trans (show _ = false by first | (simp; done) | (simp [go_sem]; done))
  have l2_t := World.block_lt_of_cell? _ _ k2_t0
  try simp only at l2_t
  clear hb k1_d0 k1_d1 k1_d2 l1_d k1_u0 k1_u1 k1_u2 l1_u W1
  go_wp2_with fail
  refine (CW.out _).mono ?_
  rintro e w3 ⟨rfl, hb⟩
  have W3 := Lib.hid (blw_trans (show Below w.heap.size w _ by repeat (first | exact W2.out | refine blw_drewN ?_ _ | refine Below.setCell ?_ (by first | (simp; done) | omega | (simp; omega)) _ | refine Below.alloc ?_ (by first | (simp; done) | omega | (simp; omega)) _)) hb)
  have n3 := hb.size
  try simp at n3
  have k3_d0 := cell_keep (a := ⟨w.heap.size, 0, none⟩) (v := .int .i64 y) (by first | (go_keep; done) | (simp [go_sem, *]; done)) hb
  have k3_d1 := cell_keep (a := ⟨w.heap.size, 1, none⟩) (v := .int .i64 m) (by first | (go_keep; done) | (simp [go_sem, *]; done)) hb
  have k3_d2 := cell_keep (a := ⟨w.heap.size, 2, none⟩) (v := .int .i64 d) (by first | (go_keep; done) | (simp [go_sem, *]; done)) hb
  have l3_d := World.block_lt_of_cell? _ _ k3_d0
  try simp only at l3_d
  have k3_u0 := cell_keep (a := ⟨w.heap.size + 1, 0, none⟩) (v := .int .i64 p) (by first | (go_keep; done) | (simp [go_sem, *]; done)) hb
  have k3_u1 := cell_keep (a := ⟨w.heap.size + 1, 1, none⟩) (v := .int .i64 q) (by first | (go_keep; done) | (simp [go_sem, *]; done)) hb
  have k3_u2 := cell_keep (a := ⟨w.heap.size + 1, 2, none⟩) (v := .int .i64 r) (by first | (go_keep; done) | (simp [go_sem, *]; done)) hb
  have l3_u := World.block_lt_of_cell? _ _ k3_u0
  try simp only at l3_u
  have k3_t0 := cell_keep (a := ⟨w1.heap.size, 0, none⟩) (v := .int .i64 0) (by first | (go_keep; done) | (simp [go_sem, *]; done)) hb
  have f3_t0 := (hb.frozen (p := ⟨w1.heap.size, 0, none⟩) (by first | (simp; done) | omega | (simp; omega))).trans (show _ = false by first | exact f2_t0 | (simp; done) | (simp [go_sem]; done) | (simp [f2_t0]; done))
  have k3_t1 := cell_keep (a := ⟨w1.heap.size, 1, none⟩) (v := .int .i64 0) (by first | (go_keep; done) | (simp [go_sem, *]; done)) hb
  have f3_t1 := (hb.frozen (p := ⟨w1.heap.size, 1, none⟩) (by first | (simp; done) | omega | (simp; omega))).trans (show _ = false by first | exact f2_t1 | (simp; done) | (simp [go_sem]; done) | (simp [f2_t1]; done))
  have k3_t2 := cell_keep (a := ⟨w1.heap.size, 2, none⟩) (v := .int .i64 0) (by first | (go_keep; done) | (simp [go_sem, *]; done)) hb
  have f3_t2 := (hb.frozen (p := ⟨w1.heap.size, 2, none⟩) (by first | (simp; done) | omega | (simp; omega))).trans (show _ = false by first | exact f2_t2 | (simp; done) | (simp [go_sem]; done) | (simp [f2_t2]; done))
  have l3_t := World.block_lt_of_cell? _ _ k3_t0
  try simp only at l3_t
  clear hb k2_d0 k2_d1 k2_d2 l2_d k2_u0 k2_u1 k2_u2 l2_u k2_t0 f2_t0 k2_t1 f2_t1 k2_t2 f2_t2 l2_t W2
  go_wp2_with fail
  refine (CO.out _ (hT.below (by repeat (first | exact W3.out | refine blw_drewN ?_ _ | refine Below.setCell ?_ (by first | (simp; done) | omega | (simp; omega)) _ | refine Below.alloc ?_ (by first | (simp; done) | omega | (simp; omega)) _)))).mono ?_
  rintro e w4 ⟨rfl, hb⟩
  have W4 := Lib.hid (blw_trans (show Below w.heap.size w _ by repeat (first | exact W3.out | refine blw_drewN ?_ _ | refine Below.setCell ?_ (by first | (simp; done) | omega | (simp; omega)) _ | refine Below.alloc ?_ (by first | (simp; done) | omega | (simp; omega)) _)) hb)
  have n4 := hb.size
  try simp at n4
  have k4_u0 := cell_keep (a := ⟨w.heap.size + 1, 0, none⟩) (v := .int .i64 p) (by first | (go_keep; done) | (simp [go_sem, *]; done)) hb
  have k4_u1 := cell_keep (a := ⟨w.heap.size + 1, 1, none⟩) (v := .int .i64 q) (by first | (go_keep; done) | (simp [go_sem, *]; done)) hb
  have k4_u2 := cell_keep (a := ⟨w.heap.size + 1, 2, none⟩) (v := .int .i64 r) (by first | (go_keep; done) | (simp [go_sem, *]; done)) hb
  have l4_u := World.block_lt_of_cell? _ _ k4_u0
  try simp only at l4_u
  have k4_t0 := cell_keep (a := ⟨w1.heap.size, 0, none⟩) (v := .int .i64 A1) (by first | (go_keep; done) | (simp [go_sem, *]; done)) hb
  have k4_t1 := cell_keep (a := ⟨w1.heap.size, 1, none⟩) (v := .int .i64 A2) (by first | (go_keep; done) | (simp [go_sem, *]; done)) hb
  have k4_t2 := cell_keep (a := ⟨w1.heap.size, 2, none⟩) (v := .int .i64 A3) (by first | (go_keep; done) | (simp [go_sem, *]; done)) hb
  have l4_t := World.block_lt_of_cell? _ _ k4_t0
  try simp only at l4_t
  clear hb k3_d0 k3_d1 k3_d2 l3_d k3_u0 k3_u1 k3_u2 l3_u k3_t0 f3_t0 k3_t1 f3_t1 k3_t2 f3_t2 l3_t W3
  go_wp2_with fail
  refine (E0.out _ (hT.below (by repeat (first | exact W4.out | refine blw_drewN ?_ _ | refine Below.setCell ?_ (by first | (simp; done) | omega | (simp; omega)) _ | refine Below.alloc ?_ (by first | (simp; done) | omega | (simp; omega)) _)))).mono ?_
  rintro e w5 ⟨rfl, hb⟩
  have W5 := Lib.hid (blw_trans (show Below w.heap.size w _ by repeat (first | exact W4.out | refine blw_drewN ?_ _ | refine Below.setCell ?_ (by first | (simp; done) | omega | (simp; omega)) _ | refine Below.alloc ?_ (by first | (simp; done) | omega | (simp; omega)) _)) hb)
  have n5 := hb.size
  try simp at n5
  have k5_u0 := cell_keep (a := ⟨w.heap.size + 1, 0, none⟩) (v := .int .i64 p) (by first | (go_keep; done) | (simp [go_sem, *]; done)) hb
  have k5_u1 := cell_keep (a := ⟨w.heap.size + 1, 1, none⟩) (v := .int .i64 q) (by first | (go_keep; done) | (simp [go_sem, *]; done)) hb
  have k5_u2 := cell_keep (a := ⟨w.heap.size + 1, 2, none⟩) (v := .int .i64 r) (by first | (go_keep; done) | (simp [go_sem, *]; done)) hb
  have l5_u := World.block_lt_of_cell? _ _ k5_u0
  try simp only at l5_u
  have k5_t0 := cell_keep (a := ⟨w1.heap.size, 0, none⟩) (v := .int .i64 A1) (by first | (go_keep; done) | (simp [go_sem, *]; done)) hb
  have k5_t1 := cell_keep (a := ⟨w1.heap.size, 1, none⟩) (v := .int .i64 A2) (by first | (go_keep; done) | (simp [go_sem, *]; done)) hb
  have k5_t2 := cell_keep (a := ⟨w1.heap.size, 2, none⟩) (v := .int .i64 A3) (by first | (go_keep; done) | (simp [go_sem, *]; done)) hb
  have l5_t := World.block_lt_of_cell? _ _ k5_t0
  try simp only at l5_t
  have k5_a0 := cell_keep (a := ⟨w4.heap.size, 0, none⟩) (v := .int .i64 A1) (by first | (go_keep; done) | (simp [go_sem, *]; done)) hb
  have k5_a1 := cell_keep (a := ⟨w4.heap.size, 1, none⟩) (v := .int .i64 A2) (by first | (go_keep; done) | (simp [go_sem, *]; done)) hb
  have k5_a2 := cell_keep (a := ⟨w4.heap.size, 2, none⟩) (v := .int .i64 A3) (by first | (go_keep; done) | (simp [go_sem, *]; done)) hb
  have l5_a := World.block_lt_of_cell? _ _ k5_a0
  try simp only at l5_a
  clear hb k4_u0 k4_u1 k4_u2 l4_u k4_t0 k4_t1 k4_t2 l4_t W4
  go_wp2_with fail
  refine (CX.out _).mono ?_
  rintro e w6 ⟨rfl, hb⟩
  have W6 := Lib.hid (blw_trans (show Below w.heap.size w _ by repeat (first | exact W5.out | refine blw_drewN ?_ _ | refine Below.setCell ?_ (by first | (simp; done) | omega | (simp; omega)) _ | refine Below.alloc ?_ (by first | (simp; done) | omega | (simp; omega)) _)) hb)
  have n6 := hb.size
  try simp at n6
  have k6_u0 := cell_keep (a := ⟨w.heap.size + 1, 0, none⟩) (v := .int .i64 p) (by first | (go_keep; done) | (simp [go_sem, *]; done)) hb
  have k6_u1 := cell_keep (a := ⟨w.heap.size + 1, 1, none⟩) (v := .int .i64 q) (by first | (go_keep; done) | (simp [go_sem, *]; done)) hb
  have k6_u2 := cell_keep (a := ⟨w.heap.size + 1, 2, none⟩) (v := .int .i64 r) (by first | (go_keep; done) | (simp [go_sem, *]; done)) hb
  have l6_u := World.block_lt_of_cell? _ _ k6_u0
  try simp only at l6_u
  have k6_t0 := cell_keep (a := ⟨w1.heap.size, 0, none⟩) (v := .int .i64 A1) (by first | (go_keep; done) | (simp [go_sem, *]; done)) hb
  have k6_t1 := cell_keep (a := ⟨w1.heap.size, 1, none⟩) (v := .int .i64 A2) (by first | (go_keep; done) | (simp [go_sem, *]; done)) hb
  have k6_t2 := cell_keep (a := ⟨w1.heap.size, 2, none⟩) (v := .int .i64 A3) (by first | (go_keep; done) | (simp [go_sem, *]; done)) hb
  have l6_t := World.block_lt_of_cell? _ _ k6_t0
  try simp only at l6_t
  have k6_a0 := cell_keep (a := ⟨w4.heap.size, 0, none⟩) (v := .int .i64 A1) (by first | (go_keep; done) | (simp [go_sem, *]; done)) hb
  have k6_a1 := cell_keep (a := ⟨w4.heap.size, 1, none⟩) (v := .int .i64 A2) (by first | (go_keep; done) | (simp [go_sem, *]; done)) hb
  have k6_a2 := cell_keep (a := ⟨w4.heap.size, 2, none⟩) (v := .int .i64 A3) (by first | (go_keep; done) | (simp [go_sem, *]; done)) hb
  have l6_a := World.block_lt_of_cell? _ _ k6_a0
  try simp only at l6_a
  clear hb k5_u0 k5_u1 k5_u2 l5_u k5_t0 k5_t1 k5_t2 l5_t k5_a0 k5_a1 k5_a2 l5_a W5
  go_wp2_with fail
  refine wp_region_held_drew (S := fun w' => w'.cell? ⟨w.heap.size + 1, 0, none⟩ = some (.int .i64 p) ∧ w'.cell? ⟨w.heap.size + 1, 1, none⟩ = some (.int .i64 q) ∧ w'.cell? ⟨w.heap.size + 1, 2, none⟩ = some (.int .i64 r) ∧ w'.cell? ⟨w1.heap.size, 0, none⟩ = some (.int .i64 A1) ∧ w'.cell? ⟨w1.heap.size, 1, none⟩ = some (.int .i64 A2) ∧ w'.cell? ⟨w1.heap.size, 2, none⟩ = some (.int .i64 A3) ∧ w'.cell? ⟨w4.heap.size, 0, none⟩ = some (.int .i64 A1) ∧ w'.cell? ⟨w4.heap.size, 1, none⟩ = some (.int .i64 A2) ∧ w'.cell? ⟨w4.heap.size, 2, none⟩ = some (.int .i64 A3) ∧ w'.cell? ⟨w6.heap.size, 0, none⟩ = some (.int .i64 X1) ∧ w'.cell? ⟨w6.heap.size, 1, none⟩ = some (.int .i64 X2) ∧ w'.cell? ⟨w6.heap.size, 2, none⟩ = some (.int .i64 X3) ∧ Hid (Below w.heap.size w w')) (by kernel_rfl) (by refine ⟨by go_keep, by go_keep, by go_keep, by go_keep, by go_keep, by go_keep, by go_keep, by go_keep, by go_keep, by go_keep, by go_keep, by go_keep, Lib.hid (Below.drew ?_)⟩; repeat (first | exact W6.out | refine blw_drewN ?_ _ | refine Below.setCell ?_ (by first | (simp; done) | omega | (simp; omega)) _ | refine Below.alloc ?_ (by first | (simp; done) | omega | (simp; omega)) _)) (fun hHeld => ?_)
  refine take_run (d := (some 41)) (v := ?v35) 0 rfl rfl (by kernel_rfl) (by kernel_rfl) (by kernel_rfl) (fun _ _ _ h => h) (by rfl) hHeld ?hy35 ?rs35
  case hy35 => (intro w hSw; (try dsimp only at hSw); go_simp) <;> (try with_reducible rfl)
  (try simp only [Act.put, List.setIfInBounds_toArray, List.set_cons_zero, List.set_cons_succ])
  refine take_run (d := (some 42)) (v := ?v36) 1 rfl rfl (by kernel_rfl) (by kernel_rfl) (by kernel_rfl) (fun _ _ _ h => h) (by rfl) hHeld ?hy36 ?rs36
  case hy36 => (intro w hSw; (try dsimp only at hSw); go_simp) <;> (try with_reducible rfl)
  (try simp only [Act.put, List.setIfInBounds_toArray, List.set_cons_zero, List.set_cons_succ])
  refine take_run (d := (some 43)) (v := ?v37) 2 rfl rfl (by kernel_rfl) (by kernel_rfl) (by kernel_rfl) (fun _ _ _ h => h) (by rfl) hHeld ?hy37 ?rs37
  case hy37 => (intro w hSw; (try dsimp only at hSw); go_simp) <;> (try with_reducible rfl)
  (try simp only [Act.put, List.setIfInBounds_toArray, List.set_cons_zero, List.set_cons_succ])
  refine take_run (d := (some 46)) (v := ?v38) 5 rfl rfl (by kernel_rfl) (by kernel_rfl) (by kernel_rfl) (fun _ _ _ h => h) (by rfl) hHeld ?hy38 ?rs38
  case hy38 => (intro w hSw; (try dsimp only at hSw); go_simp) <;> (try with_reducible rfl)
  (try simp only [Act.put, List.setIfInBounds_toArray, List.set_cons_zero, List.set_cons_succ])
  refine take_run (d := (some 47)) (v := ?v39) 6 rfl rfl (by kernel_rfl) (by kernel_rfl) (by kernel_rfl) (fun _ _ _ h => h) (by rfl) hHeld ?hy39 ?rs39
  case hy39 => (intro w hSw; (try dsimp only at hSw); go_simp) <;> (try with_reducible rfl)
  (try simp only [Act.put, List.setIfInBounds_toArray, List.set_cons_zero, List.set_cons_succ])
  refine take_run (d := (some 48)) (v := ?v40) 7 rfl rfl (by kernel_rfl) (by kernel_rfl) (by kernel_rfl) (fun _ _ _ h => h) (by rfl) hHeld ?hy40 ?rs40
  case hy40 => (intro w hSw; (try dsimp only at hSw); go_simp) <;> (try with_reducible rfl)
  (try simp only [Act.put, List.setIfInBounds_toArray, List.set_cons_zero, List.set_cons_succ])
  refine take_run (d := (some 52)) (v := ?v41) 11 rfl rfl (by kernel_rfl) (by kernel_rfl) (by kernel_rfl) (fun _ _ _ h => h) (by rfl) hHeld ?hy41 ?rs41
  case hy41 => (intro w hSw; (try dsimp only at hSw); go_simp) <;> (try with_reducible rfl)
  (try simp only [Act.put, List.setIfInBounds_toArray, List.set_cons_zero, List.set_cons_succ])
  refine take_run (d := (some 53)) (v := ?v42) 12 rfl rfl (by kernel_rfl) (by kernel_rfl) (by kernel_rfl) (fun _ _ _ h => h) (by rfl) hHeld ?hy42 ?rs42
  case hy42 => (intro w hSw; (try dsimp only at hSw); go_simp) <;> (try with_reducible rfl)
  (try simp only [Act.put, List.setIfInBounds_toArray, List.set_cons_zero, List.set_cons_succ])
  refine take_run (d := (some 54)) (v := ?v43) 13 rfl rfl (by kernel_rfl) (by kernel_rfl) (by kernel_rfl) (fun _ _ _ h => h) (by rfl) hHeld ?hy43 ?rs43
  case hy43 => (intro w hSw; (try dsimp only at hSw); go_simp) <;> (try with_reducible rfl)
  (try simp only [Act.put, List.setIfInBounds_toArray, List.set_cons_zero, List.set_cons_succ])
  refine take_call 3 rfl (by kernel_rfl) (by rfl) (fun K hK => ?_)
  go_simp
  refine (D1.out _).mono ?_
  rintro e w' ⟨rfl, hb⟩
  refine hK.out _ _ (by obtain ⟨h0, h1, h2, h3, h4, h5, h6, h7, h8, h9, h10, h11, hw⟩ := hHeld; exact ⟨cell_keep h0 hb, cell_keep h1 hb, cell_keep h2 hb, cell_keep h3 hb, cell_keep h4 hb, cell_keep h5 hb, cell_keep h6 hb, cell_keep h7 hb, cell_keep h8 hb, cell_keep h9 hb, cell_keep h10 hb, cell_keep h11 hb, Lib.hid (blw_trans hw.out hb)⟩) (fun hHeld => ?_)
  clear hK K
  (try simp only [Act.put, List.setIfInBounds_toArray, List.set_cons_zero, List.set_cons_succ])
  refine take_run (d := (some 45)) (v := ?v45) 4 rfl rfl (by kernel_rfl) (by kernel_rfl) (by kernel_rfl) (fun _ _ _ h => h) (by rfl) hHeld ?hy45 ?rs45
  case hy45 => (intro w hSw; (try dsimp only at hSw); go_simp) <;> (try with_reducible rfl)
  (try simp only [Act.put, List.setIfInBounds_toArray, List.set_cons_zero, List.set_cons_succ])
  refine take_call 8 rfl (by kernel_rfl) (by rfl) (fun K hK => ?_)
  go_simp
  refine (D2.out _).mono ?_
  rintro e w' ⟨rfl, hb⟩
  refine hK.out _ _ (by obtain ⟨h0, h1, h2, h3, h4, h5, h6, h7, h8, h9, h10, h11, hw⟩ := hHeld; exact ⟨cell_keep h0 hb, cell_keep h1 hb, cell_keep h2 hb, cell_keep h3 hb, cell_keep h4 hb, cell_keep h5 hb, cell_keep h6 hb, cell_keep h7 hb, cell_keep h8 hb, cell_keep h9 hb, cell_keep h10 hb, cell_keep h11 hb, Lib.hid (blw_trans hw.out hb)⟩) (fun hHeld => ?_)
  clear hK K
  (try simp only [Act.put, List.setIfInBounds_toArray, List.set_cons_zero, List.set_cons_succ])
  refine take_run (d := (some 50)) (v := ?v47) 9 rfl rfl (by kernel_rfl) (by kernel_rfl) (by kernel_rfl) (fun _ _ _ h => h) (by rfl) hHeld ?hy47 ?rs47
  case hy47 => (intro w hSw; (try dsimp only at hSw); go_simp) <;> (try with_reducible rfl)
  (try simp only [Act.put, List.setIfInBounds_toArray, List.set_cons_zero, List.set_cons_succ])
  refine take_run (d := (some 51)) (v := ?v48) 10 rfl rfl (by kernel_rfl) (by kernel_rfl) (by kernel_rfl) (fun _ _ _ h => h) (by rfl) hHeld ?hy48 ?rs48
  case hy48 => (intro w hSw; (try dsimp only at hSw); go_simp) <;> (try with_reducible rfl)
  (try simp only [Act.put, List.setIfInBounds_toArray, List.set_cons_zero, List.set_cons_succ])
  refine take_call 14 rfl (by kernel_rfl) (by rfl) (fun K hK => ?_)
  go_simp
  refine (D3.out _).mono ?_
  rintro e w' ⟨rfl, hb⟩
  refine hK.out _ _ (by obtain ⟨h0, h1, h2, h3, h4, h5, h6, h7, h8, h9, h10, h11, hw⟩ := hHeld; exact ⟨cell_keep h0 hb, cell_keep h1 hb, cell_keep h2 hb, cell_keep h3 hb, cell_keep h4 hb, cell_keep h5 hb, cell_keep h6 hb, cell_keep h7 hb, cell_keep h8 hb, cell_keep h9 hb, cell_keep h10 hb, cell_keep h11 hb, Lib.hid (blw_trans hw.out hb)⟩) (fun hHeld => ?_)
  clear hK K
  (try simp only [Act.put, List.setIfInBounds_toArray, List.set_cons_zero, List.set_cons_succ])
  refine take_run (d := (some 56)) (v := ?v50) 15 rfl rfl (by kernel_rfl) (by kernel_rfl) (by kernel_rfl) (fun _ _ _ h => h) (by rfl) hHeld ?hy50 ?rs50
  case hy50 => (intro w hSw; (try dsimp only at hSw); go_simp) <;> (try with_reducible rfl)
  (try simp only [Act.put, List.setIfInBounds_toArray, List.set_cons_zero, List.set_cons_succ])
  refine take_run (d := (some 15)) (v := ?v51) 16 rfl rfl (by kernel_rfl) (by kernel_rfl) (by kernel_rfl) (fun _ _ _ h => h) (by rfl) hHeld ?hy51 ?rs51
  case hy51 => (intro w hSw; (try dsimp only at hSw); go_simp) <;> (try with_reducible rfl)
  (try simp only [Act.put, List.setIfInBounds_toArray, List.set_cons_zero, List.set_cons_succ])
  refine wpAnyH_done (by kernel_rfl) ?_ _
  obtain ⟨z0, z1, z2, z3, z4, z5, z6, z7, z8, z9, z10, z11, zW⟩ := hHeld
  have lz_u := World.block_lt_of_cell? _ _ z0
  try simp only at lz_u
  have lz_t := World.block_lt_of_cell? _ _ z3
  try simp only at lz_t
  have lz_a := World.block_lt_of_cell? _ _ z6
  try simp only at lz_a
  have lz_x := World.block_lt_of_cell? _ _ z9
  try simp only at lz_x
  go_wp2_with fail
  refine (CB.out _ (hT.below (by repeat (first | exact zW.out | refine blw_drewN ?_ _ | refine Below.setCell ?_ (by first | (simp; done) | omega | (simp; omega)) _ | refine Below.alloc ?_ (by first | (simp; done) | omega | (simp; omega)) _)))).mono ?_
  rintro e w107 ⟨rfl, hb⟩
  have W107 := Lib.hid (blw_trans (show Below w.heap.size w _ by repeat (first | exact zW.out | refine blw_drewN ?_ _ | refine Below.setCell ?_ (by first | (simp; done) | omega | (simp; omega)) _ | refine Below.alloc ?_ (by first | (simp; done) | omega | (simp; omega)) _)) hb)
  have n107 := hb.size
  try simp at n107
  have k107_u0 := cell_keep (a := ⟨w.heap.size + 1, 0, none⟩) (v := .int .i64 p) (by first | (go_keep; done) | (simp [go_sem, *]; done)) hb
  have k107_u1 := cell_keep (a := ⟨w.heap.size + 1, 1, none⟩) (v := .int .i64 q) (by first | (go_keep; done) | (simp [go_sem, *]; done)) hb
  have k107_u2 := cell_keep (a := ⟨w.heap.size + 1, 2, none⟩) (v := .int .i64 r) (by first | (go_keep; done) | (simp [go_sem, *]; done)) hb
  have l107_u := World.block_lt_of_cell? _ _ k107_u0
  try simp only at l107_u
  have k107_t0 := cell_keep (a := ⟨w1.heap.size, 0, none⟩) (v := .int .i64 A1) (by first | (go_keep; done) | (simp [go_sem, *]; done)) hb
  have k107_t1 := cell_keep (a := ⟨w1.heap.size, 1, none⟩) (v := .int .i64 A2) (by first | (go_keep; done) | (simp [go_sem, *]; done)) hb
  have k107_t2 := cell_keep (a := ⟨w1.heap.size, 2, none⟩) (v := .int .i64 A3) (by first | (go_keep; done) | (simp [go_sem, *]; done)) hb
  have l107_t := World.block_lt_of_cell? _ _ k107_t0
  try simp only at l107_t
  have k107_a0 := cell_keep (a := ⟨w4.heap.size, 0, none⟩) (v := .int .i64 A1) (by first | (go_keep; done) | (simp [go_sem, *]; done)) hb
  have k107_a1 := cell_keep (a := ⟨w4.heap.size, 1, none⟩) (v := .int .i64 A2) (by first | (go_keep; done) | (simp [go_sem, *]; done)) hb
  have k107_a2 := cell_keep (a := ⟨w4.heap.size, 2, none⟩) (v := .int .i64 A3) (by first | (go_keep; done) | (simp [go_sem, *]; done)) hb
  have l107_a := World.block_lt_of_cell? _ _ k107_a0
  try simp only at l107_a
  have k107_x0 := cell_keep (a := ⟨w6.heap.size, 0, none⟩) (v := .int .i64 X1) (by first | (go_keep; done) | (simp [go_sem, *]; done)) hb
  have k107_x1 := cell_keep (a := ⟨w6.heap.size, 1, none⟩) (v := .int .i64 X2) (by first | (go_keep; done) | (simp [go_sem, *]; done)) hb
  have k107_x2 := cell_keep (a := ⟨w6.heap.size, 2, none⟩) (v := .int .i64 X3) (by first | (go_keep; done) | (simp [go_sem, *]; done)) hb
  have l107_x := World.block_lt_of_cell? _ _ k107_x0
  try simp only at l107_x
  clear hb z0 z1 z2 z3 z4 z5 z6 z7 z8 z9 z10 z11 lz_u lz_t lz_a lz_x zW
  go_wp2_with fail
  refine (E0.out _ (hT.below (by repeat (first | exact W107.out | refine blw_drewN ?_ _ | refine Below.setCell ?_ (by first | (simp; done) | omega | (simp; omega)) _ | refine Below.alloc ?_ (by first | (simp; done) | omega | (simp; omega)) _)))).mono ?_
  rintro e w108 ⟨rfl, hb⟩
  have W108 := Lib.hid (blw_trans (show Below w.heap.size w _ by repeat (first | exact W107.out | refine blw_drewN ?_ _ | refine Below.setCell ?_ (by first | (simp; done) | omega | (simp; omega)) _ | refine Below.alloc ?_ (by first | (simp; done) | omega | (simp; omega)) _)) hb)
  have n108 := hb.size
  try simp at n108
  have k108_u0 := cell_keep (a := ⟨w.heap.size + 1, 0, none⟩) (v := .int .i64 p) (by first | (go_keep; done) | (simp [go_sem, *]; done)) hb
  have k108_u1 := cell_keep (a := ⟨w.heap.size + 1, 1, none⟩) (v := .int .i64 q) (by first | (go_keep; done) | (simp [go_sem, *]; done)) hb
  have k108_u2 := cell_keep (a := ⟨w.heap.size + 1, 2, none⟩) (v := .int .i64 r) (by first | (go_keep; done) | (simp [go_sem, *]; done)) hb
  have l108_u := World.block_lt_of_cell? _ _ k108_u0
  try simp only at l108_u
  have k108_t0 := cell_keep (a := ⟨w1.heap.size, 0, none⟩) (v := .int .i64 A1) (by first | (go_keep; done) | (simp [go_sem, *]; done)) hb
  have k108_t1 := cell_keep (a := ⟨w1.heap.size, 1, none⟩) (v := .int .i64 A2) (by first | (go_keep; done) | (simp [go_sem, *]; done)) hb
  have k108_t2 := cell_keep (a := ⟨w1.heap.size, 2, none⟩) (v := .int .i64 A3) (by first | (go_keep; done) | (simp [go_sem, *]; done)) hb
  have l108_t := World.block_lt_of_cell? _ _ k108_t0
  try simp only at l108_t
  have k108_a0 := cell_keep (a := ⟨w4.heap.size, 0, none⟩) (v := .int .i64 A1) (by first | (go_keep; done) | (simp [go_sem, *]; done)) hb
  have k108_a1 := cell_keep (a := ⟨w4.heap.size, 1, none⟩) (v := .int .i64 A2) (by first | (go_keep; done) | (simp [go_sem, *]; done)) hb
  have k108_a2 := cell_keep (a := ⟨w4.heap.size, 2, none⟩) (v := .int .i64 A3) (by first | (go_keep; done) | (simp [go_sem, *]; done)) hb
  have l108_a := World.block_lt_of_cell? _ _ k108_a0
  try simp only at l108_a
  have k108_x0 := cell_keep (a := ⟨w6.heap.size, 0, none⟩) (v := .int .i64 X1) (by first | (go_keep; done) | (simp [go_sem, *]; done)) hb
  have k108_x1 := cell_keep (a := ⟨w6.heap.size, 1, none⟩) (v := .int .i64 X2) (by first | (go_keep; done) | (simp [go_sem, *]; done)) hb
  have k108_x2 := cell_keep (a := ⟨w6.heap.size, 2, none⟩) (v := .int .i64 X3) (by first | (go_keep; done) | (simp [go_sem, *]; done)) hb
  have l108_x := World.block_lt_of_cell? _ _ k108_x0
  try simp only at l108_x
  have k108_b0 := cell_keep (a := ⟨w107.heap.size, 0, none⟩) (v := .int .i64 X1) (by first | (go_keep; done) | (simp [go_sem, *]; done)) hb
  have k108_b1 := cell_keep (a := ⟨w107.heap.size, 1, none⟩) (v := .int .i64 X2) (by first | (go_keep; done) | (simp [go_sem, *]; done)) hb
  have k108_b2 := cell_keep (a := ⟨w107.heap.size, 2, none⟩) (v := .int .i64 X3) (by first | (go_keep; done) | (simp [go_sem, *]; done)) hb
  have l108_b := World.block_lt_of_cell? _ _ k108_b0
  try simp only at l108_b
  clear hb k107_u0 k107_u1 k107_u2 l107_u k107_t0 k107_t1 k107_t2 l107_t k107_a0 k107_a1 k107_a2 l107_a k107_x0 k107_x1 k107_x2 l107_x W107
  go_wp2_with fail
  refine (CT.out _ (hT.below (by repeat (first | exact W108.out | refine blw_drewN ?_ _ | refine Below.setCell ?_ (by first | (simp; done) | omega | (simp; omega)) _ | refine Below.alloc ?_ (by first | (simp; done) | omega | (simp; omega)) _)))).mono ?_
  rintro e w109 ⟨rfl, hb⟩
  have W109 := Lib.hid (blw_trans (show Below w.heap.size w _ by repeat (first | exact W108.out | refine blw_drewN ?_ _ | refine Below.setCell ?_ (by first | (simp; done) | omega | (simp; omega)) _ | refine Below.alloc ?_ (by first | (simp; done) | omega | (simp; omega)) _)) hb)
  have n109 := hb.size
  try simp at n109
  have k109_u0 := cell_keep (a := ⟨w.heap.size + 1, 0, none⟩) (v := .int .i64 p) (by first | (go_keep; done) | (simp [go_sem, *]; done)) hb
  have k109_u1 := cell_keep (a := ⟨w.heap.size + 1, 1, none⟩) (v := .int .i64 q) (by first | (go_keep; done) | (simp [go_sem, *]; done)) hb
  have k109_u2 := cell_keep (a := ⟨w.heap.size + 1, 2, none⟩) (v := .int .i64 r) (by first | (go_keep; done) | (simp [go_sem, *]; done)) hb
  have l109_u := World.block_lt_of_cell? _ _ k109_u0
  try simp only at l109_u
  have k109_t0 := cell_keep (a := ⟨w1.heap.size, 0, none⟩) (v := .int .i64 A1) (by first | (go_keep; done) | (simp [go_sem, *]; done)) hb
  have k109_t1 := cell_keep (a := ⟨w1.heap.size, 1, none⟩) (v := .int .i64 A2) (by first | (go_keep; done) | (simp [go_sem, *]; done)) hb
  have k109_t2 := cell_keep (a := ⟨w1.heap.size, 2, none⟩) (v := .int .i64 A3) (by first | (go_keep; done) | (simp [go_sem, *]; done)) hb
  have l109_t := World.block_lt_of_cell? _ _ k109_t0
  try simp only at l109_t
  have k109_a0 := cell_keep (a := ⟨w4.heap.size, 0, none⟩) (v := .int .i64 A1) (by first | (go_keep; done) | (simp [go_sem, *]; done)) hb
  have k109_a1 := cell_keep (a := ⟨w4.heap.size, 1, none⟩) (v := .int .i64 A2) (by first | (go_keep; done) | (simp [go_sem, *]; done)) hb
  have k109_a2 := cell_keep (a := ⟨w4.heap.size, 2, none⟩) (v := .int .i64 A3) (by first | (go_keep; done) | (simp [go_sem, *]; done)) hb
  have l109_a := World.block_lt_of_cell? _ _ k109_a0
  try simp only at l109_a
  have k109_x0 := cell_keep (a := ⟨w6.heap.size, 0, none⟩) (v := .int .i64 X1) (by first | (go_keep; done) | (simp [go_sem, *]; done)) hb
  have k109_x1 := cell_keep (a := ⟨w6.heap.size, 1, none⟩) (v := .int .i64 X2) (by first | (go_keep; done) | (simp [go_sem, *]; done)) hb
  have k109_x2 := cell_keep (a := ⟨w6.heap.size, 2, none⟩) (v := .int .i64 X3) (by first | (go_keep; done) | (simp [go_sem, *]; done)) hb
  have l109_x := World.block_lt_of_cell? _ _ k109_x0
  try simp only at l109_x
  have k109_b0 := cell_keep (a := ⟨w107.heap.size, 0, none⟩) (v := .int .i64 X1) (by first | (go_keep; done) | (simp [go_sem, *]; done)) hb
  have k109_b1 := cell_keep (a := ⟨w107.heap.size, 1, none⟩) (v := .int .i64 X2) (by first | (go_keep; done) | (simp [go_sem, *]; done)) hb
  have k109_b2 := cell_keep (a := ⟨w107.heap.size, 2, none⟩) (v := .int .i64 X3) (by first | (go_keep; done) | (simp [go_sem, *]; done)) hb
  have l109_b := World.block_lt_of_cell? _ _ k109_b0
  try simp only at l109_b
  clear hb k108_u0 k108_u1 k108_u2 l108_u k108_t0 k108_t1 k108_t2 l108_t k108_a0 k108_a1 k108_a2 l108_a k108_x0 k108_x1 k108_x2 l108_x k108_b0 k108_b1 k108_b2 l108_b W108
  go_wp2_with fail
  refine (E0.out _ (hT.below (by repeat (first | exact W109.out | refine blw_drewN ?_ _ | refine Below.setCell ?_ (by first | (simp; done) | omega | (simp; omega)) _ | refine Below.alloc ?_ (by first | (simp; done) | omega | (simp; omega)) _)))).mono ?_
  rintro e w110 ⟨rfl, hb⟩
  have W110 := Lib.hid (blw_trans (show Below w.heap.size w _ by repeat (first | exact W109.out | refine blw_drewN ?_ _ | refine Below.setCell ?_ (by first | (simp; done) | omega | (simp; omega)) _ | refine Below.alloc ?_ (by first | (simp; done) | omega | (simp; omega)) _)) hb)
  have n110 := hb.size
  try simp at n110
  have k110_t0 := cell_keep (a := ⟨w1.heap.size, 0, none⟩) (v := .int .i64 A1) (by first | (go_keep; done) | (simp [go_sem, *]; done)) hb
  have k110_t1 := cell_keep (a := ⟨w1.heap.size, 1, none⟩) (v := .int .i64 A2) (by first | (go_keep; done) | (simp [go_sem, *]; done)) hb
  have k110_t2 := cell_keep (a := ⟨w1.heap.size, 2, none⟩) (v := .int .i64 A3) (by first | (go_keep; done) | (simp [go_sem, *]; done)) hb
  have l110_t := World.block_lt_of_cell? _ _ k110_t0
  try simp only at l110_t
  have k110_a0 := cell_keep (a := ⟨w4.heap.size, 0, none⟩) (v := .int .i64 A1) (by first | (go_keep; done) | (simp [go_sem, *]; done)) hb
  have k110_a1 := cell_keep (a := ⟨w4.heap.size, 1, none⟩) (v := .int .i64 A2) (by first | (go_keep; done) | (simp [go_sem, *]; done)) hb
  have k110_a2 := cell_keep (a := ⟨w4.heap.size, 2, none⟩) (v := .int .i64 A3) (by first | (go_keep; done) | (simp [go_sem, *]; done)) hb
  have l110_a := World.block_lt_of_cell? _ _ k110_a0
  try simp only at l110_a
  have k110_x0 := cell_keep (a := ⟨w6.heap.size, 0, none⟩) (v := .int .i64 X1) (by first | (go_keep; done) | (simp [go_sem, *]; done)) hb
  have k110_x1 := cell_keep (a := ⟨w6.heap.size, 1, none⟩) (v := .int .i64 X2) (by first | (go_keep; done) | (simp [go_sem, *]; done)) hb
  have k110_x2 := cell_keep (a := ⟨w6.heap.size, 2, none⟩) (v := .int .i64 X3) (by first | (go_keep; done) | (simp [go_sem, *]; done)) hb
  have l110_x := World.block_lt_of_cell? _ _ k110_x0
  try simp only at l110_x
  have k110_b0 := cell_keep (a := ⟨w107.heap.size, 0, none⟩) (v := .int .i64 X1) (by first | (go_keep; done) | (simp [go_sem, *]; done)) hb
  have k110_b1 := cell_keep (a := ⟨w107.heap.size, 1, none⟩) (v := .int .i64 X2) (by first | (go_keep; done) | (simp [go_sem, *]; done)) hb
  have k110_b2 := cell_keep (a := ⟨w107.heap.size, 2, none⟩) (v := .int .i64 X3) (by first | (go_keep; done) | (simp [go_sem, *]; done)) hb
  have l110_b := World.block_lt_of_cell? _ _ k110_b0
  try simp only at l110_b
  clear hb k109_u0 k109_u1 k109_u2 l109_u k109_t0 k109_t1 k109_t2 l109_t k109_a0 k109_a1 k109_a2 l109_a k109_x0 k109_x1 k109_x2 l109_x k109_b0 k109_b1 k109_b2 l109_b W109
  go_wp2_with fail
  refine (CN.out _).mono ?_
  rintro e w' ⟨rfl, rfl⟩
  go_wp2_with fail
  refine (E1.out _ (hT.below (by repeat (first | exact W110.out | refine blw_drewN ?_ _ | refine Below.setCell ?_ (by first | (simp; done) | omega | (simp; omega)) _ | refine Below.alloc ?_ (by first | (simp; done) | omega | (simp; omega)) _)))).mono ?_
  rintro e w111 ⟨rfl, hb⟩
  have W111 := Lib.hid (blw_trans (show Below w.heap.size w _ by repeat (first | exact W110.out | refine blw_drewN ?_ _ | refine Below.setCell ?_ (by first | (simp; done) | omega | (simp; omega)) _ | refine Below.alloc ?_ (by first | (simp; done) | omega | (simp; omega)) _)) hb)
  have n111 := hb.size
  try simp at n111
  have k111_t0 := cell_keep (a := ⟨w1.heap.size, 0, none⟩) (v := .int .i64 A1) (by first | (go_keep; done) | (simp [go_sem, *]; done)) hb
  have k111_t1 := cell_keep (a := ⟨w1.heap.size, 1, none⟩) (v := .int .i64 A2) (by first | (go_keep; done) | (simp [go_sem, *]; done)) hb
  have k111_t2 := cell_keep (a := ⟨w1.heap.size, 2, none⟩) (v := .int .i64 A3) (by first | (go_keep; done) | (simp [go_sem, *]; done)) hb
  have l111_t := World.block_lt_of_cell? _ _ k111_t0
  try simp only at l111_t
  have k111_a0 := cell_keep (a := ⟨w4.heap.size, 0, none⟩) (v := .int .i64 A1) (by first | (go_keep; done) | (simp [go_sem, *]; done)) hb
  have k111_a1 := cell_keep (a := ⟨w4.heap.size, 1, none⟩) (v := .int .i64 A2) (by first | (go_keep; done) | (simp [go_sem, *]; done)) hb
  have k111_a2 := cell_keep (a := ⟨w4.heap.size, 2, none⟩) (v := .int .i64 A3) (by first | (go_keep; done) | (simp [go_sem, *]; done)) hb
  have l111_a := World.block_lt_of_cell? _ _ k111_a0
  try simp only at l111_a
  have k111_x0 := cell_keep (a := ⟨w6.heap.size, 0, none⟩) (v := .int .i64 X1) (by first | (go_keep; done) | (simp [go_sem, *]; done)) hb
  have k111_x1 := cell_keep (a := ⟨w6.heap.size, 1, none⟩) (v := .int .i64 X2) (by first | (go_keep; done) | (simp [go_sem, *]; done)) hb
  have k111_x2 := cell_keep (a := ⟨w6.heap.size, 2, none⟩) (v := .int .i64 X3) (by first | (go_keep; done) | (simp [go_sem, *]; done)) hb
  have l111_x := World.block_lt_of_cell? _ _ k111_x0
  try simp only at l111_x
  have k111_b0 := cell_keep (a := ⟨w107.heap.size, 0, none⟩) (v := .int .i64 X1) (by first | (go_keep; done) | (simp [go_sem, *]; done)) hb
  have k111_b1 := cell_keep (a := ⟨w107.heap.size, 1, none⟩) (v := .int .i64 X2) (by first | (go_keep; done) | (simp [go_sem, *]; done)) hb
  have k111_b2 := cell_keep (a := ⟨w107.heap.size, 2, none⟩) (v := .int .i64 X3) (by first | (go_keep; done) | (simp [go_sem, *]; done)) hb
  have l111_b := World.block_lt_of_cell? _ _ k111_b0
  try simp only at l111_b
  clear hb k110_t0 k110_t1 k110_t2 l110_t k110_a0 k110_a1 k110_a2 l110_a k110_x0 k110_x1 k110_x2 l110_x k110_b0 k110_b1 k110_b2 l110_b W110
  go_wp2
  go_ret
  exact ⟨ret_bool (by simp), by repeat (first | exact W111.out | refine blw_drewN ?_ _ | refine Below.setCell ?_ (by first | (simp; done) | omega | (simp; omega)) _ | refine Below.alloc ?_ (by first | (simp; done) | omega | (simp; omega)) _)⟩

set_option maxRecDepth 100000 in
set_option maxHeartbeats 4000000 in
theorem weekTells_dnok (y m d p q r x p0 q0 r0 A1 A2 A3 K : Int) (P Q R T : List UInt8) (w : World) (hT : TPH w)
    (lp : P.length ≤ 120) (lq : Q.length ≤ 120) (lr : R.length ≤ 120) (HX : P ++ [45, 87] ++ Q ++ [45] ++ R = T)
    (mp : max p 0 = p0) (mq : max q 0 = q0) (mr : max r 0 = r0)
    (CF : Hid (∀ w : World, Calls Tryd.prog 6 #[.agg #[.int .i64 y, .int .i64 m, .int .i64 d]] w fun e w' => e = .returned (.bool false) ∧ Below w.heap.size w w'))
    (CW : Hid (∀ w : World, Calls Tryd.prog 7 #[.agg #[.int .i64 y, .int .i64 m, .int .i64 d]] w fun e w' => e = .returned (.agg #[.int .i64 A1, .int .i64 A2, .int .i64 A3]) ∧ Below w.heap.size w w'))
    (CO : Hid (∀ w : World, TPH w → Calls Tryd.prog 8 #[.agg #[.int .i64 y, .int .i64 m, .int .i64 d]] w fun e w' => e = .returned (.tuple #[.agg #[.int .i64 A1, .int .i64 A2, .int .i64 A3], .nilIface]) ∧ Below w.heap.size w w'))
    (CX : Hid (∀ w : World, Calls Tryd.prog 10 #[.agg #[.int .i64 p, .int .i64 q, .int .i64 r]] w fun e w' => e = .returned (.tuple #[.agg #[.int .i64 0, .int .i64 0, .int .i64 0], .bool false]) ∧ Below w.heap.size w w'))
    (D1 : Hid (∀ w : World, Calls Tryd.prog 11 #[.int .i64 p0, .int .i64 4] w fun e w' => e = .returned (.string ⟨P.toArray⟩) ∧ Below w.heap.size w w'))
    (D2 : Hid (∀ w : World, Calls Tryd.prog 11 #[.int .i64 q0, .int .i64 2] w fun e w' => e = .returned (.string ⟨Q.toArray⟩) ∧ Below w.heap.size w w'))
    (D3 : Hid (∀ w : World, Calls Tryd.prog 11 #[.int .i64 r0, .int .i64 1] w fun e w' => e = .returned (.string ⟨R.toArray⟩) ∧ Below w.heap.size w w'))
    (CB : Hid (∀ w : World, TPH w → Calls Tryd.prog 12 #[.agg #[.int .i64 p, .int .i64 q, .int .i64 r]] w fun e w' => e = .returned (.tuple #[.agg #[.int .i64 0, .int .i64 0, .int .i64 0], errV 1]) ∧ Below w.heap.size w w'))
    (CT : Hid (∀ w : World, TPH w → Calls Tryd.prog 13 #[.agg #[.int .i64 p, .int .i64 q, .int .i64 r]] w fun e w' => e = .returned (.tuple #[.string ⟨#[]⟩, errV 1]) ∧ Below w.heap.size w w'))
    (y0 : ¬ x < 1) (y1 : ¬ 9999 < x) (CY : Hid (∀ w : World, Calls Tryd.prog 14 #[.int .i64 x] w fun e w' => e = .returned (.int .i64 K) ∧ w = w'))
    (CN : Hid (∀ w : World, Calls Tryd.prog 15 #[.int .i64 x] w fun e w' => e = .returned (.tuple #[.int .i64 K, .nilIface]) ∧ w = w')) :
    Calls Tryd.prog 3 #[.agg #[.int .i64 y, .int .i64 m, .int .i64 d], .agg #[.int .i64 p, .int .i64 q, .int .i64 r], .int .i64 x] w fun e w' => e = .returned (.bool true) ∧ Below w.heap.size w w' := by
  have C0 := Lib.hid fun w (hT : TPH w) => weekly_any w hT.t
  have E0 := Lib.hid fun w (hT : TPH w) => sameErr_yes ErrNo.nil w hT.h
  have E1 := Lib.hid fun w (hT : TPH w) => sameErr_yes (ErrNo.no 1) w hT.h
  have g1 : decide (x < 1) = false := dec_no y0
  have g2 : decide (9999 < x) = false := dec_no y1
  obtain ⟨Y1, x1⟩ : ∃ X, X = P ++ [45, 87] := ⟨_, rfl⟩
  have S1 : ∀ w, (Op.stringOp .add ⟨P.toArray⟩ ⟨#[45, 87]⟩).run Tryd.prog w = .ok (.string ⟨Y1.toArray⟩) w := fun w => by rw [x1]; exact add_str (P := Tryd.prog) P [45, 87] (by first | omega | (simp; omega)) w
  have m1 : Y1.length = P.length + 2 := by rw [x1]; simp
  obtain ⟨Y2, x2⟩ : ∃ X, X = Y1 ++ Q := ⟨_, rfl⟩
  have S2 : ∀ w, (Op.stringOp .add ⟨Y1.toArray⟩ ⟨Q.toArray⟩).run Tryd.prog w = .ok (.string ⟨Y2.toArray⟩) w := fun w => by rw [x2]; exact add_str (P := Tryd.prog) Y1 Q (by first | omega | (simp; omega)) w
  have m2 : Y2.length = Y1.length + Q.length := by rw [x2]; simp
  obtain ⟨Y3, x3⟩ : ∃ X, X = Y2 ++ [45] := ⟨_, rfl⟩
  have S3 : ∀ w, (Op.stringOp .add ⟨Y2.toArray⟩ ⟨#[45]⟩).run Tryd.prog w = .ok (.string ⟨Y3.toArray⟩) w := fun w => by rw [x3]; exact add_str (P := Tryd.prog) Y2 [45] (by first | omega | (simp; omega)) w
  have m3 : Y3.length = Y2.length + 1 := by rw [x3]; simp
  have S4 : ∀ w, (Op.stringOp .add ⟨Y3.toArray⟩ ⟨R.toArray⟩).run Tryd.prog w = .ok (.string ⟨T.toArray⟩) w := fun w => by rw [← HX, ← x1, ← x2, ← x3]; exact add_str (P := Tryd.prog) Y3 R (by omega) w
  clear x1 x2 x3 m1 m2 m3 HX lp lq lr
  go_enter Tryd.func3, Tryd.ntmps3
  go_wp2_with fail
  refine (C0.out _ (hT.below (by repeat (first | exact (Below.refl _ _) | refine blw_drewN ?_ _ | refine Below.setCell ?_ (by first | (simp; done) | omega | (simp; omega)) _ | refine Below.alloc ?_ (by first | (simp; done) | omega | (simp; omega)) _)))).mono ?_
  rintro e w1 ⟨rfl, hb⟩
  have W1 := Lib.hid (blw_trans (show Below w.heap.size w _ by repeat (first | exact (Below.refl _ _) | refine blw_drewN ?_ _ | refine Below.setCell ?_ (by first | (simp; done) | omega | (simp; omega)) _ | refine Below.alloc ?_ (by first | (simp; done) | omega | (simp; omega)) _)) hb)
  have n1 := hb.size
  try simp at n1
  have k1_d0 := cell_keep (a := ⟨w.heap.size, 0, none⟩) (v := .int .i64 y) (by first | (go_keep; done) | (simp [go_sem, *]; done)) hb
  have k1_d1 := cell_keep (a := ⟨w.heap.size, 1, none⟩) (v := .int .i64 m) (by first | (go_keep; done) | (simp [go_sem, *]; done)) hb
  have k1_d2 := cell_keep (a := ⟨w.heap.size, 2, none⟩) (v := .int .i64 d) (by first | (go_keep; done) | (simp [go_sem, *]; done)) hb
  have l1_d := World.block_lt_of_cell? _ _ k1_d0
  try simp only at l1_d
  have k1_u0 := cell_keep (a := ⟨w.heap.size + 1, 0, none⟩) (v := .int .i64 p) (by first | (go_keep; done) | (simp [go_sem, *]; done)) hb
  have k1_u1 := cell_keep (a := ⟨w.heap.size + 1, 1, none⟩) (v := .int .i64 q) (by first | (go_keep; done) | (simp [go_sem, *]; done)) hb
  have k1_u2 := cell_keep (a := ⟨w.heap.size + 1, 2, none⟩) (v := .int .i64 r) (by first | (go_keep; done) | (simp [go_sem, *]; done)) hb
  have l1_u := World.block_lt_of_cell? _ _ k1_u0
  try simp only at l1_u
  clear hb
  have ne1 : ¬ w1.heap.size = w.heap.size := by omega
  have me1 : ¬ w.heap.size = w1.heap.size := by omega
  have ne2 : ¬ w1.heap.size = w.heap.size + 1 := by omega
  have me2 : ¬ w.heap.size + 1 = w1.heap.size := by omega
  go_wp2_with fail
  refine (CF.out _).mono ?_
  rintro e w2 ⟨rfl, hb⟩
  have W2 := Lib.hid (blw_trans (show Below w.heap.size w _ by repeat (first | exact W1.out | refine blw_drewN ?_ _ | refine Below.setCell ?_ (by first | (simp; done) | omega | (simp; omega)) _ | refine Below.alloc ?_ (by first | (simp; done) | omega | (simp; omega)) _)) hb)
  have n2 := hb.size
  try simp at n2
  have k2_d0 := cell_keep (a := ⟨w.heap.size, 0, none⟩) (v := .int .i64 y) (by first | (go_keep; done) | (simp [go_sem, *]; done)) hb
  have k2_d1 := cell_keep (a := ⟨w.heap.size, 1, none⟩) (v := .int .i64 m) (by first | (go_keep; done) | (simp [go_sem, *]; done)) hb
  have k2_d2 := cell_keep (a := ⟨w.heap.size, 2, none⟩) (v := .int .i64 d) (by first | (go_keep; done) | (simp [go_sem, *]; done)) hb
  have l2_d := World.block_lt_of_cell? _ _ k2_d0
  try simp only at l2_d
  have k2_u0 := cell_keep (a := ⟨w.heap.size + 1, 0, none⟩) (v := .int .i64 p) (by first | (go_keep; done) | (simp [go_sem, *]; done)) hb
  have k2_u1 := cell_keep (a := ⟨w.heap.size + 1, 1, none⟩) (v := .int .i64 q) (by first | (go_keep; done) | (simp [go_sem, *]; done)) hb
  have k2_u2 := cell_keep (a := ⟨w.heap.size + 1, 2, none⟩) (v := .int .i64 r) (by first | (go_keep; done) | (simp [go_sem, *]; done)) hb
  have l2_u := World.block_lt_of_cell? _ _ k2_u0
  try simp only at l2_u
  have k2_t0 := cell_keep (a := ⟨w1.heap.size, 0, none⟩) (v := .int .i64 0) (by first | (go_keep; done) | (simp [go_sem, *]; done)) hb
  have f2_t0 := (hb.frozen (p := ⟨w1.heap.size, 0, none⟩) (by first | (simp; done) | omega | (simp; omega))).trans (show _ = false by first | (simp; done) | (simp [go_sem]; done))
  have k2_t1 := cell_keep (a := ⟨w1.heap.size, 1, none⟩) (v := .int .i64 0) (by first | (go_keep; done) | (simp [go_sem, *]; done)) hb
  have f2_t1 := (hb.frozen (p := ⟨w1.heap.size, 1, none⟩) (by first | (simp; done) | omega | (simp; omega))).trans (show _ = false by first | (simp; done) | (simp [go_sem]; done))
  have k2_t2 := cell_keep (a := ⟨w1.heap.size, 2, none⟩) (v := .int .i64 0) (by first | (go_keep; done) | (simp [go_sem, *]; done)) hb
  have f2_t2 := (hb.frozen (p := ⟨w1.heap.size, 2, none⟩) (by first | (simp; done) | omega | (simp; omega))).trans (show _ = false by first | (simp; done) | (simp [go_sem]; done))
  have l2_t := World.block_lt_of_cell? _ _ k2_t0
  try simp only at l2_t
  clear hb k1_d0 k1_d1 k1_d2 l1_d k1_u0 k1_u1 k1_u2 l1_u W1
  go_wp2_with fail
  refine (CW.out _).mono ?_
  rintro e w3 ⟨rfl, hb⟩
  have W3 := Lib.hid (blw_trans (show Below w.heap.size w _ by repeat (first | exact W2.out | refine blw_drewN ?_ _ | refine Below.setCell ?_ (by first | (simp; done) | omega | (simp; omega)) _ | refine Below.alloc ?_ (by first | (simp; done) | omega | (simp; omega)) _)) hb)
  have n3 := hb.size
  try simp at n3
  have k3_d0 := cell_keep (a := ⟨w.heap.size, 0, none⟩) (v := .int .i64 y) (by first | (go_keep; done) | (simp [go_sem, *]; done)) hb
  have k3_d1 := cell_keep (a := ⟨w.heap.size, 1, none⟩) (v := .int .i64 m) (by first | (go_keep; done) | (simp [go_sem, *]; done)) hb
  have k3_d2 := cell_keep (a := ⟨w.heap.size, 2, none⟩) (v := .int .i64 d) (by first | (go_keep; done) | (simp [go_sem, *]; done)) hb
  have l3_d := World.block_lt_of_cell? _ _ k3_d0
  try simp only at l3_d
  have k3_u0 := cell_keep (a := ⟨w.heap.size + 1, 0, none⟩) (v := .int .i64 p) (by first | (go_keep; done) | (simp [go_sem, *]; done)) hb
  have k3_u1 := cell_keep (a := ⟨w.heap.size + 1, 1, none⟩) (v := .int .i64 q) (by first | (go_keep; done) | (simp [go_sem, *]; done)) hb
  have k3_u2 := cell_keep (a := ⟨w.heap.size + 1, 2, none⟩) (v := .int .i64 r) (by first | (go_keep; done) | (simp [go_sem, *]; done)) hb
  have l3_u := World.block_lt_of_cell? _ _ k3_u0
  try simp only at l3_u
  have k3_t0 := cell_keep (a := ⟨w1.heap.size, 0, none⟩) (v := .int .i64 0) (by first | (go_keep; done) | (simp [go_sem, *]; done)) hb
  have f3_t0 := (hb.frozen (p := ⟨w1.heap.size, 0, none⟩) (by first | (simp; done) | omega | (simp; omega))).trans (show _ = false by first | exact f2_t0 | (simp; done) | (simp [go_sem]; done) | (simp [f2_t0]; done))
  have k3_t1 := cell_keep (a := ⟨w1.heap.size, 1, none⟩) (v := .int .i64 0) (by first | (go_keep; done) | (simp [go_sem, *]; done)) hb
  have f3_t1 := (hb.frozen (p := ⟨w1.heap.size, 1, none⟩) (by first | (simp; done) | omega | (simp; omega))).trans (show _ = false by first | exact f2_t1 | (simp; done) | (simp [go_sem]; done) | (simp [f2_t1]; done))
  have k3_t2 := cell_keep (a := ⟨w1.heap.size, 2, none⟩) (v := .int .i64 0) (by first | (go_keep; done) | (simp [go_sem, *]; done)) hb
  have f3_t2 := (hb.frozen (p := ⟨w1.heap.size, 2, none⟩) (by first | (simp; done) | omega | (simp; omega))).trans (show _ = false by first | exact f2_t2 | (simp; done) | (simp [go_sem]; done) | (simp [f2_t2]; done))
  have l3_t := World.block_lt_of_cell? _ _ k3_t0
  try simp only at l3_t
  clear hb k2_d0 k2_d1 k2_d2 l2_d k2_u0 k2_u1 k2_u2 l2_u k2_t0 f2_t0 k2_t1 f2_t1 k2_t2 f2_t2 l2_t W2
  go_wp2_with fail
  refine (CO.out _ (hT.below (by repeat (first | exact W3.out | refine blw_drewN ?_ _ | refine Below.setCell ?_ (by first | (simp; done) | omega | (simp; omega)) _ | refine Below.alloc ?_ (by first | (simp; done) | omega | (simp; omega)) _)))).mono ?_
  rintro e w4 ⟨rfl, hb⟩
  have W4 := Lib.hid (blw_trans (show Below w.heap.size w _ by repeat (first | exact W3.out | refine blw_drewN ?_ _ | refine Below.setCell ?_ (by first | (simp; done) | omega | (simp; omega)) _ | refine Below.alloc ?_ (by first | (simp; done) | omega | (simp; omega)) _)) hb)
  have n4 := hb.size
  try simp at n4
  have k4_u0 := cell_keep (a := ⟨w.heap.size + 1, 0, none⟩) (v := .int .i64 p) (by first | (go_keep; done) | (simp [go_sem, *]; done)) hb
  have k4_u1 := cell_keep (a := ⟨w.heap.size + 1, 1, none⟩) (v := .int .i64 q) (by first | (go_keep; done) | (simp [go_sem, *]; done)) hb
  have k4_u2 := cell_keep (a := ⟨w.heap.size + 1, 2, none⟩) (v := .int .i64 r) (by first | (go_keep; done) | (simp [go_sem, *]; done)) hb
  have l4_u := World.block_lt_of_cell? _ _ k4_u0
  try simp only at l4_u
  have k4_t0 := cell_keep (a := ⟨w1.heap.size, 0, none⟩) (v := .int .i64 A1) (by first | (go_keep; done) | (simp [go_sem, *]; done)) hb
  have k4_t1 := cell_keep (a := ⟨w1.heap.size, 1, none⟩) (v := .int .i64 A2) (by first | (go_keep; done) | (simp [go_sem, *]; done)) hb
  have k4_t2 := cell_keep (a := ⟨w1.heap.size, 2, none⟩) (v := .int .i64 A3) (by first | (go_keep; done) | (simp [go_sem, *]; done)) hb
  have l4_t := World.block_lt_of_cell? _ _ k4_t0
  try simp only at l4_t
  clear hb k3_d0 k3_d1 k3_d2 l3_d k3_u0 k3_u1 k3_u2 l3_u k3_t0 f3_t0 k3_t1 f3_t1 k3_t2 f3_t2 l3_t W3
  go_wp2_with fail
  refine (E0.out _ (hT.below (by repeat (first | exact W4.out | refine blw_drewN ?_ _ | refine Below.setCell ?_ (by first | (simp; done) | omega | (simp; omega)) _ | refine Below.alloc ?_ (by first | (simp; done) | omega | (simp; omega)) _)))).mono ?_
  rintro e w5 ⟨rfl, hb⟩
  have W5 := Lib.hid (blw_trans (show Below w.heap.size w _ by repeat (first | exact W4.out | refine blw_drewN ?_ _ | refine Below.setCell ?_ (by first | (simp; done) | omega | (simp; omega)) _ | refine Below.alloc ?_ (by first | (simp; done) | omega | (simp; omega)) _)) hb)
  have n5 := hb.size
  try simp at n5
  have k5_u0 := cell_keep (a := ⟨w.heap.size + 1, 0, none⟩) (v := .int .i64 p) (by first | (go_keep; done) | (simp [go_sem, *]; done)) hb
  have k5_u1 := cell_keep (a := ⟨w.heap.size + 1, 1, none⟩) (v := .int .i64 q) (by first | (go_keep; done) | (simp [go_sem, *]; done)) hb
  have k5_u2 := cell_keep (a := ⟨w.heap.size + 1, 2, none⟩) (v := .int .i64 r) (by first | (go_keep; done) | (simp [go_sem, *]; done)) hb
  have l5_u := World.block_lt_of_cell? _ _ k5_u0
  try simp only at l5_u
  have k5_t0 := cell_keep (a := ⟨w1.heap.size, 0, none⟩) (v := .int .i64 A1) (by first | (go_keep; done) | (simp [go_sem, *]; done)) hb
  have k5_t1 := cell_keep (a := ⟨w1.heap.size, 1, none⟩) (v := .int .i64 A2) (by first | (go_keep; done) | (simp [go_sem, *]; done)) hb
  have k5_t2 := cell_keep (a := ⟨w1.heap.size, 2, none⟩) (v := .int .i64 A3) (by first | (go_keep; done) | (simp [go_sem, *]; done)) hb
  have l5_t := World.block_lt_of_cell? _ _ k5_t0
  try simp only at l5_t
  have k5_a0 := cell_keep (a := ⟨w4.heap.size, 0, none⟩) (v := .int .i64 A1) (by first | (go_keep; done) | (simp [go_sem, *]; done)) hb
  have k5_a1 := cell_keep (a := ⟨w4.heap.size, 1, none⟩) (v := .int .i64 A2) (by first | (go_keep; done) | (simp [go_sem, *]; done)) hb
  have k5_a2 := cell_keep (a := ⟨w4.heap.size, 2, none⟩) (v := .int .i64 A3) (by first | (go_keep; done) | (simp [go_sem, *]; done)) hb
  have l5_a := World.block_lt_of_cell? _ _ k5_a0
  try simp only at l5_a
  clear hb k4_u0 k4_u1 k4_u2 l4_u k4_t0 k4_t1 k4_t2 l4_t W4
  go_wp2_with fail
  refine (CX.out _).mono ?_
  rintro e w6 ⟨rfl, hb⟩
  have W6 := Lib.hid (blw_trans (show Below w.heap.size w _ by repeat (first | exact W5.out | refine blw_drewN ?_ _ | refine Below.setCell ?_ (by first | (simp; done) | omega | (simp; omega)) _ | refine Below.alloc ?_ (by first | (simp; done) | omega | (simp; omega)) _)) hb)
  have n6 := hb.size
  try simp at n6
  have k6_u0 := cell_keep (a := ⟨w.heap.size + 1, 0, none⟩) (v := .int .i64 p) (by first | (go_keep; done) | (simp [go_sem, *]; done)) hb
  have k6_u1 := cell_keep (a := ⟨w.heap.size + 1, 1, none⟩) (v := .int .i64 q) (by first | (go_keep; done) | (simp [go_sem, *]; done)) hb
  have k6_u2 := cell_keep (a := ⟨w.heap.size + 1, 2, none⟩) (v := .int .i64 r) (by first | (go_keep; done) | (simp [go_sem, *]; done)) hb
  have l6_u := World.block_lt_of_cell? _ _ k6_u0
  try simp only at l6_u
  have k6_t0 := cell_keep (a := ⟨w1.heap.size, 0, none⟩) (v := .int .i64 A1) (by first | (go_keep; done) | (simp [go_sem, *]; done)) hb
  have k6_t1 := cell_keep (a := ⟨w1.heap.size, 1, none⟩) (v := .int .i64 A2) (by first | (go_keep; done) | (simp [go_sem, *]; done)) hb
  have k6_t2 := cell_keep (a := ⟨w1.heap.size, 2, none⟩) (v := .int .i64 A3) (by first | (go_keep; done) | (simp [go_sem, *]; done)) hb
  have l6_t := World.block_lt_of_cell? _ _ k6_t0
  try simp only at l6_t
  have k6_a0 := cell_keep (a := ⟨w4.heap.size, 0, none⟩) (v := .int .i64 A1) (by first | (go_keep; done) | (simp [go_sem, *]; done)) hb
  have k6_a1 := cell_keep (a := ⟨w4.heap.size, 1, none⟩) (v := .int .i64 A2) (by first | (go_keep; done) | (simp [go_sem, *]; done)) hb
  have k6_a2 := cell_keep (a := ⟨w4.heap.size, 2, none⟩) (v := .int .i64 A3) (by first | (go_keep; done) | (simp [go_sem, *]; done)) hb
  have l6_a := World.block_lt_of_cell? _ _ k6_a0
  try simp only at l6_a
  clear hb k5_u0 k5_u1 k5_u2 l5_u k5_t0 k5_t1 k5_t2 l5_t k5_a0 k5_a1 k5_a2 l5_a W5
  have ne3 : ¬ w6.heap.size = w.heap.size + 1 := by omega
  have me3 : ¬ w.heap.size + 1 = w6.heap.size := by omega
  have ne4 : ¬ w6.heap.size = w1.heap.size := by omega
  have me4 : ¬ w1.heap.size = w6.heap.size := by omega
  have ne5 : ¬ w6.heap.size = w4.heap.size := by omega
  have me5 : ¬ w4.heap.size = w6.heap.size := by omega
  go_wp2_with fail
  refine wp_region_held_drew (S := fun w' => w'.cell? ⟨w.heap.size + 1, 0, none⟩ = some (.int .i64 p) ∧ w'.cell? ⟨w.heap.size + 1, 1, none⟩ = some (.int .i64 q) ∧ w'.cell? ⟨w.heap.size + 1, 2, none⟩ = some (.int .i64 r) ∧ w'.cell? ⟨w1.heap.size, 0, none⟩ = some (.int .i64 A1) ∧ w'.cell? ⟨w1.heap.size, 1, none⟩ = some (.int .i64 A2) ∧ w'.cell? ⟨w1.heap.size, 2, none⟩ = some (.int .i64 A3) ∧ w'.cell? ⟨w4.heap.size, 0, none⟩ = some (.int .i64 A1) ∧ w'.cell? ⟨w4.heap.size, 1, none⟩ = some (.int .i64 A2) ∧ w'.cell? ⟨w4.heap.size, 2, none⟩ = some (.int .i64 A3) ∧ w'.cell? ⟨w6.heap.size, 0, none⟩ = some (.int .i64 0) ∧ w'.cell? ⟨w6.heap.size, 1, none⟩ = some (.int .i64 0) ∧ w'.cell? ⟨w6.heap.size, 2, none⟩ = some (.int .i64 0) ∧ w'.frozen? ⟨w6.heap.size, 0, none⟩ = false ∧ w'.frozen? ⟨w6.heap.size, 1, none⟩ = false ∧ w'.frozen? ⟨w6.heap.size, 2, none⟩ = false ∧ Hid (Below w.heap.size w w')) (by kernel_rfl) (by refine ⟨by go_keep, by go_keep, by go_keep, by go_keep, by go_keep, by go_keep, by go_keep, by go_keep, by go_keep, by go_keep, by go_keep, by go_keep, by simp [go_sem], by simp [go_sem], by simp [go_sem], Lib.hid (Below.drew ?_)⟩; repeat (first | exact W6.out | refine blw_drewN ?_ _ | refine Below.setCell ?_ (by first | (simp; done) | omega | (simp; omega)) _ | refine Below.alloc ?_ (by first | (simp; done) | omega | (simp; omega)) _)) (fun hHeld => ?_)
  refine take_run (d := (some 41)) (v := ?v52) 0 rfl rfl (by kernel_rfl) (by kernel_rfl) (by kernel_rfl) (fun _ _ _ h => h) (by rfl) hHeld ?hy52 ?rs52
  case hy52 => (intro w hSw; (try dsimp only at hSw); go_simp) <;> (try with_reducible rfl)
  (try simp only [Act.put, List.setIfInBounds_toArray, List.set_cons_zero, List.set_cons_succ])
  refine take_run (d := (some 42)) (v := ?v53) 1 rfl rfl (by kernel_rfl) (by kernel_rfl) (by kernel_rfl) (fun _ _ _ h => h) (by rfl) hHeld ?hy53 ?rs53
  case hy53 => (intro w hSw; (try dsimp only at hSw); go_simp) <;> (try with_reducible rfl)
  (try simp only [Act.put, List.setIfInBounds_toArray, List.set_cons_zero, List.set_cons_succ])
  refine take_run (d := (some 43)) (v := ?v54) 2 rfl rfl (by kernel_rfl) (by kernel_rfl) (by kernel_rfl) (fun _ _ _ h => h) (by rfl) hHeld ?hy54 ?rs54
  case hy54 => (intro w hSw; (try dsimp only at hSw); go_simp) <;> (try with_reducible rfl)
  (try simp only [Act.put, List.setIfInBounds_toArray, List.set_cons_zero, List.set_cons_succ])
  refine take_run (d := (some 46)) (v := ?v55) 5 rfl rfl (by kernel_rfl) (by kernel_rfl) (by kernel_rfl) (fun _ _ _ h => h) (by rfl) hHeld ?hy55 ?rs55
  case hy55 => (intro w hSw; (try dsimp only at hSw); go_simp) <;> (try with_reducible rfl)
  (try simp only [Act.put, List.setIfInBounds_toArray, List.set_cons_zero, List.set_cons_succ])
  refine take_run (d := (some 47)) (v := ?v56) 6 rfl rfl (by kernel_rfl) (by kernel_rfl) (by kernel_rfl) (fun _ _ _ h => h) (by rfl) hHeld ?hy56 ?rs56
  case hy56 => (intro w hSw; (try dsimp only at hSw); go_simp) <;> (try with_reducible rfl)
  (try simp only [Act.put, List.setIfInBounds_toArray, List.set_cons_zero, List.set_cons_succ])
  refine take_run (d := (some 48)) (v := ?v57) 7 rfl rfl (by kernel_rfl) (by kernel_rfl) (by kernel_rfl) (fun _ _ _ h => h) (by rfl) hHeld ?hy57 ?rs57
  case hy57 => (intro w hSw; (try dsimp only at hSw); go_simp) <;> (try with_reducible rfl)
  (try simp only [Act.put, List.setIfInBounds_toArray, List.set_cons_zero, List.set_cons_succ])
  refine take_run (d := (some 52)) (v := ?v58) 11 rfl rfl (by kernel_rfl) (by kernel_rfl) (by kernel_rfl) (fun _ _ _ h => h) (by rfl) hHeld ?hy58 ?rs58
  case hy58 => (intro w hSw; (try dsimp only at hSw); go_simp) <;> (try with_reducible rfl)
  (try simp only [Act.put, List.setIfInBounds_toArray, List.set_cons_zero, List.set_cons_succ])
  refine take_run (d := (some 53)) (v := ?v59) 12 rfl rfl (by kernel_rfl) (by kernel_rfl) (by kernel_rfl) (fun _ _ _ h => h) (by rfl) hHeld ?hy59 ?rs59
  case hy59 => (intro w hSw; (try dsimp only at hSw); go_simp) <;> (try with_reducible rfl)
  (try simp only [Act.put, List.setIfInBounds_toArray, List.set_cons_zero, List.set_cons_succ])
  refine take_run (d := (some 54)) (v := ?v60) 13 rfl rfl (by kernel_rfl) (by kernel_rfl) (by kernel_rfl) (fun _ _ _ h => h) (by rfl) hHeld ?hy60 ?rs60
  case hy60 => (intro w hSw; (try dsimp only at hSw); go_simp) <;> (try with_reducible rfl)
  (try simp only [Act.put, List.setIfInBounds_toArray, List.set_cons_zero, List.set_cons_succ])
  refine take_call 3 rfl (by kernel_rfl) (by rfl) (fun K hK => ?_)
  go_simp
  refine (D1.out _).mono ?_
  rintro e w' ⟨rfl, hb⟩
  refine hK.out _ _ (by obtain ⟨h0, h1, h2, h3, h4, h5, h6, h7, h8, h9, h10, h11, h12, h13, h14, hw⟩ := hHeld; exact ⟨cell_keep h0 hb, cell_keep h1 hb, cell_keep h2 hb, cell_keep h3 hb, cell_keep h4 hb, cell_keep h5 hb, cell_keep h6 hb, cell_keep h7 hb, cell_keep h8 hb, cell_keep h9 hb, cell_keep h10 hb, cell_keep h11 hb, free_keep h9 h12 hb, free_keep h10 h13 hb, free_keep h11 h14 hb, Lib.hid (blw_trans hw.out hb)⟩) (fun hHeld => ?_)
  clear hK K
  (try simp only [Act.put, List.setIfInBounds_toArray, List.set_cons_zero, List.set_cons_succ])
  refine take_run (d := (some 45)) (v := ?v62) 4 rfl rfl (by kernel_rfl) (by kernel_rfl) (by kernel_rfl) (fun _ _ _ h => h) (by rfl) hHeld ?hy62 ?rs62
  case hy62 => (intro w hSw; (try dsimp only at hSw); go_simp) <;> (try with_reducible rfl)
  (try simp only [Act.put, List.setIfInBounds_toArray, List.set_cons_zero, List.set_cons_succ])
  refine take_call 8 rfl (by kernel_rfl) (by rfl) (fun K hK => ?_)
  go_simp
  refine (D2.out _).mono ?_
  rintro e w' ⟨rfl, hb⟩
  refine hK.out _ _ (by obtain ⟨h0, h1, h2, h3, h4, h5, h6, h7, h8, h9, h10, h11, h12, h13, h14, hw⟩ := hHeld; exact ⟨cell_keep h0 hb, cell_keep h1 hb, cell_keep h2 hb, cell_keep h3 hb, cell_keep h4 hb, cell_keep h5 hb, cell_keep h6 hb, cell_keep h7 hb, cell_keep h8 hb, cell_keep h9 hb, cell_keep h10 hb, cell_keep h11 hb, free_keep h9 h12 hb, free_keep h10 h13 hb, free_keep h11 h14 hb, Lib.hid (blw_trans hw.out hb)⟩) (fun hHeld => ?_)
  clear hK K
  (try simp only [Act.put, List.setIfInBounds_toArray, List.set_cons_zero, List.set_cons_succ])
  refine take_run (d := (some 50)) (v := ?v64) 9 rfl rfl (by kernel_rfl) (by kernel_rfl) (by kernel_rfl) (fun _ _ _ h => h) (by rfl) hHeld ?hy64 ?rs64
  case hy64 => (intro w hSw; (try dsimp only at hSw); go_simp) <;> (try with_reducible rfl)
  (try simp only [Act.put, List.setIfInBounds_toArray, List.set_cons_zero, List.set_cons_succ])
  refine take_run (d := (some 51)) (v := ?v65) 10 rfl rfl (by kernel_rfl) (by kernel_rfl) (by kernel_rfl) (fun _ _ _ h => h) (by rfl) hHeld ?hy65 ?rs65
  case hy65 => (intro w hSw; (try dsimp only at hSw); go_simp) <;> (try with_reducible rfl)
  (try simp only [Act.put, List.setIfInBounds_toArray, List.set_cons_zero, List.set_cons_succ])
  refine take_call 14 rfl (by kernel_rfl) (by rfl) (fun K hK => ?_)
  go_simp
  refine (D3.out _).mono ?_
  rintro e w' ⟨rfl, hb⟩
  refine hK.out _ _ (by obtain ⟨h0, h1, h2, h3, h4, h5, h6, h7, h8, h9, h10, h11, h12, h13, h14, hw⟩ := hHeld; exact ⟨cell_keep h0 hb, cell_keep h1 hb, cell_keep h2 hb, cell_keep h3 hb, cell_keep h4 hb, cell_keep h5 hb, cell_keep h6 hb, cell_keep h7 hb, cell_keep h8 hb, cell_keep h9 hb, cell_keep h10 hb, cell_keep h11 hb, free_keep h9 h12 hb, free_keep h10 h13 hb, free_keep h11 h14 hb, Lib.hid (blw_trans hw.out hb)⟩) (fun hHeld => ?_)
  clear hK K
  (try simp only [Act.put, List.setIfInBounds_toArray, List.set_cons_zero, List.set_cons_succ])
  refine take_run (d := (some 56)) (v := ?v67) 15 rfl rfl (by kernel_rfl) (by kernel_rfl) (by kernel_rfl) (fun _ _ _ h => h) (by rfl) hHeld ?hy67 ?rs67
  case hy67 => (intro w hSw; (try dsimp only at hSw); go_simp) <;> (try with_reducible rfl)
  (try simp only [Act.put, List.setIfInBounds_toArray, List.set_cons_zero, List.set_cons_succ])
  refine take_run (d := (some 15)) (v := ?v68) 16 rfl rfl (by kernel_rfl) (by kernel_rfl) (by kernel_rfl) (fun _ _ _ h => h) (by rfl) hHeld ?hy68 ?rs68
  case hy68 => (intro w hSw; (try dsimp only at hSw); go_simp) <;> (try with_reducible rfl)
  (try simp only [Act.put, List.setIfInBounds_toArray, List.set_cons_zero, List.set_cons_succ])
  refine wpAnyH_done (by kernel_rfl) ?_ _
  obtain ⟨z0, z1, z2, z3, z4, z5, z6, z7, z8, z9, z10, z11, z12, z13, z14, zW⟩ := hHeld
  have lz_u := World.block_lt_of_cell? _ _ z0
  try simp only at lz_u
  have lz_t := World.block_lt_of_cell? _ _ z3
  try simp only at lz_t
  have lz_a := World.block_lt_of_cell? _ _ z6
  try simp only at lz_a
  have lz_x := World.block_lt_of_cell? _ _ z9
  try simp only at lz_x
  go_wp2_with fail
  refine (CB.out _ (hT.below (by repeat (first | exact zW.out | refine blw_drewN ?_ _ | refine Below.setCell ?_ (by first | (simp; done) | omega | (simp; omega)) _ | refine Below.alloc ?_ (by first | (simp; done) | omega | (simp; omega)) _)))).mono ?_
  rintro e w107 ⟨rfl, hb⟩
  have W107 := Lib.hid (blw_trans (show Below w.heap.size w _ by repeat (first | exact zW.out | refine blw_drewN ?_ _ | refine Below.setCell ?_ (by first | (simp; done) | omega | (simp; omega)) _ | refine Below.alloc ?_ (by first | (simp; done) | omega | (simp; omega)) _)) hb)
  have n107 := hb.size
  try simp at n107
  have k107_u0 := cell_keep (a := ⟨w.heap.size + 1, 0, none⟩) (v := .int .i64 p) (by first | (go_keep; done) | (simp [go_sem, *]; done)) hb
  have k107_u1 := cell_keep (a := ⟨w.heap.size + 1, 1, none⟩) (v := .int .i64 q) (by first | (go_keep; done) | (simp [go_sem, *]; done)) hb
  have k107_u2 := cell_keep (a := ⟨w.heap.size + 1, 2, none⟩) (v := .int .i64 r) (by first | (go_keep; done) | (simp [go_sem, *]; done)) hb
  have l107_u := World.block_lt_of_cell? _ _ k107_u0
  try simp only at l107_u
  have k107_t0 := cell_keep (a := ⟨w1.heap.size, 0, none⟩) (v := .int .i64 A1) (by first | (go_keep; done) | (simp [go_sem, *]; done)) hb
  have k107_t1 := cell_keep (a := ⟨w1.heap.size, 1, none⟩) (v := .int .i64 A2) (by first | (go_keep; done) | (simp [go_sem, *]; done)) hb
  have k107_t2 := cell_keep (a := ⟨w1.heap.size, 2, none⟩) (v := .int .i64 A3) (by first | (go_keep; done) | (simp [go_sem, *]; done)) hb
  have l107_t := World.block_lt_of_cell? _ _ k107_t0
  try simp only at l107_t
  have k107_a0 := cell_keep (a := ⟨w4.heap.size, 0, none⟩) (v := .int .i64 A1) (by first | (go_keep; done) | (simp [go_sem, *]; done)) hb
  have k107_a1 := cell_keep (a := ⟨w4.heap.size, 1, none⟩) (v := .int .i64 A2) (by first | (go_keep; done) | (simp [go_sem, *]; done)) hb
  have k107_a2 := cell_keep (a := ⟨w4.heap.size, 2, none⟩) (v := .int .i64 A3) (by first | (go_keep; done) | (simp [go_sem, *]; done)) hb
  have l107_a := World.block_lt_of_cell? _ _ k107_a0
  try simp only at l107_a
  have k107_x0 := cell_keep (a := ⟨w6.heap.size, 0, none⟩) (v := .int .i64 0) (by first | (go_keep; done) | (simp [go_sem, *]; done)) hb
  have k107_x1 := cell_keep (a := ⟨w6.heap.size, 1, none⟩) (v := .int .i64 0) (by first | (go_keep; done) | (simp [go_sem, *]; done)) hb
  have k107_x2 := cell_keep (a := ⟨w6.heap.size, 2, none⟩) (v := .int .i64 0) (by first | (go_keep; done) | (simp [go_sem, *]; done)) hb
  have l107_x := World.block_lt_of_cell? _ _ k107_x0
  try simp only at l107_x
  clear hb z0 z1 z2 z3 z4 z5 z6 z7 z8 z9 z10 z11 z12 z13 z14 lz_u lz_t lz_a lz_x zW
  go_wp2_with fail
  refine (E1.out _ (hT.below (by repeat (first | exact W107.out | refine blw_drewN ?_ _ | refine Below.setCell ?_ (by first | (simp; done) | omega | (simp; omega)) _ | refine Below.alloc ?_ (by first | (simp; done) | omega | (simp; omega)) _)))).mono ?_
  rintro e w108 ⟨rfl, hb⟩
  have W108 := Lib.hid (blw_trans (show Below w.heap.size w _ by repeat (first | exact W107.out | refine blw_drewN ?_ _ | refine Below.setCell ?_ (by first | (simp; done) | omega | (simp; omega)) _ | refine Below.alloc ?_ (by first | (simp; done) | omega | (simp; omega)) _)) hb)
  have n108 := hb.size
  try simp at n108
  have k108_u0 := cell_keep (a := ⟨w.heap.size + 1, 0, none⟩) (v := .int .i64 p) (by first | (go_keep; done) | (simp [go_sem, *]; done)) hb
  have k108_u1 := cell_keep (a := ⟨w.heap.size + 1, 1, none⟩) (v := .int .i64 q) (by first | (go_keep; done) | (simp [go_sem, *]; done)) hb
  have k108_u2 := cell_keep (a := ⟨w.heap.size + 1, 2, none⟩) (v := .int .i64 r) (by first | (go_keep; done) | (simp [go_sem, *]; done)) hb
  have l108_u := World.block_lt_of_cell? _ _ k108_u0
  try simp only at l108_u
  have k108_t0 := cell_keep (a := ⟨w1.heap.size, 0, none⟩) (v := .int .i64 A1) (by first | (go_keep; done) | (simp [go_sem, *]; done)) hb
  have k108_t1 := cell_keep (a := ⟨w1.heap.size, 1, none⟩) (v := .int .i64 A2) (by first | (go_keep; done) | (simp [go_sem, *]; done)) hb
  have k108_t2 := cell_keep (a := ⟨w1.heap.size, 2, none⟩) (v := .int .i64 A3) (by first | (go_keep; done) | (simp [go_sem, *]; done)) hb
  have l108_t := World.block_lt_of_cell? _ _ k108_t0
  try simp only at l108_t
  have k108_a0 := cell_keep (a := ⟨w4.heap.size, 0, none⟩) (v := .int .i64 A1) (by first | (go_keep; done) | (simp [go_sem, *]; done)) hb
  have k108_a1 := cell_keep (a := ⟨w4.heap.size, 1, none⟩) (v := .int .i64 A2) (by first | (go_keep; done) | (simp [go_sem, *]; done)) hb
  have k108_a2 := cell_keep (a := ⟨w4.heap.size, 2, none⟩) (v := .int .i64 A3) (by first | (go_keep; done) | (simp [go_sem, *]; done)) hb
  have l108_a := World.block_lt_of_cell? _ _ k108_a0
  try simp only at l108_a
  have k108_x0 := cell_keep (a := ⟨w6.heap.size, 0, none⟩) (v := .int .i64 0) (by first | (go_keep; done) | (simp [go_sem, *]; done)) hb
  have k108_x1 := cell_keep (a := ⟨w6.heap.size, 1, none⟩) (v := .int .i64 0) (by first | (go_keep; done) | (simp [go_sem, *]; done)) hb
  have k108_x2 := cell_keep (a := ⟨w6.heap.size, 2, none⟩) (v := .int .i64 0) (by first | (go_keep; done) | (simp [go_sem, *]; done)) hb
  have l108_x := World.block_lt_of_cell? _ _ k108_x0
  try simp only at l108_x
  have k108_b0 := cell_keep (a := ⟨w107.heap.size, 0, none⟩) (v := .int .i64 0) (by first | (go_keep; done) | (simp [go_sem, *]; done)) hb
  have k108_b1 := cell_keep (a := ⟨w107.heap.size, 1, none⟩) (v := .int .i64 0) (by first | (go_keep; done) | (simp [go_sem, *]; done)) hb
  have k108_b2 := cell_keep (a := ⟨w107.heap.size, 2, none⟩) (v := .int .i64 0) (by first | (go_keep; done) | (simp [go_sem, *]; done)) hb
  have l108_b := World.block_lt_of_cell? _ _ k108_b0
  try simp only at l108_b
  clear hb k107_u0 k107_u1 k107_u2 l107_u k107_t0 k107_t1 k107_t2 l107_t k107_a0 k107_a1 k107_a2 l107_a k107_x0 k107_x1 k107_x2 l107_x W107
  go_wp2_with fail
  refine (CT.out _ (hT.below (by repeat (first | exact W108.out | refine blw_drewN ?_ _ | refine Below.setCell ?_ (by first | (simp; done) | omega | (simp; omega)) _ | refine Below.alloc ?_ (by first | (simp; done) | omega | (simp; omega)) _)))).mono ?_
  rintro e w109 ⟨rfl, hb⟩
  have W109 := Lib.hid (blw_trans (show Below w.heap.size w _ by repeat (first | exact W108.out | refine blw_drewN ?_ _ | refine Below.setCell ?_ (by first | (simp; done) | omega | (simp; omega)) _ | refine Below.alloc ?_ (by first | (simp; done) | omega | (simp; omega)) _)) hb)
  have n109 := hb.size
  try simp at n109
  have k109_u0 := cell_keep (a := ⟨w.heap.size + 1, 0, none⟩) (v := .int .i64 p) (by first | (go_keep; done) | (simp [go_sem, *]; done)) hb
  have k109_u1 := cell_keep (a := ⟨w.heap.size + 1, 1, none⟩) (v := .int .i64 q) (by first | (go_keep; done) | (simp [go_sem, *]; done)) hb
  have k109_u2 := cell_keep (a := ⟨w.heap.size + 1, 2, none⟩) (v := .int .i64 r) (by first | (go_keep; done) | (simp [go_sem, *]; done)) hb
  have l109_u := World.block_lt_of_cell? _ _ k109_u0
  try simp only at l109_u
  have k109_t0 := cell_keep (a := ⟨w1.heap.size, 0, none⟩) (v := .int .i64 A1) (by first | (go_keep; done) | (simp [go_sem, *]; done)) hb
  have k109_t1 := cell_keep (a := ⟨w1.heap.size, 1, none⟩) (v := .int .i64 A2) (by first | (go_keep; done) | (simp [go_sem, *]; done)) hb
  have k109_t2 := cell_keep (a := ⟨w1.heap.size, 2, none⟩) (v := .int .i64 A3) (by first | (go_keep; done) | (simp [go_sem, *]; done)) hb
  have l109_t := World.block_lt_of_cell? _ _ k109_t0
  try simp only at l109_t
  have k109_a0 := cell_keep (a := ⟨w4.heap.size, 0, none⟩) (v := .int .i64 A1) (by first | (go_keep; done) | (simp [go_sem, *]; done)) hb
  have k109_a1 := cell_keep (a := ⟨w4.heap.size, 1, none⟩) (v := .int .i64 A2) (by first | (go_keep; done) | (simp [go_sem, *]; done)) hb
  have k109_a2 := cell_keep (a := ⟨w4.heap.size, 2, none⟩) (v := .int .i64 A3) (by first | (go_keep; done) | (simp [go_sem, *]; done)) hb
  have l109_a := World.block_lt_of_cell? _ _ k109_a0
  try simp only at l109_a
  have k109_x0 := cell_keep (a := ⟨w6.heap.size, 0, none⟩) (v := .int .i64 0) (by first | (go_keep; done) | (simp [go_sem, *]; done)) hb
  have k109_x1 := cell_keep (a := ⟨w6.heap.size, 1, none⟩) (v := .int .i64 0) (by first | (go_keep; done) | (simp [go_sem, *]; done)) hb
  have k109_x2 := cell_keep (a := ⟨w6.heap.size, 2, none⟩) (v := .int .i64 0) (by first | (go_keep; done) | (simp [go_sem, *]; done)) hb
  have l109_x := World.block_lt_of_cell? _ _ k109_x0
  try simp only at l109_x
  have k109_b0 := cell_keep (a := ⟨w107.heap.size, 0, none⟩) (v := .int .i64 0) (by first | (go_keep; done) | (simp [go_sem, *]; done)) hb
  have k109_b1 := cell_keep (a := ⟨w107.heap.size, 1, none⟩) (v := .int .i64 0) (by first | (go_keep; done) | (simp [go_sem, *]; done)) hb
  have k109_b2 := cell_keep (a := ⟨w107.heap.size, 2, none⟩) (v := .int .i64 0) (by first | (go_keep; done) | (simp [go_sem, *]; done)) hb
  have l109_b := World.block_lt_of_cell? _ _ k109_b0
  try simp only at l109_b
  clear hb k108_u0 k108_u1 k108_u2 l108_u k108_t0 k108_t1 k108_t2 l108_t k108_a0 k108_a1 k108_a2 l108_a k108_x0 k108_x1 k108_x2 l108_x k108_b0 k108_b1 k108_b2 l108_b W108
  go_wp2_with fail
  refine (E1.out _ (hT.below (by repeat (first | exact W109.out | refine blw_drewN ?_ _ | refine Below.setCell ?_ (by first | (simp; done) | omega | (simp; omega)) _ | refine Below.alloc ?_ (by first | (simp; done) | omega | (simp; omega)) _)))).mono ?_
  rintro e w110 ⟨rfl, hb⟩
  have W110 := Lib.hid (blw_trans (show Below w.heap.size w _ by repeat (first | exact W109.out | refine blw_drewN ?_ _ | refine Below.setCell ?_ (by first | (simp; done) | omega | (simp; omega)) _ | refine Below.alloc ?_ (by first | (simp; done) | omega | (simp; omega)) _)) hb)
  have n110 := hb.size
  try simp at n110
  have k110_t0 := cell_keep (a := ⟨w1.heap.size, 0, none⟩) (v := .int .i64 A1) (by first | (go_keep; done) | (simp [go_sem, *]; done)) hb
  have k110_t1 := cell_keep (a := ⟨w1.heap.size, 1, none⟩) (v := .int .i64 A2) (by first | (go_keep; done) | (simp [go_sem, *]; done)) hb
  have k110_t2 := cell_keep (a := ⟨w1.heap.size, 2, none⟩) (v := .int .i64 A3) (by first | (go_keep; done) | (simp [go_sem, *]; done)) hb
  have l110_t := World.block_lt_of_cell? _ _ k110_t0
  try simp only at l110_t
  have k110_a0 := cell_keep (a := ⟨w4.heap.size, 0, none⟩) (v := .int .i64 A1) (by first | (go_keep; done) | (simp [go_sem, *]; done)) hb
  have k110_a1 := cell_keep (a := ⟨w4.heap.size, 1, none⟩) (v := .int .i64 A2) (by first | (go_keep; done) | (simp [go_sem, *]; done)) hb
  have k110_a2 := cell_keep (a := ⟨w4.heap.size, 2, none⟩) (v := .int .i64 A3) (by first | (go_keep; done) | (simp [go_sem, *]; done)) hb
  have l110_a := World.block_lt_of_cell? _ _ k110_a0
  try simp only at l110_a
  have k110_x0 := cell_keep (a := ⟨w6.heap.size, 0, none⟩) (v := .int .i64 0) (by first | (go_keep; done) | (simp [go_sem, *]; done)) hb
  have k110_x1 := cell_keep (a := ⟨w6.heap.size, 1, none⟩) (v := .int .i64 0) (by first | (go_keep; done) | (simp [go_sem, *]; done)) hb
  have k110_x2 := cell_keep (a := ⟨w6.heap.size, 2, none⟩) (v := .int .i64 0) (by first | (go_keep; done) | (simp [go_sem, *]; done)) hb
  have l110_x := World.block_lt_of_cell? _ _ k110_x0
  try simp only at l110_x
  have k110_b0 := cell_keep (a := ⟨w107.heap.size, 0, none⟩) (v := .int .i64 0) (by first | (go_keep; done) | (simp [go_sem, *]; done)) hb
  have k110_b1 := cell_keep (a := ⟨w107.heap.size, 1, none⟩) (v := .int .i64 0) (by first | (go_keep; done) | (simp [go_sem, *]; done)) hb
  have k110_b2 := cell_keep (a := ⟨w107.heap.size, 2, none⟩) (v := .int .i64 0) (by first | (go_keep; done) | (simp [go_sem, *]; done)) hb
  have l110_b := World.block_lt_of_cell? _ _ k110_b0
  try simp only at l110_b
  clear hb k109_u0 k109_u1 k109_u2 l109_u k109_t0 k109_t1 k109_t2 l109_t k109_a0 k109_a1 k109_a2 l109_a k109_x0 k109_x1 k109_x2 l109_x k109_b0 k109_b1 k109_b2 l109_b W109
  go_wp2_with fail
  refine (CY.out _).mono ?_
  rintro e w' ⟨rfl, rfl⟩
  go_wp2_with fail
  refine (CN.out _).mono ?_
  rintro e w' ⟨rfl, rfl⟩
  go_wp2_with fail
  refine (E0.out _ (hT.below (by repeat (first | exact W110.out | refine blw_drewN ?_ _ | refine Below.setCell ?_ (by first | (simp; done) | omega | (simp; omega)) _ | refine Below.alloc ?_ (by first | (simp; done) | omega | (simp; omega)) _)))).mono ?_
  rintro e w111 ⟨rfl, hb⟩
  have W111 := Lib.hid (blw_trans (show Below w.heap.size w _ by repeat (first | exact W110.out | refine blw_drewN ?_ _ | refine Below.setCell ?_ (by first | (simp; done) | omega | (simp; omega)) _ | refine Below.alloc ?_ (by first | (simp; done) | omega | (simp; omega)) _)) hb)
  have n111 := hb.size
  try simp at n111
  have k111_t0 := cell_keep (a := ⟨w1.heap.size, 0, none⟩) (v := .int .i64 A1) (by first | (go_keep; done) | (simp [go_sem, *]; done)) hb
  have k111_t1 := cell_keep (a := ⟨w1.heap.size, 1, none⟩) (v := .int .i64 A2) (by first | (go_keep; done) | (simp [go_sem, *]; done)) hb
  have k111_t2 := cell_keep (a := ⟨w1.heap.size, 2, none⟩) (v := .int .i64 A3) (by first | (go_keep; done) | (simp [go_sem, *]; done)) hb
  have l111_t := World.block_lt_of_cell? _ _ k111_t0
  try simp only at l111_t
  have k111_a0 := cell_keep (a := ⟨w4.heap.size, 0, none⟩) (v := .int .i64 A1) (by first | (go_keep; done) | (simp [go_sem, *]; done)) hb
  have k111_a1 := cell_keep (a := ⟨w4.heap.size, 1, none⟩) (v := .int .i64 A2) (by first | (go_keep; done) | (simp [go_sem, *]; done)) hb
  have k111_a2 := cell_keep (a := ⟨w4.heap.size, 2, none⟩) (v := .int .i64 A3) (by first | (go_keep; done) | (simp [go_sem, *]; done)) hb
  have l111_a := World.block_lt_of_cell? _ _ k111_a0
  try simp only at l111_a
  have k111_x0 := cell_keep (a := ⟨w6.heap.size, 0, none⟩) (v := .int .i64 0) (by first | (go_keep; done) | (simp [go_sem, *]; done)) hb
  have k111_x1 := cell_keep (a := ⟨w6.heap.size, 1, none⟩) (v := .int .i64 0) (by first | (go_keep; done) | (simp [go_sem, *]; done)) hb
  have k111_x2 := cell_keep (a := ⟨w6.heap.size, 2, none⟩) (v := .int .i64 0) (by first | (go_keep; done) | (simp [go_sem, *]; done)) hb
  have l111_x := World.block_lt_of_cell? _ _ k111_x0
  try simp only at l111_x
  have k111_b0 := cell_keep (a := ⟨w107.heap.size, 0, none⟩) (v := .int .i64 0) (by first | (go_keep; done) | (simp [go_sem, *]; done)) hb
  have k111_b1 := cell_keep (a := ⟨w107.heap.size, 1, none⟩) (v := .int .i64 0) (by first | (go_keep; done) | (simp [go_sem, *]; done)) hb
  have k111_b2 := cell_keep (a := ⟨w107.heap.size, 2, none⟩) (v := .int .i64 0) (by first | (go_keep; done) | (simp [go_sem, *]; done)) hb
  have l111_b := World.block_lt_of_cell? _ _ k111_b0
  try simp only at l111_b
  clear hb k110_t0 k110_t1 k110_t2 l110_t k110_a0 k110_a1 k110_a2 l110_a k110_x0 k110_x1 k110_x2 l110_x k110_b0 k110_b1 k110_b2 l110_b W110
  go_wp2
  go_ret
  exact ⟨ret_bool (by simp), by repeat (first | exact W111.out | refine blw_drewN ?_ _ | refine Below.setCell ?_ (by first | (simp; done) | omega | (simp; omega)) _ | refine Below.alloc ?_ (by first | (simp; done) | omega | (simp; omega)) _)⟩

set_option maxRecDepth 100000 in
set_option maxHeartbeats 4000000 in
theorem weekTells_dnlt (y m d p q r x p0 q0 r0 A1 A2 A3 : Int) (P Q R T : List UInt8) (w : World) (hT : TPH w)
    (lp : P.length ≤ 120) (lq : Q.length ≤ 120) (lr : R.length ≤ 120) (HX : P ++ [45, 87] ++ Q ++ [45] ++ R = T)
    (mp : max p 0 = p0) (mq : max q 0 = q0) (mr : max r 0 = r0)
    (CF : Hid (∀ w : World, Calls Tryd.prog 6 #[.agg #[.int .i64 y, .int .i64 m, .int .i64 d]] w fun e w' => e = .returned (.bool false) ∧ Below w.heap.size w w'))
    (CW : Hid (∀ w : World, Calls Tryd.prog 7 #[.agg #[.int .i64 y, .int .i64 m, .int .i64 d]] w fun e w' => e = .returned (.agg #[.int .i64 A1, .int .i64 A2, .int .i64 A3]) ∧ Below w.heap.size w w'))
    (CO : Hid (∀ w : World, TPH w → Calls Tryd.prog 8 #[.agg #[.int .i64 y, .int .i64 m, .int .i64 d]] w fun e w' => e = .returned (.tuple #[.agg #[.int .i64 A1, .int .i64 A2, .int .i64 A3], .nilIface]) ∧ Below w.heap.size w w'))
    (CX : Hid (∀ w : World, Calls Tryd.prog 10 #[.agg #[.int .i64 p, .int .i64 q, .int .i64 r]] w fun e w' => e = .returned (.tuple #[.agg #[.int .i64 0, .int .i64 0, .int .i64 0], .bool false]) ∧ Below w.heap.size w w'))
    (D1 : Hid (∀ w : World, Calls Tryd.prog 11 #[.int .i64 p0, .int .i64 4] w fun e w' => e = .returned (.string ⟨P.toArray⟩) ∧ Below w.heap.size w w'))
    (D2 : Hid (∀ w : World, Calls Tryd.prog 11 #[.int .i64 q0, .int .i64 2] w fun e w' => e = .returned (.string ⟨Q.toArray⟩) ∧ Below w.heap.size w w'))
    (D3 : Hid (∀ w : World, Calls Tryd.prog 11 #[.int .i64 r0, .int .i64 1] w fun e w' => e = .returned (.string ⟨R.toArray⟩) ∧ Below w.heap.size w w'))
    (CB : Hid (∀ w : World, TPH w → Calls Tryd.prog 12 #[.agg #[.int .i64 p, .int .i64 q, .int .i64 r]] w fun e w' => e = .returned (.tuple #[.agg #[.int .i64 0, .int .i64 0, .int .i64 0], errV 1]) ∧ Below w.heap.size w w'))
    (CT : Hid (∀ w : World, TPH w → Calls Tryd.prog 13 #[.agg #[.int .i64 p, .int .i64 q, .int .i64 r]] w fun e w' => e = .returned (.tuple #[.string ⟨#[]⟩, errV 1]) ∧ Below w.heap.size w w'))
    (y0 : x < 1)
    (CN : Hid (∀ w : World, Calls Tryd.prog 15 #[.int .i64 x] w fun e w' => e = .returned (.tuple #[.int .i64 0, errV 1]) ∧ w = w')) :
    Calls Tryd.prog 3 #[.agg #[.int .i64 y, .int .i64 m, .int .i64 d], .agg #[.int .i64 p, .int .i64 q, .int .i64 r], .int .i64 x] w fun e w' => e = .returned (.bool true) ∧ Below w.heap.size w w' := by
  have C0 := Lib.hid fun w (hT : TPH w) => weekly_any w hT.t
  have E0 := Lib.hid fun w (hT : TPH w) => sameErr_yes ErrNo.nil w hT.h
  have E1 := Lib.hid fun w (hT : TPH w) => sameErr_yes (ErrNo.no 1) w hT.h
  have g1 : decide (x < 1) = true := dec_yes y0
  obtain ⟨Y1, x1⟩ : ∃ X, X = P ++ [45, 87] := ⟨_, rfl⟩
  have S1 : ∀ w, (Op.stringOp .add ⟨P.toArray⟩ ⟨#[45, 87]⟩).run Tryd.prog w = .ok (.string ⟨Y1.toArray⟩) w := fun w => by rw [x1]; exact add_str (P := Tryd.prog) P [45, 87] (by first | omega | (simp; omega)) w
  have m1 : Y1.length = P.length + 2 := by rw [x1]; simp
  obtain ⟨Y2, x2⟩ : ∃ X, X = Y1 ++ Q := ⟨_, rfl⟩
  have S2 : ∀ w, (Op.stringOp .add ⟨Y1.toArray⟩ ⟨Q.toArray⟩).run Tryd.prog w = .ok (.string ⟨Y2.toArray⟩) w := fun w => by rw [x2]; exact add_str (P := Tryd.prog) Y1 Q (by first | omega | (simp; omega)) w
  have m2 : Y2.length = Y1.length + Q.length := by rw [x2]; simp
  obtain ⟨Y3, x3⟩ : ∃ X, X = Y2 ++ [45] := ⟨_, rfl⟩
  have S3 : ∀ w, (Op.stringOp .add ⟨Y2.toArray⟩ ⟨#[45]⟩).run Tryd.prog w = .ok (.string ⟨Y3.toArray⟩) w := fun w => by rw [x3]; exact add_str (P := Tryd.prog) Y2 [45] (by first | omega | (simp; omega)) w
  have m3 : Y3.length = Y2.length + 1 := by rw [x3]; simp
  have S4 : ∀ w, (Op.stringOp .add ⟨Y3.toArray⟩ ⟨R.toArray⟩).run Tryd.prog w = .ok (.string ⟨T.toArray⟩) w := fun w => by rw [← HX, ← x1, ← x2, ← x3]; exact add_str (P := Tryd.prog) Y3 R (by omega) w
  clear x1 x2 x3 m1 m2 m3 HX lp lq lr
  go_enter Tryd.func3, Tryd.ntmps3
  go_wp2_with fail
  refine (C0.out _ (hT.below (by repeat (first | exact (Below.refl _ _) | refine blw_drewN ?_ _ | refine Below.setCell ?_ (by first | (simp; done) | omega | (simp; omega)) _ | refine Below.alloc ?_ (by first | (simp; done) | omega | (simp; omega)) _)))).mono ?_
  rintro e w1 ⟨rfl, hb⟩
  have W1 := Lib.hid (blw_trans (show Below w.heap.size w _ by repeat (first | exact (Below.refl _ _) | refine blw_drewN ?_ _ | refine Below.setCell ?_ (by first | (simp; done) | omega | (simp; omega)) _ | refine Below.alloc ?_ (by first | (simp; done) | omega | (simp; omega)) _)) hb)
  have n1 := hb.size
  try simp at n1
  have k1_d0 := cell_keep (a := ⟨w.heap.size, 0, none⟩) (v := .int .i64 y) (by first | (go_keep; done) | (simp [go_sem, *]; done)) hb
  have k1_d1 := cell_keep (a := ⟨w.heap.size, 1, none⟩) (v := .int .i64 m) (by first | (go_keep; done) | (simp [go_sem, *]; done)) hb
  have k1_d2 := cell_keep (a := ⟨w.heap.size, 2, none⟩) (v := .int .i64 d) (by first | (go_keep; done) | (simp [go_sem, *]; done)) hb
  have l1_d := World.block_lt_of_cell? _ _ k1_d0
  try simp only at l1_d
  have k1_u0 := cell_keep (a := ⟨w.heap.size + 1, 0, none⟩) (v := .int .i64 p) (by first | (go_keep; done) | (simp [go_sem, *]; done)) hb
  have k1_u1 := cell_keep (a := ⟨w.heap.size + 1, 1, none⟩) (v := .int .i64 q) (by first | (go_keep; done) | (simp [go_sem, *]; done)) hb
  have k1_u2 := cell_keep (a := ⟨w.heap.size + 1, 2, none⟩) (v := .int .i64 r) (by first | (go_keep; done) | (simp [go_sem, *]; done)) hb
  have l1_u := World.block_lt_of_cell? _ _ k1_u0
  try simp only at l1_u
  clear hb
  have ne1 : ¬ w1.heap.size = w.heap.size := by omega
  have me1 : ¬ w.heap.size = w1.heap.size := by omega
  have ne2 : ¬ w1.heap.size = w.heap.size + 1 := by omega
  have me2 : ¬ w.heap.size + 1 = w1.heap.size := by omega
  go_wp2_with fail
  refine (CF.out _).mono ?_
  rintro e w2 ⟨rfl, hb⟩
  have W2 := Lib.hid (blw_trans (show Below w.heap.size w _ by repeat (first | exact W1.out | refine blw_drewN ?_ _ | refine Below.setCell ?_ (by first | (simp; done) | omega | (simp; omega)) _ | refine Below.alloc ?_ (by first | (simp; done) | omega | (simp; omega)) _)) hb)
  have n2 := hb.size
  try simp at n2
  have k2_d0 := cell_keep (a := ⟨w.heap.size, 0, none⟩) (v := .int .i64 y) (by first | (go_keep; done) | (simp [go_sem, *]; done)) hb
  have k2_d1 := cell_keep (a := ⟨w.heap.size, 1, none⟩) (v := .int .i64 m) (by first | (go_keep; done) | (simp [go_sem, *]; done)) hb
  have k2_d2 := cell_keep (a := ⟨w.heap.size, 2, none⟩) (v := .int .i64 d) (by first | (go_keep; done) | (simp [go_sem, *]; done)) hb
  have l2_d := World.block_lt_of_cell? _ _ k2_d0
  try simp only at l2_d
  have k2_u0 := cell_keep (a := ⟨w.heap.size + 1, 0, none⟩) (v := .int .i64 p) (by first | (go_keep; done) | (simp [go_sem, *]; done)) hb
  have k2_u1 := cell_keep (a := ⟨w.heap.size + 1, 1, none⟩) (v := .int .i64 q) (by first | (go_keep; done) | (simp [go_sem, *]; done)) hb
  have k2_u2 := cell_keep (a := ⟨w.heap.size + 1, 2, none⟩) (v := .int .i64 r) (by first | (go_keep; done) | (simp [go_sem, *]; done)) hb
  have l2_u := World.block_lt_of_cell? _ _ k2_u0
  try simp only at l2_u
  have k2_t0 := cell_keep (a := ⟨w1.heap.size, 0, none⟩) (v := .int .i64 0) (by first | (go_keep; done) | (simp [go_sem, *]; done)) hb
  have f2_t0 := (hb.frozen (p := ⟨w1.heap.size, 0, none⟩) (by first | (simp; done) | omega | (simp; omega))).trans (show _ = false by first | (simp; done) | (simp [go_sem]; done))
  have k2_t1 := cell_keep (a := ⟨w1.heap.size, 1, none⟩) (v := .int .i64 0) (by first | (go_keep; done) | (simp [go_sem, *]; done)) hb
  have f2_t1 := (hb.frozen (p := ⟨w1.heap.size, 1, none⟩) (by first | (simp; done) | omega | (simp; omega))).trans (show _ = false by first | (simp; done) | (simp [go_sem]; done))
  have k2_t2 := cell_keep (a := ⟨w1.heap.size, 2, none⟩) (v := .int .i64 0) (by first | (go_keep; done) | (simp [go_sem, *]; done)) hb
  have f2_t2 := (hb.frozen (p := ⟨w1.heap.size, 2, none⟩) (by first | (simp; done) | omega | (simp; omega))).trans (show _ = false by first | (simp; done) | (simp [go_sem]; done))
  have l2_t := World.block_lt_of_cell? _ _ k2_t0
  try simp only at l2_t
  clear hb k1_d0 k1_d1 k1_d2 l1_d k1_u0 k1_u1 k1_u2 l1_u W1
  go_wp2_with fail
  refine (CW.out _).mono ?_
  rintro e w3 ⟨rfl, hb⟩
  have W3 := Lib.hid (blw_trans (show Below w.heap.size w _ by repeat (first | exact W2.out | refine blw_drewN ?_ _ | refine Below.setCell ?_ (by first | (simp; done) | omega | (simp; omega)) _ | refine Below.alloc ?_ (by first | (simp; done) | omega | (simp; omega)) _)) hb)
  have n3 := hb.size
  try simp at n3
  have k3_d0 := cell_keep (a := ⟨w.heap.size, 0, none⟩) (v := .int .i64 y) (by first | (go_keep; done) | (simp [go_sem, *]; done)) hb
  have k3_d1 := cell_keep (a := ⟨w.heap.size, 1, none⟩) (v := .int .i64 m) (by first | (go_keep; done) | (simp [go_sem, *]; done)) hb
  have k3_d2 := cell_keep (a := ⟨w.heap.size, 2, none⟩) (v := .int .i64 d) (by first | (go_keep; done) | (simp [go_sem, *]; done)) hb
  have l3_d := World.block_lt_of_cell? _ _ k3_d0
  try simp only at l3_d
  have k3_u0 := cell_keep (a := ⟨w.heap.size + 1, 0, none⟩) (v := .int .i64 p) (by first | (go_keep; done) | (simp [go_sem, *]; done)) hb
  have k3_u1 := cell_keep (a := ⟨w.heap.size + 1, 1, none⟩) (v := .int .i64 q) (by first | (go_keep; done) | (simp [go_sem, *]; done)) hb
  have k3_u2 := cell_keep (a := ⟨w.heap.size + 1, 2, none⟩) (v := .int .i64 r) (by first | (go_keep; done) | (simp [go_sem, *]; done)) hb
  have l3_u := World.block_lt_of_cell? _ _ k3_u0
  try simp only at l3_u
  have k3_t0 := cell_keep (a := ⟨w1.heap.size, 0, none⟩) (v := .int .i64 0) (by first | (go_keep; done) | (simp [go_sem, *]; done)) hb
  have f3_t0 := (hb.frozen (p := ⟨w1.heap.size, 0, none⟩) (by first | (simp; done) | omega | (simp; omega))).trans (show _ = false by first | exact f2_t0 | (simp; done) | (simp [go_sem]; done) | (simp [f2_t0]; done))
  have k3_t1 := cell_keep (a := ⟨w1.heap.size, 1, none⟩) (v := .int .i64 0) (by first | (go_keep; done) | (simp [go_sem, *]; done)) hb
  have f3_t1 := (hb.frozen (p := ⟨w1.heap.size, 1, none⟩) (by first | (simp; done) | omega | (simp; omega))).trans (show _ = false by first | exact f2_t1 | (simp; done) | (simp [go_sem]; done) | (simp [f2_t1]; done))
  have k3_t2 := cell_keep (a := ⟨w1.heap.size, 2, none⟩) (v := .int .i64 0) (by first | (go_keep; done) | (simp [go_sem, *]; done)) hb
  have f3_t2 := (hb.frozen (p := ⟨w1.heap.size, 2, none⟩) (by first | (simp; done) | omega | (simp; omega))).trans (show _ = false by first | exact f2_t2 | (simp; done) | (simp [go_sem]; done) | (simp [f2_t2]; done))
  have l3_t := World.block_lt_of_cell? _ _ k3_t0
  try simp only at l3_t
  clear hb k2_d0 k2_d1 k2_d2 l2_d k2_u0 k2_u1 k2_u2 l2_u k2_t0 f2_t0 k2_t1 f2_t1 k2_t2 f2_t2 l2_t W2
  go_wp2_with fail
  refine (CO.out _ (hT.below (by repeat (first | exact W3.out | refine blw_drewN ?_ _ | refine Below.setCell ?_ (by first | (simp; done) | omega | (simp; omega)) _ | refine Below.alloc ?_ (by first | (simp; done) | omega | (simp; omega)) _)))).mono ?_
  rintro e w4 ⟨rfl, hb⟩
  have W4 := Lib.hid (blw_trans (show Below w.heap.size w _ by repeat (first | exact W3.out | refine blw_drewN ?_ _ | refine Below.setCell ?_ (by first | (simp; done) | omega | (simp; omega)) _ | refine Below.alloc ?_ (by first | (simp; done) | omega | (simp; omega)) _)) hb)
  have n4 := hb.size
  try simp at n4
  have k4_u0 := cell_keep (a := ⟨w.heap.size + 1, 0, none⟩) (v := .int .i64 p) (by first | (go_keep; done) | (simp [go_sem, *]; done)) hb
  have k4_u1 := cell_keep (a := ⟨w.heap.size + 1, 1, none⟩) (v := .int .i64 q) (by first | (go_keep; done) | (simp [go_sem, *]; done)) hb
  have k4_u2 := cell_keep (a := ⟨w.heap.size + 1, 2, none⟩) (v := .int .i64 r) (by first | (go_keep; done) | (simp [go_sem, *]; done)) hb
  have l4_u := World.block_lt_of_cell? _ _ k4_u0
  try simp only at l4_u
  have k4_t0 := cell_keep (a := ⟨w1.heap.size, 0, none⟩) (v := .int .i64 A1) (by first | (go_keep; done) | (simp [go_sem, *]; done)) hb
  have k4_t1 := cell_keep (a := ⟨w1.heap.size, 1, none⟩) (v := .int .i64 A2) (by first | (go_keep; done) | (simp [go_sem, *]; done)) hb
  have k4_t2 := cell_keep (a := ⟨w1.heap.size, 2, none⟩) (v := .int .i64 A3) (by first | (go_keep; done) | (simp [go_sem, *]; done)) hb
  have l4_t := World.block_lt_of_cell? _ _ k4_t0
  try simp only at l4_t
  clear hb k3_d0 k3_d1 k3_d2 l3_d k3_u0 k3_u1 k3_u2 l3_u k3_t0 f3_t0 k3_t1 f3_t1 k3_t2 f3_t2 l3_t W3
  go_wp2_with fail
  refine (E0.out _ (hT.below (by repeat (first | exact W4.out | refine blw_drewN ?_ _ | refine Below.setCell ?_ (by first | (simp; done) | omega | (simp; omega)) _ | refine Below.alloc ?_ (by first | (simp; done) | omega | (simp; omega)) _)))).mono ?_
  rintro e w5 ⟨rfl, hb⟩
  have W5 := Lib.hid (blw_trans (show Below w.heap.size w _ by repeat (first | exact W4.out | refine blw_drewN ?_ _ | refine Below.setCell ?_ (by first | (simp; done) | omega | (simp; omega)) _ | refine Below.alloc ?_ (by first | (simp; done) | omega | (simp; omega)) _)) hb)
  have n5 := hb.size
  try simp at n5
  have k5_u0 := cell_keep (a := ⟨w.heap.size + 1, 0, none⟩) (v := .int .i64 p) (by first | (go_keep; done) | (simp [go_sem, *]; done)) hb
  have k5_u1 := cell_keep (a := ⟨w.heap.size + 1, 1, none⟩) (v := .int .i64 q) (by first | (go_keep; done) | (simp [go_sem, *]; done)) hb
  have k5_u2 := cell_keep (a := ⟨w.heap.size + 1, 2, none⟩) (v := .int .i64 r) (by first | (go_keep; done) | (simp [go_sem, *]; done)) hb
  have l5_u := World.block_lt_of_cell? _ _ k5_u0
  try simp only at l5_u
  have k5_t0 := cell_keep (a := ⟨w1.heap.size, 0, none⟩) (v := .int .i64 A1) (by first | (go_keep; done) | (simp [go_sem, *]; done)) hb
  have k5_t1 := cell_keep (a := ⟨w1.heap.size, 1, none⟩) (v := .int .i64 A2) (by first | (go_keep; done) | (simp [go_sem, *]; done)) hb
  have k5_t2 := cell_keep (a := ⟨w1.heap.size, 2, none⟩) (v := .int .i64 A3) (by first | (go_keep; done) | (simp [go_sem, *]; done)) hb
  have l5_t := World.block_lt_of_cell? _ _ k5_t0
  try simp only at l5_t
  have k5_a0 := cell_keep (a := ⟨w4.heap.size, 0, none⟩) (v := .int .i64 A1) (by first | (go_keep; done) | (simp [go_sem, *]; done)) hb
  have k5_a1 := cell_keep (a := ⟨w4.heap.size, 1, none⟩) (v := .int .i64 A2) (by first | (go_keep; done) | (simp [go_sem, *]; done)) hb
  have k5_a2 := cell_keep (a := ⟨w4.heap.size, 2, none⟩) (v := .int .i64 A3) (by first | (go_keep; done) | (simp [go_sem, *]; done)) hb
  have l5_a := World.block_lt_of_cell? _ _ k5_a0
  try simp only at l5_a
  clear hb k4_u0 k4_u1 k4_u2 l4_u k4_t0 k4_t1 k4_t2 l4_t W4
  go_wp2_with fail
  refine (CX.out _).mono ?_
  rintro e w6 ⟨rfl, hb⟩
  have W6 := Lib.hid (blw_trans (show Below w.heap.size w _ by repeat (first | exact W5.out | refine blw_drewN ?_ _ | refine Below.setCell ?_ (by first | (simp; done) | omega | (simp; omega)) _ | refine Below.alloc ?_ (by first | (simp; done) | omega | (simp; omega)) _)) hb)
  have n6 := hb.size
  try simp at n6
  have k6_u0 := cell_keep (a := ⟨w.heap.size + 1, 0, none⟩) (v := .int .i64 p) (by first | (go_keep; done) | (simp [go_sem, *]; done)) hb
  have k6_u1 := cell_keep (a := ⟨w.heap.size + 1, 1, none⟩) (v := .int .i64 q) (by first | (go_keep; done) | (simp [go_sem, *]; done)) hb
  have k6_u2 := cell_keep (a := ⟨w.heap.size + 1, 2, none⟩) (v := .int .i64 r) (by first | (go_keep; done) | (simp [go_sem, *]; done)) hb
  have l6_u := World.block_lt_of_cell? _ _ k6_u0
  try simp only at l6_u
  have k6_t0 := cell_keep (a := ⟨w1.heap.size, 0, none⟩) (v := .int .i64 A1) (by first | (go_keep; done) | (simp [go_sem, *]; done)) hb
  have k6_t1 := cell_keep (a := ⟨w1.heap.size, 1, none⟩) (v := .int .i64 A2) (by first | (go_keep; done) | (simp [go_sem, *]; done)) hb
  have k6_t2 := cell_keep (a := ⟨w1.heap.size, 2, none⟩) (v := .int .i64 A3) (by first | (go_keep; done) | (simp [go_sem, *]; done)) hb
  have l6_t := World.block_lt_of_cell? _ _ k6_t0
  try simp only at l6_t
  have k6_a0 := cell_keep (a := ⟨w4.heap.size, 0, none⟩) (v := .int .i64 A1) (by first | (go_keep; done) | (simp [go_sem, *]; done)) hb
  have k6_a1 := cell_keep (a := ⟨w4.heap.size, 1, none⟩) (v := .int .i64 A2) (by first | (go_keep; done) | (simp [go_sem, *]; done)) hb
  have k6_a2 := cell_keep (a := ⟨w4.heap.size, 2, none⟩) (v := .int .i64 A3) (by first | (go_keep; done) | (simp [go_sem, *]; done)) hb
  have l6_a := World.block_lt_of_cell? _ _ k6_a0
  try simp only at l6_a
  clear hb k5_u0 k5_u1 k5_u2 l5_u k5_t0 k5_t1 k5_t2 l5_t k5_a0 k5_a1 k5_a2 l5_a W5
  have ne3 : ¬ w6.heap.size = w.heap.size + 1 := by omega
  have me3 : ¬ w.heap.size + 1 = w6.heap.size := by omega
  have ne4 : ¬ w6.heap.size = w1.heap.size := by omega
  have me4 : ¬ w1.heap.size = w6.heap.size := by omega
  have ne5 : ¬ w6.heap.size = w4.heap.size := by omega
  have me5 : ¬ w4.heap.size = w6.heap.size := by omega
  go_wp2_with fail
  refine wp_region_held_drew (S := fun w' => w'.cell? ⟨w.heap.size + 1, 0, none⟩ = some (.int .i64 p) ∧ w'.cell? ⟨w.heap.size + 1, 1, none⟩ = some (.int .i64 q) ∧ w'.cell? ⟨w.heap.size + 1, 2, none⟩ = some (.int .i64 r) ∧ w'.cell? ⟨w1.heap.size, 0, none⟩ = some (.int .i64 A1) ∧ w'.cell? ⟨w1.heap.size, 1, none⟩ = some (.int .i64 A2) ∧ w'.cell? ⟨w1.heap.size, 2, none⟩ = some (.int .i64 A3) ∧ w'.cell? ⟨w4.heap.size, 0, none⟩ = some (.int .i64 A1) ∧ w'.cell? ⟨w4.heap.size, 1, none⟩ = some (.int .i64 A2) ∧ w'.cell? ⟨w4.heap.size, 2, none⟩ = some (.int .i64 A3) ∧ w'.cell? ⟨w6.heap.size, 0, none⟩ = some (.int .i64 0) ∧ w'.cell? ⟨w6.heap.size, 1, none⟩ = some (.int .i64 0) ∧ w'.cell? ⟨w6.heap.size, 2, none⟩ = some (.int .i64 0) ∧ w'.frozen? ⟨w6.heap.size, 0, none⟩ = false ∧ w'.frozen? ⟨w6.heap.size, 1, none⟩ = false ∧ w'.frozen? ⟨w6.heap.size, 2, none⟩ = false ∧ Hid (Below w.heap.size w w')) (by kernel_rfl) (by refine ⟨by go_keep, by go_keep, by go_keep, by go_keep, by go_keep, by go_keep, by go_keep, by go_keep, by go_keep, by go_keep, by go_keep, by go_keep, by simp [go_sem], by simp [go_sem], by simp [go_sem], Lib.hid (Below.drew ?_)⟩; repeat (first | exact W6.out | refine blw_drewN ?_ _ | refine Below.setCell ?_ (by first | (simp; done) | omega | (simp; omega)) _ | refine Below.alloc ?_ (by first | (simp; done) | omega | (simp; omega)) _)) (fun hHeld => ?_)
  refine take_run (d := (some 41)) (v := ?v69) 0 rfl rfl (by kernel_rfl) (by kernel_rfl) (by kernel_rfl) (fun _ _ _ h => h) (by rfl) hHeld ?hy69 ?rs69
  case hy69 => (intro w hSw; (try dsimp only at hSw); go_simp) <;> (try with_reducible rfl)
  (try simp only [Act.put, List.setIfInBounds_toArray, List.set_cons_zero, List.set_cons_succ])
  refine take_run (d := (some 42)) (v := ?v70) 1 rfl rfl (by kernel_rfl) (by kernel_rfl) (by kernel_rfl) (fun _ _ _ h => h) (by rfl) hHeld ?hy70 ?rs70
  case hy70 => (intro w hSw; (try dsimp only at hSw); go_simp) <;> (try with_reducible rfl)
  (try simp only [Act.put, List.setIfInBounds_toArray, List.set_cons_zero, List.set_cons_succ])
  refine take_run (d := (some 43)) (v := ?v71) 2 rfl rfl (by kernel_rfl) (by kernel_rfl) (by kernel_rfl) (fun _ _ _ h => h) (by rfl) hHeld ?hy71 ?rs71
  case hy71 => (intro w hSw; (try dsimp only at hSw); go_simp) <;> (try with_reducible rfl)
  (try simp only [Act.put, List.setIfInBounds_toArray, List.set_cons_zero, List.set_cons_succ])
  refine take_run (d := (some 46)) (v := ?v72) 5 rfl rfl (by kernel_rfl) (by kernel_rfl) (by kernel_rfl) (fun _ _ _ h => h) (by rfl) hHeld ?hy72 ?rs72
  case hy72 => (intro w hSw; (try dsimp only at hSw); go_simp) <;> (try with_reducible rfl)
  (try simp only [Act.put, List.setIfInBounds_toArray, List.set_cons_zero, List.set_cons_succ])
  refine take_run (d := (some 47)) (v := ?v73) 6 rfl rfl (by kernel_rfl) (by kernel_rfl) (by kernel_rfl) (fun _ _ _ h => h) (by rfl) hHeld ?hy73 ?rs73
  case hy73 => (intro w hSw; (try dsimp only at hSw); go_simp) <;> (try with_reducible rfl)
  (try simp only [Act.put, List.setIfInBounds_toArray, List.set_cons_zero, List.set_cons_succ])
  refine take_run (d := (some 48)) (v := ?v74) 7 rfl rfl (by kernel_rfl) (by kernel_rfl) (by kernel_rfl) (fun _ _ _ h => h) (by rfl) hHeld ?hy74 ?rs74
  case hy74 => (intro w hSw; (try dsimp only at hSw); go_simp) <;> (try with_reducible rfl)
  (try simp only [Act.put, List.setIfInBounds_toArray, List.set_cons_zero, List.set_cons_succ])
  refine take_run (d := (some 52)) (v := ?v75) 11 rfl rfl (by kernel_rfl) (by kernel_rfl) (by kernel_rfl) (fun _ _ _ h => h) (by rfl) hHeld ?hy75 ?rs75
  case hy75 => (intro w hSw; (try dsimp only at hSw); go_simp) <;> (try with_reducible rfl)
  (try simp only [Act.put, List.setIfInBounds_toArray, List.set_cons_zero, List.set_cons_succ])
  refine take_run (d := (some 53)) (v := ?v76) 12 rfl rfl (by kernel_rfl) (by kernel_rfl) (by kernel_rfl) (fun _ _ _ h => h) (by rfl) hHeld ?hy76 ?rs76
  case hy76 => (intro w hSw; (try dsimp only at hSw); go_simp) <;> (try with_reducible rfl)
  (try simp only [Act.put, List.setIfInBounds_toArray, List.set_cons_zero, List.set_cons_succ])
  refine take_run (d := (some 54)) (v := ?v77) 13 rfl rfl (by kernel_rfl) (by kernel_rfl) (by kernel_rfl) (fun _ _ _ h => h) (by rfl) hHeld ?hy77 ?rs77
  case hy77 => (intro w hSw; (try dsimp only at hSw); go_simp) <;> (try with_reducible rfl)
  (try simp only [Act.put, List.setIfInBounds_toArray, List.set_cons_zero, List.set_cons_succ])
  refine take_call 3 rfl (by kernel_rfl) (by rfl) (fun K hK => ?_)
  go_simp
  refine (D1.out _).mono ?_
  rintro e w' ⟨rfl, hb⟩
  refine hK.out _ _ (by obtain ⟨h0, h1, h2, h3, h4, h5, h6, h7, h8, h9, h10, h11, h12, h13, h14, hw⟩ := hHeld; exact ⟨cell_keep h0 hb, cell_keep h1 hb, cell_keep h2 hb, cell_keep h3 hb, cell_keep h4 hb, cell_keep h5 hb, cell_keep h6 hb, cell_keep h7 hb, cell_keep h8 hb, cell_keep h9 hb, cell_keep h10 hb, cell_keep h11 hb, free_keep h9 h12 hb, free_keep h10 h13 hb, free_keep h11 h14 hb, Lib.hid (blw_trans hw.out hb)⟩) (fun hHeld => ?_)
  clear hK K
  (try simp only [Act.put, List.setIfInBounds_toArray, List.set_cons_zero, List.set_cons_succ])
  refine take_run (d := (some 45)) (v := ?v79) 4 rfl rfl (by kernel_rfl) (by kernel_rfl) (by kernel_rfl) (fun _ _ _ h => h) (by rfl) hHeld ?hy79 ?rs79
  case hy79 => (intro w hSw; (try dsimp only at hSw); go_simp) <;> (try with_reducible rfl)
  (try simp only [Act.put, List.setIfInBounds_toArray, List.set_cons_zero, List.set_cons_succ])
  refine take_call 8 rfl (by kernel_rfl) (by rfl) (fun K hK => ?_)
  go_simp
  refine (D2.out _).mono ?_
  rintro e w' ⟨rfl, hb⟩
  refine hK.out _ _ (by obtain ⟨h0, h1, h2, h3, h4, h5, h6, h7, h8, h9, h10, h11, h12, h13, h14, hw⟩ := hHeld; exact ⟨cell_keep h0 hb, cell_keep h1 hb, cell_keep h2 hb, cell_keep h3 hb, cell_keep h4 hb, cell_keep h5 hb, cell_keep h6 hb, cell_keep h7 hb, cell_keep h8 hb, cell_keep h9 hb, cell_keep h10 hb, cell_keep h11 hb, free_keep h9 h12 hb, free_keep h10 h13 hb, free_keep h11 h14 hb, Lib.hid (blw_trans hw.out hb)⟩) (fun hHeld => ?_)
  clear hK K
  (try simp only [Act.put, List.setIfInBounds_toArray, List.set_cons_zero, List.set_cons_succ])
  refine take_run (d := (some 50)) (v := ?v81) 9 rfl rfl (by kernel_rfl) (by kernel_rfl) (by kernel_rfl) (fun _ _ _ h => h) (by rfl) hHeld ?hy81 ?rs81
  case hy81 => (intro w hSw; (try dsimp only at hSw); go_simp) <;> (try with_reducible rfl)
  (try simp only [Act.put, List.setIfInBounds_toArray, List.set_cons_zero, List.set_cons_succ])
  refine take_run (d := (some 51)) (v := ?v82) 10 rfl rfl (by kernel_rfl) (by kernel_rfl) (by kernel_rfl) (fun _ _ _ h => h) (by rfl) hHeld ?hy82 ?rs82
  case hy82 => (intro w hSw; (try dsimp only at hSw); go_simp) <;> (try with_reducible rfl)
  (try simp only [Act.put, List.setIfInBounds_toArray, List.set_cons_zero, List.set_cons_succ])
  refine take_call 14 rfl (by kernel_rfl) (by rfl) (fun K hK => ?_)
  go_simp
  refine (D3.out _).mono ?_
  rintro e w' ⟨rfl, hb⟩
  refine hK.out _ _ (by obtain ⟨h0, h1, h2, h3, h4, h5, h6, h7, h8, h9, h10, h11, h12, h13, h14, hw⟩ := hHeld; exact ⟨cell_keep h0 hb, cell_keep h1 hb, cell_keep h2 hb, cell_keep h3 hb, cell_keep h4 hb, cell_keep h5 hb, cell_keep h6 hb, cell_keep h7 hb, cell_keep h8 hb, cell_keep h9 hb, cell_keep h10 hb, cell_keep h11 hb, free_keep h9 h12 hb, free_keep h10 h13 hb, free_keep h11 h14 hb, Lib.hid (blw_trans hw.out hb)⟩) (fun hHeld => ?_)
  clear hK K
  (try simp only [Act.put, List.setIfInBounds_toArray, List.set_cons_zero, List.set_cons_succ])
  refine take_run (d := (some 56)) (v := ?v84) 15 rfl rfl (by kernel_rfl) (by kernel_rfl) (by kernel_rfl) (fun _ _ _ h => h) (by rfl) hHeld ?hy84 ?rs84
  case hy84 => (intro w hSw; (try dsimp only at hSw); go_simp) <;> (try with_reducible rfl)
  (try simp only [Act.put, List.setIfInBounds_toArray, List.set_cons_zero, List.set_cons_succ])
  refine take_run (d := (some 15)) (v := ?v85) 16 rfl rfl (by kernel_rfl) (by kernel_rfl) (by kernel_rfl) (fun _ _ _ h => h) (by rfl) hHeld ?hy85 ?rs85
  case hy85 => (intro w hSw; (try dsimp only at hSw); go_simp) <;> (try with_reducible rfl)
  (try simp only [Act.put, List.setIfInBounds_toArray, List.set_cons_zero, List.set_cons_succ])
  refine wpAnyH_done (by kernel_rfl) ?_ _
  obtain ⟨z0, z1, z2, z3, z4, z5, z6, z7, z8, z9, z10, z11, z12, z13, z14, zW⟩ := hHeld
  have lz_u := World.block_lt_of_cell? _ _ z0
  try simp only at lz_u
  have lz_t := World.block_lt_of_cell? _ _ z3
  try simp only at lz_t
  have lz_a := World.block_lt_of_cell? _ _ z6
  try simp only at lz_a
  have lz_x := World.block_lt_of_cell? _ _ z9
  try simp only at lz_x
  go_wp2_with fail
  refine (CB.out _ (hT.below (by repeat (first | exact zW.out | refine blw_drewN ?_ _ | refine Below.setCell ?_ (by first | (simp; done) | omega | (simp; omega)) _ | refine Below.alloc ?_ (by first | (simp; done) | omega | (simp; omega)) _)))).mono ?_
  rintro e w107 ⟨rfl, hb⟩
  have W107 := Lib.hid (blw_trans (show Below w.heap.size w _ by repeat (first | exact zW.out | refine blw_drewN ?_ _ | refine Below.setCell ?_ (by first | (simp; done) | omega | (simp; omega)) _ | refine Below.alloc ?_ (by first | (simp; done) | omega | (simp; omega)) _)) hb)
  have n107 := hb.size
  try simp at n107
  have k107_u0 := cell_keep (a := ⟨w.heap.size + 1, 0, none⟩) (v := .int .i64 p) (by first | (go_keep; done) | (simp [go_sem, *]; done)) hb
  have k107_u1 := cell_keep (a := ⟨w.heap.size + 1, 1, none⟩) (v := .int .i64 q) (by first | (go_keep; done) | (simp [go_sem, *]; done)) hb
  have k107_u2 := cell_keep (a := ⟨w.heap.size + 1, 2, none⟩) (v := .int .i64 r) (by first | (go_keep; done) | (simp [go_sem, *]; done)) hb
  have l107_u := World.block_lt_of_cell? _ _ k107_u0
  try simp only at l107_u
  have k107_t0 := cell_keep (a := ⟨w1.heap.size, 0, none⟩) (v := .int .i64 A1) (by first | (go_keep; done) | (simp [go_sem, *]; done)) hb
  have k107_t1 := cell_keep (a := ⟨w1.heap.size, 1, none⟩) (v := .int .i64 A2) (by first | (go_keep; done) | (simp [go_sem, *]; done)) hb
  have k107_t2 := cell_keep (a := ⟨w1.heap.size, 2, none⟩) (v := .int .i64 A3) (by first | (go_keep; done) | (simp [go_sem, *]; done)) hb
  have l107_t := World.block_lt_of_cell? _ _ k107_t0
  try simp only at l107_t
  have k107_a0 := cell_keep (a := ⟨w4.heap.size, 0, none⟩) (v := .int .i64 A1) (by first | (go_keep; done) | (simp [go_sem, *]; done)) hb
  have k107_a1 := cell_keep (a := ⟨w4.heap.size, 1, none⟩) (v := .int .i64 A2) (by first | (go_keep; done) | (simp [go_sem, *]; done)) hb
  have k107_a2 := cell_keep (a := ⟨w4.heap.size, 2, none⟩) (v := .int .i64 A3) (by first | (go_keep; done) | (simp [go_sem, *]; done)) hb
  have l107_a := World.block_lt_of_cell? _ _ k107_a0
  try simp only at l107_a
  have k107_x0 := cell_keep (a := ⟨w6.heap.size, 0, none⟩) (v := .int .i64 0) (by first | (go_keep; done) | (simp [go_sem, *]; done)) hb
  have k107_x1 := cell_keep (a := ⟨w6.heap.size, 1, none⟩) (v := .int .i64 0) (by first | (go_keep; done) | (simp [go_sem, *]; done)) hb
  have k107_x2 := cell_keep (a := ⟨w6.heap.size, 2, none⟩) (v := .int .i64 0) (by first | (go_keep; done) | (simp [go_sem, *]; done)) hb
  have l107_x := World.block_lt_of_cell? _ _ k107_x0
  try simp only at l107_x
  clear hb z0 z1 z2 z3 z4 z5 z6 z7 z8 z9 z10 z11 z12 z13 z14 lz_u lz_t lz_a lz_x zW
  go_wp2_with fail
  refine (E1.out _ (hT.below (by repeat (first | exact W107.out | refine blw_drewN ?_ _ | refine Below.setCell ?_ (by first | (simp; done) | omega | (simp; omega)) _ | refine Below.alloc ?_ (by first | (simp; done) | omega | (simp; omega)) _)))).mono ?_
  rintro e w108 ⟨rfl, hb⟩
  have W108 := Lib.hid (blw_trans (show Below w.heap.size w _ by repeat (first | exact W107.out | refine blw_drewN ?_ _ | refine Below.setCell ?_ (by first | (simp; done) | omega | (simp; omega)) _ | refine Below.alloc ?_ (by first | (simp; done) | omega | (simp; omega)) _)) hb)
  have n108 := hb.size
  try simp at n108
  have k108_u0 := cell_keep (a := ⟨w.heap.size + 1, 0, none⟩) (v := .int .i64 p) (by first | (go_keep; done) | (simp [go_sem, *]; done)) hb
  have k108_u1 := cell_keep (a := ⟨w.heap.size + 1, 1, none⟩) (v := .int .i64 q) (by first | (go_keep; done) | (simp [go_sem, *]; done)) hb
  have k108_u2 := cell_keep (a := ⟨w.heap.size + 1, 2, none⟩) (v := .int .i64 r) (by first | (go_keep; done) | (simp [go_sem, *]; done)) hb
  have l108_u := World.block_lt_of_cell? _ _ k108_u0
  try simp only at l108_u
  have k108_t0 := cell_keep (a := ⟨w1.heap.size, 0, none⟩) (v := .int .i64 A1) (by first | (go_keep; done) | (simp [go_sem, *]; done)) hb
  have k108_t1 := cell_keep (a := ⟨w1.heap.size, 1, none⟩) (v := .int .i64 A2) (by first | (go_keep; done) | (simp [go_sem, *]; done)) hb
  have k108_t2 := cell_keep (a := ⟨w1.heap.size, 2, none⟩) (v := .int .i64 A3) (by first | (go_keep; done) | (simp [go_sem, *]; done)) hb
  have l108_t := World.block_lt_of_cell? _ _ k108_t0
  try simp only at l108_t
  have k108_a0 := cell_keep (a := ⟨w4.heap.size, 0, none⟩) (v := .int .i64 A1) (by first | (go_keep; done) | (simp [go_sem, *]; done)) hb
  have k108_a1 := cell_keep (a := ⟨w4.heap.size, 1, none⟩) (v := .int .i64 A2) (by first | (go_keep; done) | (simp [go_sem, *]; done)) hb
  have k108_a2 := cell_keep (a := ⟨w4.heap.size, 2, none⟩) (v := .int .i64 A3) (by first | (go_keep; done) | (simp [go_sem, *]; done)) hb
  have l108_a := World.block_lt_of_cell? _ _ k108_a0
  try simp only at l108_a
  have k108_x0 := cell_keep (a := ⟨w6.heap.size, 0, none⟩) (v := .int .i64 0) (by first | (go_keep; done) | (simp [go_sem, *]; done)) hb
  have k108_x1 := cell_keep (a := ⟨w6.heap.size, 1, none⟩) (v := .int .i64 0) (by first | (go_keep; done) | (simp [go_sem, *]; done)) hb
  have k108_x2 := cell_keep (a := ⟨w6.heap.size, 2, none⟩) (v := .int .i64 0) (by first | (go_keep; done) | (simp [go_sem, *]; done)) hb
  have l108_x := World.block_lt_of_cell? _ _ k108_x0
  try simp only at l108_x
  have k108_b0 := cell_keep (a := ⟨w107.heap.size, 0, none⟩) (v := .int .i64 0) (by first | (go_keep; done) | (simp [go_sem, *]; done)) hb
  have k108_b1 := cell_keep (a := ⟨w107.heap.size, 1, none⟩) (v := .int .i64 0) (by first | (go_keep; done) | (simp [go_sem, *]; done)) hb
  have k108_b2 := cell_keep (a := ⟨w107.heap.size, 2, none⟩) (v := .int .i64 0) (by first | (go_keep; done) | (simp [go_sem, *]; done)) hb
  have l108_b := World.block_lt_of_cell? _ _ k108_b0
  try simp only at l108_b
  clear hb k107_u0 k107_u1 k107_u2 l107_u k107_t0 k107_t1 k107_t2 l107_t k107_a0 k107_a1 k107_a2 l107_a k107_x0 k107_x1 k107_x2 l107_x W107
  go_wp2_with fail
  refine (CT.out _ (hT.below (by repeat (first | exact W108.out | refine blw_drewN ?_ _ | refine Below.setCell ?_ (by first | (simp; done) | omega | (simp; omega)) _ | refine Below.alloc ?_ (by first | (simp; done) | omega | (simp; omega)) _)))).mono ?_
  rintro e w109 ⟨rfl, hb⟩
  have W109 := Lib.hid (blw_trans (show Below w.heap.size w _ by repeat (first | exact W108.out | refine blw_drewN ?_ _ | refine Below.setCell ?_ (by first | (simp; done) | omega | (simp; omega)) _ | refine Below.alloc ?_ (by first | (simp; done) | omega | (simp; omega)) _)) hb)
  have n109 := hb.size
  try simp at n109
  have k109_u0 := cell_keep (a := ⟨w.heap.size + 1, 0, none⟩) (v := .int .i64 p) (by first | (go_keep; done) | (simp [go_sem, *]; done)) hb
  have k109_u1 := cell_keep (a := ⟨w.heap.size + 1, 1, none⟩) (v := .int .i64 q) (by first | (go_keep; done) | (simp [go_sem, *]; done)) hb
  have k109_u2 := cell_keep (a := ⟨w.heap.size + 1, 2, none⟩) (v := .int .i64 r) (by first | (go_keep; done) | (simp [go_sem, *]; done)) hb
  have l109_u := World.block_lt_of_cell? _ _ k109_u0
  try simp only at l109_u
  have k109_t0 := cell_keep (a := ⟨w1.heap.size, 0, none⟩) (v := .int .i64 A1) (by first | (go_keep; done) | (simp [go_sem, *]; done)) hb
  have k109_t1 := cell_keep (a := ⟨w1.heap.size, 1, none⟩) (v := .int .i64 A2) (by first | (go_keep; done) | (simp [go_sem, *]; done)) hb
  have k109_t2 := cell_keep (a := ⟨w1.heap.size, 2, none⟩) (v := .int .i64 A3) (by first | (go_keep; done) | (simp [go_sem, *]; done)) hb
  have l109_t := World.block_lt_of_cell? _ _ k109_t0
  try simp only at l109_t
  have k109_a0 := cell_keep (a := ⟨w4.heap.size, 0, none⟩) (v := .int .i64 A1) (by first | (go_keep; done) | (simp [go_sem, *]; done)) hb
  have k109_a1 := cell_keep (a := ⟨w4.heap.size, 1, none⟩) (v := .int .i64 A2) (by first | (go_keep; done) | (simp [go_sem, *]; done)) hb
  have k109_a2 := cell_keep (a := ⟨w4.heap.size, 2, none⟩) (v := .int .i64 A3) (by first | (go_keep; done) | (simp [go_sem, *]; done)) hb
  have l109_a := World.block_lt_of_cell? _ _ k109_a0
  try simp only at l109_a
  have k109_x0 := cell_keep (a := ⟨w6.heap.size, 0, none⟩) (v := .int .i64 0) (by first | (go_keep; done) | (simp [go_sem, *]; done)) hb
  have k109_x1 := cell_keep (a := ⟨w6.heap.size, 1, none⟩) (v := .int .i64 0) (by first | (go_keep; done) | (simp [go_sem, *]; done)) hb
  have k109_x2 := cell_keep (a := ⟨w6.heap.size, 2, none⟩) (v := .int .i64 0) (by first | (go_keep; done) | (simp [go_sem, *]; done)) hb
  have l109_x := World.block_lt_of_cell? _ _ k109_x0
  try simp only at l109_x
  have k109_b0 := cell_keep (a := ⟨w107.heap.size, 0, none⟩) (v := .int .i64 0) (by first | (go_keep; done) | (simp [go_sem, *]; done)) hb
  have k109_b1 := cell_keep (a := ⟨w107.heap.size, 1, none⟩) (v := .int .i64 0) (by first | (go_keep; done) | (simp [go_sem, *]; done)) hb
  have k109_b2 := cell_keep (a := ⟨w107.heap.size, 2, none⟩) (v := .int .i64 0) (by first | (go_keep; done) | (simp [go_sem, *]; done)) hb
  have l109_b := World.block_lt_of_cell? _ _ k109_b0
  try simp only at l109_b
  clear hb k108_u0 k108_u1 k108_u2 l108_u k108_t0 k108_t1 k108_t2 l108_t k108_a0 k108_a1 k108_a2 l108_a k108_x0 k108_x1 k108_x2 l108_x k108_b0 k108_b1 k108_b2 l108_b W108
  go_wp2_with fail
  refine (E1.out _ (hT.below (by repeat (first | exact W109.out | refine blw_drewN ?_ _ | refine Below.setCell ?_ (by first | (simp; done) | omega | (simp; omega)) _ | refine Below.alloc ?_ (by first | (simp; done) | omega | (simp; omega)) _)))).mono ?_
  rintro e w110 ⟨rfl, hb⟩
  have W110 := Lib.hid (blw_trans (show Below w.heap.size w _ by repeat (first | exact W109.out | refine blw_drewN ?_ _ | refine Below.setCell ?_ (by first | (simp; done) | omega | (simp; omega)) _ | refine Below.alloc ?_ (by first | (simp; done) | omega | (simp; omega)) _)) hb)
  have n110 := hb.size
  try simp at n110
  have k110_t0 := cell_keep (a := ⟨w1.heap.size, 0, none⟩) (v := .int .i64 A1) (by first | (go_keep; done) | (simp [go_sem, *]; done)) hb
  have k110_t1 := cell_keep (a := ⟨w1.heap.size, 1, none⟩) (v := .int .i64 A2) (by first | (go_keep; done) | (simp [go_sem, *]; done)) hb
  have k110_t2 := cell_keep (a := ⟨w1.heap.size, 2, none⟩) (v := .int .i64 A3) (by first | (go_keep; done) | (simp [go_sem, *]; done)) hb
  have l110_t := World.block_lt_of_cell? _ _ k110_t0
  try simp only at l110_t
  have k110_a0 := cell_keep (a := ⟨w4.heap.size, 0, none⟩) (v := .int .i64 A1) (by first | (go_keep; done) | (simp [go_sem, *]; done)) hb
  have k110_a1 := cell_keep (a := ⟨w4.heap.size, 1, none⟩) (v := .int .i64 A2) (by first | (go_keep; done) | (simp [go_sem, *]; done)) hb
  have k110_a2 := cell_keep (a := ⟨w4.heap.size, 2, none⟩) (v := .int .i64 A3) (by first | (go_keep; done) | (simp [go_sem, *]; done)) hb
  have l110_a := World.block_lt_of_cell? _ _ k110_a0
  try simp only at l110_a
  have k110_x0 := cell_keep (a := ⟨w6.heap.size, 0, none⟩) (v := .int .i64 0) (by first | (go_keep; done) | (simp [go_sem, *]; done)) hb
  have k110_x1 := cell_keep (a := ⟨w6.heap.size, 1, none⟩) (v := .int .i64 0) (by first | (go_keep; done) | (simp [go_sem, *]; done)) hb
  have k110_x2 := cell_keep (a := ⟨w6.heap.size, 2, none⟩) (v := .int .i64 0) (by first | (go_keep; done) | (simp [go_sem, *]; done)) hb
  have l110_x := World.block_lt_of_cell? _ _ k110_x0
  try simp only at l110_x
  have k110_b0 := cell_keep (a := ⟨w107.heap.size, 0, none⟩) (v := .int .i64 0) (by first | (go_keep; done) | (simp [go_sem, *]; done)) hb
  have k110_b1 := cell_keep (a := ⟨w107.heap.size, 1, none⟩) (v := .int .i64 0) (by first | (go_keep; done) | (simp [go_sem, *]; done)) hb
  have k110_b2 := cell_keep (a := ⟨w107.heap.size, 2, none⟩) (v := .int .i64 0) (by first | (go_keep; done) | (simp [go_sem, *]; done)) hb
  have l110_b := World.block_lt_of_cell? _ _ k110_b0
  try simp only at l110_b
  clear hb k109_u0 k109_u1 k109_u2 l109_u k109_t0 k109_t1 k109_t2 l109_t k109_a0 k109_a1 k109_a2 l109_a k109_x0 k109_x1 k109_x2 l109_x k109_b0 k109_b1 k109_b2 l109_b W109
  go_wp2_with fail
  refine (CN.out _).mono ?_
  rintro e w' ⟨rfl, rfl⟩
  go_wp2_with fail
  refine (E1.out _ (hT.below (by repeat (first | exact W110.out | refine blw_drewN ?_ _ | refine Below.setCell ?_ (by first | (simp; done) | omega | (simp; omega)) _ | refine Below.alloc ?_ (by first | (simp; done) | omega | (simp; omega)) _)))).mono ?_
  rintro e w111 ⟨rfl, hb⟩
  have W111 := Lib.hid (blw_trans (show Below w.heap.size w _ by repeat (first | exact W110.out | refine blw_drewN ?_ _ | refine Below.setCell ?_ (by first | (simp; done) | omega | (simp; omega)) _ | refine Below.alloc ?_ (by first | (simp; done) | omega | (simp; omega)) _)) hb)
  have n111 := hb.size
  try simp at n111
  have k111_t0 := cell_keep (a := ⟨w1.heap.size, 0, none⟩) (v := .int .i64 A1) (by first | (go_keep; done) | (simp [go_sem, *]; done)) hb
  have k111_t1 := cell_keep (a := ⟨w1.heap.size, 1, none⟩) (v := .int .i64 A2) (by first | (go_keep; done) | (simp [go_sem, *]; done)) hb
  have k111_t2 := cell_keep (a := ⟨w1.heap.size, 2, none⟩) (v := .int .i64 A3) (by first | (go_keep; done) | (simp [go_sem, *]; done)) hb
  have l111_t := World.block_lt_of_cell? _ _ k111_t0
  try simp only at l111_t
  have k111_a0 := cell_keep (a := ⟨w4.heap.size, 0, none⟩) (v := .int .i64 A1) (by first | (go_keep; done) | (simp [go_sem, *]; done)) hb
  have k111_a1 := cell_keep (a := ⟨w4.heap.size, 1, none⟩) (v := .int .i64 A2) (by first | (go_keep; done) | (simp [go_sem, *]; done)) hb
  have k111_a2 := cell_keep (a := ⟨w4.heap.size, 2, none⟩) (v := .int .i64 A3) (by first | (go_keep; done) | (simp [go_sem, *]; done)) hb
  have l111_a := World.block_lt_of_cell? _ _ k111_a0
  try simp only at l111_a
  have k111_x0 := cell_keep (a := ⟨w6.heap.size, 0, none⟩) (v := .int .i64 0) (by first | (go_keep; done) | (simp [go_sem, *]; done)) hb
  have k111_x1 := cell_keep (a := ⟨w6.heap.size, 1, none⟩) (v := .int .i64 0) (by first | (go_keep; done) | (simp [go_sem, *]; done)) hb
  have k111_x2 := cell_keep (a := ⟨w6.heap.size, 2, none⟩) (v := .int .i64 0) (by first | (go_keep; done) | (simp [go_sem, *]; done)) hb
  have l111_x := World.block_lt_of_cell? _ _ k111_x0
  try simp only at l111_x
  have k111_b0 := cell_keep (a := ⟨w107.heap.size, 0, none⟩) (v := .int .i64 0) (by first | (go_keep; done) | (simp [go_sem, *]; done)) hb
  have k111_b1 := cell_keep (a := ⟨w107.heap.size, 1, none⟩) (v := .int .i64 0) (by first | (go_keep; done) | (simp [go_sem, *]; done)) hb
  have k111_b2 := cell_keep (a := ⟨w107.heap.size, 2, none⟩) (v := .int .i64 0) (by first | (go_keep; done) | (simp [go_sem, *]; done)) hb
  have l111_b := World.block_lt_of_cell? _ _ k111_b0
  try simp only at l111_b
  clear hb k110_t0 k110_t1 k110_t2 l110_t k110_a0 k110_a1 k110_a2 l110_a k110_x0 k110_x1 k110_x2 l110_x k110_b0 k110_b1 k110_b2 l110_b W110
  go_wp2
  go_ret
  exact ⟨ret_bool (by simp), by repeat (first | exact W111.out | refine blw_drewN ?_ _ | refine Below.setCell ?_ (by first | (simp; done) | omega | (simp; omega)) _ | refine Below.alloc ?_ (by first | (simp; done) | omega | (simp; omega)) _)⟩

set_option maxRecDepth 100000 in
set_option maxHeartbeats 4000000 in
theorem weekTells_dngt (y m d p q r x p0 q0 r0 A1 A2 A3 : Int) (P Q R T : List UInt8) (w : World) (hT : TPH w)
    (lp : P.length ≤ 120) (lq : Q.length ≤ 120) (lr : R.length ≤ 120) (HX : P ++ [45, 87] ++ Q ++ [45] ++ R = T)
    (mp : max p 0 = p0) (mq : max q 0 = q0) (mr : max r 0 = r0)
    (CF : Hid (∀ w : World, Calls Tryd.prog 6 #[.agg #[.int .i64 y, .int .i64 m, .int .i64 d]] w fun e w' => e = .returned (.bool false) ∧ Below w.heap.size w w'))
    (CW : Hid (∀ w : World, Calls Tryd.prog 7 #[.agg #[.int .i64 y, .int .i64 m, .int .i64 d]] w fun e w' => e = .returned (.agg #[.int .i64 A1, .int .i64 A2, .int .i64 A3]) ∧ Below w.heap.size w w'))
    (CO : Hid (∀ w : World, TPH w → Calls Tryd.prog 8 #[.agg #[.int .i64 y, .int .i64 m, .int .i64 d]] w fun e w' => e = .returned (.tuple #[.agg #[.int .i64 A1, .int .i64 A2, .int .i64 A3], .nilIface]) ∧ Below w.heap.size w w'))
    (CX : Hid (∀ w : World, Calls Tryd.prog 10 #[.agg #[.int .i64 p, .int .i64 q, .int .i64 r]] w fun e w' => e = .returned (.tuple #[.agg #[.int .i64 0, .int .i64 0, .int .i64 0], .bool false]) ∧ Below w.heap.size w w'))
    (D1 : Hid (∀ w : World, Calls Tryd.prog 11 #[.int .i64 p0, .int .i64 4] w fun e w' => e = .returned (.string ⟨P.toArray⟩) ∧ Below w.heap.size w w'))
    (D2 : Hid (∀ w : World, Calls Tryd.prog 11 #[.int .i64 q0, .int .i64 2] w fun e w' => e = .returned (.string ⟨Q.toArray⟩) ∧ Below w.heap.size w w'))
    (D3 : Hid (∀ w : World, Calls Tryd.prog 11 #[.int .i64 r0, .int .i64 1] w fun e w' => e = .returned (.string ⟨R.toArray⟩) ∧ Below w.heap.size w w'))
    (CB : Hid (∀ w : World, TPH w → Calls Tryd.prog 12 #[.agg #[.int .i64 p, .int .i64 q, .int .i64 r]] w fun e w' => e = .returned (.tuple #[.agg #[.int .i64 0, .int .i64 0, .int .i64 0], errV 1]) ∧ Below w.heap.size w w'))
    (CT : Hid (∀ w : World, TPH w → Calls Tryd.prog 13 #[.agg #[.int .i64 p, .int .i64 q, .int .i64 r]] w fun e w' => e = .returned (.tuple #[.string ⟨#[]⟩, errV 1]) ∧ Below w.heap.size w w'))
    (y0 : ¬ x < 1) (y1 : 9999 < x)
    (CN : Hid (∀ w : World, Calls Tryd.prog 15 #[.int .i64 x] w fun e w' => e = .returned (.tuple #[.int .i64 0, errV 1]) ∧ w = w')) :
    Calls Tryd.prog 3 #[.agg #[.int .i64 y, .int .i64 m, .int .i64 d], .agg #[.int .i64 p, .int .i64 q, .int .i64 r], .int .i64 x] w fun e w' => e = .returned (.bool true) ∧ Below w.heap.size w w' := by
  have C0 := Lib.hid fun w (hT : TPH w) => weekly_any w hT.t
  have E0 := Lib.hid fun w (hT : TPH w) => sameErr_yes ErrNo.nil w hT.h
  have E1 := Lib.hid fun w (hT : TPH w) => sameErr_yes (ErrNo.no 1) w hT.h
  have g1 : decide (x < 1) = false := dec_no y0
  have g2 : decide (9999 < x) = true := dec_yes y1
  obtain ⟨Y1, x1⟩ : ∃ X, X = P ++ [45, 87] := ⟨_, rfl⟩
  have S1 : ∀ w, (Op.stringOp .add ⟨P.toArray⟩ ⟨#[45, 87]⟩).run Tryd.prog w = .ok (.string ⟨Y1.toArray⟩) w := fun w => by rw [x1]; exact add_str (P := Tryd.prog) P [45, 87] (by first | omega | (simp; omega)) w
  have m1 : Y1.length = P.length + 2 := by rw [x1]; simp
  obtain ⟨Y2, x2⟩ : ∃ X, X = Y1 ++ Q := ⟨_, rfl⟩
  have S2 : ∀ w, (Op.stringOp .add ⟨Y1.toArray⟩ ⟨Q.toArray⟩).run Tryd.prog w = .ok (.string ⟨Y2.toArray⟩) w := fun w => by rw [x2]; exact add_str (P := Tryd.prog) Y1 Q (by first | omega | (simp; omega)) w
  have m2 : Y2.length = Y1.length + Q.length := by rw [x2]; simp
  obtain ⟨Y3, x3⟩ : ∃ X, X = Y2 ++ [45] := ⟨_, rfl⟩
  have S3 : ∀ w, (Op.stringOp .add ⟨Y2.toArray⟩ ⟨#[45]⟩).run Tryd.prog w = .ok (.string ⟨Y3.toArray⟩) w := fun w => by rw [x3]; exact add_str (P := Tryd.prog) Y2 [45] (by first | omega | (simp; omega)) w
  have m3 : Y3.length = Y2.length + 1 := by rw [x3]; simp
  have S4 : ∀ w, (Op.stringOp .add ⟨Y3.toArray⟩ ⟨R.toArray⟩).run Tryd.prog w = .ok (.string ⟨T.toArray⟩) w := fun w => by rw [← HX, ← x1, ← x2, ← x3]; exact add_str (P := Tryd.prog) Y3 R (by omega) w
  clear x1 x2 x3 m1 m2 m3 HX lp lq lr
  go_enter Tryd.func3, Tryd.ntmps3
  go_wp2_with fail
  refine (C0.out _ (hT.below (by repeat (first | exact (Below.refl _ _) | refine blw_drewN ?_ _ | refine Below.setCell ?_ (by first | (simp; done) | omega | (simp; omega)) _ | refine Below.alloc ?_ (by first | (simp; done) | omega | (simp; omega)) _)))).mono ?_
  rintro e w1 ⟨rfl, hb⟩
  have W1 := Lib.hid (blw_trans (show Below w.heap.size w _ by repeat (first | exact (Below.refl _ _) | refine blw_drewN ?_ _ | refine Below.setCell ?_ (by first | (simp; done) | omega | (simp; omega)) _ | refine Below.alloc ?_ (by first | (simp; done) | omega | (simp; omega)) _)) hb)
  have n1 := hb.size
  try simp at n1
  have k1_d0 := cell_keep (a := ⟨w.heap.size, 0, none⟩) (v := .int .i64 y) (by first | (go_keep; done) | (simp [go_sem, *]; done)) hb
  have k1_d1 := cell_keep (a := ⟨w.heap.size, 1, none⟩) (v := .int .i64 m) (by first | (go_keep; done) | (simp [go_sem, *]; done)) hb
  have k1_d2 := cell_keep (a := ⟨w.heap.size, 2, none⟩) (v := .int .i64 d) (by first | (go_keep; done) | (simp [go_sem, *]; done)) hb
  have l1_d := World.block_lt_of_cell? _ _ k1_d0
  try simp only at l1_d
  have k1_u0 := cell_keep (a := ⟨w.heap.size + 1, 0, none⟩) (v := .int .i64 p) (by first | (go_keep; done) | (simp [go_sem, *]; done)) hb
  have k1_u1 := cell_keep (a := ⟨w.heap.size + 1, 1, none⟩) (v := .int .i64 q) (by first | (go_keep; done) | (simp [go_sem, *]; done)) hb
  have k1_u2 := cell_keep (a := ⟨w.heap.size + 1, 2, none⟩) (v := .int .i64 r) (by first | (go_keep; done) | (simp [go_sem, *]; done)) hb
  have l1_u := World.block_lt_of_cell? _ _ k1_u0
  try simp only at l1_u
  clear hb
  have ne1 : ¬ w1.heap.size = w.heap.size := by omega
  have me1 : ¬ w.heap.size = w1.heap.size := by omega
  have ne2 : ¬ w1.heap.size = w.heap.size + 1 := by omega
  have me2 : ¬ w.heap.size + 1 = w1.heap.size := by omega
  go_wp2_with fail
  refine (CF.out _).mono ?_
  rintro e w2 ⟨rfl, hb⟩
  have W2 := Lib.hid (blw_trans (show Below w.heap.size w _ by repeat (first | exact W1.out | refine blw_drewN ?_ _ | refine Below.setCell ?_ (by first | (simp; done) | omega | (simp; omega)) _ | refine Below.alloc ?_ (by first | (simp; done) | omega | (simp; omega)) _)) hb)
  have n2 := hb.size
  try simp at n2
  have k2_d0 := cell_keep (a := ⟨w.heap.size, 0, none⟩) (v := .int .i64 y) (by first | (go_keep; done) | (simp [go_sem, *]; done)) hb
  have k2_d1 := cell_keep (a := ⟨w.heap.size, 1, none⟩) (v := .int .i64 m) (by first | (go_keep; done) | (simp [go_sem, *]; done)) hb
  have k2_d2 := cell_keep (a := ⟨w.heap.size, 2, none⟩) (v := .int .i64 d) (by first | (go_keep; done) | (simp [go_sem, *]; done)) hb
  have l2_d := World.block_lt_of_cell? _ _ k2_d0
  try simp only at l2_d
  have k2_u0 := cell_keep (a := ⟨w.heap.size + 1, 0, none⟩) (v := .int .i64 p) (by first | (go_keep; done) | (simp [go_sem, *]; done)) hb
  have k2_u1 := cell_keep (a := ⟨w.heap.size + 1, 1, none⟩) (v := .int .i64 q) (by first | (go_keep; done) | (simp [go_sem, *]; done)) hb
  have k2_u2 := cell_keep (a := ⟨w.heap.size + 1, 2, none⟩) (v := .int .i64 r) (by first | (go_keep; done) | (simp [go_sem, *]; done)) hb
  have l2_u := World.block_lt_of_cell? _ _ k2_u0
  try simp only at l2_u
  have k2_t0 := cell_keep (a := ⟨w1.heap.size, 0, none⟩) (v := .int .i64 0) (by first | (go_keep; done) | (simp [go_sem, *]; done)) hb
  have f2_t0 := (hb.frozen (p := ⟨w1.heap.size, 0, none⟩) (by first | (simp; done) | omega | (simp; omega))).trans (show _ = false by first | (simp; done) | (simp [go_sem]; done))
  have k2_t1 := cell_keep (a := ⟨w1.heap.size, 1, none⟩) (v := .int .i64 0) (by first | (go_keep; done) | (simp [go_sem, *]; done)) hb
  have f2_t1 := (hb.frozen (p := ⟨w1.heap.size, 1, none⟩) (by first | (simp; done) | omega | (simp; omega))).trans (show _ = false by first | (simp; done) | (simp [go_sem]; done))
  have k2_t2 := cell_keep (a := ⟨w1.heap.size, 2, none⟩) (v := .int .i64 0) (by first | (go_keep; done) | (simp [go_sem, *]; done)) hb
  have f2_t2 := (hb.frozen (p := ⟨w1.heap.size, 2, none⟩) (by first | (simp; done) | omega | (simp; omega))).trans (show _ = false by first | (simp; done) | (simp [go_sem]; done))
  have l2_t := World.block_lt_of_cell? _ _ k2_t0
  try simp only at l2_t
  clear hb k1_d0 k1_d1 k1_d2 l1_d k1_u0 k1_u1 k1_u2 l1_u W1
  go_wp2_with fail
  refine (CW.out _).mono ?_
  rintro e w3 ⟨rfl, hb⟩
  have W3 := Lib.hid (blw_trans (show Below w.heap.size w _ by repeat (first | exact W2.out | refine blw_drewN ?_ _ | refine Below.setCell ?_ (by first | (simp; done) | omega | (simp; omega)) _ | refine Below.alloc ?_ (by first | (simp; done) | omega | (simp; omega)) _)) hb)
  have n3 := hb.size
  try simp at n3
  have k3_d0 := cell_keep (a := ⟨w.heap.size, 0, none⟩) (v := .int .i64 y) (by first | (go_keep; done) | (simp [go_sem, *]; done)) hb
  have k3_d1 := cell_keep (a := ⟨w.heap.size, 1, none⟩) (v := .int .i64 m) (by first | (go_keep; done) | (simp [go_sem, *]; done)) hb
  have k3_d2 := cell_keep (a := ⟨w.heap.size, 2, none⟩) (v := .int .i64 d) (by first | (go_keep; done) | (simp [go_sem, *]; done)) hb
  have l3_d := World.block_lt_of_cell? _ _ k3_d0
  try simp only at l3_d
  have k3_u0 := cell_keep (a := ⟨w.heap.size + 1, 0, none⟩) (v := .int .i64 p) (by first | (go_keep; done) | (simp [go_sem, *]; done)) hb
  have k3_u1 := cell_keep (a := ⟨w.heap.size + 1, 1, none⟩) (v := .int .i64 q) (by first | (go_keep; done) | (simp [go_sem, *]; done)) hb
  have k3_u2 := cell_keep (a := ⟨w.heap.size + 1, 2, none⟩) (v := .int .i64 r) (by first | (go_keep; done) | (simp [go_sem, *]; done)) hb
  have l3_u := World.block_lt_of_cell? _ _ k3_u0
  try simp only at l3_u
  have k3_t0 := cell_keep (a := ⟨w1.heap.size, 0, none⟩) (v := .int .i64 0) (by first | (go_keep; done) | (simp [go_sem, *]; done)) hb
  have f3_t0 := (hb.frozen (p := ⟨w1.heap.size, 0, none⟩) (by first | (simp; done) | omega | (simp; omega))).trans (show _ = false by first | exact f2_t0 | (simp; done) | (simp [go_sem]; done) | (simp [f2_t0]; done))
  have k3_t1 := cell_keep (a := ⟨w1.heap.size, 1, none⟩) (v := .int .i64 0) (by first | (go_keep; done) | (simp [go_sem, *]; done)) hb
  have f3_t1 := (hb.frozen (p := ⟨w1.heap.size, 1, none⟩) (by first | (simp; done) | omega | (simp; omega))).trans (show _ = false by first | exact f2_t1 | (simp; done) | (simp [go_sem]; done) | (simp [f2_t1]; done))
  have k3_t2 := cell_keep (a := ⟨w1.heap.size, 2, none⟩) (v := .int .i64 0) (by first | (go_keep; done) | (simp [go_sem, *]; done)) hb
  have f3_t2 := (hb.frozen (p := ⟨w1.heap.size, 2, none⟩) (by first | (simp; done) | omega | (simp; omega))).trans (show _ = false by first | exact f2_t2 | (simp; done) | (simp [go_sem]; done) | (simp [f2_t2]; done))
  have l3_t := World.block_lt_of_cell? _ _ k3_t0
  try simp only at l3_t
  clear hb k2_d0 k2_d1 k2_d2 l2_d k2_u0 k2_u1 k2_u2 l2_u k2_t0 f2_t0 k2_t1 f2_t1 k2_t2 f2_t2 l2_t W2
  go_wp2_with fail
  refine (CO.out _ (hT.below (by repeat (first | exact W3.out | refine blw_drewN ?_ _ | refine Below.setCell ?_ (by first | (simp; done) | omega | (simp; omega)) _ | refine Below.alloc ?_ (by first | (simp; done) | omega | (simp; omega)) _)))).mono ?_
  rintro e w4 ⟨rfl, hb⟩
  have W4 := Lib.hid (blw_trans (show Below w.heap.size w _ by repeat (first | exact W3.out | refine blw_drewN ?_ _ | refine Below.setCell ?_ (by first | (simp; done) | omega | (simp; omega)) _ | refine Below.alloc ?_ (by first | (simp; done) | omega | (simp; omega)) _)) hb)
  have n4 := hb.size
  try simp at n4
  have k4_u0 := cell_keep (a := ⟨w.heap.size + 1, 0, none⟩) (v := .int .i64 p) (by first | (go_keep; done) | (simp [go_sem, *]; done)) hb
  have k4_u1 := cell_keep (a := ⟨w.heap.size + 1, 1, none⟩) (v := .int .i64 q) (by first | (go_keep; done) | (simp [go_sem, *]; done)) hb
  have k4_u2 := cell_keep (a := ⟨w.heap.size + 1, 2, none⟩) (v := .int .i64 r) (by first | (go_keep; done) | (simp [go_sem, *]; done)) hb
  have l4_u := World.block_lt_of_cell? _ _ k4_u0
  try simp only at l4_u
  have k4_t0 := cell_keep (a := ⟨w1.heap.size, 0, none⟩) (v := .int .i64 A1) (by first | (go_keep; done) | (simp [go_sem, *]; done)) hb
  have k4_t1 := cell_keep (a := ⟨w1.heap.size, 1, none⟩) (v := .int .i64 A2) (by first | (go_keep; done) | (simp [go_sem, *]; done)) hb
  have k4_t2 := cell_keep (a := ⟨w1.heap.size, 2, none⟩) (v := .int .i64 A3) (by first | (go_keep; done) | (simp [go_sem, *]; done)) hb
  have l4_t := World.block_lt_of_cell? _ _ k4_t0
  try simp only at l4_t
  clear hb k3_d0 k3_d1 k3_d2 l3_d k3_u0 k3_u1 k3_u2 l3_u k3_t0 f3_t0 k3_t1 f3_t1 k3_t2 f3_t2 l3_t W3
  go_wp2_with fail
  refine (E0.out _ (hT.below (by repeat (first | exact W4.out | refine blw_drewN ?_ _ | refine Below.setCell ?_ (by first | (simp; done) | omega | (simp; omega)) _ | refine Below.alloc ?_ (by first | (simp; done) | omega | (simp; omega)) _)))).mono ?_
  rintro e w5 ⟨rfl, hb⟩
  have W5 := Lib.hid (blw_trans (show Below w.heap.size w _ by repeat (first | exact W4.out | refine blw_drewN ?_ _ | refine Below.setCell ?_ (by first | (simp; done) | omega | (simp; omega)) _ | refine Below.alloc ?_ (by first | (simp; done) | omega | (simp; omega)) _)) hb)
  have n5 := hb.size
  try simp at n5
  have k5_u0 := cell_keep (a := ⟨w.heap.size + 1, 0, none⟩) (v := .int .i64 p) (by first | (go_keep; done) | (simp [go_sem, *]; done)) hb
  have k5_u1 := cell_keep (a := ⟨w.heap.size + 1, 1, none⟩) (v := .int .i64 q) (by first | (go_keep; done) | (simp [go_sem, *]; done)) hb
  have k5_u2 := cell_keep (a := ⟨w.heap.size + 1, 2, none⟩) (v := .int .i64 r) (by first | (go_keep; done) | (simp [go_sem, *]; done)) hb
  have l5_u := World.block_lt_of_cell? _ _ k5_u0
  try simp only at l5_u
  have k5_t0 := cell_keep (a := ⟨w1.heap.size, 0, none⟩) (v := .int .i64 A1) (by first | (go_keep; done) | (simp [go_sem, *]; done)) hb
  have k5_t1 := cell_keep (a := ⟨w1.heap.size, 1, none⟩) (v := .int .i64 A2) (by first | (go_keep; done) | (simp [go_sem, *]; done)) hb
  have k5_t2 := cell_keep (a := ⟨w1.heap.size, 2, none⟩) (v := .int .i64 A3) (by first | (go_keep; done) | (simp [go_sem, *]; done)) hb
  have l5_t := World.block_lt_of_cell? _ _ k5_t0
  try simp only at l5_t
  have k5_a0 := cell_keep (a := ⟨w4.heap.size, 0, none⟩) (v := .int .i64 A1) (by first | (go_keep; done) | (simp [go_sem, *]; done)) hb
  have k5_a1 := cell_keep (a := ⟨w4.heap.size, 1, none⟩) (v := .int .i64 A2) (by first | (go_keep; done) | (simp [go_sem, *]; done)) hb
  have k5_a2 := cell_keep (a := ⟨w4.heap.size, 2, none⟩) (v := .int .i64 A3) (by first | (go_keep; done) | (simp [go_sem, *]; done)) hb
  have l5_a := World.block_lt_of_cell? _ _ k5_a0
  try simp only at l5_a
  clear hb k4_u0 k4_u1 k4_u2 l4_u k4_t0 k4_t1 k4_t2 l4_t W4
  go_wp2_with fail
  refine (CX.out _).mono ?_
  rintro e w6 ⟨rfl, hb⟩
  have W6 := Lib.hid (blw_trans (show Below w.heap.size w _ by repeat (first | exact W5.out | refine blw_drewN ?_ _ | refine Below.setCell ?_ (by first | (simp; done) | omega | (simp; omega)) _ | refine Below.alloc ?_ (by first | (simp; done) | omega | (simp; omega)) _)) hb)
  have n6 := hb.size
  try simp at n6
  have k6_u0 := cell_keep (a := ⟨w.heap.size + 1, 0, none⟩) (v := .int .i64 p) (by first | (go_keep; done) | (simp [go_sem, *]; done)) hb
  have k6_u1 := cell_keep (a := ⟨w.heap.size + 1, 1, none⟩) (v := .int .i64 q) (by first | (go_keep; done) | (simp [go_sem, *]; done)) hb
  have k6_u2 := cell_keep (a := ⟨w.heap.size + 1, 2, none⟩) (v := .int .i64 r) (by first | (go_keep; done) | (simp [go_sem, *]; done)) hb
  have l6_u := World.block_lt_of_cell? _ _ k6_u0
  try simp only at l6_u
  have k6_t0 := cell_keep (a := ⟨w1.heap.size, 0, none⟩) (v := .int .i64 A1) (by first | (go_keep; done) | (simp [go_sem, *]; done)) hb
  have k6_t1 := cell_keep (a := ⟨w1.heap.size, 1, none⟩) (v := .int .i64 A2) (by first | (go_keep; done) | (simp [go_sem, *]; done)) hb
  have k6_t2 := cell_keep (a := ⟨w1.heap.size, 2, none⟩) (v := .int .i64 A3) (by first | (go_keep; done) | (simp [go_sem, *]; done)) hb
  have l6_t := World.block_lt_of_cell? _ _ k6_t0
  try simp only at l6_t
  have k6_a0 := cell_keep (a := ⟨w4.heap.size, 0, none⟩) (v := .int .i64 A1) (by first | (go_keep; done) | (simp [go_sem, *]; done)) hb
  have k6_a1 := cell_keep (a := ⟨w4.heap.size, 1, none⟩) (v := .int .i64 A2) (by first | (go_keep; done) | (simp [go_sem, *]; done)) hb
  have k6_a2 := cell_keep (a := ⟨w4.heap.size, 2, none⟩) (v := .int .i64 A3) (by first | (go_keep; done) | (simp [go_sem, *]; done)) hb
  have l6_a := World.block_lt_of_cell? _ _ k6_a0
  try simp only at l6_a
  clear hb k5_u0 k5_u1 k5_u2 l5_u k5_t0 k5_t1 k5_t2 l5_t k5_a0 k5_a1 k5_a2 l5_a W5
  have ne3 : ¬ w6.heap.size = w.heap.size + 1 := by omega
  have me3 : ¬ w.heap.size + 1 = w6.heap.size := by omega
  have ne4 : ¬ w6.heap.size = w1.heap.size := by omega
  have me4 : ¬ w1.heap.size = w6.heap.size := by omega
  have ne5 : ¬ w6.heap.size = w4.heap.size := by omega
  have me5 : ¬ w4.heap.size = w6.heap.size := by omega
  go_wp2_with fail
  refine wp_region_held_drew (S := fun w' => w'.cell? ⟨w.heap.size + 1, 0, none⟩ = some (.int .i64 p) ∧ w'.cell? ⟨w.heap.size + 1, 1, none⟩ = some (.int .i64 q) ∧ w'.cell? ⟨w.heap.size + 1, 2, none⟩ = some (.int .i64 r) ∧ w'.cell? ⟨w1.heap.size, 0, none⟩ = some (.int .i64 A1) ∧ w'.cell? ⟨w1.heap.size, 1, none⟩ = some (.int .i64 A2) ∧ w'.cell? ⟨w1.heap.size, 2, none⟩ = some (.int .i64 A3) ∧ w'.cell? ⟨w4.heap.size, 0, none⟩ = some (.int .i64 A1) ∧ w'.cell? ⟨w4.heap.size, 1, none⟩ = some (.int .i64 A2) ∧ w'.cell? ⟨w4.heap.size, 2, none⟩ = some (.int .i64 A3) ∧ w'.cell? ⟨w6.heap.size, 0, none⟩ = some (.int .i64 0) ∧ w'.cell? ⟨w6.heap.size, 1, none⟩ = some (.int .i64 0) ∧ w'.cell? ⟨w6.heap.size, 2, none⟩ = some (.int .i64 0) ∧ w'.frozen? ⟨w6.heap.size, 0, none⟩ = false ∧ w'.frozen? ⟨w6.heap.size, 1, none⟩ = false ∧ w'.frozen? ⟨w6.heap.size, 2, none⟩ = false ∧ Hid (Below w.heap.size w w')) (by kernel_rfl) (by refine ⟨by go_keep, by go_keep, by go_keep, by go_keep, by go_keep, by go_keep, by go_keep, by go_keep, by go_keep, by go_keep, by go_keep, by go_keep, by simp [go_sem], by simp [go_sem], by simp [go_sem], Lib.hid (Below.drew ?_)⟩; repeat (first | exact W6.out | refine blw_drewN ?_ _ | refine Below.setCell ?_ (by first | (simp; done) | omega | (simp; omega)) _ | refine Below.alloc ?_ (by first | (simp; done) | omega | (simp; omega)) _)) (fun hHeld => ?_)
  refine take_run (d := (some 41)) (v := ?v86) 0 rfl rfl (by kernel_rfl) (by kernel_rfl) (by kernel_rfl) (fun _ _ _ h => h) (by rfl) hHeld ?hy86 ?rs86
  case hy86 => (intro w hSw; (try dsimp only at hSw); go_simp) <;> (try with_reducible rfl)
  (try simp only [Act.put, List.setIfInBounds_toArray, List.set_cons_zero, List.set_cons_succ])
  refine take_run (d := (some 42)) (v := ?v87) 1 rfl rfl (by kernel_rfl) (by kernel_rfl) (by kernel_rfl) (fun _ _ _ h => h) (by rfl) hHeld ?hy87 ?rs87
  case hy87 => (intro w hSw; (try dsimp only at hSw); go_simp) <;> (try with_reducible rfl)
  (try simp only [Act.put, List.setIfInBounds_toArray, List.set_cons_zero, List.set_cons_succ])
  refine take_run (d := (some 43)) (v := ?v88) 2 rfl rfl (by kernel_rfl) (by kernel_rfl) (by kernel_rfl) (fun _ _ _ h => h) (by rfl) hHeld ?hy88 ?rs88
  case hy88 => (intro w hSw; (try dsimp only at hSw); go_simp) <;> (try with_reducible rfl)
  (try simp only [Act.put, List.setIfInBounds_toArray, List.set_cons_zero, List.set_cons_succ])
  refine take_run (d := (some 46)) (v := ?v89) 5 rfl rfl (by kernel_rfl) (by kernel_rfl) (by kernel_rfl) (fun _ _ _ h => h) (by rfl) hHeld ?hy89 ?rs89
  case hy89 => (intro w hSw; (try dsimp only at hSw); go_simp) <;> (try with_reducible rfl)
  (try simp only [Act.put, List.setIfInBounds_toArray, List.set_cons_zero, List.set_cons_succ])
  refine take_run (d := (some 47)) (v := ?v90) 6 rfl rfl (by kernel_rfl) (by kernel_rfl) (by kernel_rfl) (fun _ _ _ h => h) (by rfl) hHeld ?hy90 ?rs90
  case hy90 => (intro w hSw; (try dsimp only at hSw); go_simp) <;> (try with_reducible rfl)
  (try simp only [Act.put, List.setIfInBounds_toArray, List.set_cons_zero, List.set_cons_succ])
  refine take_run (d := (some 48)) (v := ?v91) 7 rfl rfl (by kernel_rfl) (by kernel_rfl) (by kernel_rfl) (fun _ _ _ h => h) (by rfl) hHeld ?hy91 ?rs91
  case hy91 => (intro w hSw; (try dsimp only at hSw); go_simp) <;> (try with_reducible rfl)
  (try simp only [Act.put, List.setIfInBounds_toArray, List.set_cons_zero, List.set_cons_succ])
  refine take_run (d := (some 52)) (v := ?v92) 11 rfl rfl (by kernel_rfl) (by kernel_rfl) (by kernel_rfl) (fun _ _ _ h => h) (by rfl) hHeld ?hy92 ?rs92
  case hy92 => (intro w hSw; (try dsimp only at hSw); go_simp) <;> (try with_reducible rfl)
  (try simp only [Act.put, List.setIfInBounds_toArray, List.set_cons_zero, List.set_cons_succ])
  refine take_run (d := (some 53)) (v := ?v93) 12 rfl rfl (by kernel_rfl) (by kernel_rfl) (by kernel_rfl) (fun _ _ _ h => h) (by rfl) hHeld ?hy93 ?rs93
  case hy93 => (intro w hSw; (try dsimp only at hSw); go_simp) <;> (try with_reducible rfl)
  (try simp only [Act.put, List.setIfInBounds_toArray, List.set_cons_zero, List.set_cons_succ])
  refine take_run (d := (some 54)) (v := ?v94) 13 rfl rfl (by kernel_rfl) (by kernel_rfl) (by kernel_rfl) (fun _ _ _ h => h) (by rfl) hHeld ?hy94 ?rs94
  case hy94 => (intro w hSw; (try dsimp only at hSw); go_simp) <;> (try with_reducible rfl)
  (try simp only [Act.put, List.setIfInBounds_toArray, List.set_cons_zero, List.set_cons_succ])
  refine take_call 3 rfl (by kernel_rfl) (by rfl) (fun K hK => ?_)
  go_simp
  refine (D1.out _).mono ?_
  rintro e w' ⟨rfl, hb⟩
  refine hK.out _ _ (by obtain ⟨h0, h1, h2, h3, h4, h5, h6, h7, h8, h9, h10, h11, h12, h13, h14, hw⟩ := hHeld; exact ⟨cell_keep h0 hb, cell_keep h1 hb, cell_keep h2 hb, cell_keep h3 hb, cell_keep h4 hb, cell_keep h5 hb, cell_keep h6 hb, cell_keep h7 hb, cell_keep h8 hb, cell_keep h9 hb, cell_keep h10 hb, cell_keep h11 hb, free_keep h9 h12 hb, free_keep h10 h13 hb, free_keep h11 h14 hb, Lib.hid (blw_trans hw.out hb)⟩) (fun hHeld => ?_)
  clear hK K
  (try simp only [Act.put, List.setIfInBounds_toArray, List.set_cons_zero, List.set_cons_succ])
  refine take_run (d := (some 45)) (v := ?v96) 4 rfl rfl (by kernel_rfl) (by kernel_rfl) (by kernel_rfl) (fun _ _ _ h => h) (by rfl) hHeld ?hy96 ?rs96
  case hy96 => (intro w hSw; (try dsimp only at hSw); go_simp) <;> (try with_reducible rfl)
  (try simp only [Act.put, List.setIfInBounds_toArray, List.set_cons_zero, List.set_cons_succ])
  refine take_call 8 rfl (by kernel_rfl) (by rfl) (fun K hK => ?_)
  go_simp
  refine (D2.out _).mono ?_
  rintro e w' ⟨rfl, hb⟩
  refine hK.out _ _ (by obtain ⟨h0, h1, h2, h3, h4, h5, h6, h7, h8, h9, h10, h11, h12, h13, h14, hw⟩ := hHeld; exact ⟨cell_keep h0 hb, cell_keep h1 hb, cell_keep h2 hb, cell_keep h3 hb, cell_keep h4 hb, cell_keep h5 hb, cell_keep h6 hb, cell_keep h7 hb, cell_keep h8 hb, cell_keep h9 hb, cell_keep h10 hb, cell_keep h11 hb, free_keep h9 h12 hb, free_keep h10 h13 hb, free_keep h11 h14 hb, Lib.hid (blw_trans hw.out hb)⟩) (fun hHeld => ?_)
  clear hK K
  (try simp only [Act.put, List.setIfInBounds_toArray, List.set_cons_zero, List.set_cons_succ])
  refine take_run (d := (some 50)) (v := ?v98) 9 rfl rfl (by kernel_rfl) (by kernel_rfl) (by kernel_rfl) (fun _ _ _ h => h) (by rfl) hHeld ?hy98 ?rs98
  case hy98 => (intro w hSw; (try dsimp only at hSw); go_simp) <;> (try with_reducible rfl)
  (try simp only [Act.put, List.setIfInBounds_toArray, List.set_cons_zero, List.set_cons_succ])
  refine take_run (d := (some 51)) (v := ?v99) 10 rfl rfl (by kernel_rfl) (by kernel_rfl) (by kernel_rfl) (fun _ _ _ h => h) (by rfl) hHeld ?hy99 ?rs99
  case hy99 => (intro w hSw; (try dsimp only at hSw); go_simp) <;> (try with_reducible rfl)
  (try simp only [Act.put, List.setIfInBounds_toArray, List.set_cons_zero, List.set_cons_succ])
  refine take_call 14 rfl (by kernel_rfl) (by rfl) (fun K hK => ?_)
  go_simp
  refine (D3.out _).mono ?_
  rintro e w' ⟨rfl, hb⟩
  refine hK.out _ _ (by obtain ⟨h0, h1, h2, h3, h4, h5, h6, h7, h8, h9, h10, h11, h12, h13, h14, hw⟩ := hHeld; exact ⟨cell_keep h0 hb, cell_keep h1 hb, cell_keep h2 hb, cell_keep h3 hb, cell_keep h4 hb, cell_keep h5 hb, cell_keep h6 hb, cell_keep h7 hb, cell_keep h8 hb, cell_keep h9 hb, cell_keep h10 hb, cell_keep h11 hb, free_keep h9 h12 hb, free_keep h10 h13 hb, free_keep h11 h14 hb, Lib.hid (blw_trans hw.out hb)⟩) (fun hHeld => ?_)
  clear hK K
  (try simp only [Act.put, List.setIfInBounds_toArray, List.set_cons_zero, List.set_cons_succ])
  refine take_run (d := (some 56)) (v := ?v101) 15 rfl rfl (by kernel_rfl) (by kernel_rfl) (by kernel_rfl) (fun _ _ _ h => h) (by rfl) hHeld ?hy101 ?rs101
  case hy101 => (intro w hSw; (try dsimp only at hSw); go_simp) <;> (try with_reducible rfl)
  (try simp only [Act.put, List.setIfInBounds_toArray, List.set_cons_zero, List.set_cons_succ])
  refine take_run (d := (some 15)) (v := ?v102) 16 rfl rfl (by kernel_rfl) (by kernel_rfl) (by kernel_rfl) (fun _ _ _ h => h) (by rfl) hHeld ?hy102 ?rs102
  case hy102 => (intro w hSw; (try dsimp only at hSw); go_simp) <;> (try with_reducible rfl)
  (try simp only [Act.put, List.setIfInBounds_toArray, List.set_cons_zero, List.set_cons_succ])
  refine wpAnyH_done (by kernel_rfl) ?_ _
  obtain ⟨z0, z1, z2, z3, z4, z5, z6, z7, z8, z9, z10, z11, z12, z13, z14, zW⟩ := hHeld
  have lz_u := World.block_lt_of_cell? _ _ z0
  try simp only at lz_u
  have lz_t := World.block_lt_of_cell? _ _ z3
  try simp only at lz_t
  have lz_a := World.block_lt_of_cell? _ _ z6
  try simp only at lz_a
  have lz_x := World.block_lt_of_cell? _ _ z9
  try simp only at lz_x
  go_wp2_with fail
  refine (CB.out _ (hT.below (by repeat (first | exact zW.out | refine blw_drewN ?_ _ | refine Below.setCell ?_ (by first | (simp; done) | omega | (simp; omega)) _ | refine Below.alloc ?_ (by first | (simp; done) | omega | (simp; omega)) _)))).mono ?_
  rintro e w107 ⟨rfl, hb⟩
  have W107 := Lib.hid (blw_trans (show Below w.heap.size w _ by repeat (first | exact zW.out | refine blw_drewN ?_ _ | refine Below.setCell ?_ (by first | (simp; done) | omega | (simp; omega)) _ | refine Below.alloc ?_ (by first | (simp; done) | omega | (simp; omega)) _)) hb)
  have n107 := hb.size
  try simp at n107
  have k107_u0 := cell_keep (a := ⟨w.heap.size + 1, 0, none⟩) (v := .int .i64 p) (by first | (go_keep; done) | (simp [go_sem, *]; done)) hb
  have k107_u1 := cell_keep (a := ⟨w.heap.size + 1, 1, none⟩) (v := .int .i64 q) (by first | (go_keep; done) | (simp [go_sem, *]; done)) hb
  have k107_u2 := cell_keep (a := ⟨w.heap.size + 1, 2, none⟩) (v := .int .i64 r) (by first | (go_keep; done) | (simp [go_sem, *]; done)) hb
  have l107_u := World.block_lt_of_cell? _ _ k107_u0
  try simp only at l107_u
  have k107_t0 := cell_keep (a := ⟨w1.heap.size, 0, none⟩) (v := .int .i64 A1) (by first | (go_keep; done) | (simp [go_sem, *]; done)) hb
  have k107_t1 := cell_keep (a := ⟨w1.heap.size, 1, none⟩) (v := .int .i64 A2) (by first | (go_keep; done) | (simp [go_sem, *]; done)) hb
  have k107_t2 := cell_keep (a := ⟨w1.heap.size, 2, none⟩) (v := .int .i64 A3) (by first | (go_keep; done) | (simp [go_sem, *]; done)) hb
  have l107_t := World.block_lt_of_cell? _ _ k107_t0
  try simp only at l107_t
  have k107_a0 := cell_keep (a := ⟨w4.heap.size, 0, none⟩) (v := .int .i64 A1) (by first | (go_keep; done) | (simp [go_sem, *]; done)) hb
  have k107_a1 := cell_keep (a := ⟨w4.heap.size, 1, none⟩) (v := .int .i64 A2) (by first | (go_keep; done) | (simp [go_sem, *]; done)) hb
  have k107_a2 := cell_keep (a := ⟨w4.heap.size, 2, none⟩) (v := .int .i64 A3) (by first | (go_keep; done) | (simp [go_sem, *]; done)) hb
  have l107_a := World.block_lt_of_cell? _ _ k107_a0
  try simp only at l107_a
  have k107_x0 := cell_keep (a := ⟨w6.heap.size, 0, none⟩) (v := .int .i64 0) (by first | (go_keep; done) | (simp [go_sem, *]; done)) hb
  have k107_x1 := cell_keep (a := ⟨w6.heap.size, 1, none⟩) (v := .int .i64 0) (by first | (go_keep; done) | (simp [go_sem, *]; done)) hb
  have k107_x2 := cell_keep (a := ⟨w6.heap.size, 2, none⟩) (v := .int .i64 0) (by first | (go_keep; done) | (simp [go_sem, *]; done)) hb
  have l107_x := World.block_lt_of_cell? _ _ k107_x0
  try simp only at l107_x
  clear hb z0 z1 z2 z3 z4 z5 z6 z7 z8 z9 z10 z11 z12 z13 z14 lz_u lz_t lz_a lz_x zW
  go_wp2_with fail
  refine (E1.out _ (hT.below (by repeat (first | exact W107.out | refine blw_drewN ?_ _ | refine Below.setCell ?_ (by first | (simp; done) | omega | (simp; omega)) _ | refine Below.alloc ?_ (by first | (simp; done) | omega | (simp; omega)) _)))).mono ?_
  rintro e w108 ⟨rfl, hb⟩
  have W108 := Lib.hid (blw_trans (show Below w.heap.size w _ by repeat (first | exact W107.out | refine blw_drewN ?_ _ | refine Below.setCell ?_ (by first | (simp; done) | omega | (simp; omega)) _ | refine Below.alloc ?_ (by first | (simp; done) | omega | (simp; omega)) _)) hb)
  have n108 := hb.size
  try simp at n108
  have k108_u0 := cell_keep (a := ⟨w.heap.size + 1, 0, none⟩) (v := .int .i64 p) (by first | (go_keep; done) | (simp [go_sem, *]; done)) hb
  have k108_u1 := cell_keep (a := ⟨w.heap.size + 1, 1, none⟩) (v := .int .i64 q) (by first | (go_keep; done) | (simp [go_sem, *]; done)) hb
  have k108_u2 := cell_keep (a := ⟨w.heap.size + 1, 2, none⟩) (v := .int .i64 r) (by first | (go_keep; done) | (simp [go_sem, *]; done)) hb
  have l108_u := World.block_lt_of_cell? _ _ k108_u0
  try simp only at l108_u
  have k108_t0 := cell_keep (a := ⟨w1.heap.size, 0, none⟩) (v := .int .i64 A1) (by first | (go_keep; done) | (simp [go_sem, *]; done)) hb
  have k108_t1 := cell_keep (a := ⟨w1.heap.size, 1, none⟩) (v := .int .i64 A2) (by first | (go_keep; done) | (simp [go_sem, *]; done)) hb
  have k108_t2 := cell_keep (a := ⟨w1.heap.size, 2, none⟩) (v := .int .i64 A3) (by first | (go_keep; done) | (simp [go_sem, *]; done)) hb
  have l108_t := World.block_lt_of_cell? _ _ k108_t0
  try simp only at l108_t
  have k108_a0 := cell_keep (a := ⟨w4.heap.size, 0, none⟩) (v := .int .i64 A1) (by first | (go_keep; done) | (simp [go_sem, *]; done)) hb
  have k108_a1 := cell_keep (a := ⟨w4.heap.size, 1, none⟩) (v := .int .i64 A2) (by first | (go_keep; done) | (simp [go_sem, *]; done)) hb
  have k108_a2 := cell_keep (a := ⟨w4.heap.size, 2, none⟩) (v := .int .i64 A3) (by first | (go_keep; done) | (simp [go_sem, *]; done)) hb
  have l108_a := World.block_lt_of_cell? _ _ k108_a0
  try simp only at l108_a
  have k108_x0 := cell_keep (a := ⟨w6.heap.size, 0, none⟩) (v := .int .i64 0) (by first | (go_keep; done) | (simp [go_sem, *]; done)) hb
  have k108_x1 := cell_keep (a := ⟨w6.heap.size, 1, none⟩) (v := .int .i64 0) (by first | (go_keep; done) | (simp [go_sem, *]; done)) hb
  have k108_x2 := cell_keep (a := ⟨w6.heap.size, 2, none⟩) (v := .int .i64 0) (by first | (go_keep; done) | (simp [go_sem, *]; done)) hb
  have l108_x := World.block_lt_of_cell? _ _ k108_x0
  try simp only at l108_x
  have k108_b0 := cell_keep (a := ⟨w107.heap.size, 0, none⟩) (v := .int .i64 0) (by first | (go_keep; done) | (simp [go_sem, *]; done)) hb
  have k108_b1 := cell_keep (a := ⟨w107.heap.size, 1, none⟩) (v := .int .i64 0) (by first | (go_keep; done) | (simp [go_sem, *]; done)) hb
  have k108_b2 := cell_keep (a := ⟨w107.heap.size, 2, none⟩) (v := .int .i64 0) (by first | (go_keep; done) | (simp [go_sem, *]; done)) hb
  have l108_b := World.block_lt_of_cell? _ _ k108_b0
  try simp only at l108_b
  clear hb k107_u0 k107_u1 k107_u2 l107_u k107_t0 k107_t1 k107_t2 l107_t k107_a0 k107_a1 k107_a2 l107_a k107_x0 k107_x1 k107_x2 l107_x W107
  go_wp2_with fail
  refine (CT.out _ (hT.below (by repeat (first | exact W108.out | refine blw_drewN ?_ _ | refine Below.setCell ?_ (by first | (simp; done) | omega | (simp; omega)) _ | refine Below.alloc ?_ (by first | (simp; done) | omega | (simp; omega)) _)))).mono ?_
  rintro e w109 ⟨rfl, hb⟩
  have W109 := Lib.hid (blw_trans (show Below w.heap.size w _ by repeat (first | exact W108.out | refine blw_drewN ?_ _ | refine Below.setCell ?_ (by first | (simp; done) | omega | (simp; omega)) _ | refine Below.alloc ?_ (by first | (simp; done) | omega | (simp; omega)) _)) hb)
  have n109 := hb.size
  try simp at n109
  have k109_u0 := cell_keep (a := ⟨w.heap.size + 1, 0, none⟩) (v := .int .i64 p) (by first | (go_keep; done) | (simp [go_sem, *]; done)) hb
  have k109_u1 := cell_keep (a := ⟨w.heap.size + 1, 1, none⟩) (v := .int .i64 q) (by first | (go_keep; done) | (simp [go_sem, *]; done)) hb
  have k109_u2 := cell_keep (a := ⟨w.heap.size + 1, 2, none⟩) (v := .int .i64 r) (by first | (go_keep; done) | (simp [go_sem, *]; done)) hb
  have l109_u := World.block_lt_of_cell? _ _ k109_u0
  try simp only at l109_u
  have k109_t0 := cell_keep (a := ⟨w1.heap.size, 0, none⟩) (v := .int .i64 A1) (by first | (go_keep; done) | (simp [go_sem, *]; done)) hb
  have k109_t1 := cell_keep (a := ⟨w1.heap.size, 1, none⟩) (v := .int .i64 A2) (by first | (go_keep; done) | (simp [go_sem, *]; done)) hb
  have k109_t2 := cell_keep (a := ⟨w1.heap.size, 2, none⟩) (v := .int .i64 A3) (by first | (go_keep; done) | (simp [go_sem, *]; done)) hb
  have l109_t := World.block_lt_of_cell? _ _ k109_t0
  try simp only at l109_t
  have k109_a0 := cell_keep (a := ⟨w4.heap.size, 0, none⟩) (v := .int .i64 A1) (by first | (go_keep; done) | (simp [go_sem, *]; done)) hb
  have k109_a1 := cell_keep (a := ⟨w4.heap.size, 1, none⟩) (v := .int .i64 A2) (by first | (go_keep; done) | (simp [go_sem, *]; done)) hb
  have k109_a2 := cell_keep (a := ⟨w4.heap.size, 2, none⟩) (v := .int .i64 A3) (by first | (go_keep; done) | (simp [go_sem, *]; done)) hb
  have l109_a := World.block_lt_of_cell? _ _ k109_a0
  try simp only at l109_a
  have k109_x0 := cell_keep (a := ⟨w6.heap.size, 0, none⟩) (v := .int .i64 0) (by first | (go_keep; done) | (simp [go_sem, *]; done)) hb
  have k109_x1 := cell_keep (a := ⟨w6.heap.size, 1, none⟩) (v := .int .i64 0) (by first | (go_keep; done) | (simp [go_sem, *]; done)) hb
  have k109_x2 := cell_keep (a := ⟨w6.heap.size, 2, none⟩) (v := .int .i64 0) (by first | (go_keep; done) | (simp [go_sem, *]; done)) hb
  have l109_x := World.block_lt_of_cell? _ _ k109_x0
  try simp only at l109_x
  have k109_b0 := cell_keep (a := ⟨w107.heap.size, 0, none⟩) (v := .int .i64 0) (by first | (go_keep; done) | (simp [go_sem, *]; done)) hb
  have k109_b1 := cell_keep (a := ⟨w107.heap.size, 1, none⟩) (v := .int .i64 0) (by first | (go_keep; done) | (simp [go_sem, *]; done)) hb
  have k109_b2 := cell_keep (a := ⟨w107.heap.size, 2, none⟩) (v := .int .i64 0) (by first | (go_keep; done) | (simp [go_sem, *]; done)) hb
  have l109_b := World.block_lt_of_cell? _ _ k109_b0
  try simp only at l109_b
  clear hb k108_u0 k108_u1 k108_u2 l108_u k108_t0 k108_t1 k108_t2 l108_t k108_a0 k108_a1 k108_a2 l108_a k108_x0 k108_x1 k108_x2 l108_x k108_b0 k108_b1 k108_b2 l108_b W108
  go_wp2_with fail
  refine (E1.out _ (hT.below (by repeat (first | exact W109.out | refine blw_drewN ?_ _ | refine Below.setCell ?_ (by first | (simp; done) | omega | (simp; omega)) _ | refine Below.alloc ?_ (by first | (simp; done) | omega | (simp; omega)) _)))).mono ?_
  rintro e w110 ⟨rfl, hb⟩
  have W110 := Lib.hid (blw_trans (show Below w.heap.size w _ by repeat (first | exact W109.out | refine blw_drewN ?_ _ | refine Below.setCell ?_ (by first | (simp; done) | omega | (simp; omega)) _ | refine Below.alloc ?_ (by first | (simp; done) | omega | (simp; omega)) _)) hb)
  have n110 := hb.size
  try simp at n110
  have k110_t0 := cell_keep (a := ⟨w1.heap.size, 0, none⟩) (v := .int .i64 A1) (by first | (go_keep; done) | (simp [go_sem, *]; done)) hb
  have k110_t1 := cell_keep (a := ⟨w1.heap.size, 1, none⟩) (v := .int .i64 A2) (by first | (go_keep; done) | (simp [go_sem, *]; done)) hb
  have k110_t2 := cell_keep (a := ⟨w1.heap.size, 2, none⟩) (v := .int .i64 A3) (by first | (go_keep; done) | (simp [go_sem, *]; done)) hb
  have l110_t := World.block_lt_of_cell? _ _ k110_t0
  try simp only at l110_t
  have k110_a0 := cell_keep (a := ⟨w4.heap.size, 0, none⟩) (v := .int .i64 A1) (by first | (go_keep; done) | (simp [go_sem, *]; done)) hb
  have k110_a1 := cell_keep (a := ⟨w4.heap.size, 1, none⟩) (v := .int .i64 A2) (by first | (go_keep; done) | (simp [go_sem, *]; done)) hb
  have k110_a2 := cell_keep (a := ⟨w4.heap.size, 2, none⟩) (v := .int .i64 A3) (by first | (go_keep; done) | (simp [go_sem, *]; done)) hb
  have l110_a := World.block_lt_of_cell? _ _ k110_a0
  try simp only at l110_a
  have k110_x0 := cell_keep (a := ⟨w6.heap.size, 0, none⟩) (v := .int .i64 0) (by first | (go_keep; done) | (simp [go_sem, *]; done)) hb
  have k110_x1 := cell_keep (a := ⟨w6.heap.size, 1, none⟩) (v := .int .i64 0) (by first | (go_keep; done) | (simp [go_sem, *]; done)) hb
  have k110_x2 := cell_keep (a := ⟨w6.heap.size, 2, none⟩) (v := .int .i64 0) (by first | (go_keep; done) | (simp [go_sem, *]; done)) hb
  have l110_x := World.block_lt_of_cell? _ _ k110_x0
  try simp only at l110_x
  have k110_b0 := cell_keep (a := ⟨w107.heap.size, 0, none⟩) (v := .int .i64 0) (by first | (go_keep; done) | (simp [go_sem, *]; done)) hb
  have k110_b1 := cell_keep (a := ⟨w107.heap.size, 1, none⟩) (v := .int .i64 0) (by first | (go_keep; done) | (simp [go_sem, *]; done)) hb
  have k110_b2 := cell_keep (a := ⟨w107.heap.size, 2, none⟩) (v := .int .i64 0) (by first | (go_keep; done) | (simp [go_sem, *]; done)) hb
  have l110_b := World.block_lt_of_cell? _ _ k110_b0
  try simp only at l110_b
  clear hb k109_u0 k109_u1 k109_u2 l109_u k109_t0 k109_t1 k109_t2 l109_t k109_a0 k109_a1 k109_a2 l109_a k109_x0 k109_x1 k109_x2 l109_x k109_b0 k109_b1 k109_b2 l109_b W109
  go_wp2_with fail
  refine (CN.out _).mono ?_
  rintro e w' ⟨rfl, rfl⟩
  go_wp2_with fail
  refine (E1.out _ (hT.below (by repeat (first | exact W110.out | refine blw_drewN ?_ _ | refine Below.setCell ?_ (by first | (simp; done) | omega | (simp; omega)) _ | refine Below.alloc ?_ (by first | (simp; done) | omega | (simp; omega)) _)))).mono ?_
  rintro e w111 ⟨rfl, hb⟩
  have W111 := Lib.hid (blw_trans (show Below w.heap.size w _ by repeat (first | exact W110.out | refine blw_drewN ?_ _ | refine Below.setCell ?_ (by first | (simp; done) | omega | (simp; omega)) _ | refine Below.alloc ?_ (by first | (simp; done) | omega | (simp; omega)) _)) hb)
  have n111 := hb.size
  try simp at n111
  have k111_t0 := cell_keep (a := ⟨w1.heap.size, 0, none⟩) (v := .int .i64 A1) (by first | (go_keep; done) | (simp [go_sem, *]; done)) hb
  have k111_t1 := cell_keep (a := ⟨w1.heap.size, 1, none⟩) (v := .int .i64 A2) (by first | (go_keep; done) | (simp [go_sem, *]; done)) hb
  have k111_t2 := cell_keep (a := ⟨w1.heap.size, 2, none⟩) (v := .int .i64 A3) (by first | (go_keep; done) | (simp [go_sem, *]; done)) hb
  have l111_t := World.block_lt_of_cell? _ _ k111_t0
  try simp only at l111_t
  have k111_a0 := cell_keep (a := ⟨w4.heap.size, 0, none⟩) (v := .int .i64 A1) (by first | (go_keep; done) | (simp [go_sem, *]; done)) hb
  have k111_a1 := cell_keep (a := ⟨w4.heap.size, 1, none⟩) (v := .int .i64 A2) (by first | (go_keep; done) | (simp [go_sem, *]; done)) hb
  have k111_a2 := cell_keep (a := ⟨w4.heap.size, 2, none⟩) (v := .int .i64 A3) (by first | (go_keep; done) | (simp [go_sem, *]; done)) hb
  have l111_a := World.block_lt_of_cell? _ _ k111_a0
  try simp only at l111_a
  have k111_x0 := cell_keep (a := ⟨w6.heap.size, 0, none⟩) (v := .int .i64 0) (by first | (go_keep; done) | (simp [go_sem, *]; done)) hb
  have k111_x1 := cell_keep (a := ⟨w6.heap.size, 1, none⟩) (v := .int .i64 0) (by first | (go_keep; done) | (simp [go_sem, *]; done)) hb
  have k111_x2 := cell_keep (a := ⟨w6.heap.size, 2, none⟩) (v := .int .i64 0) (by first | (go_keep; done) | (simp [go_sem, *]; done)) hb
  have l111_x := World.block_lt_of_cell? _ _ k111_x0
  try simp only at l111_x
  have k111_b0 := cell_keep (a := ⟨w107.heap.size, 0, none⟩) (v := .int .i64 0) (by first | (go_keep; done) | (simp [go_sem, *]; done)) hb
  have k111_b1 := cell_keep (a := ⟨w107.heap.size, 1, none⟩) (v := .int .i64 0) (by first | (go_keep; done) | (simp [go_sem, *]; done)) hb
  have k111_b2 := cell_keep (a := ⟨w107.heap.size, 2, none⟩) (v := .int .i64 0) (by first | (go_keep; done) | (simp [go_sem, *]; done)) hb
  have l111_b := World.block_lt_of_cell? _ _ k111_b0
  try simp only at l111_b
  clear hb k110_t0 k110_t1 k110_t2 l110_t k110_a0 k110_a1 k110_a2 l110_a k110_x0 k110_x1 k110_x2 l110_x k110_b0 k110_b1 k110_b2 l110_b W110
  go_wp2
  go_ret
  exact ⟨ret_bool (by simp), by repeat (first | exact W111.out | refine blw_drewN ?_ _ | refine Below.setCell ?_ (by first | (simp; done) | omega | (simp; omega)) _ | refine Below.alloc ?_ (by first | (simp; done) | omega | (simp; omega)) _)⟩
end Go.Proofs.YtdcemkfljhdceaaDoor
