/- The walk of the law WeekTells: it returns true of whatever day, week and year. -/
import Derived.Test.YtdcemkfljhdceaaDoorWkTellsA
import Derived.Test.YtdcemkfljhdceaaDoorKeep
import Derived.Test.YtdcemkfljhdceaaDoorWeekTxt
import Derived.Test.YtdcemkfljhdceaaDoorRwd
import Derived.Test.YtdcemkfljhdceaaDoorDigits
import Derived.Test.YtdcemkfljhdceaaDoorPH
namespace Go.Proofs.YtdcemkfljhdceaaDoor
open Go.RowKit


set_option maxRecDepth 100000 in
set_option maxHeartbeats 4000000 in
theorem weekTells_nwok (y m d p q r x p0 q0 r0 X1 X2 X3 K : Int) (P Q R T : List UInt8) (w : World) (hT : TPH w)
    (lp : P.length ≤ 120) (lq : Q.length ≤ 120) (lr : R.length ≤ 120) (HX : P ++ [45, 87] ++ Q ++ [45] ++ R = T)
    (mp : max p 0 = p0) (mq : max q 0 = q0) (mr : max r 0 = r0)
    (CF : Hid (∀ w : World, Calls Tryd.prog 6 #[.agg #[.int .i64 y, .int .i64 m, .int .i64 d]] w fun e w' => e = .returned (.bool true) ∧ Below w.heap.size w w'))
    (CO : Hid (∀ w : World, TPH w → Calls Tryd.prog 8 #[.agg #[.int .i64 y, .int .i64 m, .int .i64 d]] w fun e w' => e = .returned (.tuple #[.agg #[.int .i64 0, .int .i64 0, .int .i64 0], errV 1]) ∧ Below w.heap.size w w'))
    (CX : Hid (∀ w : World, Calls Tryd.prog 10 #[.agg #[.int .i64 p, .int .i64 q, .int .i64 r]] w fun e w' => e = .returned (.tuple #[.agg #[.int .i64 X1, .int .i64 X2, .int .i64 X3], .bool true]) ∧ Below w.heap.size w w'))
    (D1 : Hid (∀ w : World, Calls Tryd.prog 11 #[.int .i64 p0, .int .i64 4] w fun e w' => e = .returned (.string ⟨P.toArray⟩) ∧ Below w.heap.size w w'))
    (D2 : Hid (∀ w : World, Calls Tryd.prog 11 #[.int .i64 q0, .int .i64 2] w fun e w' => e = .returned (.string ⟨Q.toArray⟩) ∧ Below w.heap.size w w'))
    (D3 : Hid (∀ w : World, Calls Tryd.prog 11 #[.int .i64 r0, .int .i64 1] w fun e w' => e = .returned (.string ⟨R.toArray⟩) ∧ Below w.heap.size w w'))
    (CB : Hid (∀ w : World, TPH w → Calls Tryd.prog 12 #[.agg #[.int .i64 p, .int .i64 q, .int .i64 r]] w fun e w' => e = .returned (.tuple #[.agg #[.int .i64 X1, .int .i64 X2, .int .i64 X3], .nilIface]) ∧ Below w.heap.size w w'))
    (CT : Hid (∀ w : World, TPH w → Calls Tryd.prog 13 #[.agg #[.int .i64 p, .int .i64 q, .int .i64 r]] w fun e w' => e = .returned (.tuple #[.string ⟨T.toArray⟩, .nilIface]) ∧ Below w.heap.size w w'))
    (y0 : ¬ x < 1) (y1 : ¬ 9999 < x) (CY : Hid (∀ w : World, Calls Tryd.prog 14 #[.int .i64 x] w fun e w' => e = .returned (.int .i64 K) ∧ w = w'))
    (CN : Hid (∀ w : World, Calls Tryd.prog 15 #[.int .i64 x] w fun e w' => e = .returned (.tuple #[.int .i64 K, .nilIface]) ∧ w = w')) :
    Calls Tryd.prog 3 #[.agg #[.int .i64 y, .int .i64 m, .int .i64 d], .agg #[.int .i64 p, .int .i64 q, .int .i64 r], .int .i64 x] w fun e w' => e = .returned (.bool true) ∧ Below w.heap.size w w' := by
  have C0 := Lib.hid fun w (hT : TPH w) => weekly_any w hT.t
  have E0 := Lib.hid fun w (hT : TPH w) => sameErr_yes ErrNo.nil w hT.h
  have E1 := Lib.hid fun w (hT : TPH w) => sameErr_yes (ErrNo.no 1) w hT.h
  have g1 : decide (x < 1) = false := dec_no y0
  have g2 : decide (9999 < x) = false := dec_no y1
  obtain ⟨Y1, x1⟩ : ∃ X, X = P ++ [45, 87] := ⟨_, rfl⟩
  have S1 : ∀ w, (Op.stringOp .add ⟨P.toArray⟩ ⟨#[45, 87]⟩).run Tryd.prog w = .ok (.string ⟨Y1.toArray⟩) w := fun w => by rw [x1]; exact add_str (P := Tryd.prog) P [45, 87] (by first | omega | (simp; omega)) w
  have m1 : Y1.length = P.length + 2 := by rw [x1]; simp
  obtain ⟨Y2, x2⟩ : ∃ X, X = Y1 ++ Q := ⟨_, rfl⟩
  have S2 : ∀ w, (Op.stringOp .add ⟨Y1.toArray⟩ ⟨Q.toArray⟩).run Tryd.prog w = .ok (.string ⟨Y2.toArray⟩) w := fun w => by rw [x2]; exact add_str (P := Tryd.prog) Y1 Q (by first | omega | (simp; omega)) w
  have m2 : Y2.length = Y1.length + Q.length := by rw [x2]; simp
  obtain ⟨Y3, x3⟩ : ∃ X, X = Y2 ++ [45] := ⟨_, rfl⟩
  have S3 : ∀ w, (Op.stringOp .add ⟨Y2.toArray⟩ ⟨#[45]⟩).run Tryd.prog w = .ok (.string ⟨Y3.toArray⟩) w := fun w => by rw [x3]; exact add_str (P := Tryd.prog) Y2 [45] (by first | omega | (simp; omega)) w
  have m3 : Y3.length = Y2.length + 1 := by rw [x3]; simp
  have S4 : ∀ w, (Op.stringOp .add ⟨Y3.toArray⟩ ⟨R.toArray⟩).run Tryd.prog w = .ok (.string ⟨T.toArray⟩) w := fun w => by rw [← HX, ← x1, ← x2, ← x3]; exact add_str (P := Tryd.prog) Y3 R (by omega) w
  clear x1 x2 x3 m1 m2 m3 HX lp lq lr
  go_enter Tryd.func3, Tryd.ntmps3
  go_wp2_with fail
  refine (C0.out _ (hT.below (by repeat (first | exact (Below.refl _ _) | refine blw_drewN ?_ _ | refine Below.setCell ?_ (by first | (simp; done) | omega | (simp; omega)) _ | refine Below.alloc ?_ (by first | (simp; done) | omega | (simp; omega)) _)))).mono ?_
  rintro e w1 ⟨rfl, hb⟩
  have W1 := Lib.hid (blw_trans (show Below w.heap.size w _ by repeat (first | exact (Below.refl _ _) | refine blw_drewN ?_ _ | refine Below.setCell ?_ (by first | (simp; done) | omega | (simp; omega)) _ | refine Below.alloc ?_ (by first | (simp; done) | omega | (simp; omega)) _)) hb)
  have n1 := hb.size
  try simp at n1
  have k1_d0 := cell_keep (a := ⟨w.heap.size, 0, none⟩) (v := .int .i64 y) (by first | (go_keep; done) | (simp [go_sem, *]; done)) hb
  have k1_d1 := cell_keep (a := ⟨w.heap.size, 1, none⟩) (v := .int .i64 m) (by first | (go_keep; done) | (simp [go_sem, *]; done)) hb
  have k1_d2 := cell_keep (a := ⟨w.heap.size, 2, none⟩) (v := .int .i64 d) (by first | (go_keep; done) | (simp [go_sem, *]; done)) hb
  have l1_d := World.block_lt_of_cell? _ _ k1_d0
  try simp only at l1_d
  have k1_u0 := cell_keep (a := ⟨w.heap.size + 1, 0, none⟩) (v := .int .i64 p) (by first | (go_keep; done) | (simp [go_sem, *]; done)) hb
  have k1_u1 := cell_keep (a := ⟨w.heap.size + 1, 1, none⟩) (v := .int .i64 q) (by first | (go_keep; done) | (simp [go_sem, *]; done)) hb
  have k1_u2 := cell_keep (a := ⟨w.heap.size + 1, 2, none⟩) (v := .int .i64 r) (by first | (go_keep; done) | (simp [go_sem, *]; done)) hb
  have l1_u := World.block_lt_of_cell? _ _ k1_u0
  try simp only at l1_u
  clear hb
  go_wp2_with fail
  refine (CF.out _).mono ?_
  rintro e w2 ⟨rfl, hb⟩
  have W2 := Lib.hid (blw_trans (show Below w.heap.size w _ by repeat (first | exact W1.out | refine blw_drewN ?_ _ | refine Below.setCell ?_ (by first | (simp; done) | omega | (simp; omega)) _ | refine Below.alloc ?_ (by first | (simp; done) | omega | (simp; omega)) _)) hb)
  have n2 := hb.size
  try simp at n2
  have k2_d0 := cell_keep (a := ⟨w.heap.size, 0, none⟩) (v := .int .i64 y) (by first | (go_keep; done) | (simp [go_sem, *]; done)) hb
  have k2_d1 := cell_keep (a := ⟨w.heap.size, 1, none⟩) (v := .int .i64 m) (by first | (go_keep; done) | (simp [go_sem, *]; done)) hb
  have k2_d2 := cell_keep (a := ⟨w.heap.size, 2, none⟩) (v := .int .i64 d) (by first | (go_keep; done) | (simp [go_sem, *]; done)) hb
  have l2_d := World.block_lt_of_cell? _ _ k2_d0
  try simp only at l2_d
  have k2_u0 := cell_keep (a := ⟨w.heap.size + 1, 0, none⟩) (v := .int .i64 p) (by first | (go_keep; done) | (simp [go_sem, *]; done)) hb
  have k2_u1 := cell_keep (a := ⟨w.heap.size + 1, 1, none⟩) (v := .int .i64 q) (by first | (go_keep; done) | (simp [go_sem, *]; done)) hb
  have k2_u2 := cell_keep (a := ⟨w.heap.size + 1, 2, none⟩) (v := .int .i64 r) (by first | (go_keep; done) | (simp [go_sem, *]; done)) hb
  have l2_u := World.block_lt_of_cell? _ _ k2_u0
  try simp only at l2_u
  have k2_t0 := cell_keep (a := ⟨w1.heap.size, 0, none⟩) (v := .int .i64 0) (by first | (go_keep; done) | (simp [go_sem, *]; done)) hb
  have k2_t1 := cell_keep (a := ⟨w1.heap.size, 1, none⟩) (v := .int .i64 0) (by first | (go_keep; done) | (simp [go_sem, *]; done)) hb
  have k2_t2 := cell_keep (a := ⟨w1.heap.size, 2, none⟩) (v := .int .i64 0) (by first | (go_keep; done) | (simp [go_sem, *]; done)) hb
  have l2_t := World.block_lt_of_cell? _ _ k2_t0
  try simp only at l2_t
  clear hb k1_d0 k1_d1 k1_d2 l1_d k1_u0 k1_u1 k1_u2 l1_u W1
  go_wp2_with fail
  refine (CO.out _ (hT.below (by repeat (first | exact W2.out | refine blw_drewN ?_ _ | refine Below.setCell ?_ (by first | (simp; done) | omega | (simp; omega)) _ | refine Below.alloc ?_ (by first | (simp; done) | omega | (simp; omega)) _)))).mono ?_
  rintro e w3 ⟨rfl, hb⟩
  have W3 := Lib.hid (blw_trans (show Below w.heap.size w _ by repeat (first | exact W2.out | refine blw_drewN ?_ _ | refine Below.setCell ?_ (by first | (simp; done) | omega | (simp; omega)) _ | refine Below.alloc ?_ (by first | (simp; done) | omega | (simp; omega)) _)) hb)
  have n3 := hb.size
  try simp at n3
  have k3_u0 := cell_keep (a := ⟨w.heap.size + 1, 0, none⟩) (v := .int .i64 p) (by first | (go_keep; done) | (simp [go_sem, *]; done)) hb
  have k3_u1 := cell_keep (a := ⟨w.heap.size + 1, 1, none⟩) (v := .int .i64 q) (by first | (go_keep; done) | (simp [go_sem, *]; done)) hb
  have k3_u2 := cell_keep (a := ⟨w.heap.size + 1, 2, none⟩) (v := .int .i64 r) (by first | (go_keep; done) | (simp [go_sem, *]; done)) hb
  have l3_u := World.block_lt_of_cell? _ _ k3_u0
  try simp only at l3_u
  have k3_t0 := cell_keep (a := ⟨w1.heap.size, 0, none⟩) (v := .int .i64 0) (by first | (go_keep; done) | (simp [go_sem, *]; done)) hb
  have k3_t1 := cell_keep (a := ⟨w1.heap.size, 1, none⟩) (v := .int .i64 0) (by first | (go_keep; done) | (simp [go_sem, *]; done)) hb
  have k3_t2 := cell_keep (a := ⟨w1.heap.size, 2, none⟩) (v := .int .i64 0) (by first | (go_keep; done) | (simp [go_sem, *]; done)) hb
  have l3_t := World.block_lt_of_cell? _ _ k3_t0
  try simp only at l3_t
  clear hb k2_d0 k2_d1 k2_d2 l2_d k2_u0 k2_u1 k2_u2 l2_u k2_t0 k2_t1 k2_t2 l2_t W2
  go_wp2_with fail
  refine (E1.out _ (hT.below (by repeat (first | exact W3.out | refine blw_drewN ?_ _ | refine Below.setCell ?_ (by first | (simp; done) | omega | (simp; omega)) _ | refine Below.alloc ?_ (by first | (simp; done) | omega | (simp; omega)) _)))).mono ?_
  rintro e w4 ⟨rfl, hb⟩
  have W4 := Lib.hid (blw_trans (show Below w.heap.size w _ by repeat (first | exact W3.out | refine blw_drewN ?_ _ | refine Below.setCell ?_ (by first | (simp; done) | omega | (simp; omega)) _ | refine Below.alloc ?_ (by first | (simp; done) | omega | (simp; omega)) _)) hb)
  have n4 := hb.size
  try simp at n4
  have k4_u0 := cell_keep (a := ⟨w.heap.size + 1, 0, none⟩) (v := .int .i64 p) (by first | (go_keep; done) | (simp [go_sem, *]; done)) hb
  have k4_u1 := cell_keep (a := ⟨w.heap.size + 1, 1, none⟩) (v := .int .i64 q) (by first | (go_keep; done) | (simp [go_sem, *]; done)) hb
  have k4_u2 := cell_keep (a := ⟨w.heap.size + 1, 2, none⟩) (v := .int .i64 r) (by first | (go_keep; done) | (simp [go_sem, *]; done)) hb
  have l4_u := World.block_lt_of_cell? _ _ k4_u0
  try simp only at l4_u
  have k4_t0 := cell_keep (a := ⟨w1.heap.size, 0, none⟩) (v := .int .i64 0) (by first | (go_keep; done) | (simp [go_sem, *]; done)) hb
  have k4_t1 := cell_keep (a := ⟨w1.heap.size, 1, none⟩) (v := .int .i64 0) (by first | (go_keep; done) | (simp [go_sem, *]; done)) hb
  have k4_t2 := cell_keep (a := ⟨w1.heap.size, 2, none⟩) (v := .int .i64 0) (by first | (go_keep; done) | (simp [go_sem, *]; done)) hb
  have l4_t := World.block_lt_of_cell? _ _ k4_t0
  try simp only at l4_t
  have k4_a0 := cell_keep (a := ⟨w3.heap.size, 0, none⟩) (v := .int .i64 0) (by first | (go_keep; done) | (simp [go_sem, *]; done)) hb
  have k4_a1 := cell_keep (a := ⟨w3.heap.size, 1, none⟩) (v := .int .i64 0) (by first | (go_keep; done) | (simp [go_sem, *]; done)) hb
  have k4_a2 := cell_keep (a := ⟨w3.heap.size, 2, none⟩) (v := .int .i64 0) (by first | (go_keep; done) | (simp [go_sem, *]; done)) hb
  have l4_a := World.block_lt_of_cell? _ _ k4_a0
  try simp only at l4_a
  clear hb k3_u0 k3_u1 k3_u2 l3_u k3_t0 k3_t1 k3_t2 l3_t W3
  go_wp2_with fail
  refine (CX.out _).mono ?_
  rintro e w5 ⟨rfl, hb⟩
  have W5 := Lib.hid (blw_trans (show Below w.heap.size w _ by repeat (first | exact W4.out | refine blw_drewN ?_ _ | refine Below.setCell ?_ (by first | (simp; done) | omega | (simp; omega)) _ | refine Below.alloc ?_ (by first | (simp; done) | omega | (simp; omega)) _)) hb)
  have n5 := hb.size
  try simp at n5
  have k5_u0 := cell_keep (a := ⟨w.heap.size + 1, 0, none⟩) (v := .int .i64 p) (by first | (go_keep; done) | (simp [go_sem, *]; done)) hb
  have k5_u1 := cell_keep (a := ⟨w.heap.size + 1, 1, none⟩) (v := .int .i64 q) (by first | (go_keep; done) | (simp [go_sem, *]; done)) hb
  have k5_u2 := cell_keep (a := ⟨w.heap.size + 1, 2, none⟩) (v := .int .i64 r) (by first | (go_keep; done) | (simp [go_sem, *]; done)) hb
  have l5_u := World.block_lt_of_cell? _ _ k5_u0
  try simp only at l5_u
  have k5_t0 := cell_keep (a := ⟨w1.heap.size, 0, none⟩) (v := .int .i64 0) (by first | (go_keep; done) | (simp [go_sem, *]; done)) hb
  have k5_t1 := cell_keep (a := ⟨w1.heap.size, 1, none⟩) (v := .int .i64 0) (by first | (go_keep; done) | (simp [go_sem, *]; done)) hb
  have k5_t2 := cell_keep (a := ⟨w1.heap.size, 2, none⟩) (v := .int .i64 0) (by first | (go_keep; done) | (simp [go_sem, *]; done)) hb
  have l5_t := World.block_lt_of_cell? _ _ k5_t0
  try simp only at l5_t
  have k5_a0 := cell_keep (a := ⟨w3.heap.size, 0, none⟩) (v := .int .i64 0) (by first | (go_keep; done) | (simp [go_sem, *]; done)) hb
  have k5_a1 := cell_keep (a := ⟨w3.heap.size, 1, none⟩) (v := .int .i64 0) (by first | (go_keep; done) | (simp [go_sem, *]; done)) hb
  have k5_a2 := cell_keep (a := ⟨w3.heap.size, 2, none⟩) (v := .int .i64 0) (by first | (go_keep; done) | (simp [go_sem, *]; done)) hb
  have l5_a := World.block_lt_of_cell? _ _ k5_a0
  try simp only at l5_a
  clear hb k4_u0 k4_u1 k4_u2 l4_u k4_t0 k4_t1 k4_t2 l4_t k4_a0 k4_a1 k4_a2 l4_a W4
  go_wp2_with fail
  refine wp_region_held_drew (S := fun w' => w'.cell? ⟨w.heap.size + 1, 0, none⟩ = some (.int .i64 p) ∧ w'.cell? ⟨w.heap.size + 1, 1, none⟩ = some (.int .i64 q) ∧ w'.cell? ⟨w.heap.size + 1, 2, none⟩ = some (.int .i64 r) ∧ w'.cell? ⟨w1.heap.size, 0, none⟩ = some (.int .i64 0) ∧ w'.cell? ⟨w1.heap.size, 1, none⟩ = some (.int .i64 0) ∧ w'.cell? ⟨w1.heap.size, 2, none⟩ = some (.int .i64 0) ∧ w'.cell? ⟨w3.heap.size, 0, none⟩ = some (.int .i64 0) ∧ w'.cell? ⟨w3.heap.size, 1, none⟩ = some (.int .i64 0) ∧ w'.cell? ⟨w3.heap.size, 2, none⟩ = some (.int .i64 0) ∧ w'.cell? ⟨w5.heap.size, 0, none⟩ = some (.int .i64 X1) ∧ w'.cell? ⟨w5.heap.size, 1, none⟩ = some (.int .i64 X2) ∧ w'.cell? ⟨w5.heap.size, 2, none⟩ = some (.int .i64 X3) ∧ Hid (Below w.heap.size w w')) (by kernel_rfl) (by refine ⟨by go_keep, by go_keep, by go_keep, by go_keep, by go_keep, by go_keep, by go_keep, by go_keep, by go_keep, by go_keep, by go_keep, by go_keep, Lib.hid (Below.drew ?_)⟩; repeat (first | exact W5.out | refine blw_drewN ?_ _ | refine Below.setCell ?_ (by first | (simp; done) | omega | (simp; omega)) _ | refine Below.alloc ?_ (by first | (simp; done) | omega | (simp; omega)) _)) (fun hHeld => ?_)
  refine take_run (d := (some 41)) (v := ?v103) 0 rfl rfl (by kernel_rfl) (by kernel_rfl) (by kernel_rfl) (fun _ _ _ h => h) (by rfl) hHeld ?hy103 ?rs103
  case hy103 => (intro w hSw; (try dsimp only at hSw); go_simp) <;> (try with_reducible rfl)
  (try simp only [Act.put, List.setIfInBounds_toArray, List.set_cons_zero, List.set_cons_succ])
  refine take_run (d := (some 42)) (v := ?v104) 1 rfl rfl (by kernel_rfl) (by kernel_rfl) (by kernel_rfl) (fun _ _ _ h => h) (by rfl) hHeld ?hy104 ?rs104
  case hy104 => (intro w hSw; (try dsimp only at hSw); go_simp) <;> (try with_reducible rfl)
  (try simp only [Act.put, List.setIfInBounds_toArray, List.set_cons_zero, List.set_cons_succ])
  refine take_run (d := (some 43)) (v := ?v105) 2 rfl rfl (by kernel_rfl) (by kernel_rfl) (by kernel_rfl) (fun _ _ _ h => h) (by rfl) hHeld ?hy105 ?rs105
  case hy105 => (intro w hSw; (try dsimp only at hSw); go_simp) <;> (try with_reducible rfl)
  (try simp only [Act.put, List.setIfInBounds_toArray, List.set_cons_zero, List.set_cons_succ])
  refine take_run (d := (some 46)) (v := ?v106) 5 rfl rfl (by kernel_rfl) (by kernel_rfl) (by kernel_rfl) (fun _ _ _ h => h) (by rfl) hHeld ?hy106 ?rs106
  case hy106 => (intro w hSw; (try dsimp only at hSw); go_simp) <;> (try with_reducible rfl)
  (try simp only [Act.put, List.setIfInBounds_toArray, List.set_cons_zero, List.set_cons_succ])
  refine take_run (d := (some 47)) (v := ?v107) 6 rfl rfl (by kernel_rfl) (by kernel_rfl) (by kernel_rfl) (fun _ _ _ h => h) (by rfl) hHeld ?hy107 ?rs107
  case hy107 => (intro w hSw; (try dsimp only at hSw); go_simp) <;> (try with_reducible rfl)
  (try simp only [Act.put, List.setIfInBounds_toArray, List.set_cons_zero, List.set_cons_succ])
  refine take_run (d := (some 48)) (v := ?v108) 7 rfl rfl (by kernel_rfl) (by kernel_rfl) (by kernel_rfl) (fun _ _ _ h => h) (by rfl) hHeld ?hy108 ?rs108
  case hy108 => (intro w hSw; (try dsimp only at hSw); go_simp) <;> (try with_reducible rfl)
  (try simp only [Act.put, List.setIfInBounds_toArray, List.set_cons_zero, List.set_cons_succ])
  refine take_run (d := (some 52)) (v := ?v109) 11 rfl rfl (by kernel_rfl) (by kernel_rfl) (by kernel_rfl) (fun _ _ _ h => h) (by rfl) hHeld ?hy109 ?rs109
  case hy109 => (intro w hSw; (try dsimp only at hSw); go_simp) <;> (try with_reducible rfl)
  (try simp only [Act.put, List.setIfInBounds_toArray, List.set_cons_zero, List.set_cons_succ])
  refine take_run (d := (some 53)) (v := ?v110) 12 rfl rfl (by kernel_rfl) (by kernel_rfl) (by kernel_rfl) (fun _ _ _ h => h) (by rfl) hHeld ?hy110 ?rs110
  case hy110 => (intro w hSw; (try dsimp only at hSw); go_simp) <;> (try with_reducible rfl)
  (try simp only [Act.put, List.setIfInBounds_toArray, List.set_cons_zero, List.set_cons_succ])
  refine take_run (d := (some 54)) (v := ?v111) 13 rfl rfl (by kernel_rfl) (by kernel_rfl) (by kernel_rfl) (fun _ _ _ h => h) (by rfl) hHeld ?hy111 ?rs111
  case hy111 => (intro w hSw; (try dsimp only at hSw); go_simp) <;> (try with_reducible rfl)
  (try simp only [Act.put, List.setIfInBounds_toArray, List.set_cons_zero, List.set_cons_succ])
  refine take_call 3 rfl (by kernel_rfl) (by rfl) (fun K hK => ?_)
  go_simp
  refine (D1.out _).mono ?_
  rintro e w' ⟨rfl, hb⟩
  refine hK.out _ _ (by obtain ⟨h0, h1, h2, h3, h4, h5, h6, h7, h8, h9, h10, h11, hw⟩ := hHeld; exact ⟨cell_keep h0 hb, cell_keep h1 hb, cell_keep h2 hb, cell_keep h3 hb, cell_keep h4 hb, cell_keep h5 hb, cell_keep h6 hb, cell_keep h7 hb, cell_keep h8 hb, cell_keep h9 hb, cell_keep h10 hb, cell_keep h11 hb, Lib.hid (blw_trans hw.out hb)⟩) (fun hHeld => ?_)
  clear hK K
  (try simp only [Act.put, List.setIfInBounds_toArray, List.set_cons_zero, List.set_cons_succ])
  refine take_run (d := (some 45)) (v := ?v113) 4 rfl rfl (by kernel_rfl) (by kernel_rfl) (by kernel_rfl) (fun _ _ _ h => h) (by rfl) hHeld ?hy113 ?rs113
  case hy113 => (intro w hSw; (try dsimp only at hSw); go_simp) <;> (try with_reducible rfl)
  (try simp only [Act.put, List.setIfInBounds_toArray, List.set_cons_zero, List.set_cons_succ])
  refine take_call 8 rfl (by kernel_rfl) (by rfl) (fun K hK => ?_)
  go_simp
  refine (D2.out _).mono ?_
  rintro e w' ⟨rfl, hb⟩
  refine hK.out _ _ (by obtain ⟨h0, h1, h2, h3, h4, h5, h6, h7, h8, h9, h10, h11, hw⟩ := hHeld; exact ⟨cell_keep h0 hb, cell_keep h1 hb, cell_keep h2 hb, cell_keep h3 hb, cell_keep h4 hb, cell_keep h5 hb, cell_keep h6 hb, cell_keep h7 hb, cell_keep h8 hb, cell_keep h9 hb, cell_keep h10 hb, cell_keep h11 hb, Lib.hid (blw_trans hw.out hb)⟩) (fun hHeld => ?_)
  clear hK K
  (try simp only [Act.put, List.setIfInBounds_toArray, List.set_cons_zero, List.set_cons_succ])
  refine take_run (d := (some 50)) (v := ?v115) 9 rfl rfl (by kernel_rfl) (by kernel_rfl) (by kernel_rfl) (fun _ _ _ h => h) (by rfl) hHeld ?hy115 ?rs115
  case hy115 => (intro w hSw; (try dsimp only at hSw); go_simp) <;> (try with_reducible rfl)
  (try simp only [Act.put, List.setIfInBounds_toArray, List.set_cons_zero, List.set_cons_succ])
  refine take_run (d := (some 51)) (v := ?v116) 10 rfl rfl (by kernel_rfl) (by kernel_rfl) (by kernel_rfl) (fun _ _ _ h => h) (by rfl) hHeld ?hy116 ?rs116
  case hy116 => (intro w hSw; (try dsimp only at hSw); go_simp) <;> (try with_reducible rfl)
  (try simp only [Act.put, List.setIfInBounds_toArray, List.set_cons_zero, List.set_cons_succ])
  refine take_call 14 rfl (by kernel_rfl) (by rfl) (fun K hK => ?_)
  go_simp
  refine (D3.out _).mono ?_
  rintro e w' ⟨rfl, hb⟩
  refine hK.out _ _ (by obtain ⟨h0, h1, h2, h3, h4, h5, h6, h7, h8, h9, h10, h11, hw⟩ := hHeld; exact ⟨cell_keep h0 hb, cell_keep h1 hb, cell_keep h2 hb, cell_keep h3 hb, cell_keep h4 hb, cell_keep h5 hb, cell_keep h6 hb, cell_keep h7 hb, cell_keep h8 hb, cell_keep h9 hb, cell_keep h10 hb, cell_keep h11 hb, Lib.hid (blw_trans hw.out hb)⟩) (fun hHeld => ?_)
  clear hK K
  (try simp only [Act.put, List.setIfInBounds_toArray, List.set_cons_zero, List.set_cons_succ])
  refine take_run (d := (some 56)) (v := ?v118) 15 rfl rfl (by kernel_rfl) (by kernel_rfl) (by kernel_rfl) (fun _ _ _ h => h) (by rfl) hHeld ?hy118 ?rs118
  case hy118 => (intro w hSw; (try dsimp only at hSw); go_simp) <;> (try with_reducible rfl)
  (try simp only [Act.put, List.setIfInBounds_toArray, List.set_cons_zero, List.set_cons_succ])
  refine take_run (d := (some 15)) (v := ?v119) 16 rfl rfl (by kernel_rfl) (by kernel_rfl) (by kernel_rfl) (fun _ _ _ h => h) (by rfl) hHeld ?hy119 ?rs119
  case hy119 => (intro w hSw; (try dsimp only at hSw); go_simp) <;> (try with_reducible rfl)
  (try simp only [Act.put, List.setIfInBounds_toArray, List.set_cons_zero, List.set_cons_succ])
  refine wpAnyH_done (by kernel_rfl) ?_ _
  obtain ⟨z0, z1, z2, z3, z4, z5, z6, z7, z8, z9, z10, z11, zW⟩ := hHeld
  have lz_u := World.block_lt_of_cell? _ _ z0
  try simp only at lz_u
  have lz_t := World.block_lt_of_cell? _ _ z3
  try simp only at lz_t
  have lz_a := World.block_lt_of_cell? _ _ z6
  try simp only at lz_a
  have lz_x := World.block_lt_of_cell? _ _ z9
  try simp only at lz_x
  go_wp2_with fail
  refine (CB.out _ (hT.below (by repeat (first | exact zW.out | refine blw_drewN ?_ _ | refine Below.setCell ?_ (by first | (simp; done) | omega | (simp; omega)) _ | refine Below.alloc ?_ (by first | (simp; done) | omega | (simp; omega)) _)))).mono ?_
  rintro e w106 ⟨rfl, hb⟩
  have W106 := Lib.hid (blw_trans (show Below w.heap.size w _ by repeat (first | exact zW.out | refine blw_drewN ?_ _ | refine Below.setCell ?_ (by first | (simp; done) | omega | (simp; omega)) _ | refine Below.alloc ?_ (by first | (simp; done) | omega | (simp; omega)) _)) hb)
  have n106 := hb.size
  try simp at n106
  have k106_u0 := cell_keep (a := ⟨w.heap.size + 1, 0, none⟩) (v := .int .i64 p) (by first | (go_keep; done) | (simp [go_sem, *]; done)) hb
  have k106_u1 := cell_keep (a := ⟨w.heap.size + 1, 1, none⟩) (v := .int .i64 q) (by first | (go_keep; done) | (simp [go_sem, *]; done)) hb
  have k106_u2 := cell_keep (a := ⟨w.heap.size + 1, 2, none⟩) (v := .int .i64 r) (by first | (go_keep; done) | (simp [go_sem, *]; done)) hb
  have l106_u := World.block_lt_of_cell? _ _ k106_u0
  try simp only at l106_u
  have k106_t0 := cell_keep (a := ⟨w1.heap.size, 0, none⟩) (v := .int .i64 0) (by first | (go_keep; done) | (simp [go_sem, *]; done)) hb
  have k106_t1 := cell_keep (a := ⟨w1.heap.size, 1, none⟩) (v := .int .i64 0) (by first | (go_keep; done) | (simp [go_sem, *]; done)) hb
  have k106_t2 := cell_keep (a := ⟨w1.heap.size, 2, none⟩) (v := .int .i64 0) (by first | (go_keep; done) | (simp [go_sem, *]; done)) hb
  have l106_t := World.block_lt_of_cell? _ _ k106_t0
  try simp only at l106_t
  have k106_a0 := cell_keep (a := ⟨w3.heap.size, 0, none⟩) (v := .int .i64 0) (by first | (go_keep; done) | (simp [go_sem, *]; done)) hb
  have k106_a1 := cell_keep (a := ⟨w3.heap.size, 1, none⟩) (v := .int .i64 0) (by first | (go_keep; done) | (simp [go_sem, *]; done)) hb
  have k106_a2 := cell_keep (a := ⟨w3.heap.size, 2, none⟩) (v := .int .i64 0) (by first | (go_keep; done) | (simp [go_sem, *]; done)) hb
  have l106_a := World.block_lt_of_cell? _ _ k106_a0
  try simp only at l106_a
  have k106_x0 := cell_keep (a := ⟨w5.heap.size, 0, none⟩) (v := .int .i64 X1) (by first | (go_keep; done) | (simp [go_sem, *]; done)) hb
  have k106_x1 := cell_keep (a := ⟨w5.heap.size, 1, none⟩) (v := .int .i64 X2) (by first | (go_keep; done) | (simp [go_sem, *]; done)) hb
  have k106_x2 := cell_keep (a := ⟨w5.heap.size, 2, none⟩) (v := .int .i64 X3) (by first | (go_keep; done) | (simp [go_sem, *]; done)) hb
  have l106_x := World.block_lt_of_cell? _ _ k106_x0
  try simp only at l106_x
  clear hb z0 z1 z2 z3 z4 z5 z6 z7 z8 z9 z10 z11 lz_u lz_t lz_a lz_x zW
  go_wp2_with fail
  refine (E0.out _ (hT.below (by repeat (first | exact W106.out | refine blw_drewN ?_ _ | refine Below.setCell ?_ (by first | (simp; done) | omega | (simp; omega)) _ | refine Below.alloc ?_ (by first | (simp; done) | omega | (simp; omega)) _)))).mono ?_
  rintro e w107 ⟨rfl, hb⟩
  have W107 := Lib.hid (blw_trans (show Below w.heap.size w _ by repeat (first | exact W106.out | refine blw_drewN ?_ _ | refine Below.setCell ?_ (by first | (simp; done) | omega | (simp; omega)) _ | refine Below.alloc ?_ (by first | (simp; done) | omega | (simp; omega)) _)) hb)
  have n107 := hb.size
  try simp at n107
  have k107_u0 := cell_keep (a := ⟨w.heap.size + 1, 0, none⟩) (v := .int .i64 p) (by first | (go_keep; done) | (simp [go_sem, *]; done)) hb
  have k107_u1 := cell_keep (a := ⟨w.heap.size + 1, 1, none⟩) (v := .int .i64 q) (by first | (go_keep; done) | (simp [go_sem, *]; done)) hb
  have k107_u2 := cell_keep (a := ⟨w.heap.size + 1, 2, none⟩) (v := .int .i64 r) (by first | (go_keep; done) | (simp [go_sem, *]; done)) hb
  have l107_u := World.block_lt_of_cell? _ _ k107_u0
  try simp only at l107_u
  have k107_t0 := cell_keep (a := ⟨w1.heap.size, 0, none⟩) (v := .int .i64 0) (by first | (go_keep; done) | (simp [go_sem, *]; done)) hb
  have k107_t1 := cell_keep (a := ⟨w1.heap.size, 1, none⟩) (v := .int .i64 0) (by first | (go_keep; done) | (simp [go_sem, *]; done)) hb
  have k107_t2 := cell_keep (a := ⟨w1.heap.size, 2, none⟩) (v := .int .i64 0) (by first | (go_keep; done) | (simp [go_sem, *]; done)) hb
  have l107_t := World.block_lt_of_cell? _ _ k107_t0
  try simp only at l107_t
  have k107_a0 := cell_keep (a := ⟨w3.heap.size, 0, none⟩) (v := .int .i64 0) (by first | (go_keep; done) | (simp [go_sem, *]; done)) hb
  have k107_a1 := cell_keep (a := ⟨w3.heap.size, 1, none⟩) (v := .int .i64 0) (by first | (go_keep; done) | (simp [go_sem, *]; done)) hb
  have k107_a2 := cell_keep (a := ⟨w3.heap.size, 2, none⟩) (v := .int .i64 0) (by first | (go_keep; done) | (simp [go_sem, *]; done)) hb
  have l107_a := World.block_lt_of_cell? _ _ k107_a0
  try simp only at l107_a
  have k107_x0 := cell_keep (a := ⟨w5.heap.size, 0, none⟩) (v := .int .i64 X1) (by first | (go_keep; done) | (simp [go_sem, *]; done)) hb
  have k107_x1 := cell_keep (a := ⟨w5.heap.size, 1, none⟩) (v := .int .i64 X2) (by first | (go_keep; done) | (simp [go_sem, *]; done)) hb
  have k107_x2 := cell_keep (a := ⟨w5.heap.size, 2, none⟩) (v := .int .i64 X3) (by first | (go_keep; done) | (simp [go_sem, *]; done)) hb
  have l107_x := World.block_lt_of_cell? _ _ k107_x0
  try simp only at l107_x
  have k107_b0 := cell_keep (a := ⟨w106.heap.size, 0, none⟩) (v := .int .i64 X1) (by first | (go_keep; done) | (simp [go_sem, *]; done)) hb
  have k107_b1 := cell_keep (a := ⟨w106.heap.size, 1, none⟩) (v := .int .i64 X2) (by first | (go_keep; done) | (simp [go_sem, *]; done)) hb
  have k107_b2 := cell_keep (a := ⟨w106.heap.size, 2, none⟩) (v := .int .i64 X3) (by first | (go_keep; done) | (simp [go_sem, *]; done)) hb
  have l107_b := World.block_lt_of_cell? _ _ k107_b0
  try simp only at l107_b
  clear hb k106_u0 k106_u1 k106_u2 l106_u k106_t0 k106_t1 k106_t2 l106_t k106_a0 k106_a1 k106_a2 l106_a k106_x0 k106_x1 k106_x2 l106_x W106
  go_wp2_with fail
  refine (CT.out _ (hT.below (by repeat (first | exact W107.out | refine blw_drewN ?_ _ | refine Below.setCell ?_ (by first | (simp; done) | omega | (simp; omega)) _ | refine Below.alloc ?_ (by first | (simp; done) | omega | (simp; omega)) _)))).mono ?_
  rintro e w108 ⟨rfl, hb⟩
  have W108 := Lib.hid (blw_trans (show Below w.heap.size w _ by repeat (first | exact W107.out | refine blw_drewN ?_ _ | refine Below.setCell ?_ (by first | (simp; done) | omega | (simp; omega)) _ | refine Below.alloc ?_ (by first | (simp; done) | omega | (simp; omega)) _)) hb)
  have n108 := hb.size
  try simp at n108
  have k108_u0 := cell_keep (a := ⟨w.heap.size + 1, 0, none⟩) (v := .int .i64 p) (by first | (go_keep; done) | (simp [go_sem, *]; done)) hb
  have k108_u1 := cell_keep (a := ⟨w.heap.size + 1, 1, none⟩) (v := .int .i64 q) (by first | (go_keep; done) | (simp [go_sem, *]; done)) hb
  have k108_u2 := cell_keep (a := ⟨w.heap.size + 1, 2, none⟩) (v := .int .i64 r) (by first | (go_keep; done) | (simp [go_sem, *]; done)) hb
  have l108_u := World.block_lt_of_cell? _ _ k108_u0
  try simp only at l108_u
  have k108_t0 := cell_keep (a := ⟨w1.heap.size, 0, none⟩) (v := .int .i64 0) (by first | (go_keep; done) | (simp [go_sem, *]; done)) hb
  have k108_t1 := cell_keep (a := ⟨w1.heap.size, 1, none⟩) (v := .int .i64 0) (by first | (go_keep; done) | (simp [go_sem, *]; done)) hb
  have k108_t2 := cell_keep (a := ⟨w1.heap.size, 2, none⟩) (v := .int .i64 0) (by first | (go_keep; done) | (simp [go_sem, *]; done)) hb
  have l108_t := World.block_lt_of_cell? _ _ k108_t0
  try simp only at l108_t
  have k108_a0 := cell_keep (a := ⟨w3.heap.size, 0, none⟩) (v := .int .i64 0) (by first | (go_keep; done) | (simp [go_sem, *]; done)) hb
  have k108_a1 := cell_keep (a := ⟨w3.heap.size, 1, none⟩) (v := .int .i64 0) (by first | (go_keep; done) | (simp [go_sem, *]; done)) hb
  have k108_a2 := cell_keep (a := ⟨w3.heap.size, 2, none⟩) (v := .int .i64 0) (by first | (go_keep; done) | (simp [go_sem, *]; done)) hb
  have l108_a := World.block_lt_of_cell? _ _ k108_a0
  try simp only at l108_a
  have k108_x0 := cell_keep (a := ⟨w5.heap.size, 0, none⟩) (v := .int .i64 X1) (by first | (go_keep; done) | (simp [go_sem, *]; done)) hb
  have k108_x1 := cell_keep (a := ⟨w5.heap.size, 1, none⟩) (v := .int .i64 X2) (by first | (go_keep; done) | (simp [go_sem, *]; done)) hb
  have k108_x2 := cell_keep (a := ⟨w5.heap.size, 2, none⟩) (v := .int .i64 X3) (by first | (go_keep; done) | (simp [go_sem, *]; done)) hb
  have l108_x := World.block_lt_of_cell? _ _ k108_x0
  try simp only at l108_x
  have k108_b0 := cell_keep (a := ⟨w106.heap.size, 0, none⟩) (v := .int .i64 X1) (by first | (go_keep; done) | (simp [go_sem, *]; done)) hb
  have k108_b1 := cell_keep (a := ⟨w106.heap.size, 1, none⟩) (v := .int .i64 X2) (by first | (go_keep; done) | (simp [go_sem, *]; done)) hb
  have k108_b2 := cell_keep (a := ⟨w106.heap.size, 2, none⟩) (v := .int .i64 X3) (by first | (go_keep; done) | (simp [go_sem, *]; done)) hb
  have l108_b := World.block_lt_of_cell? _ _ k108_b0
  try simp only at l108_b
  clear hb k107_u0 k107_u1 k107_u2 l107_u k107_t0 k107_t1 k107_t2 l107_t k107_a0 k107_a1 k107_a2 l107_a k107_x0 k107_x1 k107_x2 l107_x k107_b0 k107_b1 k107_b2 l107_b W107
  go_wp2_with fail
  refine (E0.out _ (hT.below (by repeat (first | exact W108.out | refine blw_drewN ?_ _ | refine Below.setCell ?_ (by first | (simp; done) | omega | (simp; omega)) _ | refine Below.alloc ?_ (by first | (simp; done) | omega | (simp; omega)) _)))).mono ?_
  rintro e w109 ⟨rfl, hb⟩
  have W109 := Lib.hid (blw_trans (show Below w.heap.size w _ by repeat (first | exact W108.out | refine blw_drewN ?_ _ | refine Below.setCell ?_ (by first | (simp; done) | omega | (simp; omega)) _ | refine Below.alloc ?_ (by first | (simp; done) | omega | (simp; omega)) _)) hb)
  have n109 := hb.size
  try simp at n109
  have k109_t0 := cell_keep (a := ⟨w1.heap.size, 0, none⟩) (v := .int .i64 0) (by first | (go_keep; done) | (simp [go_sem, *]; done)) hb
  have k109_t1 := cell_keep (a := ⟨w1.heap.size, 1, none⟩) (v := .int .i64 0) (by first | (go_keep; done) | (simp [go_sem, *]; done)) hb
  have k109_t2 := cell_keep (a := ⟨w1.heap.size, 2, none⟩) (v := .int .i64 0) (by first | (go_keep; done) | (simp [go_sem, *]; done)) hb
  have l109_t := World.block_lt_of_cell? _ _ k109_t0
  try simp only at l109_t
  have k109_a0 := cell_keep (a := ⟨w3.heap.size, 0, none⟩) (v := .int .i64 0) (by first | (go_keep; done) | (simp [go_sem, *]; done)) hb
  have k109_a1 := cell_keep (a := ⟨w3.heap.size, 1, none⟩) (v := .int .i64 0) (by first | (go_keep; done) | (simp [go_sem, *]; done)) hb
  have k109_a2 := cell_keep (a := ⟨w3.heap.size, 2, none⟩) (v := .int .i64 0) (by first | (go_keep; done) | (simp [go_sem, *]; done)) hb
  have l109_a := World.block_lt_of_cell? _ _ k109_a0
  try simp only at l109_a
  have k109_x0 := cell_keep (a := ⟨w5.heap.size, 0, none⟩) (v := .int .i64 X1) (by first | (go_keep; done) | (simp [go_sem, *]; done)) hb
  have k109_x1 := cell_keep (a := ⟨w5.heap.size, 1, none⟩) (v := .int .i64 X2) (by first | (go_keep; done) | (simp [go_sem, *]; done)) hb
  have k109_x2 := cell_keep (a := ⟨w5.heap.size, 2, none⟩) (v := .int .i64 X3) (by first | (go_keep; done) | (simp [go_sem, *]; done)) hb
  have l109_x := World.block_lt_of_cell? _ _ k109_x0
  try simp only at l109_x
  have k109_b0 := cell_keep (a := ⟨w106.heap.size, 0, none⟩) (v := .int .i64 X1) (by first | (go_keep; done) | (simp [go_sem, *]; done)) hb
  have k109_b1 := cell_keep (a := ⟨w106.heap.size, 1, none⟩) (v := .int .i64 X2) (by first | (go_keep; done) | (simp [go_sem, *]; done)) hb
  have k109_b2 := cell_keep (a := ⟨w106.heap.size, 2, none⟩) (v := .int .i64 X3) (by first | (go_keep; done) | (simp [go_sem, *]; done)) hb
  have l109_b := World.block_lt_of_cell? _ _ k109_b0
  try simp only at l109_b
  clear hb k108_u0 k108_u1 k108_u2 l108_u k108_t0 k108_t1 k108_t2 l108_t k108_a0 k108_a1 k108_a2 l108_a k108_x0 k108_x1 k108_x2 l108_x k108_b0 k108_b1 k108_b2 l108_b W108
  go_wp2_with fail
  refine (CY.out _).mono ?_
  rintro e w' ⟨rfl, rfl⟩
  go_wp2_with fail
  refine (CN.out _).mono ?_
  rintro e w' ⟨rfl, rfl⟩
  go_wp2_with fail
  refine (E0.out _ (hT.below (by repeat (first | exact W109.out | refine blw_drewN ?_ _ | refine Below.setCell ?_ (by first | (simp; done) | omega | (simp; omega)) _ | refine Below.alloc ?_ (by first | (simp; done) | omega | (simp; omega)) _)))).mono ?_
  rintro e w110 ⟨rfl, hb⟩
  have W110 := Lib.hid (blw_trans (show Below w.heap.size w _ by repeat (first | exact W109.out | refine blw_drewN ?_ _ | refine Below.setCell ?_ (by first | (simp; done) | omega | (simp; omega)) _ | refine Below.alloc ?_ (by first | (simp; done) | omega | (simp; omega)) _)) hb)
  have n110 := hb.size
  try simp at n110
  have k110_t0 := cell_keep (a := ⟨w1.heap.size, 0, none⟩) (v := .int .i64 0) (by first | (go_keep; done) | (simp [go_sem, *]; done)) hb
  have k110_t1 := cell_keep (a := ⟨w1.heap.size, 1, none⟩) (v := .int .i64 0) (by first | (go_keep; done) | (simp [go_sem, *]; done)) hb
  have k110_t2 := cell_keep (a := ⟨w1.heap.size, 2, none⟩) (v := .int .i64 0) (by first | (go_keep; done) | (simp [go_sem, *]; done)) hb
  have l110_t := World.block_lt_of_cell? _ _ k110_t0
  try simp only at l110_t
  have k110_a0 := cell_keep (a := ⟨w3.heap.size, 0, none⟩) (v := .int .i64 0) (by first | (go_keep; done) | (simp [go_sem, *]; done)) hb
  have k110_a1 := cell_keep (a := ⟨w3.heap.size, 1, none⟩) (v := .int .i64 0) (by first | (go_keep; done) | (simp [go_sem, *]; done)) hb
  have k110_a2 := cell_keep (a := ⟨w3.heap.size, 2, none⟩) (v := .int .i64 0) (by first | (go_keep; done) | (simp [go_sem, *]; done)) hb
  have l110_a := World.block_lt_of_cell? _ _ k110_a0
  try simp only at l110_a
  have k110_x0 := cell_keep (a := ⟨w5.heap.size, 0, none⟩) (v := .int .i64 X1) (by first | (go_keep; done) | (simp [go_sem, *]; done)) hb
  have k110_x1 := cell_keep (a := ⟨w5.heap.size, 1, none⟩) (v := .int .i64 X2) (by first | (go_keep; done) | (simp [go_sem, *]; done)) hb
  have k110_x2 := cell_keep (a := ⟨w5.heap.size, 2, none⟩) (v := .int .i64 X3) (by first | (go_keep; done) | (simp [go_sem, *]; done)) hb
  have l110_x := World.block_lt_of_cell? _ _ k110_x0
  try simp only at l110_x
  have k110_b0 := cell_keep (a := ⟨w106.heap.size, 0, none⟩) (v := .int .i64 X1) (by first | (go_keep; done) | (simp [go_sem, *]; done)) hb
  have k110_b1 := cell_keep (a := ⟨w106.heap.size, 1, none⟩) (v := .int .i64 X2) (by first | (go_keep; done) | (simp [go_sem, *]; done)) hb
  have k110_b2 := cell_keep (a := ⟨w106.heap.size, 2, none⟩) (v := .int .i64 X3) (by first | (go_keep; done) | (simp [go_sem, *]; done)) hb
  have l110_b := World.block_lt_of_cell? _ _ k110_b0
  try simp only at l110_b
  clear hb k109_t0 k109_t1 k109_t2 l109_t k109_a0 k109_a1 k109_a2 l109_a k109_x0 k109_x1 k109_x2 l109_x k109_b0 k109_b1 k109_b2 l109_b W109
  go_wp2
  go_ret
  exact ⟨ret_bool (by simp), by repeat (first | exact W110.out | refine blw_drewN ?_ _ | refine Below.setCell ?_ (by first | (simp; done) | omega | (simp; omega)) _ | refine Below.alloc ?_ (by first | (simp; done) | omega | (simp; omega)) _)⟩

set_option maxRecDepth 100000 in
set_option maxHeartbeats 4000000 in
theorem weekTells_nwlt (y m d p q r x p0 q0 r0 X1 X2 X3 : Int) (P Q R T : List UInt8) (w : World) (hT : TPH w)
    (lp : P.length ≤ 120) (lq : Q.length ≤ 120) (lr : R.length ≤ 120) (HX : P ++ [45, 87] ++ Q ++ [45] ++ R = T)
    (mp : max p 0 = p0) (mq : max q 0 = q0) (mr : max r 0 = r0)
    (CF : Hid (∀ w : World, Calls Tryd.prog 6 #[.agg #[.int .i64 y, .int .i64 m, .int .i64 d]] w fun e w' => e = .returned (.bool true) ∧ Below w.heap.size w w'))
    (CO : Hid (∀ w : World, TPH w → Calls Tryd.prog 8 #[.agg #[.int .i64 y, .int .i64 m, .int .i64 d]] w fun e w' => e = .returned (.tuple #[.agg #[.int .i64 0, .int .i64 0, .int .i64 0], errV 1]) ∧ Below w.heap.size w w'))
    (CX : Hid (∀ w : World, Calls Tryd.prog 10 #[.agg #[.int .i64 p, .int .i64 q, .int .i64 r]] w fun e w' => e = .returned (.tuple #[.agg #[.int .i64 X1, .int .i64 X2, .int .i64 X3], .bool true]) ∧ Below w.heap.size w w'))
    (D1 : Hid (∀ w : World, Calls Tryd.prog 11 #[.int .i64 p0, .int .i64 4] w fun e w' => e = .returned (.string ⟨P.toArray⟩) ∧ Below w.heap.size w w'))
    (D2 : Hid (∀ w : World, Calls Tryd.prog 11 #[.int .i64 q0, .int .i64 2] w fun e w' => e = .returned (.string ⟨Q.toArray⟩) ∧ Below w.heap.size w w'))
    (D3 : Hid (∀ w : World, Calls Tryd.prog 11 #[.int .i64 r0, .int .i64 1] w fun e w' => e = .returned (.string ⟨R.toArray⟩) ∧ Below w.heap.size w w'))
    (CB : Hid (∀ w : World, TPH w → Calls Tryd.prog 12 #[.agg #[.int .i64 p, .int .i64 q, .int .i64 r]] w fun e w' => e = .returned (.tuple #[.agg #[.int .i64 X1, .int .i64 X2, .int .i64 X3], .nilIface]) ∧ Below w.heap.size w w'))
    (CT : Hid (∀ w : World, TPH w → Calls Tryd.prog 13 #[.agg #[.int .i64 p, .int .i64 q, .int .i64 r]] w fun e w' => e = .returned (.tuple #[.string ⟨T.toArray⟩, .nilIface]) ∧ Below w.heap.size w w'))
    (y0 : x < 1)
    (CN : Hid (∀ w : World, Calls Tryd.prog 15 #[.int .i64 x] w fun e w' => e = .returned (.tuple #[.int .i64 0, errV 1]) ∧ w = w')) :
    Calls Tryd.prog 3 #[.agg #[.int .i64 y, .int .i64 m, .int .i64 d], .agg #[.int .i64 p, .int .i64 q, .int .i64 r], .int .i64 x] w fun e w' => e = .returned (.bool true) ∧ Below w.heap.size w w' := by
  have C0 := Lib.hid fun w (hT : TPH w) => weekly_any w hT.t
  have E0 := Lib.hid fun w (hT : TPH w) => sameErr_yes ErrNo.nil w hT.h
  have E1 := Lib.hid fun w (hT : TPH w) => sameErr_yes (ErrNo.no 1) w hT.h
  have g1 : decide (x < 1) = true := dec_yes y0
  obtain ⟨Y1, x1⟩ : ∃ X, X = P ++ [45, 87] := ⟨_, rfl⟩
  have S1 : ∀ w, (Op.stringOp .add ⟨P.toArray⟩ ⟨#[45, 87]⟩).run Tryd.prog w = .ok (.string ⟨Y1.toArray⟩) w := fun w => by rw [x1]; exact add_str (P := Tryd.prog) P [45, 87] (by first | omega | (simp; omega)) w
  have m1 : Y1.length = P.length + 2 := by rw [x1]; simp
  obtain ⟨Y2, x2⟩ : ∃ X, X = Y1 ++ Q := ⟨_, rfl⟩
  have S2 : ∀ w, (Op.stringOp .add ⟨Y1.toArray⟩ ⟨Q.toArray⟩).run Tryd.prog w = .ok (.string ⟨Y2.toArray⟩) w := fun w => by rw [x2]; exact add_str (P := Tryd.prog) Y1 Q (by first | omega | (simp; omega)) w
  have m2 : Y2.length = Y1.length + Q.length := by rw [x2]; simp
  obtain ⟨Y3, x3⟩ : ∃ X, X = Y2 ++ [45] := ⟨_, rfl⟩
  have S3 : ∀ w, (Op.stringOp .add ⟨Y2.toArray⟩ ⟨#[45]⟩).run Tryd.prog w = .ok (.string ⟨Y3.toArray⟩) w := fun w => by rw [x3]; exact add_str (P := Tryd.prog) Y2 [45] (by first | omega | (simp; omega)) w
  have m3 : Y3.length = Y2.length + 1 := by rw [x3]; simp
  have S4 : ∀ w, (Op.stringOp .add ⟨Y3.toArray⟩ ⟨R.toArray⟩).run Tryd.prog w = .ok (.string ⟨T.toArray⟩) w := fun w => by rw [← HX, ← x1, ← x2, ← x3]; exact add_str (P := Tryd.prog) Y3 R (by omega) w
  clear x1 x2 x3 m1 m2 m3 HX lp lq lr
  go_enter Tryd.func3, Tryd.ntmps3
  go_wp2_with fail
  refine (C0.out _ (hT.below (by repeat (first | exact (Below.refl _ _) | refine blw_drewN ?_ _ | refine Below.setCell ?_ (by first | (simp; done) | omega | (simp; omega)) _ | refine Below.alloc ?_ (by first | (simp; done) | omega | (simp; omega)) _)))).mono ?_
  rintro e w1 ⟨rfl, hb⟩
  have W1 := Lib.hid (blw_trans (show Below w.heap.size w _ by repeat (first | exact (Below.refl _ _) | refine blw_drewN ?_ _ | refine Below.setCell ?_ (by first | (simp; done) | omega | (simp; omega)) _ | refine Below.alloc ?_ (by first | (simp; done) | omega | (simp; omega)) _)) hb)
  have n1 := hb.size
  try simp at n1
  have k1_d0 := cell_keep (a := ⟨w.heap.size, 0, none⟩) (v := .int .i64 y) (by first | (go_keep; done) | (simp [go_sem, *]; done)) hb
  have k1_d1 := cell_keep (a := ⟨w.heap.size, 1, none⟩) (v := .int .i64 m) (by first | (go_keep; done) | (simp [go_sem, *]; done)) hb
  have k1_d2 := cell_keep (a := ⟨w.heap.size, 2, none⟩) (v := .int .i64 d) (by first | (go_keep; done) | (simp [go_sem, *]; done)) hb
  have l1_d := World.block_lt_of_cell? _ _ k1_d0
  try simp only at l1_d
  have k1_u0 := cell_keep (a := ⟨w.heap.size + 1, 0, none⟩) (v := .int .i64 p) (by first | (go_keep; done) | (simp [go_sem, *]; done)) hb
  have k1_u1 := cell_keep (a := ⟨w.heap.size + 1, 1, none⟩) (v := .int .i64 q) (by first | (go_keep; done) | (simp [go_sem, *]; done)) hb
  have k1_u2 := cell_keep (a := ⟨w.heap.size + 1, 2, none⟩) (v := .int .i64 r) (by first | (go_keep; done) | (simp [go_sem, *]; done)) hb
  have l1_u := World.block_lt_of_cell? _ _ k1_u0
  try simp only at l1_u
  clear hb
  go_wp2_with fail
  refine (CF.out _).mono ?_
  rintro e w2 ⟨rfl, hb⟩
  have W2 := Lib.hid (blw_trans (show Below w.heap.size w _ by repeat (first | exact W1.out | refine blw_drewN ?_ _ | refine Below.setCell ?_ (by first | (simp; done) | omega | (simp; omega)) _ | refine Below.alloc ?_ (by first | (simp; done) | omega | (simp; omega)) _)) hb)
  have n2 := hb.size
  try simp at n2
  have k2_d0 := cell_keep (a := ⟨w.heap.size, 0, none⟩) (v := .int .i64 y) (by first | (go_keep; done) | (simp [go_sem, *]; done)) hb
  have k2_d1 := cell_keep (a := ⟨w.heap.size, 1, none⟩) (v := .int .i64 m) (by first | (go_keep; done) | (simp [go_sem, *]; done)) hb
  have k2_d2 := cell_keep (a := ⟨w.heap.size, 2, none⟩) (v := .int .i64 d) (by first | (go_keep; done) | (simp [go_sem, *]; done)) hb
  have l2_d := World.block_lt_of_cell? _ _ k2_d0
  try simp only at l2_d
  have k2_u0 := cell_keep (a := ⟨w.heap.size + 1, 0, none⟩) (v := .int .i64 p) (by first | (go_keep; done) | (simp [go_sem, *]; done)) hb
  have k2_u1 := cell_keep (a := ⟨w.heap.size + 1, 1, none⟩) (v := .int .i64 q) (by first | (go_keep; done) | (simp [go_sem, *]; done)) hb
  have k2_u2 := cell_keep (a := ⟨w.heap.size + 1, 2, none⟩) (v := .int .i64 r) (by first | (go_keep; done) | (simp [go_sem, *]; done)) hb
  have l2_u := World.block_lt_of_cell? _ _ k2_u0
  try simp only at l2_u
  have k2_t0 := cell_keep (a := ⟨w1.heap.size, 0, none⟩) (v := .int .i64 0) (by first | (go_keep; done) | (simp [go_sem, *]; done)) hb
  have k2_t1 := cell_keep (a := ⟨w1.heap.size, 1, none⟩) (v := .int .i64 0) (by first | (go_keep; done) | (simp [go_sem, *]; done)) hb
  have k2_t2 := cell_keep (a := ⟨w1.heap.size, 2, none⟩) (v := .int .i64 0) (by first | (go_keep; done) | (simp [go_sem, *]; done)) hb
  have l2_t := World.block_lt_of_cell? _ _ k2_t0
  try simp only at l2_t
  clear hb k1_d0 k1_d1 k1_d2 l1_d k1_u0 k1_u1 k1_u2 l1_u W1
  go_wp2_with fail
  refine (CO.out _ (hT.below (by repeat (first | exact W2.out | refine blw_drewN ?_ _ | refine Below.setCell ?_ (by first | (simp; done) | omega | (simp; omega)) _ | refine Below.alloc ?_ (by first | (simp; done) | omega | (simp; omega)) _)))).mono ?_
  rintro e w3 ⟨rfl, hb⟩
  have W3 := Lib.hid (blw_trans (show Below w.heap.size w _ by repeat (first | exact W2.out | refine blw_drewN ?_ _ | refine Below.setCell ?_ (by first | (simp; done) | omega | (simp; omega)) _ | refine Below.alloc ?_ (by first | (simp; done) | omega | (simp; omega)) _)) hb)
  have n3 := hb.size
  try simp at n3
  have k3_u0 := cell_keep (a := ⟨w.heap.size + 1, 0, none⟩) (v := .int .i64 p) (by first | (go_keep; done) | (simp [go_sem, *]; done)) hb
  have k3_u1 := cell_keep (a := ⟨w.heap.size + 1, 1, none⟩) (v := .int .i64 q) (by first | (go_keep; done) | (simp [go_sem, *]; done)) hb
  have k3_u2 := cell_keep (a := ⟨w.heap.size + 1, 2, none⟩) (v := .int .i64 r) (by first | (go_keep; done) | (simp [go_sem, *]; done)) hb
  have l3_u := World.block_lt_of_cell? _ _ k3_u0
  try simp only at l3_u
  have k3_t0 := cell_keep (a := ⟨w1.heap.size, 0, none⟩) (v := .int .i64 0) (by first | (go_keep; done) | (simp [go_sem, *]; done)) hb
  have k3_t1 := cell_keep (a := ⟨w1.heap.size, 1, none⟩) (v := .int .i64 0) (by first | (go_keep; done) | (simp [go_sem, *]; done)) hb
  have k3_t2 := cell_keep (a := ⟨w1.heap.size, 2, none⟩) (v := .int .i64 0) (by first | (go_keep; done) | (simp [go_sem, *]; done)) hb
  have l3_t := World.block_lt_of_cell? _ _ k3_t0
  try simp only at l3_t
  clear hb k2_d0 k2_d1 k2_d2 l2_d k2_u0 k2_u1 k2_u2 l2_u k2_t0 k2_t1 k2_t2 l2_t W2
  go_wp2_with fail
  refine (E1.out _ (hT.below (by repeat (first | exact W3.out | refine blw_drewN ?_ _ | refine Below.setCell ?_ (by first | (simp; done) | omega | (simp; omega)) _ | refine Below.alloc ?_ (by first | (simp; done) | omega | (simp; omega)) _)))).mono ?_
  rintro e w4 ⟨rfl, hb⟩
  have W4 := Lib.hid (blw_trans (show Below w.heap.size w _ by repeat (first | exact W3.out | refine blw_drewN ?_ _ | refine Below.setCell ?_ (by first | (simp; done) | omega | (simp; omega)) _ | refine Below.alloc ?_ (by first | (simp; done) | omega | (simp; omega)) _)) hb)
  have n4 := hb.size
  try simp at n4
  have k4_u0 := cell_keep (a := ⟨w.heap.size + 1, 0, none⟩) (v := .int .i64 p) (by first | (go_keep; done) | (simp [go_sem, *]; done)) hb
  have k4_u1 := cell_keep (a := ⟨w.heap.size + 1, 1, none⟩) (v := .int .i64 q) (by first | (go_keep; done) | (simp [go_sem, *]; done)) hb
  have k4_u2 := cell_keep (a := ⟨w.heap.size + 1, 2, none⟩) (v := .int .i64 r) (by first | (go_keep; done) | (simp [go_sem, *]; done)) hb
  have l4_u := World.block_lt_of_cell? _ _ k4_u0
  try simp only at l4_u
  have k4_t0 := cell_keep (a := ⟨w1.heap.size, 0, none⟩) (v := .int .i64 0) (by first | (go_keep; done) | (simp [go_sem, *]; done)) hb
  have k4_t1 := cell_keep (a := ⟨w1.heap.size, 1, none⟩) (v := .int .i64 0) (by first | (go_keep; done) | (simp [go_sem, *]; done)) hb
  have k4_t2 := cell_keep (a := ⟨w1.heap.size, 2, none⟩) (v := .int .i64 0) (by first | (go_keep; done) | (simp [go_sem, *]; done)) hb
  have l4_t := World.block_lt_of_cell? _ _ k4_t0
  try simp only at l4_t
  have k4_a0 := cell_keep (a := ⟨w3.heap.size, 0, none⟩) (v := .int .i64 0) (by first | (go_keep; done) | (simp [go_sem, *]; done)) hb
  have k4_a1 := cell_keep (a := ⟨w3.heap.size, 1, none⟩) (v := .int .i64 0) (by first | (go_keep; done) | (simp [go_sem, *]; done)) hb
  have k4_a2 := cell_keep (a := ⟨w3.heap.size, 2, none⟩) (v := .int .i64 0) (by first | (go_keep; done) | (simp [go_sem, *]; done)) hb
  have l4_a := World.block_lt_of_cell? _ _ k4_a0
  try simp only at l4_a
  clear hb k3_u0 k3_u1 k3_u2 l3_u k3_t0 k3_t1 k3_t2 l3_t W3
  go_wp2_with fail
  refine (CX.out _).mono ?_
  rintro e w5 ⟨rfl, hb⟩
  have W5 := Lib.hid (blw_trans (show Below w.heap.size w _ by repeat (first | exact W4.out | refine blw_drewN ?_ _ | refine Below.setCell ?_ (by first | (simp; done) | omega | (simp; omega)) _ | refine Below.alloc ?_ (by first | (simp; done) | omega | (simp; omega)) _)) hb)
  have n5 := hb.size
  try simp at n5
  have k5_u0 := cell_keep (a := ⟨w.heap.size + 1, 0, none⟩) (v := .int .i64 p) (by first | (go_keep; done) | (simp [go_sem, *]; done)) hb
  have k5_u1 := cell_keep (a := ⟨w.heap.size + 1, 1, none⟩) (v := .int .i64 q) (by first | (go_keep; done) | (simp [go_sem, *]; done)) hb
  have k5_u2 := cell_keep (a := ⟨w.heap.size + 1, 2, none⟩) (v := .int .i64 r) (by first | (go_keep; done) | (simp [go_sem, *]; done)) hb
  have l5_u := World.block_lt_of_cell? _ _ k5_u0
  try simp only at l5_u
  have k5_t0 := cell_keep (a := ⟨w1.heap.size, 0, none⟩) (v := .int .i64 0) (by first | (go_keep; done) | (simp [go_sem, *]; done)) hb
  have k5_t1 := cell_keep (a := ⟨w1.heap.size, 1, none⟩) (v := .int .i64 0) (by first | (go_keep; done) | (simp [go_sem, *]; done)) hb
  have k5_t2 := cell_keep (a := ⟨w1.heap.size, 2, none⟩) (v := .int .i64 0) (by first | (go_keep; done) | (simp [go_sem, *]; done)) hb
  have l5_t := World.block_lt_of_cell? _ _ k5_t0
  try simp only at l5_t
  have k5_a0 := cell_keep (a := ⟨w3.heap.size, 0, none⟩) (v := .int .i64 0) (by first | (go_keep; done) | (simp [go_sem, *]; done)) hb
  have k5_a1 := cell_keep (a := ⟨w3.heap.size, 1, none⟩) (v := .int .i64 0) (by first | (go_keep; done) | (simp [go_sem, *]; done)) hb
  have k5_a2 := cell_keep (a := ⟨w3.heap.size, 2, none⟩) (v := .int .i64 0) (by first | (go_keep; done) | (simp [go_sem, *]; done)) hb
  have l5_a := World.block_lt_of_cell? _ _ k5_a0
  try simp only at l5_a
  clear hb k4_u0 k4_u1 k4_u2 l4_u k4_t0 k4_t1 k4_t2 l4_t k4_a0 k4_a1 k4_a2 l4_a W4
  go_wp2_with fail
  refine wp_region_held_drew (S := fun w' => w'.cell? ⟨w.heap.size + 1, 0, none⟩ = some (.int .i64 p) ∧ w'.cell? ⟨w.heap.size + 1, 1, none⟩ = some (.int .i64 q) ∧ w'.cell? ⟨w.heap.size + 1, 2, none⟩ = some (.int .i64 r) ∧ w'.cell? ⟨w1.heap.size, 0, none⟩ = some (.int .i64 0) ∧ w'.cell? ⟨w1.heap.size, 1, none⟩ = some (.int .i64 0) ∧ w'.cell? ⟨w1.heap.size, 2, none⟩ = some (.int .i64 0) ∧ w'.cell? ⟨w3.heap.size, 0, none⟩ = some (.int .i64 0) ∧ w'.cell? ⟨w3.heap.size, 1, none⟩ = some (.int .i64 0) ∧ w'.cell? ⟨w3.heap.size, 2, none⟩ = some (.int .i64 0) ∧ w'.cell? ⟨w5.heap.size, 0, none⟩ = some (.int .i64 X1) ∧ w'.cell? ⟨w5.heap.size, 1, none⟩ = some (.int .i64 X2) ∧ w'.cell? ⟨w5.heap.size, 2, none⟩ = some (.int .i64 X3) ∧ Hid (Below w.heap.size w w')) (by kernel_rfl) (by refine ⟨by go_keep, by go_keep, by go_keep, by go_keep, by go_keep, by go_keep, by go_keep, by go_keep, by go_keep, by go_keep, by go_keep, by go_keep, Lib.hid (Below.drew ?_)⟩; repeat (first | exact W5.out | refine blw_drewN ?_ _ | refine Below.setCell ?_ (by first | (simp; done) | omega | (simp; omega)) _ | refine Below.alloc ?_ (by first | (simp; done) | omega | (simp; omega)) _)) (fun hHeld => ?_)
  refine take_run (d := (some 41)) (v := ?v120) 0 rfl rfl (by kernel_rfl) (by kernel_rfl) (by kernel_rfl) (fun _ _ _ h => h) (by rfl) hHeld ?hy120 ?rs120
  case hy120 => (intro w hSw; (try dsimp only at hSw); go_simp) <;> (try with_reducible rfl)
  (try simp only [Act.put, List.setIfInBounds_toArray, List.set_cons_zero, List.set_cons_succ])
  refine take_run (d := (some 42)) (v := ?v121) 1 rfl rfl (by kernel_rfl) (by kernel_rfl) (by kernel_rfl) (fun _ _ _ h => h) (by rfl) hHeld ?hy121 ?rs121
  case hy121 => (intro w hSw; (try dsimp only at hSw); go_simp) <;> (try with_reducible rfl)
  (try simp only [Act.put, List.setIfInBounds_toArray, List.set_cons_zero, List.set_cons_succ])
  refine take_run (d := (some 43)) (v := ?v122) 2 rfl rfl (by kernel_rfl) (by kernel_rfl) (by kernel_rfl) (fun _ _ _ h => h) (by rfl) hHeld ?hy122 ?rs122
  case hy122 => (intro w hSw; (try dsimp only at hSw); go_simp) <;> (try with_reducible rfl)
  (try simp only [Act.put, List.setIfInBounds_toArray, List.set_cons_zero, List.set_cons_succ])
  refine take_run (d := (some 46)) (v := ?v123) 5 rfl rfl (by kernel_rfl) (by kernel_rfl) (by kernel_rfl) (fun _ _ _ h => h) (by rfl) hHeld ?hy123 ?rs123
  case hy123 => (intro w hSw; (try dsimp only at hSw); go_simp) <;> (try with_reducible rfl)
  (try simp only [Act.put, List.setIfInBounds_toArray, List.set_cons_zero, List.set_cons_succ])
  refine take_run (d := (some 47)) (v := ?v124) 6 rfl rfl (by kernel_rfl) (by kernel_rfl) (by kernel_rfl) (fun _ _ _ h => h) (by rfl) hHeld ?hy124 ?rs124
  case hy124 => (intro w hSw; (try dsimp only at hSw); go_simp) <;> (try with_reducible rfl)
  (try simp only [Act.put, List.setIfInBounds_toArray, List.set_cons_zero, List.set_cons_succ])
  refine take_run (d := (some 48)) (v := ?v125) 7 rfl rfl (by kernel_rfl) (by kernel_rfl) (by kernel_rfl) (fun _ _ _ h => h) (by rfl) hHeld ?hy125 ?rs125
  case hy125 => (intro w hSw; (try dsimp only at hSw); go_simp) <;> (try with_reducible rfl)
  (try simp only [Act.put, List.setIfInBounds_toArray, List.set_cons_zero, List.set_cons_succ])
  refine take_run (d := (some 52)) (v := ?v126) 11 rfl rfl (by kernel_rfl) (by kernel_rfl) (by kernel_rfl) (fun _ _ _ h => h) (by rfl) hHeld ?hy126 ?rs126
  case hy126 => (intro w hSw; (try dsimp only at hSw); go_simp) <;> (try with_reducible rfl)
  (try simp only [Act.put, List.setIfInBounds_toArray, List.set_cons_zero, List.set_cons_succ])
  refine take_run (d := (some 53)) (v := ?v127) 12 rfl rfl (by kernel_rfl) (by kernel_rfl) (by kernel_rfl) (fun _ _ _ h => h) (by rfl) hHeld ?hy127 ?rs127
  case hy127 => (intro w hSw; (try dsimp only at hSw); go_simp) <;> (try with_reducible rfl)
  (try simp only [Act.put, List.setIfInBounds_toArray, List.set_cons_zero, List.set_cons_succ])
  refine take_run (d := (some 54)) (v := ?v128) 13 rfl rfl (by kernel_rfl) (by kernel_rfl) (by kernel_rfl) (fun _ _ _ h => h) (by rfl) hHeld ?hy128 ?rs128
  case hy128 => (intro w hSw; (try dsimp only at hSw); go_simp) <;> (try with_reducible rfl)
  (try simp only [Act.put, List.setIfInBounds_toArray, List.set_cons_zero, List.set_cons_succ])
  refine take_call 3 rfl (by kernel_rfl) (by rfl) (fun K hK => ?_)
  go_simp
  refine (D1.out _).mono ?_
  rintro e w' ⟨rfl, hb⟩
  refine hK.out _ _ (by obtain ⟨h0, h1, h2, h3, h4, h5, h6, h7, h8, h9, h10, h11, hw⟩ := hHeld; exact ⟨cell_keep h0 hb, cell_keep h1 hb, cell_keep h2 hb, cell_keep h3 hb, cell_keep h4 hb, cell_keep h5 hb, cell_keep h6 hb, cell_keep h7 hb, cell_keep h8 hb, cell_keep h9 hb, cell_keep h10 hb, cell_keep h11 hb, Lib.hid (blw_trans hw.out hb)⟩) (fun hHeld => ?_)
  clear hK K
  (try simp only [Act.put, List.setIfInBounds_toArray, List.set_cons_zero, List.set_cons_succ])
  refine take_run (d := (some 45)) (v := ?v130) 4 rfl rfl (by kernel_rfl) (by kernel_rfl) (by kernel_rfl) (fun _ _ _ h => h) (by rfl) hHeld ?hy130 ?rs130
  case hy130 => (intro w hSw; (try dsimp only at hSw); go_simp) <;> (try with_reducible rfl)
  (try simp only [Act.put, List.setIfInBounds_toArray, List.set_cons_zero, List.set_cons_succ])
  refine take_call 8 rfl (by kernel_rfl) (by rfl) (fun K hK => ?_)
  go_simp
  refine (D2.out _).mono ?_
  rintro e w' ⟨rfl, hb⟩
  refine hK.out _ _ (by obtain ⟨h0, h1, h2, h3, h4, h5, h6, h7, h8, h9, h10, h11, hw⟩ := hHeld; exact ⟨cell_keep h0 hb, cell_keep h1 hb, cell_keep h2 hb, cell_keep h3 hb, cell_keep h4 hb, cell_keep h5 hb, cell_keep h6 hb, cell_keep h7 hb, cell_keep h8 hb, cell_keep h9 hb, cell_keep h10 hb, cell_keep h11 hb, Lib.hid (blw_trans hw.out hb)⟩) (fun hHeld => ?_)
  clear hK K
  (try simp only [Act.put, List.setIfInBounds_toArray, List.set_cons_zero, List.set_cons_succ])
  refine take_run (d := (some 50)) (v := ?v132) 9 rfl rfl (by kernel_rfl) (by kernel_rfl) (by kernel_rfl) (fun _ _ _ h => h) (by rfl) hHeld ?hy132 ?rs132
  case hy132 => (intro w hSw; (try dsimp only at hSw); go_simp) <;> (try with_reducible rfl)
  (try simp only [Act.put, List.setIfInBounds_toArray, List.set_cons_zero, List.set_cons_succ])
  refine take_run (d := (some 51)) (v := ?v133) 10 rfl rfl (by kernel_rfl) (by kernel_rfl) (by kernel_rfl) (fun _ _ _ h => h) (by rfl) hHeld ?hy133 ?rs133
  case hy133 => (intro w hSw; (try dsimp only at hSw); go_simp) <;> (try with_reducible rfl)
  (try simp only [Act.put, List.setIfInBounds_toArray, List.set_cons_zero, List.set_cons_succ])
  refine take_call 14 rfl (by kernel_rfl) (by rfl) (fun K hK => ?_)
  go_simp
  refine (D3.out _).mono ?_
  rintro e w' ⟨rfl, hb⟩
  refine hK.out _ _ (by obtain ⟨h0, h1, h2, h3, h4, h5, h6, h7, h8, h9, h10, h11, hw⟩ := hHeld; exact ⟨cell_keep h0 hb, cell_keep h1 hb, cell_keep h2 hb, cell_keep h3 hb, cell_keep h4 hb, cell_keep h5 hb, cell_keep h6 hb, cell_keep h7 hb, cell_keep h8 hb, cell_keep h9 hb, cell_keep h10 hb, cell_keep h11 hb, Lib.hid (blw_trans hw.out hb)⟩) (fun hHeld => ?_)
  clear hK K
  (try simp only [Act.put, List.setIfInBounds_toArray, List.set_cons_zero, List.set_cons_succ])
  refine take_run (d := (some 56)) (v := ?v135) 15 rfl rfl (by kernel_rfl) (by kernel_rfl) (by kernel_rfl) (fun _ _ _ h => h) (by rfl) hHeld ?hy135 ?rs135
  case hy135 => (intro w hSw; (try dsimp only at hSw); go_simp) <;> (try with_reducible rfl)
  (try simp only [Act.put, List.setIfInBounds_toArray, List.set_cons_zero, List.set_cons_succ])
  refine take_run (d := (some 15)) (v := ?v136) 16 rfl rfl (by kernel_rfl) (by kernel_rfl) (by kernel_rfl) (fun _ _ _ h => h) (by rfl) hHeld ?hy136 ?rs136
  case hy136 => (intro w hSw; (try dsimp only at hSw); go_simp) <;> (try with_reducible rfl)
  (try simp only [Act.put, List.setIfInBounds_toArray, List.set_cons_zero, List.set_cons_succ])
  refine wpAnyH_done (by kernel_rfl) ?_ _
  obtain ⟨z0, z1, z2, z3, z4, z5, z6, z7, z8, z9, z10, z11, zW⟩ := hHeld
  have lz_u := World.block_lt_of_cell? _ _ z0
  try simp only at lz_u
  have lz_t := World.block_lt_of_cell? _ _ z3
  try simp only at lz_t
  have lz_a := World.block_lt_of_cell? _ _ z6
  try simp only at lz_a
  have lz_x := World.block_lt_of_cell? _ _ z9
  try simp only at lz_x
  go_wp2_with fail
  refine (CB.out _ (hT.below (by repeat (first | exact zW.out | refine blw_drewN ?_ _ | refine Below.setCell ?_ (by first | (simp; done) | omega | (simp; omega)) _ | refine Below.alloc ?_ (by first | (simp; done) | omega | (simp; omega)) _)))).mono ?_
  rintro e w106 ⟨rfl, hb⟩
  have W106 := Lib.hid (blw_trans (show Below w.heap.size w _ by repeat (first | exact zW.out | refine blw_drewN ?_ _ | refine Below.setCell ?_ (by first | (simp; done) | omega | (simp; omega)) _ | refine Below.alloc ?_ (by first | (simp; done) | omega | (simp; omega)) _)) hb)
  have n106 := hb.size
  try simp at n106
  have k106_u0 := cell_keep (a := ⟨w.heap.size + 1, 0, none⟩) (v := .int .i64 p) (by first | (go_keep; done) | (simp [go_sem, *]; done)) hb
  have k106_u1 := cell_keep (a := ⟨w.heap.size + 1, 1, none⟩) (v := .int .i64 q) (by first | (go_keep; done) | (simp [go_sem, *]; done)) hb
  have k106_u2 := cell_keep (a := ⟨w.heap.size + 1, 2, none⟩) (v := .int .i64 r) (by first | (go_keep; done) | (simp [go_sem, *]; done)) hb
  have l106_u := World.block_lt_of_cell? _ _ k106_u0
  try simp only at l106_u
  have k106_t0 := cell_keep (a := ⟨w1.heap.size, 0, none⟩) (v := .int .i64 0) (by first | (go_keep; done) | (simp [go_sem, *]; done)) hb
  have k106_t1 := cell_keep (a := ⟨w1.heap.size, 1, none⟩) (v := .int .i64 0) (by first | (go_keep; done) | (simp [go_sem, *]; done)) hb
  have k106_t2 := cell_keep (a := ⟨w1.heap.size, 2, none⟩) (v := .int .i64 0) (by first | (go_keep; done) | (simp [go_sem, *]; done)) hb
  have l106_t := World.block_lt_of_cell? _ _ k106_t0
  try simp only at l106_t
  have k106_a0 := cell_keep (a := ⟨w3.heap.size, 0, none⟩) (v := .int .i64 0) (by first | (go_keep; done) | (simp [go_sem, *]; done)) hb
  have k106_a1 := cell_keep (a := ⟨w3.heap.size, 1, none⟩) (v := .int .i64 0) (by first | (go_keep; done) | (simp [go_sem, *]; done)) hb
  have k106_a2 := cell_keep (a := ⟨w3.heap.size, 2, none⟩) (v := .int .i64 0) (by first | (go_keep; done) | (simp [go_sem, *]; done)) hb
  have l106_a := World.block_lt_of_cell? _ _ k106_a0
  try simp only at l106_a
  have k106_x0 := cell_keep (a := ⟨w5.heap.size, 0, none⟩) (v := .int .i64 X1) (by first | (go_keep; done) | (simp [go_sem, *]; done)) hb
  have k106_x1 := cell_keep (a := ⟨w5.heap.size, 1, none⟩) (v := .int .i64 X2) (by first | (go_keep; done) | (simp [go_sem, *]; done)) hb
  have k106_x2 := cell_keep (a := ⟨w5.heap.size, 2, none⟩) (v := .int .i64 X3) (by first | (go_keep; done) | (simp [go_sem, *]; done)) hb
  have l106_x := World.block_lt_of_cell? _ _ k106_x0
  try simp only at l106_x
  clear hb z0 z1 z2 z3 z4 z5 z6 z7 z8 z9 z10 z11 lz_u lz_t lz_a lz_x zW
  go_wp2_with fail
  refine (E0.out _ (hT.below (by repeat (first | exact W106.out | refine blw_drewN ?_ _ | refine Below.setCell ?_ (by first | (simp; done) | omega | (simp; omega)) _ | refine Below.alloc ?_ (by first | (simp; done) | omega | (simp; omega)) _)))).mono ?_
  rintro e w107 ⟨rfl, hb⟩
  have W107 := Lib.hid (blw_trans (show Below w.heap.size w _ by repeat (first | exact W106.out | refine blw_drewN ?_ _ | refine Below.setCell ?_ (by first | (simp; done) | omega | (simp; omega)) _ | refine Below.alloc ?_ (by first | (simp; done) | omega | (simp; omega)) _)) hb)
  have n107 := hb.size
  try simp at n107
  have k107_u0 := cell_keep (a := ⟨w.heap.size + 1, 0, none⟩) (v := .int .i64 p) (by first | (go_keep; done) | (simp [go_sem, *]; done)) hb
  have k107_u1 := cell_keep (a := ⟨w.heap.size + 1, 1, none⟩) (v := .int .i64 q) (by first | (go_keep; done) | (simp [go_sem, *]; done)) hb
  have k107_u2 := cell_keep (a := ⟨w.heap.size + 1, 2, none⟩) (v := .int .i64 r) (by first | (go_keep; done) | (simp [go_sem, *]; done)) hb
  have l107_u := World.block_lt_of_cell? _ _ k107_u0
  try simp only at l107_u
  have k107_t0 := cell_keep (a := ⟨w1.heap.size, 0, none⟩) (v := .int .i64 0) (by first | (go_keep; done) | (simp [go_sem, *]; done)) hb
  have k107_t1 := cell_keep (a := ⟨w1.heap.size, 1, none⟩) (v := .int .i64 0) (by first | (go_keep; done) | (simp [go_sem, *]; done)) hb
  have k107_t2 := cell_keep (a := ⟨w1.heap.size, 2, none⟩) (v := .int .i64 0) (by first | (go_keep; done) | (simp [go_sem, *]; done)) hb
  have l107_t := World.block_lt_of_cell? _ _ k107_t0
  try simp only at l107_t
  have k107_a0 := cell_keep (a := ⟨w3.heap.size, 0, none⟩) (v := .int .i64 0) (by first | (go_keep; done) | (simp [go_sem, *]; done)) hb
  have k107_a1 := cell_keep (a := ⟨w3.heap.size, 1, none⟩) (v := .int .i64 0) (by first | (go_keep; done) | (simp [go_sem, *]; done)) hb
  have k107_a2 := cell_keep (a := ⟨w3.heap.size, 2, none⟩) (v := .int .i64 0) (by first | (go_keep; done) | (simp [go_sem, *]; done)) hb
  have l107_a := World.block_lt_of_cell? _ _ k107_a0
  try simp only at l107_a
  have k107_x0 := cell_keep (a := ⟨w5.heap.size, 0, none⟩) (v := .int .i64 X1) (by first | (go_keep; done) | (simp [go_sem, *]; done)) hb
  have k107_x1 := cell_keep (a := ⟨w5.heap.size, 1, none⟩) (v := .int .i64 X2) (by first | (go_keep; done) | (simp [go_sem, *]; done)) hb
  have k107_x2 := cell_keep (a := ⟨w5.heap.size, 2, none⟩) (v := .int .i64 X3) (by first | (go_keep; done) | (simp [go_sem, *]; done)) hb
  have l107_x := World.block_lt_of_cell? _ _ k107_x0
  try simp only at l107_x
  have k107_b0 := cell_keep (a := ⟨w106.heap.size, 0, none⟩) (v := .int .i64 X1) (by first | (go_keep; done) | (simp [go_sem, *]; done)) hb
  have k107_b1 := cell_keep (a := ⟨w106.heap.size, 1, none⟩) (v := .int .i64 X2) (by first | (go_keep; done) | (simp [go_sem, *]; done)) hb
  have k107_b2 := cell_keep (a := ⟨w106.heap.size, 2, none⟩) (v := .int .i64 X3) (by first | (go_keep; done) | (simp [go_sem, *]; done)) hb
  have l107_b := World.block_lt_of_cell? _ _ k107_b0
  try simp only at l107_b
  clear hb k106_u0 k106_u1 k106_u2 l106_u k106_t0 k106_t1 k106_t2 l106_t k106_a0 k106_a1 k106_a2 l106_a k106_x0 k106_x1 k106_x2 l106_x W106
  go_wp2_with fail
  refine (CT.out _ (hT.below (by repeat (first | exact W107.out | refine blw_drewN ?_ _ | refine Below.setCell ?_ (by first | (simp; done) | omega | (simp; omega)) _ | refine Below.alloc ?_ (by first | (simp; done) | omega | (simp; omega)) _)))).mono ?_
  rintro e w108 ⟨rfl, hb⟩
  have W108 := Lib.hid (blw_trans (show Below w.heap.size w _ by repeat (first | exact W107.out | refine blw_drewN ?_ _ | refine Below.setCell ?_ (by first | (simp; done) | omega | (simp; omega)) _ | refine Below.alloc ?_ (by first | (simp; done) | omega | (simp; omega)) _)) hb)
  have n108 := hb.size
  try simp at n108
  have k108_u0 := cell_keep (a := ⟨w.heap.size + 1, 0, none⟩) (v := .int .i64 p) (by first | (go_keep; done) | (simp [go_sem, *]; done)) hb
  have k108_u1 := cell_keep (a := ⟨w.heap.size + 1, 1, none⟩) (v := .int .i64 q) (by first | (go_keep; done) | (simp [go_sem, *]; done)) hb
  have k108_u2 := cell_keep (a := ⟨w.heap.size + 1, 2, none⟩) (v := .int .i64 r) (by first | (go_keep; done) | (simp [go_sem, *]; done)) hb
  have l108_u := World.block_lt_of_cell? _ _ k108_u0
  try simp only at l108_u
  have k108_t0 := cell_keep (a := ⟨w1.heap.size, 0, none⟩) (v := .int .i64 0) (by first | (go_keep; done) | (simp [go_sem, *]; done)) hb
  have k108_t1 := cell_keep (a := ⟨w1.heap.size, 1, none⟩) (v := .int .i64 0) (by first | (go_keep; done) | (simp [go_sem, *]; done)) hb
  have k108_t2 := cell_keep (a := ⟨w1.heap.size, 2, none⟩) (v := .int .i64 0) (by first | (go_keep; done) | (simp [go_sem, *]; done)) hb
  have l108_t := World.block_lt_of_cell? _ _ k108_t0
  try simp only at l108_t
  have k108_a0 := cell_keep (a := ⟨w3.heap.size, 0, none⟩) (v := .int .i64 0) (by first | (go_keep; done) | (simp [go_sem, *]; done)) hb
  have k108_a1 := cell_keep (a := ⟨w3.heap.size, 1, none⟩) (v := .int .i64 0) (by first | (go_keep; done) | (simp [go_sem, *]; done)) hb
  have k108_a2 := cell_keep (a := ⟨w3.heap.size, 2, none⟩) (v := .int .i64 0) (by first | (go_keep; done) | (simp [go_sem, *]; done)) hb
  have l108_a := World.block_lt_of_cell? _ _ k108_a0
  try simp only at l108_a
  have k108_x0 := cell_keep (a := ⟨w5.heap.size, 0, none⟩) (v := .int .i64 X1) (by first | (go_keep; done) | (simp [go_sem, *]; done)) hb
  have k108_x1 := cell_keep (a := ⟨w5.heap.size, 1, none⟩) (v := .int .i64 X2) (by first | (go_keep; done) | (simp [go_sem, *]; done)) hb
  have k108_x2 := cell_keep (a := ⟨w5.heap.size, 2, none⟩) (v := .int .i64 X3) (by first | (go_keep; done) | (simp [go_sem, *]; done)) hb
  have l108_x := World.block_lt_of_cell? _ _ k108_x0
  try simp only at l108_x
  have k108_b0 := cell_keep (a := ⟨w106.heap.size, 0, none⟩) (v := .int .i64 X1) (by first | (go_keep; done) | (simp [go_sem, *]; done)) hb
  have k108_b1 := cell_keep (a := ⟨w106.heap.size, 1, none⟩) (v := .int .i64 X2) (by first | (go_keep; done) | (simp [go_sem, *]; done)) hb
  have k108_b2 := cell_keep (a := ⟨w106.heap.size, 2, none⟩) (v := .int .i64 X3) (by first | (go_keep; done) | (simp [go_sem, *]; done)) hb
  have l108_b := World.block_lt_of_cell? _ _ k108_b0
  try simp only at l108_b
  clear hb k107_u0 k107_u1 k107_u2 l107_u k107_t0 k107_t1 k107_t2 l107_t k107_a0 k107_a1 k107_a2 l107_a k107_x0 k107_x1 k107_x2 l107_x k107_b0 k107_b1 k107_b2 l107_b W107
  go_wp2_with fail
  refine (E0.out _ (hT.below (by repeat (first | exact W108.out | refine blw_drewN ?_ _ | refine Below.setCell ?_ (by first | (simp; done) | omega | (simp; omega)) _ | refine Below.alloc ?_ (by first | (simp; done) | omega | (simp; omega)) _)))).mono ?_
  rintro e w109 ⟨rfl, hb⟩
  have W109 := Lib.hid (blw_trans (show Below w.heap.size w _ by repeat (first | exact W108.out | refine blw_drewN ?_ _ | refine Below.setCell ?_ (by first | (simp; done) | omega | (simp; omega)) _ | refine Below.alloc ?_ (by first | (simp; done) | omega | (simp; omega)) _)) hb)
  have n109 := hb.size
  try simp at n109
  have k109_t0 := cell_keep (a := ⟨w1.heap.size, 0, none⟩) (v := .int .i64 0) (by first | (go_keep; done) | (simp [go_sem, *]; done)) hb
  have k109_t1 := cell_keep (a := ⟨w1.heap.size, 1, none⟩) (v := .int .i64 0) (by first | (go_keep; done) | (simp [go_sem, *]; done)) hb
  have k109_t2 := cell_keep (a := ⟨w1.heap.size, 2, none⟩) (v := .int .i64 0) (by first | (go_keep; done) | (simp [go_sem, *]; done)) hb
  have l109_t := World.block_lt_of_cell? _ _ k109_t0
  try simp only at l109_t
  have k109_a0 := cell_keep (a := ⟨w3.heap.size, 0, none⟩) (v := .int .i64 0) (by first | (go_keep; done) | (simp [go_sem, *]; done)) hb
  have k109_a1 := cell_keep (a := ⟨w3.heap.size, 1, none⟩) (v := .int .i64 0) (by first | (go_keep; done) | (simp [go_sem, *]; done)) hb
  have k109_a2 := cell_keep (a := ⟨w3.heap.size, 2, none⟩) (v := .int .i64 0) (by first | (go_keep; done) | (simp [go_sem, *]; done)) hb
  have l109_a := World.block_lt_of_cell? _ _ k109_a0
  try simp only at l109_a
  have k109_x0 := cell_keep (a := ⟨w5.heap.size, 0, none⟩) (v := .int .i64 X1) (by first | (go_keep; done) | (simp [go_sem, *]; done)) hb
  have k109_x1 := cell_keep (a := ⟨w5.heap.size, 1, none⟩) (v := .int .i64 X2) (by first | (go_keep; done) | (simp [go_sem, *]; done)) hb
  have k109_x2 := cell_keep (a := ⟨w5.heap.size, 2, none⟩) (v := .int .i64 X3) (by first | (go_keep; done) | (simp [go_sem, *]; done)) hb
  have l109_x := World.block_lt_of_cell? _ _ k109_x0
  try simp only at l109_x
  have k109_b0 := cell_keep (a := ⟨w106.heap.size, 0, none⟩) (v := .int .i64 X1) (by first | (go_keep; done) | (simp [go_sem, *]; done)) hb
  have k109_b1 := cell_keep (a := ⟨w106.heap.size, 1, none⟩) (v := .int .i64 X2) (by first | (go_keep; done) | (simp [go_sem, *]; done)) hb
  have k109_b2 := cell_keep (a := ⟨w106.heap.size, 2, none⟩) (v := .int .i64 X3) (by first | (go_keep; done) | (simp [go_sem, *]; done)) hb
  have l109_b := World.block_lt_of_cell? _ _ k109_b0
  try simp only at l109_b
  clear hb k108_u0 k108_u1 k108_u2 l108_u k108_t0 k108_t1 k108_t2 l108_t k108_a0 k108_a1 k108_a2 l108_a k108_x0 k108_x1 k108_x2 l108_x k108_b0 k108_b1 k108_b2 l108_b W108
  go_wp2_with fail
  refine (CN.out _).mono ?_
  rintro e w' ⟨rfl, rfl⟩
  go_wp2_with fail
  refine (E1.out _ (hT.below (by repeat (first | exact W109.out | refine blw_drewN ?_ _ | refine Below.setCell ?_ (by first | (simp; done) | omega | (simp; omega)) _ | refine Below.alloc ?_ (by first | (simp; done) | omega | (simp; omega)) _)))).mono ?_
  rintro e w110 ⟨rfl, hb⟩
  have W110 := Lib.hid (blw_trans (show Below w.heap.size w _ by repeat (first | exact W109.out | refine blw_drewN ?_ _ | refine Below.setCell ?_ (by first | (simp; done) | omega | (simp; omega)) _ | refine Below.alloc ?_ (by first | (simp; done) | omega | (simp; omega)) _)) hb)
  have n110 := hb.size
  try simp at n110
  have k110_t0 := cell_keep (a := ⟨w1.heap.size, 0, none⟩) (v := .int .i64 0) (by first | (go_keep; done) | (simp [go_sem, *]; done)) hb
  have k110_t1 := cell_keep (a := ⟨w1.heap.size, 1, none⟩) (v := .int .i64 0) (by first | (go_keep; done) | (simp [go_sem, *]; done)) hb
  have k110_t2 := cell_keep (a := ⟨w1.heap.size, 2, none⟩) (v := .int .i64 0) (by first | (go_keep; done) | (simp [go_sem, *]; done)) hb
  have l110_t := World.block_lt_of_cell? _ _ k110_t0
  try simp only at l110_t
  have k110_a0 := cell_keep (a := ⟨w3.heap.size, 0, none⟩) (v := .int .i64 0) (by first | (go_keep; done) | (simp [go_sem, *]; done)) hb
  have k110_a1 := cell_keep (a := ⟨w3.heap.size, 1, none⟩) (v := .int .i64 0) (by first | (go_keep; done) | (simp [go_sem, *]; done)) hb
  have k110_a2 := cell_keep (a := ⟨w3.heap.size, 2, none⟩) (v := .int .i64 0) (by first | (go_keep; done) | (simp [go_sem, *]; done)) hb
  have l110_a := World.block_lt_of_cell? _ _ k110_a0
  try simp only at l110_a
  have k110_x0 := cell_keep (a := ⟨w5.heap.size, 0, none⟩) (v := .int .i64 X1) (by first | (go_keep; done) | (simp [go_sem, *]; done)) hb
  have k110_x1 := cell_keep (a := ⟨w5.heap.size, 1, none⟩) (v := .int .i64 X2) (by first | (go_keep; done) | (simp [go_sem, *]; done)) hb
  have k110_x2 := cell_keep (a := ⟨w5.heap.size, 2, none⟩) (v := .int .i64 X3) (by first | (go_keep; done) | (simp [go_sem, *]; done)) hb
  have l110_x := World.block_lt_of_cell? _ _ k110_x0
  try simp only at l110_x
  have k110_b0 := cell_keep (a := ⟨w106.heap.size, 0, none⟩) (v := .int .i64 X1) (by first | (go_keep; done) | (simp [go_sem, *]; done)) hb
  have k110_b1 := cell_keep (a := ⟨w106.heap.size, 1, none⟩) (v := .int .i64 X2) (by first | (go_keep; done) | (simp [go_sem, *]; done)) hb
  have k110_b2 := cell_keep (a := ⟨w106.heap.size, 2, none⟩) (v := .int .i64 X3) (by first | (go_keep; done) | (simp [go_sem, *]; done)) hb
  have l110_b := World.block_lt_of_cell? _ _ k110_b0
  try simp only at l110_b
  clear hb k109_t0 k109_t1 k109_t2 l109_t k109_a0 k109_a1 k109_a2 l109_a k109_x0 k109_x1 k109_x2 l109_x k109_b0 k109_b1 k109_b2 l109_b W109
  go_wp2
  go_ret
  exact ⟨ret_bool (by simp), by repeat (first | exact W110.out | refine blw_drewN ?_ _ | refine Below.setCell ?_ (by first | (simp; done) | omega | (simp; omega)) _ | refine Below.alloc ?_ (by first | (simp; done) | omega | (simp; omega)) _)⟩

set_option maxRecDepth 100000 in
set_option maxHeartbeats 4000000 in
theorem weekTells_nwgt (y m d p q r x p0 q0 r0 X1 X2 X3 : Int) (P Q R T : List UInt8) (w : World) (hT : TPH w)
    (lp : P.length ≤ 120) (lq : Q.length ≤ 120) (lr : R.length ≤ 120) (HX : P ++ [45, 87] ++ Q ++ [45] ++ R = T)
    (mp : max p 0 = p0) (mq : max q 0 = q0) (mr : max r 0 = r0)
    (CF : Hid (∀ w : World, Calls Tryd.prog 6 #[.agg #[.int .i64 y, .int .i64 m, .int .i64 d]] w fun e w' => e = .returned (.bool true) ∧ Below w.heap.size w w'))
    (CO : Hid (∀ w : World, TPH w → Calls Tryd.prog 8 #[.agg #[.int .i64 y, .int .i64 m, .int .i64 d]] w fun e w' => e = .returned (.tuple #[.agg #[.int .i64 0, .int .i64 0, .int .i64 0], errV 1]) ∧ Below w.heap.size w w'))
    (CX : Hid (∀ w : World, Calls Tryd.prog 10 #[.agg #[.int .i64 p, .int .i64 q, .int .i64 r]] w fun e w' => e = .returned (.tuple #[.agg #[.int .i64 X1, .int .i64 X2, .int .i64 X3], .bool true]) ∧ Below w.heap.size w w'))
    (D1 : Hid (∀ w : World, Calls Tryd.prog 11 #[.int .i64 p0, .int .i64 4] w fun e w' => e = .returned (.string ⟨P.toArray⟩) ∧ Below w.heap.size w w'))
    (D2 : Hid (∀ w : World, Calls Tryd.prog 11 #[.int .i64 q0, .int .i64 2] w fun e w' => e = .returned (.string ⟨Q.toArray⟩) ∧ Below w.heap.size w w'))
    (D3 : Hid (∀ w : World, Calls Tryd.prog 11 #[.int .i64 r0, .int .i64 1] w fun e w' => e = .returned (.string ⟨R.toArray⟩) ∧ Below w.heap.size w w'))
    (CB : Hid (∀ w : World, TPH w → Calls Tryd.prog 12 #[.agg #[.int .i64 p, .int .i64 q, .int .i64 r]] w fun e w' => e = .returned (.tuple #[.agg #[.int .i64 X1, .int .i64 X2, .int .i64 X3], .nilIface]) ∧ Below w.heap.size w w'))
    (CT : Hid (∀ w : World, TPH w → Calls Tryd.prog 13 #[.agg #[.int .i64 p, .int .i64 q, .int .i64 r]] w fun e w' => e = .returned (.tuple #[.string ⟨T.toArray⟩, .nilIface]) ∧ Below w.heap.size w w'))
    (y0 : ¬ x < 1) (y1 : 9999 < x)
    (CN : Hid (∀ w : World, Calls Tryd.prog 15 #[.int .i64 x] w fun e w' => e = .returned (.tuple #[.int .i64 0, errV 1]) ∧ w = w')) :
    Calls Tryd.prog 3 #[.agg #[.int .i64 y, .int .i64 m, .int .i64 d], .agg #[.int .i64 p, .int .i64 q, .int .i64 r], .int .i64 x] w fun e w' => e = .returned (.bool true) ∧ Below w.heap.size w w' := by
  have C0 := Lib.hid fun w (hT : TPH w) => weekly_any w hT.t
  have E0 := Lib.hid fun w (hT : TPH w) => sameErr_yes ErrNo.nil w hT.h
  have E1 := Lib.hid fun w (hT : TPH w) => sameErr_yes (ErrNo.no 1) w hT.h
  have g1 : decide (x < 1) = false := dec_no y0
  have g2 : decide (9999 < x) = true := dec_yes y1
  obtain ⟨Y1, x1⟩ : ∃ X, X = P ++ [45, 87] := ⟨_, rfl⟩
  have S1 : ∀ w, (Op.stringOp .add ⟨P.toArray⟩ ⟨#[45, 87]⟩).run Tryd.prog w = .ok (.string ⟨Y1.toArray⟩) w := fun w => by rw [x1]; exact add_str (P := Tryd.prog) P [45, 87] (by first | omega | (simp; omega)) w
  have m1 : Y1.length = P.length + 2 := by rw [x1]; simp
  obtain ⟨Y2, x2⟩ : ∃ X, X = Y1 ++ Q := ⟨_, rfl⟩
  have S2 : ∀ w, (Op.stringOp .add ⟨Y1.toArray⟩ ⟨Q.toArray⟩).run Tryd.prog w = .ok (.string ⟨Y2.toArray⟩) w := fun w => by rw [x2]; exact add_str (P := Tryd.prog) Y1 Q (by first | omega | (simp; omega)) w
  have m2 : Y2.length = Y1.length + Q.length := by rw [x2]; simp
  obtain ⟨Y3, x3⟩ : ∃ X, X = Y2 ++ [45] := ⟨_, rfl⟩
  have S3 : ∀ w, (Op.stringOp .add ⟨Y2.toArray⟩ ⟨#[45]⟩).run Tryd.prog w = .ok (.string ⟨Y3.toArray⟩) w := fun w => by rw [x3]; exact add_str (P := Tryd.prog) Y2 [45] (by first | omega | (simp; omega)) w
  have m3 : Y3.length = Y2.length + 1 := by rw [x3]; simp
  have S4 : ∀ w, (Op.stringOp .add ⟨Y3.toArray⟩ ⟨R.toArray⟩).run Tryd.prog w = .ok (.string ⟨T.toArray⟩) w := fun w => by rw [← HX, ← x1, ← x2, ← x3]; exact add_str (P := Tryd.prog) Y3 R (by omega) w
  clear x1 x2 x3 m1 m2 m3 HX lp lq lr
  go_enter Tryd.func3, Tryd.ntmps3
  go_wp2_with fail
  refine (C0.out _ (hT.below (by repeat (first | exact (Below.refl _ _) | refine blw_drewN ?_ _ | refine Below.setCell ?_ (by first | (simp; done) | omega | (simp; omega)) _ | refine Below.alloc ?_ (by first | (simp; done) | omega | (simp; omega)) _)))).mono ?_
  rintro e w1 ⟨rfl, hb⟩
  have W1 := Lib.hid (blw_trans (show Below w.heap.size w _ by repeat (first | exact (Below.refl _ _) | refine blw_drewN ?_ _ | refine Below.setCell ?_ (by first | (simp; done) | omega | (simp; omega)) _ | refine Below.alloc ?_ (by first | (simp; done) | omega | (simp; omega)) _)) hb)
  have n1 := hb.size
  try simp at n1
  have k1_d0 := cell_keep (a := ⟨w.heap.size, 0, none⟩) (v := .int .i64 y) (by first | (go_keep; done) | (simp [go_sem, *]; done)) hb
  have k1_d1 := cell_keep (a := ⟨w.heap.size, 1, none⟩) (v := .int .i64 m) (by first | (go_keep; done) | (simp [go_sem, *]; done)) hb
  have k1_d2 := cell_keep (a := ⟨w.heap.size, 2, none⟩) (v := .int .i64 d) (by first | (go_keep; done) | (simp [go_sem, *]; done)) hb
  have l1_d := World.block_lt_of_cell? _ _ k1_d0
  try simp only at l1_d
  have k1_u0 := cell_keep (a := ⟨w.heap.size + 1, 0, none⟩) (v := .int .i64 p) (by first | (go_keep; done) | (simp [go_sem, *]; done)) hb
  have k1_u1 := cell_keep (a := ⟨w.heap.size + 1, 1, none⟩) (v := .int .i64 q) (by first | (go_keep; done) | (simp [go_sem, *]; done)) hb
  have k1_u2 := cell_keep (a := ⟨w.heap.size + 1, 2, none⟩) (v := .int .i64 r) (by first | (go_keep; done) | (simp [go_sem, *]; done)) hb
  have l1_u := World.block_lt_of_cell? _ _ k1_u0
  try simp only at l1_u
  clear hb
  go_wp2_with fail
  refine (CF.out _).mono ?_
  rintro e w2 ⟨rfl, hb⟩
  have W2 := Lib.hid (blw_trans (show Below w.heap.size w _ by repeat (first | exact W1.out | refine blw_drewN ?_ _ | refine Below.setCell ?_ (by first | (simp; done) | omega | (simp; omega)) _ | refine Below.alloc ?_ (by first | (simp; done) | omega | (simp; omega)) _)) hb)
  have n2 := hb.size
  try simp at n2
  have k2_d0 := cell_keep (a := ⟨w.heap.size, 0, none⟩) (v := .int .i64 y) (by first | (go_keep; done) | (simp [go_sem, *]; done)) hb
  have k2_d1 := cell_keep (a := ⟨w.heap.size, 1, none⟩) (v := .int .i64 m) (by first | (go_keep; done) | (simp [go_sem, *]; done)) hb
  have k2_d2 := cell_keep (a := ⟨w.heap.size, 2, none⟩) (v := .int .i64 d) (by first | (go_keep; done) | (simp [go_sem, *]; done)) hb
  have l2_d := World.block_lt_of_cell? _ _ k2_d0
  try simp only at l2_d
  have k2_u0 := cell_keep (a := ⟨w.heap.size + 1, 0, none⟩) (v := .int .i64 p) (by first | (go_keep; done) | (simp [go_sem, *]; done)) hb
  have k2_u1 := cell_keep (a := ⟨w.heap.size + 1, 1, none⟩) (v := .int .i64 q) (by first | (go_keep; done) | (simp [go_sem, *]; done)) hb
  have k2_u2 := cell_keep (a := ⟨w.heap.size + 1, 2, none⟩) (v := .int .i64 r) (by first | (go_keep; done) | (simp [go_sem, *]; done)) hb
  have l2_u := World.block_lt_of_cell? _ _ k2_u0
  try simp only at l2_u
  have k2_t0 := cell_keep (a := ⟨w1.heap.size, 0, none⟩) (v := .int .i64 0) (by first | (go_keep; done) | (simp [go_sem, *]; done)) hb
  have k2_t1 := cell_keep (a := ⟨w1.heap.size, 1, none⟩) (v := .int .i64 0) (by first | (go_keep; done) | (simp [go_sem, *]; done)) hb
  have k2_t2 := cell_keep (a := ⟨w1.heap.size, 2, none⟩) (v := .int .i64 0) (by first | (go_keep; done) | (simp [go_sem, *]; done)) hb
  have l2_t := World.block_lt_of_cell? _ _ k2_t0
  try simp only at l2_t
  clear hb k1_d0 k1_d1 k1_d2 l1_d k1_u0 k1_u1 k1_u2 l1_u W1
  go_wp2_with fail
  refine (CO.out _ (hT.below (by repeat (first | exact W2.out | refine blw_drewN ?_ _ | refine Below.setCell ?_ (by first | (simp; done) | omega | (simp; omega)) _ | refine Below.alloc ?_ (by first | (simp; done) | omega | (simp; omega)) _)))).mono ?_
  rintro e w3 ⟨rfl, hb⟩
  have W3 := Lib.hid (blw_trans (show Below w.heap.size w _ by repeat (first | exact W2.out | refine blw_drewN ?_ _ | refine Below.setCell ?_ (by first | (simp; done) | omega | (simp; omega)) _ | refine Below.alloc ?_ (by first | (simp; done) | omega | (simp; omega)) _)) hb)
  have n3 := hb.size
  try simp at n3
  have k3_u0 := cell_keep (a := ⟨w.heap.size + 1, 0, none⟩) (v := .int .i64 p) (by first | (go_keep; done) | (simp [go_sem, *]; done)) hb
  have k3_u1 := cell_keep (a := ⟨w.heap.size + 1, 1, none⟩) (v := .int .i64 q) (by first | (go_keep; done) | (simp [go_sem, *]; done)) hb
  have k3_u2 := cell_keep (a := ⟨w.heap.size + 1, 2, none⟩) (v := .int .i64 r) (by first | (go_keep; done) | (simp [go_sem, *]; done)) hb
  have l3_u := World.block_lt_of_cell? _ _ k3_u0
  try simp only at l3_u
  have k3_t0 := cell_keep (a := ⟨w1.heap.size, 0, none⟩) (v := .int .i64 0) (by first | (go_keep; done) | (simp [go_sem, *]; done)) hb
  have k3_t1 := cell_keep (a := ⟨w1.heap.size, 1, none⟩) (v := .int .i64 0) (by first | (go_keep; done) | (simp [go_sem, *]; done)) hb
  have k3_t2 := cell_keep (a := ⟨w1.heap.size, 2, none⟩) (v := .int .i64 0) (by first | (go_keep; done) | (simp [go_sem, *]; done)) hb
  have l3_t := World.block_lt_of_cell? _ _ k3_t0
  try simp only at l3_t
  clear hb k2_d0 k2_d1 k2_d2 l2_d k2_u0 k2_u1 k2_u2 l2_u k2_t0 k2_t1 k2_t2 l2_t W2
  go_wp2_with fail
  refine (E1.out _ (hT.below (by repeat (first | exact W3.out | refine blw_drewN ?_ _ | refine Below.setCell ?_ (by first | (simp; done) | omega | (simp; omega)) _ | refine Below.alloc ?_ (by first | (simp; done) | omega | (simp; omega)) _)))).mono ?_
  rintro e w4 ⟨rfl, hb⟩
  have W4 := Lib.hid (blw_trans (show Below w.heap.size w _ by repeat (first | exact W3.out | refine blw_drewN ?_ _ | refine Below.setCell ?_ (by first | (simp; done) | omega | (simp; omega)) _ | refine Below.alloc ?_ (by first | (simp; done) | omega | (simp; omega)) _)) hb)
  have n4 := hb.size
  try simp at n4
  have k4_u0 := cell_keep (a := ⟨w.heap.size + 1, 0, none⟩) (v := .int .i64 p) (by first | (go_keep; done) | (simp [go_sem, *]; done)) hb
  have k4_u1 := cell_keep (a := ⟨w.heap.size + 1, 1, none⟩) (v := .int .i64 q) (by first | (go_keep; done) | (simp [go_sem, *]; done)) hb
  have k4_u2 := cell_keep (a := ⟨w.heap.size + 1, 2, none⟩) (v := .int .i64 r) (by first | (go_keep; done) | (simp [go_sem, *]; done)) hb
  have l4_u := World.block_lt_of_cell? _ _ k4_u0
  try simp only at l4_u
  have k4_t0 := cell_keep (a := ⟨w1.heap.size, 0, none⟩) (v := .int .i64 0) (by first | (go_keep; done) | (simp [go_sem, *]; done)) hb
  have k4_t1 := cell_keep (a := ⟨w1.heap.size, 1, none⟩) (v := .int .i64 0) (by first | (go_keep; done) | (simp [go_sem, *]; done)) hb
  have k4_t2 := cell_keep (a := ⟨w1.heap.size, 2, none⟩) (v := .int .i64 0) (by first | (go_keep; done) | (simp [go_sem, *]; done)) hb
  have l4_t := World.block_lt_of_cell? _ _ k4_t0
  try simp only at l4_t
  have k4_a0 := cell_keep (a := ⟨w3.heap.size, 0, none⟩) (v := .int .i64 0) (by first | (go_keep; done) | (simp [go_sem, *]; done)) hb
  have k4_a1 := cell_keep (a := ⟨w3.heap.size, 1, none⟩) (v := .int .i64 0) (by first | (go_keep; done) | (simp [go_sem, *]; done)) hb
  have k4_a2 := cell_keep (a := ⟨w3.heap.size, 2, none⟩) (v := .int .i64 0) (by first | (go_keep; done) | (simp [go_sem, *]; done)) hb
  have l4_a := World.block_lt_of_cell? _ _ k4_a0
  try simp only at l4_a
  clear hb k3_u0 k3_u1 k3_u2 l3_u k3_t0 k3_t1 k3_t2 l3_t W3
  go_wp2_with fail
  refine (CX.out _).mono ?_
  rintro e w5 ⟨rfl, hb⟩
  have W5 := Lib.hid (blw_trans (show Below w.heap.size w _ by repeat (first | exact W4.out | refine blw_drewN ?_ _ | refine Below.setCell ?_ (by first | (simp; done) | omega | (simp; omega)) _ | refine Below.alloc ?_ (by first | (simp; done) | omega | (simp; omega)) _)) hb)
  have n5 := hb.size
  try simp at n5
  have k5_u0 := cell_keep (a := ⟨w.heap.size + 1, 0, none⟩) (v := .int .i64 p) (by first | (go_keep; done) | (simp [go_sem, *]; done)) hb
  have k5_u1 := cell_keep (a := ⟨w.heap.size + 1, 1, none⟩) (v := .int .i64 q) (by first | (go_keep; done) | (simp [go_sem, *]; done)) hb
  have k5_u2 := cell_keep (a := ⟨w.heap.size + 1, 2, none⟩) (v := .int .i64 r) (by first | (go_keep; done) | (simp [go_sem, *]; done)) hb
  have l5_u := World.block_lt_of_cell? _ _ k5_u0
  try simp only at l5_u
  have k5_t0 := cell_keep (a := ⟨w1.heap.size, 0, none⟩) (v := .int .i64 0) (by first | (go_keep; done) | (simp [go_sem, *]; done)) hb
  have k5_t1 := cell_keep (a := ⟨w1.heap.size, 1, none⟩) (v := .int .i64 0) (by first | (go_keep; done) | (simp [go_sem, *]; done)) hb
  have k5_t2 := cell_keep (a := ⟨w1.heap.size, 2, none⟩) (v := .int .i64 0) (by first | (go_keep; done) | (simp [go_sem, *]; done)) hb
  have l5_t := World.block_lt_of_cell? _ _ k5_t0
  try simp only at l5_t
  have k5_a0 := cell_keep (a := ⟨w3.heap.size, 0, none⟩) (v := .int .i64 0) (by first | (go_keep; done) | (simp [go_sem, *]; done)) hb
  have k5_a1 := cell_keep (a := ⟨w3.heap.size, 1, none⟩) (v := .int .i64 0) (by first | (go_keep; done) | (simp [go_sem, *]; done)) hb
  have k5_a2 := cell_keep (a := ⟨w3.heap.size, 2, none⟩) (v := .int .i64 0) (by first | (go_keep; done) | (simp [go_sem, *]; done)) hb
  have l5_a := World.block_lt_of_cell? _ _ k5_a0
  try simp only at l5_a
  clear hb k4_u0 k4_u1 k4_u2 l4_u k4_t0 k4_t1 k4_t2 l4_t k4_a0 k4_a1 k4_a2 l4_a W4
  go_wp2_with fail
  refine wp_region_held_drew (S := fun w' => w'.cell? ⟨w.heap.size + 1, 0, none⟩ = some (.int .i64 p) ∧ w'.cell? ⟨w.heap.size + 1, 1, none⟩ = some (.int .i64 q) ∧ w'.cell? ⟨w.heap.size + 1, 2, none⟩ = some (.int .i64 r) ∧ w'.cell? ⟨w1.heap.size, 0, none⟩ = some (.int .i64 0) ∧ w'.cell? ⟨w1.heap.size, 1, none⟩ = some (.int .i64 0) ∧ w'.cell? ⟨w1.heap.size, 2, none⟩ = some (.int .i64 0) ∧ w'.cell? ⟨w3.heap.size, 0, none⟩ = some (.int .i64 0) ∧ w'.cell? ⟨w3.heap.size, 1, none⟩ = some (.int .i64 0) ∧ w'.cell? ⟨w3.heap.size, 2, none⟩ = some (.int .i64 0) ∧ w'.cell? ⟨w5.heap.size, 0, none⟩ = some (.int .i64 X1) ∧ w'.cell? ⟨w5.heap.size, 1, none⟩ = some (.int .i64 X2) ∧ w'.cell? ⟨w5.heap.size, 2, none⟩ = some (.int .i64 X3) ∧ Hid (Below w.heap.size w w')) (by kernel_rfl) (by refine ⟨by go_keep, by go_keep, by go_keep, by go_keep, by go_keep, by go_keep, by go_keep, by go_keep, by go_keep, by go_keep, by go_keep, by go_keep, Lib.hid (Below.drew ?_)⟩; repeat (first | exact W5.out | refine blw_drewN ?_ _ | refine Below.setCell ?_ (by first | (simp; done) | omega | (simp; omega)) _ | refine Below.alloc ?_ (by first | (simp; done) | omega | (simp; omega)) _)) (fun hHeld => ?_)
  refine take_run (d := (some 41)) (v := ?v137) 0 rfl rfl (by kernel_rfl) (by kernel_rfl) (by kernel_rfl) (fun _ _ _ h => h) (by rfl) hHeld ?hy137 ?rs137
  case hy137 => (intro w hSw; (try dsimp only at hSw); go_simp) <;> (try with_reducible rfl)
  (try simp only [Act.put, List.setIfInBounds_toArray, List.set_cons_zero, List.set_cons_succ])
  refine take_run (d := (some 42)) (v := ?v138) 1 rfl rfl (by kernel_rfl) (by kernel_rfl) (by kernel_rfl) (fun _ _ _ h => h) (by rfl) hHeld ?hy138 ?rs138
  case hy138 => (intro w hSw; (try dsimp only at hSw); go_simp) <;> (try with_reducible rfl)
  (try simp only [Act.put, List.setIfInBounds_toArray, List.set_cons_zero, List.set_cons_succ])
  refine take_run (d := (some 43)) (v := ?v139) 2 rfl rfl (by kernel_rfl) (by kernel_rfl) (by kernel_rfl) (fun _ _ _ h => h) (by rfl) hHeld ?hy139 ?rs139
  case hy139 => (intro w hSw; (try dsimp only at hSw); go_simp) <;> (try with_reducible rfl)
  (try simp only [Act.put, List.setIfInBounds_toArray, List.set_cons_zero, List.set_cons_succ])
  refine take_run (d := (some 46)) (v := ?v140) 5 rfl rfl (by kernel_rfl) (by kernel_rfl) (by kernel_rfl) (fun _ _ _ h => h) (by rfl) hHeld ?hy140 ?rs140
  case hy140 => (intro w hSw; (try dsimp only at hSw); go_simp) <;> (try with_reducible rfl)
  (try simp only [Act.put, List.setIfInBounds_toArray, List.set_cons_zero, List.set_cons_succ])
  refine take_run (d := (some 47)) (v := ?v141) 6 rfl rfl (by kernel_rfl) (by kernel_rfl) (by kernel_rfl) (fun _ _ _ h => h) (by rfl) hHeld ?hy141 ?rs141
  case hy141 => (intro w hSw; (try dsimp only at hSw); go_simp) <;> (try with_reducible rfl)
  (try simp only [Act.put, List.setIfInBounds_toArray, List.set_cons_zero, List.set_cons_succ])
  refine take_run (d := (some 48)) (v := ?v142) 7 rfl rfl (by kernel_rfl) (by kernel_rfl) (by kernel_rfl) (fun _ _ _ h => h) (by rfl) hHeld ?hy142 ?rs142
  case hy142 => (intro w hSw; (try dsimp only at hSw); go_simp) <;> (try with_reducible rfl)
  (try simp only [Act.put, List.setIfInBounds_toArray, List.set_cons_zero, List.set_cons_succ])
  refine take_run (d := (some 52)) (v := ?v143) 11 rfl rfl (by kernel_rfl) (by kernel_rfl) (by kernel_rfl) (fun _ _ _ h => h) (by rfl) hHeld ?hy143 ?rs143
  case hy143 => (intro w hSw; (try dsimp only at hSw); go_simp) <;> (try with_reducible rfl)
  (try simp only [Act.put, List.setIfInBounds_toArray, List.set_cons_zero, List.set_cons_succ])
  refine take_run (d := (some 53)) (v := ?v144) 12 rfl rfl (by kernel_rfl) (by kernel_rfl) (by kernel_rfl) (fun _ _ _ h => h) (by rfl) hHeld ?hy144 ?rs144
  case hy144 => (intro w hSw; (try dsimp only at hSw); go_simp) <;> (try with_reducible rfl)
  (try simp only [Act.put, List.setIfInBounds_toArray, List.set_cons_zero, List.set_cons_succ])
  refine take_run (d := (some 54)) (v := ?v145) 13 rfl rfl (by kernel_rfl) (by kernel_rfl) (by kernel_rfl) (fun _ _ _ h => h) (by rfl) hHeld ?hy145 ?rs145
  case hy145 => (intro w hSw; (try dsimp only at hSw); go_simp) <;> (try with_reducible rfl)
  (try simp only [Act.put, List.setIfInBounds_toArray, List.set_cons_zero, List.set_cons_succ])
  refine take_call 3 rfl (by kernel_rfl) (by rfl) (fun K hK => ?_)
  go_simp
  refine (D1.out _).mono ?_
  rintro e w' ⟨rfl, hb⟩
  refine hK.out _ _ (by obtain ⟨h0, h1, h2, h3, h4, h5, h6, h7, h8, h9, h10, h11, hw⟩ := hHeld; exact ⟨cell_keep h0 hb, cell_keep h1 hb, cell_keep h2 hb, cell_keep h3 hb, cell_keep h4 hb, cell_keep h5 hb, cell_keep h6 hb, cell_keep h7 hb, cell_keep h8 hb, cell_keep h9 hb, cell_keep h10 hb, cell_keep h11 hb, Lib.hid (blw_trans hw.out hb)⟩) (fun hHeld => ?_)
  clear hK K
  (try simp only [Act.put, List.setIfInBounds_toArray, List.set_cons_zero, List.set_cons_succ])
  refine take_run (d := (some 45)) (v := ?v147) 4 rfl rfl (by kernel_rfl) (by kernel_rfl) (by kernel_rfl) (fun _ _ _ h => h) (by rfl) hHeld ?hy147 ?rs147
  case hy147 => (intro w hSw; (try dsimp only at hSw); go_simp) <;> (try with_reducible rfl)
  (try simp only [Act.put, List.setIfInBounds_toArray, List.set_cons_zero, List.set_cons_succ])
  refine take_call 8 rfl (by kernel_rfl) (by rfl) (fun K hK => ?_)
  go_simp
  refine (D2.out _).mono ?_
  rintro e w' ⟨rfl, hb⟩
  refine hK.out _ _ (by obtain ⟨h0, h1, h2, h3, h4, h5, h6, h7, h8, h9, h10, h11, hw⟩ := hHeld; exact ⟨cell_keep h0 hb, cell_keep h1 hb, cell_keep h2 hb, cell_keep h3 hb, cell_keep h4 hb, cell_keep h5 hb, cell_keep h6 hb, cell_keep h7 hb, cell_keep h8 hb, cell_keep h9 hb, cell_keep h10 hb, cell_keep h11 hb, Lib.hid (blw_trans hw.out hb)⟩) (fun hHeld => ?_)
  clear hK K
  (try simp only [Act.put, List.setIfInBounds_toArray, List.set_cons_zero, List.set_cons_succ])
  refine take_run (d := (some 50)) (v := ?v149) 9 rfl rfl (by kernel_rfl) (by kernel_rfl) (by kernel_rfl) (fun _ _ _ h => h) (by rfl) hHeld ?hy149 ?rs149
  case hy149 => (intro w hSw; (try dsimp only at hSw); go_simp) <;> (try with_reducible rfl)
  (try simp only [Act.put, List.setIfInBounds_toArray, List.set_cons_zero, List.set_cons_succ])
  refine take_run (d := (some 51)) (v := ?v150) 10 rfl rfl (by kernel_rfl) (by kernel_rfl) (by kernel_rfl) (fun _ _ _ h => h) (by rfl) hHeld ?hy150 ?rs150
  case hy150 => (intro w hSw; (try dsimp only at hSw); go_simp) <;> (try with_reducible rfl)
  (try simp only [Act.put, List.setIfInBounds_toArray, List.set_cons_zero, List.set_cons_succ])
  refine take_call 14 rfl (by kernel_rfl) (by rfl) (fun K hK => ?_)
  go_simp
  refine (D3.out _).mono ?_
  rintro e w' ⟨rfl, hb⟩
  refine hK.out _ _ (by obtain ⟨h0, h1, h2, h3, h4, h5, h6, h7, h8, h9, h10, h11, hw⟩ := hHeld; exact ⟨cell_keep h0 hb, cell_keep h1 hb, cell_keep h2 hb, cell_keep h3 hb, cell_keep h4 hb, cell_keep h5 hb, cell_keep h6 hb, cell_keep h7 hb, cell_keep h8 hb, cell_keep h9 hb, cell_keep h10 hb, cell_keep h11 hb, Lib.hid (blw_trans hw.out hb)⟩) (fun hHeld => ?_)
  clear hK K
  (try simp only [Act.put, List.setIfInBounds_toArray, List.set_cons_zero, List.set_cons_succ])
  refine take_run (d := (some 56)) (v := ?v152) 15 rfl rfl (by kernel_rfl) (by kernel_rfl) (by kernel_rfl) (fun _ _ _ h => h) (by rfl) hHeld ?hy152 ?rs152
  case hy152 => (intro w hSw; (try dsimp only at hSw); go_simp) <;> (try with_reducible rfl)
  (try simp only [Act.put, List.setIfInBounds_toArray, List.set_cons_zero, List.set_cons_succ])
  refine take_run (d := (some 15)) (v := ?v153) 16 rfl rfl (by kernel_rfl) (by kernel_rfl) (by kernel_rfl) (fun _ _ _ h => h) (by rfl) hHeld ?hy153 ?rs153
  case hy153 => (intro w hSw; (try dsimp only at hSw); go_simp) <;> (try with_reducible rfl)
  (try simp only [Act.put, List.setIfInBounds_toArray, List.set_cons_zero, List.set_cons_succ])
  refine wpAnyH_done (by kernel_rfl) ?_ _
  obtain ⟨z0, z1, z2, z3, z4, z5, z6, z7, z8, z9, z10, z11, zW⟩ := hHeld
  have lz_u := World.block_lt_of_cell? _ _ z0
  try simp only at lz_u
  have lz_t := World.block_lt_of_cell? _ _ z3
  try simp only at lz_t
  have lz_a := World.block_lt_of_cell? _ _ z6
  try simp only at lz_a
  have lz_x := World.block_lt_of_cell? _ _ z9
  try simp only at lz_x
  go_wp2_with fail
  refine (CB.out _ (hT.below (by repeat (first | exact zW.out | refine blw_drewN ?_ _ | refine Below.setCell ?_ (by first | (simp; done) | omega | (simp; omega)) _ | refine Below.alloc ?_ (by first | (simp; done) | omega | (simp; omega)) _)))).mono ?_
  rintro e w106 ⟨rfl, hb⟩
  have W106 := Lib.hid (blw_trans (show Below w.heap.size w _ by repeat (first | exact zW.out | refine blw_drewN ?_ _ | refine Below.setCell ?_ (by first | (simp; done) | omega | (simp; omega)) _ | refine Below.alloc ?_ (by first | (simp; done) | omega | (simp; omega)) _)) hb)
  have n106 := hb.size
  try simp at n106
  have k106_u0 := cell_keep (a := ⟨w.heap.size + 1, 0, none⟩) (v := .int .i64 p) (by first | (go_keep; done) | (simp [go_sem, *]; done)) hb
  have k106_u1 := cell_keep (a := ⟨w.heap.size + 1, 1, none⟩) (v := .int .i64 q) (by first | (go_keep; done) | (simp [go_sem, *]; done)) hb
  have k106_u2 := cell_keep (a := ⟨w.heap.size + 1, 2, none⟩) (v := .int .i64 r) (by first | (go_keep; done) | (simp [go_sem, *]; done)) hb
  have l106_u := World.block_lt_of_cell? _ _ k106_u0
  try simp only at l106_u
  have k106_t0 := cell_keep (a := ⟨w1.heap.size, 0, none⟩) (v := .int .i64 0) (by first | (go_keep; done) | (simp [go_sem, *]; done)) hb
  have k106_t1 := cell_keep (a := ⟨w1.heap.size, 1, none⟩) (v := .int .i64 0) (by first | (go_keep; done) | (simp [go_sem, *]; done)) hb
  have k106_t2 := cell_keep (a := ⟨w1.heap.size, 2, none⟩) (v := .int .i64 0) (by first | (go_keep; done) | (simp [go_sem, *]; done)) hb
  have l106_t := World.block_lt_of_cell? _ _ k106_t0
  try simp only at l106_t
  have k106_a0 := cell_keep (a := ⟨w3.heap.size, 0, none⟩) (v := .int .i64 0) (by first | (go_keep; done) | (simp [go_sem, *]; done)) hb
  have k106_a1 := cell_keep (a := ⟨w3.heap.size, 1, none⟩) (v := .int .i64 0) (by first | (go_keep; done) | (simp [go_sem, *]; done)) hb
  have k106_a2 := cell_keep (a := ⟨w3.heap.size, 2, none⟩) (v := .int .i64 0) (by first | (go_keep; done) | (simp [go_sem, *]; done)) hb
  have l106_a := World.block_lt_of_cell? _ _ k106_a0
  try simp only at l106_a
  have k106_x0 := cell_keep (a := ⟨w5.heap.size, 0, none⟩) (v := .int .i64 X1) (by first | (go_keep; done) | (simp [go_sem, *]; done)) hb
  have k106_x1 := cell_keep (a := ⟨w5.heap.size, 1, none⟩) (v := .int .i64 X2) (by first | (go_keep; done) | (simp [go_sem, *]; done)) hb
  have k106_x2 := cell_keep (a := ⟨w5.heap.size, 2, none⟩) (v := .int .i64 X3) (by first | (go_keep; done) | (simp [go_sem, *]; done)) hb
  have l106_x := World.block_lt_of_cell? _ _ k106_x0
  try simp only at l106_x
  clear hb z0 z1 z2 z3 z4 z5 z6 z7 z8 z9 z10 z11 lz_u lz_t lz_a lz_x zW
  go_wp2_with fail
  refine (E0.out _ (hT.below (by repeat (first | exact W106.out | refine blw_drewN ?_ _ | refine Below.setCell ?_ (by first | (simp; done) | omega | (simp; omega)) _ | refine Below.alloc ?_ (by first | (simp; done) | omega | (simp; omega)) _)))).mono ?_
  rintro e w107 ⟨rfl, hb⟩
  have W107 := Lib.hid (blw_trans (show Below w.heap.size w _ by repeat (first | exact W106.out | refine blw_drewN ?_ _ | refine Below.setCell ?_ (by first | (simp; done) | omega | (simp; omega)) _ | refine Below.alloc ?_ (by first | (simp; done) | omega | (simp; omega)) _)) hb)
  have n107 := hb.size
  try simp at n107
  have k107_u0 := cell_keep (a := ⟨w.heap.size + 1, 0, none⟩) (v := .int .i64 p) (by first | (go_keep; done) | (simp [go_sem, *]; done)) hb
  have k107_u1 := cell_keep (a := ⟨w.heap.size + 1, 1, none⟩) (v := .int .i64 q) (by first | (go_keep; done) | (simp [go_sem, *]; done)) hb
  have k107_u2 := cell_keep (a := ⟨w.heap.size + 1, 2, none⟩) (v := .int .i64 r) (by first | (go_keep; done) | (simp [go_sem, *]; done)) hb
  have l107_u := World.block_lt_of_cell? _ _ k107_u0
  try simp only at l107_u
  have k107_t0 := cell_keep (a := ⟨w1.heap.size, 0, none⟩) (v := .int .i64 0) (by first | (go_keep; done) | (simp [go_sem, *]; done)) hb
  have k107_t1 := cell_keep (a := ⟨w1.heap.size, 1, none⟩) (v := .int .i64 0) (by first | (go_keep; done) | (simp [go_sem, *]; done)) hb
  have k107_t2 := cell_keep (a := ⟨w1.heap.size, 2, none⟩) (v := .int .i64 0) (by first | (go_keep; done) | (simp [go_sem, *]; done)) hb
  have l107_t := World.block_lt_of_cell? _ _ k107_t0
  try simp only at l107_t
  have k107_a0 := cell_keep (a := ⟨w3.heap.size, 0, none⟩) (v := .int .i64 0) (by first | (go_keep; done) | (simp [go_sem, *]; done)) hb
  have k107_a1 := cell_keep (a := ⟨w3.heap.size, 1, none⟩) (v := .int .i64 0) (by first | (go_keep; done) | (simp [go_sem, *]; done)) hb
  have k107_a2 := cell_keep (a := ⟨w3.heap.size, 2, none⟩) (v := .int .i64 0) (by first | (go_keep; done) | (simp [go_sem, *]; done)) hb
  have l107_a := World.block_lt_of_cell? _ _ k107_a0
  try simp only at l107_a
  have k107_x0 := cell_keep (a := ⟨w5.heap.size, 0, none⟩) (v := .int .i64 X1) (by first | (go_keep; done) | (simp [go_sem, *]; done)) hb
  have k107_x1 := cell_keep (a := ⟨w5.heap.size, 1, none⟩) (v := .int .i64 X2) (by first | (go_keep; done) | (simp [go_sem, *]; done)) hb
  have k107_x2 := cell_keep (a := ⟨w5.heap.size, 2, none⟩) (v := .int .i64 X3) (by first | (go_keep; done) | (simp [go_sem, *]; done)) hb
  have l107_x := World.block_lt_of_cell? _ _ k107_x0
  try simp only at l107_x
  have k107_b0 := cell_keep (a := ⟨w106.heap.size, 0, none⟩) (v := .int .i64 X1) (by first | (go_keep; done) | (simp [go_sem, *]; done)) hb
  have k107_b1 := cell_keep (a := ⟨w106.heap.size, 1, none⟩) (v := .int .i64 X2) (by first | (go_keep; done) | (simp [go_sem, *]; done)) hb
  have k107_b2 := cell_keep (a := ⟨w106.heap.size, 2, none⟩) (v := .int .i64 X3) (by first | (go_keep; done) | (simp [go_sem, *]; done)) hb
  have l107_b := World.block_lt_of_cell? _ _ k107_b0
  try simp only at l107_b
  clear hb k106_u0 k106_u1 k106_u2 l106_u k106_t0 k106_t1 k106_t2 l106_t k106_a0 k106_a1 k106_a2 l106_a k106_x0 k106_x1 k106_x2 l106_x W106
  go_wp2_with fail
  refine (CT.out _ (hT.below (by repeat (first | exact W107.out | refine blw_drewN ?_ _ | refine Below.setCell ?_ (by first | (simp; done) | omega | (simp; omega)) _ | refine Below.alloc ?_ (by first | (simp; done) | omega | (simp; omega)) _)))).mono ?_
  rintro e w108 ⟨rfl, hb⟩
  have W108 := Lib.hid (blw_trans (show Below w.heap.size w _ by repeat (first | exact W107.out | refine blw_drewN ?_ _ | refine Below.setCell ?_ (by first | (simp; done) | omega | (simp; omega)) _ | refine Below.alloc ?_ (by first | (simp; done) | omega | (simp; omega)) _)) hb)
  have n108 := hb.size
  try simp at n108
  have k108_u0 := cell_keep (a := ⟨w.heap.size + 1, 0, none⟩) (v := .int .i64 p) (by first | (go_keep; done) | (simp [go_sem, *]; done)) hb
  have k108_u1 := cell_keep (a := ⟨w.heap.size + 1, 1, none⟩) (v := .int .i64 q) (by first | (go_keep; done) | (simp [go_sem, *]; done)) hb
  have k108_u2 := cell_keep (a := ⟨w.heap.size + 1, 2, none⟩) (v := .int .i64 r) (by first | (go_keep; done) | (simp [go_sem, *]; done)) hb
  have l108_u := World.block_lt_of_cell? _ _ k108_u0
  try simp only at l108_u
  have k108_t0 := cell_keep (a := ⟨w1.heap.size, 0, none⟩) (v := .int .i64 0) (by first | (go_keep; done) | (simp [go_sem, *]; done)) hb
  have k108_t1 := cell_keep (a := ⟨w1.heap.size, 1, none⟩) (v := .int .i64 0) (by first | (go_keep; done) | (simp [go_sem, *]; done)) hb
  have k108_t2 := cell_keep (a := ⟨w1.heap.size, 2, none⟩) (v := .int .i64 0) (by first | (go_keep; done) | (simp [go_sem, *]; done)) hb
  have l108_t := World.block_lt_of_cell? _ _ k108_t0
  try simp only at l108_t
  have k108_a0 := cell_keep (a := ⟨w3.heap.size, 0, none⟩) (v := .int .i64 0) (by first | (go_keep; done) | (simp [go_sem, *]; done)) hb
  have k108_a1 := cell_keep (a := ⟨w3.heap.size, 1, none⟩) (v := .int .i64 0) (by first | (go_keep; done) | (simp [go_sem, *]; done)) hb
  have k108_a2 := cell_keep (a := ⟨w3.heap.size, 2, none⟩) (v := .int .i64 0) (by first | (go_keep; done) | (simp [go_sem, *]; done)) hb
  have l108_a := World.block_lt_of_cell? _ _ k108_a0
  try simp only at l108_a
  have k108_x0 := cell_keep (a := ⟨w5.heap.size, 0, none⟩) (v := .int .i64 X1) (by first | (go_keep; done) | (simp [go_sem, *]; done)) hb
  have k108_x1 := cell_keep (a := ⟨w5.heap.size, 1, none⟩) (v := .int .i64 X2) (by first | (go_keep; done) | (simp [go_sem, *]; done)) hb
  have k108_x2 := cell_keep (a := ⟨w5.heap.size, 2, none⟩) (v := .int .i64 X3) (by first | (go_keep; done) | (simp [go_sem, *]; done)) hb
  have l108_x := World.block_lt_of_cell? _ _ k108_x0
  try simp only at l108_x
  have k108_b0 := cell_keep (a := ⟨w106.heap.size, 0, none⟩) (v := .int .i64 X1) (by first | (go_keep; done) | (simp [go_sem, *]; done)) hb
  have k108_b1 := cell_keep (a := ⟨w106.heap.size, 1, none⟩) (v := .int .i64 X2) (by first | (go_keep; done) | (simp [go_sem, *]; done)) hb
  have k108_b2 := cell_keep (a := ⟨w106.heap.size, 2, none⟩) (v := .int .i64 X3) (by first | (go_keep; done) | (simp [go_sem, *]; done)) hb
  have l108_b := World.block_lt_of_cell? _ _ k108_b0
  try simp only at l108_b
  clear hb k107_u0 k107_u1 k107_u2 l107_u k107_t0 k107_t1 k107_t2 l107_t k107_a0 k107_a1 k107_a2 l107_a k107_x0 k107_x1 k107_x2 l107_x k107_b0 k107_b1 k107_b2 l107_b W107
  go_wp2_with fail
  refine (E0.out _ (hT.below (by repeat (first | exact W108.out | refine blw_drewN ?_ _ | refine Below.setCell ?_ (by first | (simp; done) | omega | (simp; omega)) _ | refine Below.alloc ?_ (by first | (simp; done) | omega | (simp; omega)) _)))).mono ?_
  rintro e w109 ⟨rfl, hb⟩
  have W109 := Lib.hid (blw_trans (show Below w.heap.size w _ by repeat (first | exact W108.out | refine blw_drewN ?_ _ | refine Below.setCell ?_ (by first | (simp; done) | omega | (simp; omega)) _ | refine Below.alloc ?_ (by first | (simp; done) | omega | (simp; omega)) _)) hb)
  have n109 := hb.size
  try simp at n109
  have k109_t0 := cell_keep (a := ⟨w1.heap.size, 0, none⟩) (v := .int .i64 0) (by first | (go_keep; done) | (simp [go_sem, *]; done)) hb
  have k109_t1 := cell_keep (a := ⟨w1.heap.size, 1, none⟩) (v := .int .i64 0) (by first | (go_keep; done) | (simp [go_sem, *]; done)) hb
  have k109_t2 := cell_keep (a := ⟨w1.heap.size, 2, none⟩) (v := .int .i64 0) (by first | (go_keep; done) | (simp [go_sem, *]; done)) hb
  have l109_t := World.block_lt_of_cell? _ _ k109_t0
  try simp only at l109_t
  have k109_a0 := cell_keep (a := ⟨w3.heap.size, 0, none⟩) (v := .int .i64 0) (by first | (go_keep; done) | (simp [go_sem, *]; done)) hb
  have k109_a1 := cell_keep (a := ⟨w3.heap.size, 1, none⟩) (v := .int .i64 0) (by first | (go_keep; done) | (simp [go_sem, *]; done)) hb
  have k109_a2 := cell_keep (a := ⟨w3.heap.size, 2, none⟩) (v := .int .i64 0) (by first | (go_keep; done) | (simp [go_sem, *]; done)) hb
  have l109_a := World.block_lt_of_cell? _ _ k109_a0
  try simp only at l109_a
  have k109_x0 := cell_keep (a := ⟨w5.heap.size, 0, none⟩) (v := .int .i64 X1) (by first | (go_keep; done) | (simp [go_sem, *]; done)) hb
  have k109_x1 := cell_keep (a := ⟨w5.heap.size, 1, none⟩) (v := .int .i64 X2) (by first | (go_keep; done) | (simp [go_sem, *]; done)) hb
  have k109_x2 := cell_keep (a := ⟨w5.heap.size, 2, none⟩) (v := .int .i64 X3) (by first | (go_keep; done) | (simp [go_sem, *]; done)) hb
  have l109_x := World.block_lt_of_cell? _ _ k109_x0
  try simp only at l109_x
  have k109_b0 := cell_keep (a := ⟨w106.heap.size, 0, none⟩) (v := .int .i64 X1) (by first | (go_keep; done) | (simp [go_sem, *]; done)) hb
  have k109_b1 := cell_keep (a := ⟨w106.heap.size, 1, none⟩) (v := .int .i64 X2) (by first | (go_keep; done) | (simp [go_sem, *]; done)) hb
  have k109_b2 := cell_keep (a := ⟨w106.heap.size, 2, none⟩) (v := .int .i64 X3) (by first | (go_keep; done) | (simp [go_sem, *]; done)) hb
  have l109_b := World.block_lt_of_cell? _ _ k109_b0
  try simp only at l109_b
  clear hb k108_u0 k108_u1 k108_u2 l108_u k108_t0 k108_t1 k108_t2 l108_t k108_a0 k108_a1 k108_a2 l108_a k108_x0 k108_x1 k108_x2 l108_x k108_b0 k108_b1 k108_b2 l108_b W108
  go_wp2_with fail
  refine (CN.out _).mono ?_
  rintro e w' ⟨rfl, rfl⟩
  go_wp2_with fail
  refine (E1.out _ (hT.below (by repeat (first | exact W109.out | refine blw_drewN ?_ _ | refine Below.setCell ?_ (by first | (simp; done) | omega | (simp; omega)) _ | refine Below.alloc ?_ (by first | (simp; done) | omega | (simp; omega)) _)))).mono ?_
  rintro e w110 ⟨rfl, hb⟩
  have W110 := Lib.hid (blw_trans (show Below w.heap.size w _ by repeat (first | exact W109.out | refine blw_drewN ?_ _ | refine Below.setCell ?_ (by first | (simp; done) | omega | (simp; omega)) _ | refine Below.alloc ?_ (by first | (simp; done) | omega | (simp; omega)) _)) hb)
  have n110 := hb.size
  try simp at n110
  have k110_t0 := cell_keep (a := ⟨w1.heap.size, 0, none⟩) (v := .int .i64 0) (by first | (go_keep; done) | (simp [go_sem, *]; done)) hb
  have k110_t1 := cell_keep (a := ⟨w1.heap.size, 1, none⟩) (v := .int .i64 0) (by first | (go_keep; done) | (simp [go_sem, *]; done)) hb
  have k110_t2 := cell_keep (a := ⟨w1.heap.size, 2, none⟩) (v := .int .i64 0) (by first | (go_keep; done) | (simp [go_sem, *]; done)) hb
  have l110_t := World.block_lt_of_cell? _ _ k110_t0
  try simp only at l110_t
  have k110_a0 := cell_keep (a := ⟨w3.heap.size, 0, none⟩) (v := .int .i64 0) (by first | (go_keep; done) | (simp [go_sem, *]; done)) hb
  have k110_a1 := cell_keep (a := ⟨w3.heap.size, 1, none⟩) (v := .int .i64 0) (by first | (go_keep; done) | (simp [go_sem, *]; done)) hb
  have k110_a2 := cell_keep (a := ⟨w3.heap.size, 2, none⟩) (v := .int .i64 0) (by first | (go_keep; done) | (simp [go_sem, *]; done)) hb
  have l110_a := World.block_lt_of_cell? _ _ k110_a0
  try simp only at l110_a
  have k110_x0 := cell_keep (a := ⟨w5.heap.size, 0, none⟩) (v := .int .i64 X1) (by first | (go_keep; done) | (simp [go_sem, *]; done)) hb
  have k110_x1 := cell_keep (a := ⟨w5.heap.size, 1, none⟩) (v := .int .i64 X2) (by first | (go_keep; done) | (simp [go_sem, *]; done)) hb
  have k110_x2 := cell_keep (a := ⟨w5.heap.size, 2, none⟩) (v := .int .i64 X3) (by first | (go_keep; done) | (simp [go_sem, *]; done)) hb
  have l110_x := World.block_lt_of_cell? _ _ k110_x0
  try simp only at l110_x
  have k110_b0 := cell_keep (a := ⟨w106.heap.size, 0, none⟩) (v := .int .i64 X1) (by first | (go_keep; done) | (simp [go_sem, *]; done)) hb
  have k110_b1 := cell_keep (a := ⟨w106.heap.size, 1, none⟩) (v := .int .i64 X2) (by first | (go_keep; done) | (simp [go_sem, *]; done)) hb
  have k110_b2 := cell_keep (a := ⟨w106.heap.size, 2, none⟩) (v := .int .i64 X3) (by first | (go_keep; done) | (simp [go_sem, *]; done)) hb
  have l110_b := World.block_lt_of_cell? _ _ k110_b0
  try simp only at l110_b
  clear hb k109_t0 k109_t1 k109_t2 l109_t k109_a0 k109_a1 k109_a2 l109_a k109_x0 k109_x1 k109_x2 l109_x k109_b0 k109_b1 k109_b2 l109_b W109
  go_wp2
  go_ret
  exact ⟨ret_bool (by simp), by repeat (first | exact W110.out | refine blw_drewN ?_ _ | refine Below.setCell ?_ (by first | (simp; done) | omega | (simp; omega)) _ | refine Below.alloc ?_ (by first | (simp; done) | omega | (simp; omega)) _)⟩

set_option maxRecDepth 100000 in
set_option maxHeartbeats 4000000 in
theorem weekTells_nnok (y m d p q r x p0 q0 r0 K : Int) (P Q R T : List UInt8) (w : World) (hT : TPH w)
    (lp : P.length ≤ 120) (lq : Q.length ≤ 120) (lr : R.length ≤ 120) (HX : P ++ [45, 87] ++ Q ++ [45] ++ R = T)
    (mp : max p 0 = p0) (mq : max q 0 = q0) (mr : max r 0 = r0)
    (CF : Hid (∀ w : World, Calls Tryd.prog 6 #[.agg #[.int .i64 y, .int .i64 m, .int .i64 d]] w fun e w' => e = .returned (.bool true) ∧ Below w.heap.size w w'))
    (CO : Hid (∀ w : World, TPH w → Calls Tryd.prog 8 #[.agg #[.int .i64 y, .int .i64 m, .int .i64 d]] w fun e w' => e = .returned (.tuple #[.agg #[.int .i64 0, .int .i64 0, .int .i64 0], errV 1]) ∧ Below w.heap.size w w'))
    (CX : Hid (∀ w : World, Calls Tryd.prog 10 #[.agg #[.int .i64 p, .int .i64 q, .int .i64 r]] w fun e w' => e = .returned (.tuple #[.agg #[.int .i64 0, .int .i64 0, .int .i64 0], .bool false]) ∧ Below w.heap.size w w'))
    (D1 : Hid (∀ w : World, Calls Tryd.prog 11 #[.int .i64 p0, .int .i64 4] w fun e w' => e = .returned (.string ⟨P.toArray⟩) ∧ Below w.heap.size w w'))
    (D2 : Hid (∀ w : World, Calls Tryd.prog 11 #[.int .i64 q0, .int .i64 2] w fun e w' => e = .returned (.string ⟨Q.toArray⟩) ∧ Below w.heap.size w w'))
    (D3 : Hid (∀ w : World, Calls Tryd.prog 11 #[.int .i64 r0, .int .i64 1] w fun e w' => e = .returned (.string ⟨R.toArray⟩) ∧ Below w.heap.size w w'))
    (CB : Hid (∀ w : World, TPH w → Calls Tryd.prog 12 #[.agg #[.int .i64 p, .int .i64 q, .int .i64 r]] w fun e w' => e = .returned (.tuple #[.agg #[.int .i64 0, .int .i64 0, .int .i64 0], errV 1]) ∧ Below w.heap.size w w'))
    (CT : Hid (∀ w : World, TPH w → Calls Tryd.prog 13 #[.agg #[.int .i64 p, .int .i64 q, .int .i64 r]] w fun e w' => e = .returned (.tuple #[.string ⟨#[]⟩, errV 1]) ∧ Below w.heap.size w w'))
    (y0 : ¬ x < 1) (y1 : ¬ 9999 < x) (CY : Hid (∀ w : World, Calls Tryd.prog 14 #[.int .i64 x] w fun e w' => e = .returned (.int .i64 K) ∧ w = w'))
    (CN : Hid (∀ w : World, Calls Tryd.prog 15 #[.int .i64 x] w fun e w' => e = .returned (.tuple #[.int .i64 K, .nilIface]) ∧ w = w')) :
    Calls Tryd.prog 3 #[.agg #[.int .i64 y, .int .i64 m, .int .i64 d], .agg #[.int .i64 p, .int .i64 q, .int .i64 r], .int .i64 x] w fun e w' => e = .returned (.bool true) ∧ Below w.heap.size w w' := by
  have C0 := Lib.hid fun w (hT : TPH w) => weekly_any w hT.t
  have E0 := Lib.hid fun w (hT : TPH w) => sameErr_yes ErrNo.nil w hT.h
  have E1 := Lib.hid fun w (hT : TPH w) => sameErr_yes (ErrNo.no 1) w hT.h
  have g1 : decide (x < 1) = false := dec_no y0
  have g2 : decide (9999 < x) = false := dec_no y1
  obtain ⟨Y1, x1⟩ : ∃ X, X = P ++ [45, 87] := ⟨_, rfl⟩
  have S1 : ∀ w, (Op.stringOp .add ⟨P.toArray⟩ ⟨#[45, 87]⟩).run Tryd.prog w = .ok (.string ⟨Y1.toArray⟩) w := fun w => by rw [x1]; exact add_str (P := Tryd.prog) P [45, 87] (by first | omega | (simp; omega)) w
  have m1 : Y1.length = P.length + 2 := by rw [x1]; simp
  obtain ⟨Y2, x2⟩ : ∃ X, X = Y1 ++ Q := ⟨_, rfl⟩
  have S2 : ∀ w, (Op.stringOp .add ⟨Y1.toArray⟩ ⟨Q.toArray⟩).run Tryd.prog w = .ok (.string ⟨Y2.toArray⟩) w := fun w => by rw [x2]; exact add_str (P := Tryd.prog) Y1 Q (by first | omega | (simp; omega)) w
  have m2 : Y2.length = Y1.length + Q.length := by rw [x2]; simp
  obtain ⟨Y3, x3⟩ : ∃ X, X = Y2 ++ [45] := ⟨_, rfl⟩
  have S3 : ∀ w, (Op.stringOp .add ⟨Y2.toArray⟩ ⟨#[45]⟩).run Tryd.prog w = .ok (.string ⟨Y3.toArray⟩) w := fun w => by rw [x3]; exact add_str (P := Tryd.prog) Y2 [45] (by first | omega | (simp; omega)) w
  have m3 : Y3.length = Y2.length + 1 := by rw [x3]; simp
  have S4 : ∀ w, (Op.stringOp .add ⟨Y3.toArray⟩ ⟨R.toArray⟩).run Tryd.prog w = .ok (.string ⟨T.toArray⟩) w := fun w => by rw [← HX, ← x1, ← x2, ← x3]; exact add_str (P := Tryd.prog) Y3 R (by omega) w
  clear x1 x2 x3 m1 m2 m3 HX lp lq lr
  go_enter Tryd.func3, Tryd.ntmps3
  go_wp2_with fail
  refine (C0.out _ (hT.below (by repeat (first | exact (Below.refl _ _) | refine blw_drewN ?_ _ | refine Below.setCell ?_ (by first | (simp; done) | omega | (simp; omega)) _ | refine Below.alloc ?_ (by first | (simp; done) | omega | (simp; omega)) _)))).mono ?_
  rintro e w1 ⟨rfl, hb⟩
  have W1 := Lib.hid (blw_trans (show Below w.heap.size w _ by repeat (first | exact (Below.refl _ _) | refine blw_drewN ?_ _ | refine Below.setCell ?_ (by first | (simp; done) | omega | (simp; omega)) _ | refine Below.alloc ?_ (by first | (simp; done) | omega | (simp; omega)) _)) hb)
  have n1 := hb.size
  try simp at n1
  have k1_d0 := cell_keep (a := ⟨w.heap.size, 0, none⟩) (v := .int .i64 y) (by first | (go_keep; done) | (simp [go_sem, *]; done)) hb
  have k1_d1 := cell_keep (a := ⟨w.heap.size, 1, none⟩) (v := .int .i64 m) (by first | (go_keep; done) | (simp [go_sem, *]; done)) hb
  have k1_d2 := cell_keep (a := ⟨w.heap.size, 2, none⟩) (v := .int .i64 d) (by first | (go_keep; done) | (simp [go_sem, *]; done)) hb
  have l1_d := World.block_lt_of_cell? _ _ k1_d0
  try simp only at l1_d
  have k1_u0 := cell_keep (a := ⟨w.heap.size + 1, 0, none⟩) (v := .int .i64 p) (by first | (go_keep; done) | (simp [go_sem, *]; done)) hb
  have k1_u1 := cell_keep (a := ⟨w.heap.size + 1, 1, none⟩) (v := .int .i64 q) (by first | (go_keep; done) | (simp [go_sem, *]; done)) hb
  have k1_u2 := cell_keep (a := ⟨w.heap.size + 1, 2, none⟩) (v := .int .i64 r) (by first | (go_keep; done) | (simp [go_sem, *]; done)) hb
  have l1_u := World.block_lt_of_cell? _ _ k1_u0
  try simp only at l1_u
  clear hb
  go_wp2_with fail
  refine (CF.out _).mono ?_
  rintro e w2 ⟨rfl, hb⟩
  have W2 := Lib.hid (blw_trans (show Below w.heap.size w _ by repeat (first | exact W1.out | refine blw_drewN ?_ _ | refine Below.setCell ?_ (by first | (simp; done) | omega | (simp; omega)) _ | refine Below.alloc ?_ (by first | (simp; done) | omega | (simp; omega)) _)) hb)
  have n2 := hb.size
  try simp at n2
  have k2_d0 := cell_keep (a := ⟨w.heap.size, 0, none⟩) (v := .int .i64 y) (by first | (go_keep; done) | (simp [go_sem, *]; done)) hb
  have k2_d1 := cell_keep (a := ⟨w.heap.size, 1, none⟩) (v := .int .i64 m) (by first | (go_keep; done) | (simp [go_sem, *]; done)) hb
  have k2_d2 := cell_keep (a := ⟨w.heap.size, 2, none⟩) (v := .int .i64 d) (by first | (go_keep; done) | (simp [go_sem, *]; done)) hb
  have l2_d := World.block_lt_of_cell? _ _ k2_d0
  try simp only at l2_d
  have k2_u0 := cell_keep (a := ⟨w.heap.size + 1, 0, none⟩) (v := .int .i64 p) (by first | (go_keep; done) | (simp [go_sem, *]; done)) hb
  have k2_u1 := cell_keep (a := ⟨w.heap.size + 1, 1, none⟩) (v := .int .i64 q) (by first | (go_keep; done) | (simp [go_sem, *]; done)) hb
  have k2_u2 := cell_keep (a := ⟨w.heap.size + 1, 2, none⟩) (v := .int .i64 r) (by first | (go_keep; done) | (simp [go_sem, *]; done)) hb
  have l2_u := World.block_lt_of_cell? _ _ k2_u0
  try simp only at l2_u
  have k2_t0 := cell_keep (a := ⟨w1.heap.size, 0, none⟩) (v := .int .i64 0) (by first | (go_keep; done) | (simp [go_sem, *]; done)) hb
  have k2_t1 := cell_keep (a := ⟨w1.heap.size, 1, none⟩) (v := .int .i64 0) (by first | (go_keep; done) | (simp [go_sem, *]; done)) hb
  have k2_t2 := cell_keep (a := ⟨w1.heap.size, 2, none⟩) (v := .int .i64 0) (by first | (go_keep; done) | (simp [go_sem, *]; done)) hb
  have l2_t := World.block_lt_of_cell? _ _ k2_t0
  try simp only at l2_t
  clear hb k1_d0 k1_d1 k1_d2 l1_d k1_u0 k1_u1 k1_u2 l1_u W1
  go_wp2_with fail
  refine (CO.out _ (hT.below (by repeat (first | exact W2.out | refine blw_drewN ?_ _ | refine Below.setCell ?_ (by first | (simp; done) | omega | (simp; omega)) _ | refine Below.alloc ?_ (by first | (simp; done) | omega | (simp; omega)) _)))).mono ?_
  rintro e w3 ⟨rfl, hb⟩
  have W3 := Lib.hid (blw_trans (show Below w.heap.size w _ by repeat (first | exact W2.out | refine blw_drewN ?_ _ | refine Below.setCell ?_ (by first | (simp; done) | omega | (simp; omega)) _ | refine Below.alloc ?_ (by first | (simp; done) | omega | (simp; omega)) _)) hb)
  have n3 := hb.size
  try simp at n3
  have k3_u0 := cell_keep (a := ⟨w.heap.size + 1, 0, none⟩) (v := .int .i64 p) (by first | (go_keep; done) | (simp [go_sem, *]; done)) hb
  have k3_u1 := cell_keep (a := ⟨w.heap.size + 1, 1, none⟩) (v := .int .i64 q) (by first | (go_keep; done) | (simp [go_sem, *]; done)) hb
  have k3_u2 := cell_keep (a := ⟨w.heap.size + 1, 2, none⟩) (v := .int .i64 r) (by first | (go_keep; done) | (simp [go_sem, *]; done)) hb
  have l3_u := World.block_lt_of_cell? _ _ k3_u0
  try simp only at l3_u
  have k3_t0 := cell_keep (a := ⟨w1.heap.size, 0, none⟩) (v := .int .i64 0) (by first | (go_keep; done) | (simp [go_sem, *]; done)) hb
  have k3_t1 := cell_keep (a := ⟨w1.heap.size, 1, none⟩) (v := .int .i64 0) (by first | (go_keep; done) | (simp [go_sem, *]; done)) hb
  have k3_t2 := cell_keep (a := ⟨w1.heap.size, 2, none⟩) (v := .int .i64 0) (by first | (go_keep; done) | (simp [go_sem, *]; done)) hb
  have l3_t := World.block_lt_of_cell? _ _ k3_t0
  try simp only at l3_t
  clear hb k2_d0 k2_d1 k2_d2 l2_d k2_u0 k2_u1 k2_u2 l2_u k2_t0 k2_t1 k2_t2 l2_t W2
  go_wp2_with fail
  refine (E1.out _ (hT.below (by repeat (first | exact W3.out | refine blw_drewN ?_ _ | refine Below.setCell ?_ (by first | (simp; done) | omega | (simp; omega)) _ | refine Below.alloc ?_ (by first | (simp; done) | omega | (simp; omega)) _)))).mono ?_
  rintro e w4 ⟨rfl, hb⟩
  have W4 := Lib.hid (blw_trans (show Below w.heap.size w _ by repeat (first | exact W3.out | refine blw_drewN ?_ _ | refine Below.setCell ?_ (by first | (simp; done) | omega | (simp; omega)) _ | refine Below.alloc ?_ (by first | (simp; done) | omega | (simp; omega)) _)) hb)
  have n4 := hb.size
  try simp at n4
  have k4_u0 := cell_keep (a := ⟨w.heap.size + 1, 0, none⟩) (v := .int .i64 p) (by first | (go_keep; done) | (simp [go_sem, *]; done)) hb
  have k4_u1 := cell_keep (a := ⟨w.heap.size + 1, 1, none⟩) (v := .int .i64 q) (by first | (go_keep; done) | (simp [go_sem, *]; done)) hb
  have k4_u2 := cell_keep (a := ⟨w.heap.size + 1, 2, none⟩) (v := .int .i64 r) (by first | (go_keep; done) | (simp [go_sem, *]; done)) hb
  have l4_u := World.block_lt_of_cell? _ _ k4_u0
  try simp only at l4_u
  have k4_t0 := cell_keep (a := ⟨w1.heap.size, 0, none⟩) (v := .int .i64 0) (by first | (go_keep; done) | (simp [go_sem, *]; done)) hb
  have k4_t1 := cell_keep (a := ⟨w1.heap.size, 1, none⟩) (v := .int .i64 0) (by first | (go_keep; done) | (simp [go_sem, *]; done)) hb
  have k4_t2 := cell_keep (a := ⟨w1.heap.size, 2, none⟩) (v := .int .i64 0) (by first | (go_keep; done) | (simp [go_sem, *]; done)) hb
  have l4_t := World.block_lt_of_cell? _ _ k4_t0
  try simp only at l4_t
  have k4_a0 := cell_keep (a := ⟨w3.heap.size, 0, none⟩) (v := .int .i64 0) (by first | (go_keep; done) | (simp [go_sem, *]; done)) hb
  have k4_a1 := cell_keep (a := ⟨w3.heap.size, 1, none⟩) (v := .int .i64 0) (by first | (go_keep; done) | (simp [go_sem, *]; done)) hb
  have k4_a2 := cell_keep (a := ⟨w3.heap.size, 2, none⟩) (v := .int .i64 0) (by first | (go_keep; done) | (simp [go_sem, *]; done)) hb
  have l4_a := World.block_lt_of_cell? _ _ k4_a0
  try simp only at l4_a
  clear hb k3_u0 k3_u1 k3_u2 l3_u k3_t0 k3_t1 k3_t2 l3_t W3
  go_wp2_with fail
  refine (CX.out _).mono ?_
  rintro e w5 ⟨rfl, hb⟩
  have W5 := Lib.hid (blw_trans (show Below w.heap.size w _ by repeat (first | exact W4.out | refine blw_drewN ?_ _ | refine Below.setCell ?_ (by first | (simp; done) | omega | (simp; omega)) _ | refine Below.alloc ?_ (by first | (simp; done) | omega | (simp; omega)) _)) hb)
  have n5 := hb.size
  try simp at n5
  have k5_u0 := cell_keep (a := ⟨w.heap.size + 1, 0, none⟩) (v := .int .i64 p) (by first | (go_keep; done) | (simp [go_sem, *]; done)) hb
  have k5_u1 := cell_keep (a := ⟨w.heap.size + 1, 1, none⟩) (v := .int .i64 q) (by first | (go_keep; done) | (simp [go_sem, *]; done)) hb
  have k5_u2 := cell_keep (a := ⟨w.heap.size + 1, 2, none⟩) (v := .int .i64 r) (by first | (go_keep; done) | (simp [go_sem, *]; done)) hb
  have l5_u := World.block_lt_of_cell? _ _ k5_u0
  try simp only at l5_u
  have k5_t0 := cell_keep (a := ⟨w1.heap.size, 0, none⟩) (v := .int .i64 0) (by first | (go_keep; done) | (simp [go_sem, *]; done)) hb
  have k5_t1 := cell_keep (a := ⟨w1.heap.size, 1, none⟩) (v := .int .i64 0) (by first | (go_keep; done) | (simp [go_sem, *]; done)) hb
  have k5_t2 := cell_keep (a := ⟨w1.heap.size, 2, none⟩) (v := .int .i64 0) (by first | (go_keep; done) | (simp [go_sem, *]; done)) hb
  have l5_t := World.block_lt_of_cell? _ _ k5_t0
  try simp only at l5_t
  have k5_a0 := cell_keep (a := ⟨w3.heap.size, 0, none⟩) (v := .int .i64 0) (by first | (go_keep; done) | (simp [go_sem, *]; done)) hb
  have k5_a1 := cell_keep (a := ⟨w3.heap.size, 1, none⟩) (v := .int .i64 0) (by first | (go_keep; done) | (simp [go_sem, *]; done)) hb
  have k5_a2 := cell_keep (a := ⟨w3.heap.size, 2, none⟩) (v := .int .i64 0) (by first | (go_keep; done) | (simp [go_sem, *]; done)) hb
  have l5_a := World.block_lt_of_cell? _ _ k5_a0
  try simp only at l5_a
  clear hb k4_u0 k4_u1 k4_u2 l4_u k4_t0 k4_t1 k4_t2 l4_t k4_a0 k4_a1 k4_a2 l4_a W4
  have ne1 : ¬ w5.heap.size = w.heap.size + 1 := by omega
  have me1 : ¬ w.heap.size + 1 = w5.heap.size := by omega
  have ne2 : ¬ w5.heap.size = w1.heap.size := by omega
  have me2 : ¬ w1.heap.size = w5.heap.size := by omega
  have ne3 : ¬ w5.heap.size = w3.heap.size := by omega
  have me3 : ¬ w3.heap.size = w5.heap.size := by omega
  go_wp2_with fail
  refine wp_region_held_drew (S := fun w' => w'.cell? ⟨w.heap.size + 1, 0, none⟩ = some (.int .i64 p) ∧ w'.cell? ⟨w.heap.size + 1, 1, none⟩ = some (.int .i64 q) ∧ w'.cell? ⟨w.heap.size + 1, 2, none⟩ = some (.int .i64 r) ∧ w'.cell? ⟨w1.heap.size, 0, none⟩ = some (.int .i64 0) ∧ w'.cell? ⟨w1.heap.size, 1, none⟩ = some (.int .i64 0) ∧ w'.cell? ⟨w1.heap.size, 2, none⟩ = some (.int .i64 0) ∧ w'.cell? ⟨w3.heap.size, 0, none⟩ = some (.int .i64 0) ∧ w'.cell? ⟨w3.heap.size, 1, none⟩ = some (.int .i64 0) ∧ w'.cell? ⟨w3.heap.size, 2, none⟩ = some (.int .i64 0) ∧ w'.cell? ⟨w5.heap.size, 0, none⟩ = some (.int .i64 0) ∧ w'.cell? ⟨w5.heap.size, 1, none⟩ = some (.int .i64 0) ∧ w'.cell? ⟨w5.heap.size, 2, none⟩ = some (.int .i64 0) ∧ w'.frozen? ⟨w5.heap.size, 0, none⟩ = false ∧ w'.frozen? ⟨w5.heap.size, 1, none⟩ = false ∧ w'.frozen? ⟨w5.heap.size, 2, none⟩ = false ∧ Hid (Below w.heap.size w w')) (by kernel_rfl) (by refine ⟨by go_keep, by go_keep, by go_keep, by go_keep, by go_keep, by go_keep, by go_keep, by go_keep, by go_keep, by go_keep, by go_keep, by go_keep, by simp [go_sem], by simp [go_sem], by simp [go_sem], Lib.hid (Below.drew ?_)⟩; repeat (first | exact W5.out | refine blw_drewN ?_ _ | refine Below.setCell ?_ (by first | (simp; done) | omega | (simp; omega)) _ | refine Below.alloc ?_ (by first | (simp; done) | omega | (simp; omega)) _)) (fun hHeld => ?_)
  refine take_run (d := (some 41)) (v := ?v154) 0 rfl rfl (by kernel_rfl) (by kernel_rfl) (by kernel_rfl) (fun _ _ _ h => h) (by rfl) hHeld ?hy154 ?rs154
  case hy154 => (intro w hSw; (try dsimp only at hSw); go_simp) <;> (try with_reducible rfl)
  (try simp only [Act.put, List.setIfInBounds_toArray, List.set_cons_zero, List.set_cons_succ])
  refine take_run (d := (some 42)) (v := ?v155) 1 rfl rfl (by kernel_rfl) (by kernel_rfl) (by kernel_rfl) (fun _ _ _ h => h) (by rfl) hHeld ?hy155 ?rs155
  case hy155 => (intro w hSw; (try dsimp only at hSw); go_simp) <;> (try with_reducible rfl)
  (try simp only [Act.put, List.setIfInBounds_toArray, List.set_cons_zero, List.set_cons_succ])
  refine take_run (d := (some 43)) (v := ?v156) 2 rfl rfl (by kernel_rfl) (by kernel_rfl) (by kernel_rfl) (fun _ _ _ h => h) (by rfl) hHeld ?hy156 ?rs156
  case hy156 => (intro w hSw; (try dsimp only at hSw); go_simp) <;> (try with_reducible rfl)
  (try simp only [Act.put, List.setIfInBounds_toArray, List.set_cons_zero, List.set_cons_succ])
  refine take_run (d := (some 46)) (v := ?v157) 5 rfl rfl (by kernel_rfl) (by kernel_rfl) (by kernel_rfl) (fun _ _ _ h => h) (by rfl) hHeld ?hy157 ?rs157
  case hy157 => (intro w hSw; (try dsimp only at hSw); go_simp) <;> (try with_reducible rfl)
  (try simp only [Act.put, List.setIfInBounds_toArray, List.set_cons_zero, List.set_cons_succ])
  refine take_run (d := (some 47)) (v := ?v158) 6 rfl rfl (by kernel_rfl) (by kernel_rfl) (by kernel_rfl) (fun _ _ _ h => h) (by rfl) hHeld ?hy158 ?rs158
  case hy158 => (intro w hSw; (try dsimp only at hSw); go_simp) <;> (try with_reducible rfl)
  (try simp only [Act.put, List.setIfInBounds_toArray, List.set_cons_zero, List.set_cons_succ])
  refine take_run (d := (some 48)) (v := ?v159) 7 rfl rfl (by kernel_rfl) (by kernel_rfl) (by kernel_rfl) (fun _ _ _ h => h) (by rfl) hHeld ?hy159 ?rs159
  case hy159 => (intro w hSw; (try dsimp only at hSw); go_simp) <;> (try with_reducible rfl)
  (try simp only [Act.put, List.setIfInBounds_toArray, List.set_cons_zero, List.set_cons_succ])
  refine take_run (d := (some 52)) (v := ?v160) 11 rfl rfl (by kernel_rfl) (by kernel_rfl) (by kernel_rfl) (fun _ _ _ h => h) (by rfl) hHeld ?hy160 ?rs160
  case hy160 => (intro w hSw; (try dsimp only at hSw); go_simp) <;> (try with_reducible rfl)
  (try simp only [Act.put, List.setIfInBounds_toArray, List.set_cons_zero, List.set_cons_succ])
  refine take_run (d := (some 53)) (v := ?v161) 12 rfl rfl (by kernel_rfl) (by kernel_rfl) (by kernel_rfl) (fun _ _ _ h => h) (by rfl) hHeld ?hy161 ?rs161
  case hy161 => (intro w hSw; (try dsimp only at hSw); go_simp) <;> (try with_reducible rfl)
  (try simp only [Act.put, List.setIfInBounds_toArray, List.set_cons_zero, List.set_cons_succ])
  refine take_run (d := (some 54)) (v := ?v162) 13 rfl rfl (by kernel_rfl) (by kernel_rfl) (by kernel_rfl) (fun _ _ _ h => h) (by rfl) hHeld ?hy162 ?rs162
  case hy162 => (intro w hSw; (try dsimp only at hSw); go_simp) <;> (try with_reducible rfl)
  (try simp only [Act.put, List.setIfInBounds_toArray, List.set_cons_zero, List.set_cons_succ])
  refine take_call 3 rfl (by kernel_rfl) (by rfl) (fun K hK => ?_)
  go_simp
  refine (D1.out _).mono ?_
  rintro e w' ⟨rfl, hb⟩
  refine hK.out _ _ (by obtain ⟨h0, h1, h2, h3, h4, h5, h6, h7, h8, h9, h10, h11, h12, h13, h14, hw⟩ := hHeld; exact ⟨cell_keep h0 hb, cell_keep h1 hb, cell_keep h2 hb, cell_keep h3 hb, cell_keep h4 hb, cell_keep h5 hb, cell_keep h6 hb, cell_keep h7 hb, cell_keep h8 hb, cell_keep h9 hb, cell_keep h10 hb, cell_keep h11 hb, free_keep h9 h12 hb, free_keep h10 h13 hb, free_keep h11 h14 hb, Lib.hid (blw_trans hw.out hb)⟩) (fun hHeld => ?_)
  clear hK K
  (try simp only [Act.put, List.setIfInBounds_toArray, List.set_cons_zero, List.set_cons_succ])
  refine take_run (d := (some 45)) (v := ?v164) 4 rfl rfl (by kernel_rfl) (by kernel_rfl) (by kernel_rfl) (fun _ _ _ h => h) (by rfl) hHeld ?hy164 ?rs164
  case hy164 => (intro w hSw; (try dsimp only at hSw); go_simp) <;> (try with_reducible rfl)
  (try simp only [Act.put, List.setIfInBounds_toArray, List.set_cons_zero, List.set_cons_succ])
  refine take_call 8 rfl (by kernel_rfl) (by rfl) (fun K hK => ?_)
  go_simp
  refine (D2.out _).mono ?_
  rintro e w' ⟨rfl, hb⟩
  refine hK.out _ _ (by obtain ⟨h0, h1, h2, h3, h4, h5, h6, h7, h8, h9, h10, h11, h12, h13, h14, hw⟩ := hHeld; exact ⟨cell_keep h0 hb, cell_keep h1 hb, cell_keep h2 hb, cell_keep h3 hb, cell_keep h4 hb, cell_keep h5 hb, cell_keep h6 hb, cell_keep h7 hb, cell_keep h8 hb, cell_keep h9 hb, cell_keep h10 hb, cell_keep h11 hb, free_keep h9 h12 hb, free_keep h10 h13 hb, free_keep h11 h14 hb, Lib.hid (blw_trans hw.out hb)⟩) (fun hHeld => ?_)
  clear hK K
  (try simp only [Act.put, List.setIfInBounds_toArray, List.set_cons_zero, List.set_cons_succ])
  refine take_run (d := (some 50)) (v := ?v166) 9 rfl rfl (by kernel_rfl) (by kernel_rfl) (by kernel_rfl) (fun _ _ _ h => h) (by rfl) hHeld ?hy166 ?rs166
  case hy166 => (intro w hSw; (try dsimp only at hSw); go_simp) <;> (try with_reducible rfl)
  (try simp only [Act.put, List.setIfInBounds_toArray, List.set_cons_zero, List.set_cons_succ])
  refine take_run (d := (some 51)) (v := ?v167) 10 rfl rfl (by kernel_rfl) (by kernel_rfl) (by kernel_rfl) (fun _ _ _ h => h) (by rfl) hHeld ?hy167 ?rs167
  case hy167 => (intro w hSw; (try dsimp only at hSw); go_simp) <;> (try with_reducible rfl)
  (try simp only [Act.put, List.setIfInBounds_toArray, List.set_cons_zero, List.set_cons_succ])
  refine take_call 14 rfl (by kernel_rfl) (by rfl) (fun K hK => ?_)
  go_simp
  refine (D3.out _).mono ?_
  rintro e w' ⟨rfl, hb⟩
  refine hK.out _ _ (by obtain ⟨h0, h1, h2, h3, h4, h5, h6, h7, h8, h9, h10, h11, h12, h13, h14, hw⟩ := hHeld; exact ⟨cell_keep h0 hb, cell_keep h1 hb, cell_keep h2 hb, cell_keep h3 hb, cell_keep h4 hb, cell_keep h5 hb, cell_keep h6 hb, cell_keep h7 hb, cell_keep h8 hb, cell_keep h9 hb, cell_keep h10 hb, cell_keep h11 hb, free_keep h9 h12 hb, free_keep h10 h13 hb, free_keep h11 h14 hb, Lib.hid (blw_trans hw.out hb)⟩) (fun hHeld => ?_)
  clear hK K
  (try simp only [Act.put, List.setIfInBounds_toArray, List.set_cons_zero, List.set_cons_succ])
  refine take_run (d := (some 56)) (v := ?v169) 15 rfl rfl (by kernel_rfl) (by kernel_rfl) (by kernel_rfl) (fun _ _ _ h => h) (by rfl) hHeld ?hy169 ?rs169
  case hy169 => (intro w hSw; (try dsimp only at hSw); go_simp) <;> (try with_reducible rfl)
  (try simp only [Act.put, List.setIfInBounds_toArray, List.set_cons_zero, List.set_cons_succ])
  refine take_run (d := (some 15)) (v := ?v170) 16 rfl rfl (by kernel_rfl) (by kernel_rfl) (by kernel_rfl) (fun _ _ _ h => h) (by rfl) hHeld ?hy170 ?rs170
  case hy170 => (intro w hSw; (try dsimp only at hSw); go_simp) <;> (try with_reducible rfl)
  (try simp only [Act.put, List.setIfInBounds_toArray, List.set_cons_zero, List.set_cons_succ])
  refine wpAnyH_done (by kernel_rfl) ?_ _
  obtain ⟨z0, z1, z2, z3, z4, z5, z6, z7, z8, z9, z10, z11, z12, z13, z14, zW⟩ := hHeld
  have lz_u := World.block_lt_of_cell? _ _ z0
  try simp only at lz_u
  have lz_t := World.block_lt_of_cell? _ _ z3
  try simp only at lz_t
  have lz_a := World.block_lt_of_cell? _ _ z6
  try simp only at lz_a
  have lz_x := World.block_lt_of_cell? _ _ z9
  try simp only at lz_x
  go_wp2_with fail
  refine (CB.out _ (hT.below (by repeat (first | exact zW.out | refine blw_drewN ?_ _ | refine Below.setCell ?_ (by first | (simp; done) | omega | (simp; omega)) _ | refine Below.alloc ?_ (by first | (simp; done) | omega | (simp; omega)) _)))).mono ?_
  rintro e w106 ⟨rfl, hb⟩
  have W106 := Lib.hid (blw_trans (show Below w.heap.size w _ by repeat (first | exact zW.out | refine blw_drewN ?_ _ | refine Below.setCell ?_ (by first | (simp; done) | omega | (simp; omega)) _ | refine Below.alloc ?_ (by first | (simp; done) | omega | (simp; omega)) _)) hb)
  have n106 := hb.size
  try simp at n106
  have k106_u0 := cell_keep (a := ⟨w.heap.size + 1, 0, none⟩) (v := .int .i64 p) (by first | (go_keep; done) | (simp [go_sem, *]; done)) hb
  have k106_u1 := cell_keep (a := ⟨w.heap.size + 1, 1, none⟩) (v := .int .i64 q) (by first | (go_keep; done) | (simp [go_sem, *]; done)) hb
  have k106_u2 := cell_keep (a := ⟨w.heap.size + 1, 2, none⟩) (v := .int .i64 r) (by first | (go_keep; done) | (simp [go_sem, *]; done)) hb
  have l106_u := World.block_lt_of_cell? _ _ k106_u0
  try simp only at l106_u
  have k106_t0 := cell_keep (a := ⟨w1.heap.size, 0, none⟩) (v := .int .i64 0) (by first | (go_keep; done) | (simp [go_sem, *]; done)) hb
  have k106_t1 := cell_keep (a := ⟨w1.heap.size, 1, none⟩) (v := .int .i64 0) (by first | (go_keep; done) | (simp [go_sem, *]; done)) hb
  have k106_t2 := cell_keep (a := ⟨w1.heap.size, 2, none⟩) (v := .int .i64 0) (by first | (go_keep; done) | (simp [go_sem, *]; done)) hb
  have l106_t := World.block_lt_of_cell? _ _ k106_t0
  try simp only at l106_t
  have k106_a0 := cell_keep (a := ⟨w3.heap.size, 0, none⟩) (v := .int .i64 0) (by first | (go_keep; done) | (simp [go_sem, *]; done)) hb
  have k106_a1 := cell_keep (a := ⟨w3.heap.size, 1, none⟩) (v := .int .i64 0) (by first | (go_keep; done) | (simp [go_sem, *]; done)) hb
  have k106_a2 := cell_keep (a := ⟨w3.heap.size, 2, none⟩) (v := .int .i64 0) (by first | (go_keep; done) | (simp [go_sem, *]; done)) hb
  have l106_a := World.block_lt_of_cell? _ _ k106_a0
  try simp only at l106_a
  have k106_x0 := cell_keep (a := ⟨w5.heap.size, 0, none⟩) (v := .int .i64 0) (by first | (go_keep; done) | (simp [go_sem, *]; done)) hb
  have k106_x1 := cell_keep (a := ⟨w5.heap.size, 1, none⟩) (v := .int .i64 0) (by first | (go_keep; done) | (simp [go_sem, *]; done)) hb
  have k106_x2 := cell_keep (a := ⟨w5.heap.size, 2, none⟩) (v := .int .i64 0) (by first | (go_keep; done) | (simp [go_sem, *]; done)) hb
  have l106_x := World.block_lt_of_cell? _ _ k106_x0
  try simp only at l106_x
  clear hb z0 z1 z2 z3 z4 z5 z6 z7 z8 z9 z10 z11 z12 z13 z14 lz_u lz_t lz_a lz_x zW
  go_wp2_with fail
  refine (E1.out _ (hT.below (by repeat (first | exact W106.out | refine blw_drewN ?_ _ | refine Below.setCell ?_ (by first | (simp; done) | omega | (simp; omega)) _ | refine Below.alloc ?_ (by first | (simp; done) | omega | (simp; omega)) _)))).mono ?_
  rintro e w107 ⟨rfl, hb⟩
  have W107 := Lib.hid (blw_trans (show Below w.heap.size w _ by repeat (first | exact W106.out | refine blw_drewN ?_ _ | refine Below.setCell ?_ (by first | (simp; done) | omega | (simp; omega)) _ | refine Below.alloc ?_ (by first | (simp; done) | omega | (simp; omega)) _)) hb)
  have n107 := hb.size
  try simp at n107
  have k107_u0 := cell_keep (a := ⟨w.heap.size + 1, 0, none⟩) (v := .int .i64 p) (by first | (go_keep; done) | (simp [go_sem, *]; done)) hb
  have k107_u1 := cell_keep (a := ⟨w.heap.size + 1, 1, none⟩) (v := .int .i64 q) (by first | (go_keep; done) | (simp [go_sem, *]; done)) hb
  have k107_u2 := cell_keep (a := ⟨w.heap.size + 1, 2, none⟩) (v := .int .i64 r) (by first | (go_keep; done) | (simp [go_sem, *]; done)) hb
  have l107_u := World.block_lt_of_cell? _ _ k107_u0
  try simp only at l107_u
  have k107_t0 := cell_keep (a := ⟨w1.heap.size, 0, none⟩) (v := .int .i64 0) (by first | (go_keep; done) | (simp [go_sem, *]; done)) hb
  have k107_t1 := cell_keep (a := ⟨w1.heap.size, 1, none⟩) (v := .int .i64 0) (by first | (go_keep; done) | (simp [go_sem, *]; done)) hb
  have k107_t2 := cell_keep (a := ⟨w1.heap.size, 2, none⟩) (v := .int .i64 0) (by first | (go_keep; done) | (simp [go_sem, *]; done)) hb
  have l107_t := World.block_lt_of_cell? _ _ k107_t0
  try simp only at l107_t
  have k107_a0 := cell_keep (a := ⟨w3.heap.size, 0, none⟩) (v := .int .i64 0) (by first | (go_keep; done) | (simp [go_sem, *]; done)) hb
  have k107_a1 := cell_keep (a := ⟨w3.heap.size, 1, none⟩) (v := .int .i64 0) (by first | (go_keep; done) | (simp [go_sem, *]; done)) hb
  have k107_a2 := cell_keep (a := ⟨w3.heap.size, 2, none⟩) (v := .int .i64 0) (by first | (go_keep; done) | (simp [go_sem, *]; done)) hb
  have l107_a := World.block_lt_of_cell? _ _ k107_a0
  try simp only at l107_a
  have k107_x0 := cell_keep (a := ⟨w5.heap.size, 0, none⟩) (v := .int .i64 0) (by first | (go_keep; done) | (simp [go_sem, *]; done)) hb
  have k107_x1 := cell_keep (a := ⟨w5.heap.size, 1, none⟩) (v := .int .i64 0) (by first | (go_keep; done) | (simp [go_sem, *]; done)) hb
  have k107_x2 := cell_keep (a := ⟨w5.heap.size, 2, none⟩) (v := .int .i64 0) (by first | (go_keep; done) | (simp [go_sem, *]; done)) hb
  have l107_x := World.block_lt_of_cell? _ _ k107_x0
  try simp only at l107_x
  have k107_b0 := cell_keep (a := ⟨w106.heap.size, 0, none⟩) (v := .int .i64 0) (by first | (go_keep; done) | (simp [go_sem, *]; done)) hb
  have k107_b1 := cell_keep (a := ⟨w106.heap.size, 1, none⟩) (v := .int .i64 0) (by first | (go_keep; done) | (simp [go_sem, *]; done)) hb
  have k107_b2 := cell_keep (a := ⟨w106.heap.size, 2, none⟩) (v := .int .i64 0) (by first | (go_keep; done) | (simp [go_sem, *]; done)) hb
  have l107_b := World.block_lt_of_cell? _ _ k107_b0
  try simp only at l107_b
  clear hb k106_u0 k106_u1 k106_u2 l106_u k106_t0 k106_t1 k106_t2 l106_t k106_a0 k106_a1 k106_a2 l106_a k106_x0 k106_x1 k106_x2 l106_x W106
  go_wp2_with fail
  refine (CT.out _ (hT.below (by repeat (first | exact W107.out | refine blw_drewN ?_ _ | refine Below.setCell ?_ (by first | (simp; done) | omega | (simp; omega)) _ | refine Below.alloc ?_ (by first | (simp; done) | omega | (simp; omega)) _)))).mono ?_
  rintro e w108 ⟨rfl, hb⟩
  have W108 := Lib.hid (blw_trans (show Below w.heap.size w _ by repeat (first | exact W107.out | refine blw_drewN ?_ _ | refine Below.setCell ?_ (by first | (simp; done) | omega | (simp; omega)) _ | refine Below.alloc ?_ (by first | (simp; done) | omega | (simp; omega)) _)) hb)
  have n108 := hb.size
  try simp at n108
  have k108_u0 := cell_keep (a := ⟨w.heap.size + 1, 0, none⟩) (v := .int .i64 p) (by first | (go_keep; done) | (simp [go_sem, *]; done)) hb
  have k108_u1 := cell_keep (a := ⟨w.heap.size + 1, 1, none⟩) (v := .int .i64 q) (by first | (go_keep; done) | (simp [go_sem, *]; done)) hb
  have k108_u2 := cell_keep (a := ⟨w.heap.size + 1, 2, none⟩) (v := .int .i64 r) (by first | (go_keep; done) | (simp [go_sem, *]; done)) hb
  have l108_u := World.block_lt_of_cell? _ _ k108_u0
  try simp only at l108_u
  have k108_t0 := cell_keep (a := ⟨w1.heap.size, 0, none⟩) (v := .int .i64 0) (by first | (go_keep; done) | (simp [go_sem, *]; done)) hb
  have k108_t1 := cell_keep (a := ⟨w1.heap.size, 1, none⟩) (v := .int .i64 0) (by first | (go_keep; done) | (simp [go_sem, *]; done)) hb
  have k108_t2 := cell_keep (a := ⟨w1.heap.size, 2, none⟩) (v := .int .i64 0) (by first | (go_keep; done) | (simp [go_sem, *]; done)) hb
  have l108_t := World.block_lt_of_cell? _ _ k108_t0
  try simp only at l108_t
  have k108_a0 := cell_keep (a := ⟨w3.heap.size, 0, none⟩) (v := .int .i64 0) (by first | (go_keep; done) | (simp [go_sem, *]; done)) hb
  have k108_a1 := cell_keep (a := ⟨w3.heap.size, 1, none⟩) (v := .int .i64 0) (by first | (go_keep; done) | (simp [go_sem, *]; done)) hb
  have k108_a2 := cell_keep (a := ⟨w3.heap.size, 2, none⟩) (v := .int .i64 0) (by first | (go_keep; done) | (simp [go_sem, *]; done)) hb
  have l108_a := World.block_lt_of_cell? _ _ k108_a0
  try simp only at l108_a
  have k108_x0 := cell_keep (a := ⟨w5.heap.size, 0, none⟩) (v := .int .i64 0) (by first | (go_keep; done) | (simp [go_sem, *]; done)) hb
  have k108_x1 := cell_keep (a := ⟨w5.heap.size, 1, none⟩) (v := .int .i64 0) (by first | (go_keep; done) | (simp [go_sem, *]; done)) hb
  have k108_x2 := cell_keep (a := ⟨w5.heap.size, 2, none⟩) (v := .int .i64 0) (by first | (go_keep; done) | (simp [go_sem, *]; done)) hb
  have l108_x := World.block_lt_of_cell? _ _ k108_x0
  try simp only at l108_x
  have k108_b0 := cell_keep (a := ⟨w106.heap.size, 0, none⟩) (v := .int .i64 0) (by first | (go_keep; done) | (simp [go_sem, *]; done)) hb
  have k108_b1 := cell_keep (a := ⟨w106.heap.size, 1, none⟩) (v := .int .i64 0) (by first | (go_keep; done) | (simp [go_sem, *]; done)) hb
  have k108_b2 := cell_keep (a := ⟨w106.heap.size, 2, none⟩) (v := .int .i64 0) (by first | (go_keep; done) | (simp [go_sem, *]; done)) hb
  have l108_b := World.block_lt_of_cell? _ _ k108_b0
  try simp only at l108_b
  clear hb k107_u0 k107_u1 k107_u2 l107_u k107_t0 k107_t1 k107_t2 l107_t k107_a0 k107_a1 k107_a2 l107_a k107_x0 k107_x1 k107_x2 l107_x k107_b0 k107_b1 k107_b2 l107_b W107
  go_wp2_with fail
  refine (E1.out _ (hT.below (by repeat (first | exact W108.out | refine blw_drewN ?_ _ | refine Below.setCell ?_ (by first | (simp; done) | omega | (simp; omega)) _ | refine Below.alloc ?_ (by first | (simp; done) | omega | (simp; omega)) _)))).mono ?_
  rintro e w109 ⟨rfl, hb⟩
  have W109 := Lib.hid (blw_trans (show Below w.heap.size w _ by repeat (first | exact W108.out | refine blw_drewN ?_ _ | refine Below.setCell ?_ (by first | (simp; done) | omega | (simp; omega)) _ | refine Below.alloc ?_ (by first | (simp; done) | omega | (simp; omega)) _)) hb)
  have n109 := hb.size
  try simp at n109
  have k109_t0 := cell_keep (a := ⟨w1.heap.size, 0, none⟩) (v := .int .i64 0) (by first | (go_keep; done) | (simp [go_sem, *]; done)) hb
  have k109_t1 := cell_keep (a := ⟨w1.heap.size, 1, none⟩) (v := .int .i64 0) (by first | (go_keep; done) | (simp [go_sem, *]; done)) hb
  have k109_t2 := cell_keep (a := ⟨w1.heap.size, 2, none⟩) (v := .int .i64 0) (by first | (go_keep; done) | (simp [go_sem, *]; done)) hb
  have l109_t := World.block_lt_of_cell? _ _ k109_t0
  try simp only at l109_t
  have k109_a0 := cell_keep (a := ⟨w3.heap.size, 0, none⟩) (v := .int .i64 0) (by first | (go_keep; done) | (simp [go_sem, *]; done)) hb
  have k109_a1 := cell_keep (a := ⟨w3.heap.size, 1, none⟩) (v := .int .i64 0) (by first | (go_keep; done) | (simp [go_sem, *]; done)) hb
  have k109_a2 := cell_keep (a := ⟨w3.heap.size, 2, none⟩) (v := .int .i64 0) (by first | (go_keep; done) | (simp [go_sem, *]; done)) hb
  have l109_a := World.block_lt_of_cell? _ _ k109_a0
  try simp only at l109_a
  have k109_x0 := cell_keep (a := ⟨w5.heap.size, 0, none⟩) (v := .int .i64 0) (by first | (go_keep; done) | (simp [go_sem, *]; done)) hb
  have k109_x1 := cell_keep (a := ⟨w5.heap.size, 1, none⟩) (v := .int .i64 0) (by first | (go_keep; done) | (simp [go_sem, *]; done)) hb
  have k109_x2 := cell_keep (a := ⟨w5.heap.size, 2, none⟩) (v := .int .i64 0) (by first | (go_keep; done) | (simp [go_sem, *]; done)) hb
  have l109_x := World.block_lt_of_cell? _ _ k109_x0
  try simp only at l109_x
  have k109_b0 := cell_keep (a := ⟨w106.heap.size, 0, none⟩) (v := .int .i64 0) (by first | (go_keep; done) | (simp [go_sem, *]; done)) hb
  have k109_b1 := cell_keep (a := ⟨w106.heap.size, 1, none⟩) (v := .int .i64 0) (by first | (go_keep; done) | (simp [go_sem, *]; done)) hb
  have k109_b2 := cell_keep (a := ⟨w106.heap.size, 2, none⟩) (v := .int .i64 0) (by first | (go_keep; done) | (simp [go_sem, *]; done)) hb
  have l109_b := World.block_lt_of_cell? _ _ k109_b0
  try simp only at l109_b
  clear hb k108_u0 k108_u1 k108_u2 l108_u k108_t0 k108_t1 k108_t2 l108_t k108_a0 k108_a1 k108_a2 l108_a k108_x0 k108_x1 k108_x2 l108_x k108_b0 k108_b1 k108_b2 l108_b W108
  go_wp2_with fail
  refine (CY.out _).mono ?_
  rintro e w' ⟨rfl, rfl⟩
  go_wp2_with fail
  refine (CN.out _).mono ?_
  rintro e w' ⟨rfl, rfl⟩
  go_wp2_with fail
  refine (E0.out _ (hT.below (by repeat (first | exact W109.out | refine blw_drewN ?_ _ | refine Below.setCell ?_ (by first | (simp; done) | omega | (simp; omega)) _ | refine Below.alloc ?_ (by first | (simp; done) | omega | (simp; omega)) _)))).mono ?_
  rintro e w110 ⟨rfl, hb⟩
  have W110 := Lib.hid (blw_trans (show Below w.heap.size w _ by repeat (first | exact W109.out | refine blw_drewN ?_ _ | refine Below.setCell ?_ (by first | (simp; done) | omega | (simp; omega)) _ | refine Below.alloc ?_ (by first | (simp; done) | omega | (simp; omega)) _)) hb)
  have n110 := hb.size
  try simp at n110
  have k110_t0 := cell_keep (a := ⟨w1.heap.size, 0, none⟩) (v := .int .i64 0) (by first | (go_keep; done) | (simp [go_sem, *]; done)) hb
  have k110_t1 := cell_keep (a := ⟨w1.heap.size, 1, none⟩) (v := .int .i64 0) (by first | (go_keep; done) | (simp [go_sem, *]; done)) hb
  have k110_t2 := cell_keep (a := ⟨w1.heap.size, 2, none⟩) (v := .int .i64 0) (by first | (go_keep; done) | (simp [go_sem, *]; done)) hb
  have l110_t := World.block_lt_of_cell? _ _ k110_t0
  try simp only at l110_t
  have k110_a0 := cell_keep (a := ⟨w3.heap.size, 0, none⟩) (v := .int .i64 0) (by first | (go_keep; done) | (simp [go_sem, *]; done)) hb
  have k110_a1 := cell_keep (a := ⟨w3.heap.size, 1, none⟩) (v := .int .i64 0) (by first | (go_keep; done) | (simp [go_sem, *]; done)) hb
  have k110_a2 := cell_keep (a := ⟨w3.heap.size, 2, none⟩) (v := .int .i64 0) (by first | (go_keep; done) | (simp [go_sem, *]; done)) hb
  have l110_a := World.block_lt_of_cell? _ _ k110_a0
  try simp only at l110_a
  have k110_x0 := cell_keep (a := ⟨w5.heap.size, 0, none⟩) (v := .int .i64 0) (by first | (go_keep; done) | (simp [go_sem, *]; done)) hb
  have k110_x1 := cell_keep (a := ⟨w5.heap.size, 1, none⟩) (v := .int .i64 0) (by first | (go_keep; done) | (simp [go_sem, *]; done)) hb
  have k110_x2 := cell_keep (a := ⟨w5.heap.size, 2, none⟩) (v := .int .i64 0) (by first | (go_keep; done) | (simp [go_sem, *]; done)) hb
  have l110_x := World.block_lt_of_cell? _ _ k110_x0
  try simp only at l110_x
  have k110_b0 := cell_keep (a := ⟨w106.heap.size, 0, none⟩) (v := .int .i64 0) (by first | (go_keep; done) | (simp [go_sem, *]; done)) hb
  have k110_b1 := cell_keep (a := ⟨w106.heap.size, 1, none⟩) (v := .int .i64 0) (by first | (go_keep; done) | (simp [go_sem, *]; done)) hb
  have k110_b2 := cell_keep (a := ⟨w106.heap.size, 2, none⟩) (v := .int .i64 0) (by first | (go_keep; done) | (simp [go_sem, *]; done)) hb
  have l110_b := World.block_lt_of_cell? _ _ k110_b0
  try simp only at l110_b
  clear hb k109_t0 k109_t1 k109_t2 l109_t k109_a0 k109_a1 k109_a2 l109_a k109_x0 k109_x1 k109_x2 l109_x k109_b0 k109_b1 k109_b2 l109_b W109
  go_wp2
  go_ret
  exact ⟨ret_bool (by simp), by repeat (first | exact W110.out | refine blw_drewN ?_ _ | refine Below.setCell ?_ (by first | (simp; done) | omega | (simp; omega)) _ | refine Below.alloc ?_ (by first | (simp; done) | omega | (simp; omega)) _)⟩

set_option maxRecDepth 100000 in
set_option maxHeartbeats 4000000 in
theorem weekTells_nnlt (y m d p q r x p0 q0 r0 : Int) (P Q R T : List UInt8) (w : World) (hT : TPH w)
    (lp : P.length ≤ 120) (lq : Q.length ≤ 120) (lr : R.length ≤ 120) (HX : P ++ [45, 87] ++ Q ++ [45] ++ R = T)
    (mp : max p 0 = p0) (mq : max q 0 = q0) (mr : max r 0 = r0)
    (CF : Hid (∀ w : World, Calls Tryd.prog 6 #[.agg #[.int .i64 y, .int .i64 m, .int .i64 d]] w fun e w' => e = .returned (.bool true) ∧ Below w.heap.size w w'))
    (CO : Hid (∀ w : World, TPH w → Calls Tryd.prog 8 #[.agg #[.int .i64 y, .int .i64 m, .int .i64 d]] w fun e w' => e = .returned (.tuple #[.agg #[.int .i64 0, .int .i64 0, .int .i64 0], errV 1]) ∧ Below w.heap.size w w'))
    (CX : Hid (∀ w : World, Calls Tryd.prog 10 #[.agg #[.int .i64 p, .int .i64 q, .int .i64 r]] w fun e w' => e = .returned (.tuple #[.agg #[.int .i64 0, .int .i64 0, .int .i64 0], .bool false]) ∧ Below w.heap.size w w'))
    (D1 : Hid (∀ w : World, Calls Tryd.prog 11 #[.int .i64 p0, .int .i64 4] w fun e w' => e = .returned (.string ⟨P.toArray⟩) ∧ Below w.heap.size w w'))
    (D2 : Hid (∀ w : World, Calls Tryd.prog 11 #[.int .i64 q0, .int .i64 2] w fun e w' => e = .returned (.string ⟨Q.toArray⟩) ∧ Below w.heap.size w w'))
    (D3 : Hid (∀ w : World, Calls Tryd.prog 11 #[.int .i64 r0, .int .i64 1] w fun e w' => e = .returned (.string ⟨R.toArray⟩) ∧ Below w.heap.size w w'))
    (CB : Hid (∀ w : World, TPH w → Calls Tryd.prog 12 #[.agg #[.int .i64 p, .int .i64 q, .int .i64 r]] w fun e w' => e = .returned (.tuple #[.agg #[.int .i64 0, .int .i64 0, .int .i64 0], errV 1]) ∧ Below w.heap.size w w'))
    (CT : Hid (∀ w : World, TPH w → Calls Tryd.prog 13 #[.agg #[.int .i64 p, .int .i64 q, .int .i64 r]] w fun e w' => e = .returned (.tuple #[.string ⟨#[]⟩, errV 1]) ∧ Below w.heap.size w w'))
    (y0 : x < 1)
    (CN : Hid (∀ w : World, Calls Tryd.prog 15 #[.int .i64 x] w fun e w' => e = .returned (.tuple #[.int .i64 0, errV 1]) ∧ w = w')) :
    Calls Tryd.prog 3 #[.agg #[.int .i64 y, .int .i64 m, .int .i64 d], .agg #[.int .i64 p, .int .i64 q, .int .i64 r], .int .i64 x] w fun e w' => e = .returned (.bool true) ∧ Below w.heap.size w w' := by
  have C0 := Lib.hid fun w (hT : TPH w) => weekly_any w hT.t
  have E0 := Lib.hid fun w (hT : TPH w) => sameErr_yes ErrNo.nil w hT.h
  have E1 := Lib.hid fun w (hT : TPH w) => sameErr_yes (ErrNo.no 1) w hT.h
  have g1 : decide (x < 1) = true := dec_yes y0
  obtain ⟨Y1, x1⟩ : ∃ X, X = P ++ [45, 87] := ⟨_, rfl⟩
  have S1 : ∀ w, (Op.stringOp .add ⟨P.toArray⟩ ⟨#[45, 87]⟩).run Tryd.prog w = .ok (.string ⟨Y1.toArray⟩) w := fun w => by rw [x1]; exact add_str (P := Tryd.prog) P [45, 87] (by first | omega | (simp; omega)) w
  have m1 : Y1.length = P.length + 2 := by rw [x1]; simp
  obtain ⟨Y2, x2⟩ : ∃ X, X = Y1 ++ Q := ⟨_, rfl⟩
  have S2 : ∀ w, (Op.stringOp .add ⟨Y1.toArray⟩ ⟨Q.toArray⟩).run Tryd.prog w = .ok (.string ⟨Y2.toArray⟩) w := fun w => by rw [x2]; exact add_str (P := Tryd.prog) Y1 Q (by first | omega | (simp; omega)) w
  have m2 : Y2.length = Y1.length + Q.length := by rw [x2]; simp
  obtain ⟨Y3, x3⟩ : ∃ X, X = Y2 ++ [45] := ⟨_, rfl⟩
  have S3 : ∀ w, (Op.stringOp .add ⟨Y2.toArray⟩ ⟨#[45]⟩).run Tryd.prog w = .ok (.string ⟨Y3.toArray⟩) w := fun w => by rw [x3]; exact add_str (P := Tryd.prog) Y2 [45] (by first | omega | (simp; omega)) w
  have m3 : Y3.length = Y2.length + 1 := by rw [x3]; simp
  have S4 : ∀ w, (Op.stringOp .add ⟨Y3.toArray⟩ ⟨R.toArray⟩).run Tryd.prog w = .ok (.string ⟨T.toArray⟩) w := fun w => by rw [← HX, ← x1, ← x2, ← x3]; exact add_str (P := Tryd.prog) Y3 R (by omega) w
  clear x1 x2 x3 m1 m2 m3 HX lp lq lr
  go_enter Tryd.func3, Tryd.ntmps3
  go_wp2_with fail
  refine (C0.out _ (hT.below (by repeat (first | exact (Below.refl _ _) | refine blw_drewN ?_ _ | refine Below.setCell ?_ (by first | (simp; done) | omega | (simp; omega)) _ | refine Below.alloc ?_ (by first | (simp; done) | omega | (simp; omega)) _)))).mono ?_
  rintro e w1 ⟨rfl, hb⟩
  have W1 := Lib.hid (blw_trans (show Below w.heap.size w _ by repeat (first | exact (Below.refl _ _) | refine blw_drewN ?_ _ | refine Below.setCell ?_ (by first | (simp; done) | omega | (simp; omega)) _ | refine Below.alloc ?_ (by first | (simp; done) | omega | (simp; omega)) _)) hb)
  have n1 := hb.size
  try simp at n1
  have k1_d0 := cell_keep (a := ⟨w.heap.size, 0, none⟩) (v := .int .i64 y) (by first | (go_keep; done) | (simp [go_sem, *]; done)) hb
  have k1_d1 := cell_keep (a := ⟨w.heap.size, 1, none⟩) (v := .int .i64 m) (by first | (go_keep; done) | (simp [go_sem, *]; done)) hb
  have k1_d2 := cell_keep (a := ⟨w.heap.size, 2, none⟩) (v := .int .i64 d) (by first | (go_keep; done) | (simp [go_sem, *]; done)) hb
  have l1_d := World.block_lt_of_cell? _ _ k1_d0
  try simp only at l1_d
  have k1_u0 := cell_keep (a := ⟨w.heap.size + 1, 0, none⟩) (v := .int .i64 p) (by first | (go_keep; done) | (simp [go_sem, *]; done)) hb
  have k1_u1 := cell_keep (a := ⟨w.heap.size + 1, 1, none⟩) (v := .int .i64 q) (by first | (go_keep; done) | (simp [go_sem, *]; done)) hb
  have k1_u2 := cell_keep (a := ⟨w.heap.size + 1, 2, none⟩) (v := .int .i64 r) (by first | (go_keep; done) | (simp [go_sem, *]; done)) hb
  have l1_u := World.block_lt_of_cell? _ _ k1_u0
  try simp only at l1_u
  clear hb
  go_wp2_with fail
  refine (CF.out _).mono ?_
  rintro e w2 ⟨rfl, hb⟩
  have W2 := Lib.hid (blw_trans (show Below w.heap.size w _ by repeat (first | exact W1.out | refine blw_drewN ?_ _ | refine Below.setCell ?_ (by first | (simp; done) | omega | (simp; omega)) _ | refine Below.alloc ?_ (by first | (simp; done) | omega | (simp; omega)) _)) hb)
  have n2 := hb.size
  try simp at n2
  have k2_d0 := cell_keep (a := ⟨w.heap.size, 0, none⟩) (v := .int .i64 y) (by first | (go_keep; done) | (simp [go_sem, *]; done)) hb
  have k2_d1 := cell_keep (a := ⟨w.heap.size, 1, none⟩) (v := .int .i64 m) (by first | (go_keep; done) | (simp [go_sem, *]; done)) hb
  have k2_d2 := cell_keep (a := ⟨w.heap.size, 2, none⟩) (v := .int .i64 d) (by first | (go_keep; done) | (simp [go_sem, *]; done)) hb
  have l2_d := World.block_lt_of_cell? _ _ k2_d0
  try simp only at l2_d
  have k2_u0 := cell_keep (a := ⟨w.heap.size + 1, 0, none⟩) (v := .int .i64 p) (by first | (go_keep; done) | (simp [go_sem, *]; done)) hb
  have k2_u1 := cell_keep (a := ⟨w.heap.size + 1, 1, none⟩) (v := .int .i64 q) (by first | (go_keep; done) | (simp [go_sem, *]; done)) hb
  have k2_u2 := cell_keep (a := ⟨w.heap.size + 1, 2, none⟩) (v := .int .i64 r) (by first | (go_keep; done) | (simp [go_sem, *]; done)) hb
  have l2_u := World.block_lt_of_cell? _ _ k2_u0
  try simp only at l2_u
  have k2_t0 := cell_keep (a := ⟨w1.heap.size, 0, none⟩) (v := .int .i64 0) (by first | (go_keep; done) | (simp [go_sem, *]; done)) hb
  have k2_t1 := cell_keep (a := ⟨w1.heap.size, 1, none⟩) (v := .int .i64 0) (by first | (go_keep; done) | (simp [go_sem, *]; done)) hb
  have k2_t2 := cell_keep (a := ⟨w1.heap.size, 2, none⟩) (v := .int .i64 0) (by first | (go_keep; done) | (simp [go_sem, *]; done)) hb
  have l2_t := World.block_lt_of_cell? _ _ k2_t0
  try simp only at l2_t
  clear hb k1_d0 k1_d1 k1_d2 l1_d k1_u0 k1_u1 k1_u2 l1_u W1
  go_wp2_with fail
  refine (CO.out _ (hT.below (by repeat (first | exact W2.out | refine blw_drewN ?_ _ | refine Below.setCell ?_ (by first | (simp; done) | omega | (simp; omega)) _ | refine Below.alloc ?_ (by first | (simp; done) | omega | (simp; omega)) _)))).mono ?_
  rintro e w3 ⟨rfl, hb⟩
  have W3 := Lib.hid (blw_trans (show Below w.heap.size w _ by repeat (first | exact W2.out | refine blw_drewN ?_ _ | refine Below.setCell ?_ (by first | (simp; done) | omega | (simp; omega)) _ | refine Below.alloc ?_ (by first | (simp; done) | omega | (simp; omega)) _)) hb)
  have n3 := hb.size
  try simp at n3
  have k3_u0 := cell_keep (a := ⟨w.heap.size + 1, 0, none⟩) (v := .int .i64 p) (by first | (go_keep; done) | (simp [go_sem, *]; done)) hb
  have k3_u1 := cell_keep (a := ⟨w.heap.size + 1, 1, none⟩) (v := .int .i64 q) (by first | (go_keep; done) | (simp [go_sem, *]; done)) hb
  have k3_u2 := cell_keep (a := ⟨w.heap.size + 1, 2, none⟩) (v := .int .i64 r) (by first | (go_keep; done) | (simp [go_sem, *]; done)) hb
  have l3_u := World.block_lt_of_cell? _ _ k3_u0
  try simp only at l3_u
  have k3_t0 := cell_keep (a := ⟨w1.heap.size, 0, none⟩) (v := .int .i64 0) (by first | (go_keep; done) | (simp [go_sem, *]; done)) hb
  have k3_t1 := cell_keep (a := ⟨w1.heap.size, 1, none⟩) (v := .int .i64 0) (by first | (go_keep; done) | (simp [go_sem, *]; done)) hb
  have k3_t2 := cell_keep (a := ⟨w1.heap.size, 2, none⟩) (v := .int .i64 0) (by first | (go_keep; done) | (simp [go_sem, *]; done)) hb
  have l3_t := World.block_lt_of_cell? _ _ k3_t0
  try simp only at l3_t
  clear hb k2_d0 k2_d1 k2_d2 l2_d k2_u0 k2_u1 k2_u2 l2_u k2_t0 k2_t1 k2_t2 l2_t W2
  go_wp2_with fail
  refine (E1.out _ (hT.below (by repeat (first | exact W3.out | refine blw_drewN ?_ _ | refine Below.setCell ?_ (by first | (simp; done) | omega | (simp; omega)) _ | refine Below.alloc ?_ (by first | (simp; done) | omega | (simp; omega)) _)))).mono ?_
  rintro e w4 ⟨rfl, hb⟩
  have W4 := Lib.hid (blw_trans (show Below w.heap.size w _ by repeat (first | exact W3.out | refine blw_drewN ?_ _ | refine Below.setCell ?_ (by first | (simp; done) | omega | (simp; omega)) _ | refine Below.alloc ?_ (by first | (simp; done) | omega | (simp; omega)) _)) hb)
  have n4 := hb.size
  try simp at n4
  have k4_u0 := cell_keep (a := ⟨w.heap.size + 1, 0, none⟩) (v := .int .i64 p) (by first | (go_keep; done) | (simp [go_sem, *]; done)) hb
  have k4_u1 := cell_keep (a := ⟨w.heap.size + 1, 1, none⟩) (v := .int .i64 q) (by first | (go_keep; done) | (simp [go_sem, *]; done)) hb
  have k4_u2 := cell_keep (a := ⟨w.heap.size + 1, 2, none⟩) (v := .int .i64 r) (by first | (go_keep; done) | (simp [go_sem, *]; done)) hb
  have l4_u := World.block_lt_of_cell? _ _ k4_u0
  try simp only at l4_u
  have k4_t0 := cell_keep (a := ⟨w1.heap.size, 0, none⟩) (v := .int .i64 0) (by first | (go_keep; done) | (simp [go_sem, *]; done)) hb
  have k4_t1 := cell_keep (a := ⟨w1.heap.size, 1, none⟩) (v := .int .i64 0) (by first | (go_keep; done) | (simp [go_sem, *]; done)) hb
  have k4_t2 := cell_keep (a := ⟨w1.heap.size, 2, none⟩) (v := .int .i64 0) (by first | (go_keep; done) | (simp [go_sem, *]; done)) hb
  have l4_t := World.block_lt_of_cell? _ _ k4_t0
  try simp only at l4_t
  have k4_a0 := cell_keep (a := ⟨w3.heap.size, 0, none⟩) (v := .int .i64 0) (by first | (go_keep; done) | (simp [go_sem, *]; done)) hb
  have k4_a1 := cell_keep (a := ⟨w3.heap.size, 1, none⟩) (v := .int .i64 0) (by first | (go_keep; done) | (simp [go_sem, *]; done)) hb
  have k4_a2 := cell_keep (a := ⟨w3.heap.size, 2, none⟩) (v := .int .i64 0) (by first | (go_keep; done) | (simp [go_sem, *]; done)) hb
  have l4_a := World.block_lt_of_cell? _ _ k4_a0
  try simp only at l4_a
  clear hb k3_u0 k3_u1 k3_u2 l3_u k3_t0 k3_t1 k3_t2 l3_t W3
  go_wp2_with fail
  refine (CX.out _).mono ?_
  rintro e w5 ⟨rfl, hb⟩
  have W5 := Lib.hid (blw_trans (show Below w.heap.size w _ by repeat (first | exact W4.out | refine blw_drewN ?_ _ | refine Below.setCell ?_ (by first | (simp; done) | omega | (simp; omega)) _ | refine Below.alloc ?_ (by first | (simp; done) | omega | (simp; omega)) _)) hb)
  have n5 := hb.size
  try simp at n5
  have k5_u0 := cell_keep (a := ⟨w.heap.size + 1, 0, none⟩) (v := .int .i64 p) (by first | (go_keep; done) | (simp [go_sem, *]; done)) hb
  have k5_u1 := cell_keep (a := ⟨w.heap.size + 1, 1, none⟩) (v := .int .i64 q) (by first | (go_keep; done) | (simp [go_sem, *]; done)) hb
  have k5_u2 := cell_keep (a := ⟨w.heap.size + 1, 2, none⟩) (v := .int .i64 r) (by first | (go_keep; done) | (simp [go_sem, *]; done)) hb
  have l5_u := World.block_lt_of_cell? _ _ k5_u0
  try simp only at l5_u
  have k5_t0 := cell_keep (a := ⟨w1.heap.size, 0, none⟩) (v := .int .i64 0) (by first | (go_keep; done) | (simp [go_sem, *]; done)) hb
  have k5_t1 := cell_keep (a := ⟨w1.heap.size, 1, none⟩) (v := .int .i64 0) (by first | (go_keep; done) | (simp [go_sem, *]; done)) hb
  have k5_t2 := cell_keep (a := ⟨w1.heap.size, 2, none⟩) (v := .int .i64 0) (by first | (go_keep; done) | (simp [go_sem, *]; done)) hb
  have l5_t := World.block_lt_of_cell? _ _ k5_t0
  try simp only at l5_t
  have k5_a0 := cell_keep (a := ⟨w3.heap.size, 0, none⟩) (v := .int .i64 0) (by first | (go_keep; done) | (simp [go_sem, *]; done)) hb
  have k5_a1 := cell_keep (a := ⟨w3.heap.size, 1, none⟩) (v := .int .i64 0) (by first | (go_keep; done) | (simp [go_sem, *]; done)) hb
  have k5_a2 := cell_keep (a := ⟨w3.heap.size, 2, none⟩) (v := .int .i64 0) (by first | (go_keep; done) | (simp [go_sem, *]; done)) hb
  have l5_a := World.block_lt_of_cell? _ _ k5_a0
  try simp only at l5_a
  clear hb k4_u0 k4_u1 k4_u2 l4_u k4_t0 k4_t1 k4_t2 l4_t k4_a0 k4_a1 k4_a2 l4_a W4
  have ne1 : ¬ w5.heap.size = w.heap.size + 1 := by omega
  have me1 : ¬ w.heap.size + 1 = w5.heap.size := by omega
  have ne2 : ¬ w5.heap.size = w1.heap.size := by omega
  have me2 : ¬ w1.heap.size = w5.heap.size := by omega
  have ne3 : ¬ w5.heap.size = w3.heap.size := by omega
  have me3 : ¬ w3.heap.size = w5.heap.size := by omega
  go_wp2_with fail
  refine wp_region_held_drew (S := fun w' => w'.cell? ⟨w.heap.size + 1, 0, none⟩ = some (.int .i64 p) ∧ w'.cell? ⟨w.heap.size + 1, 1, none⟩ = some (.int .i64 q) ∧ w'.cell? ⟨w.heap.size + 1, 2, none⟩ = some (.int .i64 r) ∧ w'.cell? ⟨w1.heap.size, 0, none⟩ = some (.int .i64 0) ∧ w'.cell? ⟨w1.heap.size, 1, none⟩ = some (.int .i64 0) ∧ w'.cell? ⟨w1.heap.size, 2, none⟩ = some (.int .i64 0) ∧ w'.cell? ⟨w3.heap.size, 0, none⟩ = some (.int .i64 0) ∧ w'.cell? ⟨w3.heap.size, 1, none⟩ = some (.int .i64 0) ∧ w'.cell? ⟨w3.heap.size, 2, none⟩ = some (.int .i64 0) ∧ w'.cell? ⟨w5.heap.size, 0, none⟩ = some (.int .i64 0) ∧ w'.cell? ⟨w5.heap.size, 1, none⟩ = some (.int .i64 0) ∧ w'.cell? ⟨w5.heap.size, 2, none⟩ = some (.int .i64 0) ∧ w'.frozen? ⟨w5.heap.size, 0, none⟩ = false ∧ w'.frozen? ⟨w5.heap.size, 1, none⟩ = false ∧ w'.frozen? ⟨w5.heap.size, 2, none⟩ = false ∧ Hid (Below w.heap.size w w')) (by kernel_rfl) (by refine ⟨by go_keep, by go_keep, by go_keep, by go_keep, by go_keep, by go_keep, by go_keep, by go_keep, by go_keep, by go_keep, by go_keep, by go_keep, by simp [go_sem], by simp [go_sem], by simp [go_sem], Lib.hid (Below.drew ?_)⟩; repeat (first | exact W5.out | refine blw_drewN ?_ _ | refine Below.setCell ?_ (by first | (simp; done) | omega | (simp; omega)) _ | refine Below.alloc ?_ (by first | (simp; done) | omega | (simp; omega)) _)) (fun hHeld => ?_)
  refine take_run (d := (some 41)) (v := ?v171) 0 rfl rfl (by kernel_rfl) (by kernel_rfl) (by kernel_rfl) (fun _ _ _ h => h) (by rfl) hHeld ?hy171 ?rs171
  case hy171 => (intro w hSw; (try dsimp only at hSw); go_simp) <;> (try with_reducible rfl)
  (try simp only [Act.put, List.setIfInBounds_toArray, List.set_cons_zero, List.set_cons_succ])
  refine take_run (d := (some 42)) (v := ?v172) 1 rfl rfl (by kernel_rfl) (by kernel_rfl) (by kernel_rfl) (fun _ _ _ h => h) (by rfl) hHeld ?hy172 ?rs172
  case hy172 => (intro w hSw; (try dsimp only at hSw); go_simp) <;> (try with_reducible rfl)
  (try simp only [Act.put, List.setIfInBounds_toArray, List.set_cons_zero, List.set_cons_succ])
  refine take_run (d := (some 43)) (v := ?v173) 2 rfl rfl (by kernel_rfl) (by kernel_rfl) (by kernel_rfl) (fun _ _ _ h => h) (by rfl) hHeld ?hy173 ?rs173
  case hy173 => (intro w hSw; (try dsimp only at hSw); go_simp) <;> (try with_reducible rfl)
  (try simp only [Act.put, List.setIfInBounds_toArray, List.set_cons_zero, List.set_cons_succ])
  refine take_run (d := (some 46)) (v := ?v174) 5 rfl rfl (by kernel_rfl) (by kernel_rfl) (by kernel_rfl) (fun _ _ _ h => h) (by rfl) hHeld ?hy174 ?rs174
  case hy174 => (intro w hSw; (try dsimp only at hSw); go_simp) <;> (try with_reducible rfl)
  (try simp only [Act.put, List.setIfInBounds_toArray, List.set_cons_zero, List.set_cons_succ])
  refine take_run (d := (some 47)) (v := ?v175) 6 rfl rfl (by kernel_rfl) (by kernel_rfl) (by kernel_rfl) (fun _ _ _ h => h) (by rfl) hHeld ?hy175 ?rs175
  case hy175 => (intro w hSw; (try dsimp only at hSw); go_simp) <;> (try with_reducible rfl)
  (try simp only [Act.put, List.setIfInBounds_toArray, List.set_cons_zero, List.set_cons_succ])
  refine take_run (d := (some 48)) (v := ?v176) 7 rfl rfl (by kernel_rfl) (by kernel_rfl) (by kernel_rfl) (fun _ _ _ h => h) (by rfl) hHeld ?hy176 ?rs176
  case hy176 => (intro w hSw; (try dsimp only at hSw); go_simp) <;> (try with_reducible rfl)
  (try simp only [Act.put, List.setIfInBounds_toArray, List.set_cons_zero, List.set_cons_succ])
  refine take_run (d := (some 52)) (v := ?v177) 11 rfl rfl (by kernel_rfl) (by kernel_rfl) (by kernel_rfl) (fun _ _ _ h => h) (by rfl) hHeld ?hy177 ?rs177
  case hy177 => (intro w hSw; (try dsimp only at hSw); go_simp) <;> (try with_reducible rfl)
  (try simp only [Act.put, List.setIfInBounds_toArray, List.set_cons_zero, List.set_cons_succ])
  refine take_run (d := (some 53)) (v := ?v178) 12 rfl rfl (by kernel_rfl) (by kernel_rfl) (by kernel_rfl) (fun _ _ _ h => h) (by rfl) hHeld ?hy178 ?rs178
  case hy178 => (intro w hSw; (try dsimp only at hSw); go_simp) <;> (try with_reducible rfl)
  (try simp only [Act.put, List.setIfInBounds_toArray, List.set_cons_zero, List.set_cons_succ])
  refine take_run (d := (some 54)) (v := ?v179) 13 rfl rfl (by kernel_rfl) (by kernel_rfl) (by kernel_rfl) (fun _ _ _ h => h) (by rfl) hHeld ?hy179 ?rs179
  case hy179 => (intro w hSw; (try dsimp only at hSw); go_simp) <;> (try with_reducible rfl)
  (try simp only [Act.put, List.setIfInBounds_toArray, List.set_cons_zero, List.set_cons_succ])
  refine take_call 3 rfl (by kernel_rfl) (by rfl) (fun K hK => ?_)
  go_simp
  refine (D1.out _).mono ?_
  rintro e w' ⟨rfl, hb⟩
  refine hK.out _ _ (by obtain ⟨h0, h1, h2, h3, h4, h5, h6, h7, h8, h9, h10, h11, h12, h13, h14, hw⟩ := hHeld; exact ⟨cell_keep h0 hb, cell_keep h1 hb, cell_keep h2 hb, cell_keep h3 hb, cell_keep h4 hb, cell_keep h5 hb, cell_keep h6 hb, cell_keep h7 hb, cell_keep h8 hb, cell_keep h9 hb, cell_keep h10 hb, cell_keep h11 hb, free_keep h9 h12 hb, free_keep h10 h13 hb, free_keep h11 h14 hb, Lib.hid (blw_trans hw.out hb)⟩) (fun hHeld => ?_)
  clear hK K
  (try simp only [Act.put, List.setIfInBounds_toArray, List.set_cons_zero, List.set_cons_succ])
  refine take_run (d := (some 45)) (v := ?v181) 4 rfl rfl (by kernel_rfl) (by kernel_rfl) (by kernel_rfl) (fun _ _ _ h => h) (by rfl) hHeld ?hy181 ?rs181
  case hy181 => (intro w hSw; (try dsimp only at hSw); go_simp) <;> (try with_reducible rfl)
  (try simp only [Act.put, List.setIfInBounds_toArray, List.set_cons_zero, List.set_cons_succ])
  refine take_call 8 rfl (by kernel_rfl) (by rfl) (fun K hK => ?_)
  go_simp
  refine (D2.out _).mono ?_
  rintro e w' ⟨rfl, hb⟩
  refine hK.out _ _ (by obtain ⟨h0, h1, h2, h3, h4, h5, h6, h7, h8, h9, h10, h11, h12, h13, h14, hw⟩ := hHeld; exact ⟨cell_keep h0 hb, cell_keep h1 hb, cell_keep h2 hb, cell_keep h3 hb, cell_keep h4 hb, cell_keep h5 hb, cell_keep h6 hb, cell_keep h7 hb, cell_keep h8 hb, cell_keep h9 hb, cell_keep h10 hb, cell_keep h11 hb, free_keep h9 h12 hb, free_keep h10 h13 hb, free_keep h11 h14 hb, Lib.hid (blw_trans hw.out hb)⟩) (fun hHeld => ?_)
  clear hK K
  (try simp only [Act.put, List.setIfInBounds_toArray, List.set_cons_zero, List.set_cons_succ])
  refine take_run (d := (some 50)) (v := ?v183) 9 rfl rfl (by kernel_rfl) (by kernel_rfl) (by kernel_rfl) (fun _ _ _ h => h) (by rfl) hHeld ?hy183 ?rs183
  case hy183 => (intro w hSw; (try dsimp only at hSw); go_simp) <;> (try with_reducible rfl)
  (try simp only [Act.put, List.setIfInBounds_toArray, List.set_cons_zero, List.set_cons_succ])
  refine take_run (d := (some 51)) (v := ?v184) 10 rfl rfl (by kernel_rfl) (by kernel_rfl) (by kernel_rfl) (fun _ _ _ h => h) (by rfl) hHeld ?hy184 ?rs184
  case hy184 => (intro w hSw; (try dsimp only at hSw); go_simp) <;> (try with_reducible rfl)
  (try simp only [Act.put, List.setIfInBounds_toArray, List.set_cons_zero, List.set_cons_succ])
  refine take_call 14 rfl (by kernel_rfl) (by rfl) (fun K hK => ?_)
  go_simp
  refine (D3.out _).mono ?_
  rintro e w' ⟨rfl, hb⟩
  refine hK.out _ _ (by obtain ⟨h0, h1, h2, h3, h4, h5, h6, h7, h8, h9, h10, h11, h12, h13, h14, hw⟩ := hHeld; exact ⟨cell_keep h0 hb, cell_keep h1 hb, cell_keep h2 hb, cell_keep h3 hb, cell_keep h4 hb, cell_keep h5 hb, cell_keep h6 hb, cell_keep h7 hb, cell_keep h8 hb, cell_keep h9 hb, cell_keep h10 hb, cell_keep h11 hb, free_keep h9 h12 hb, free_keep h10 h13 hb, free_keep h11 h14 hb, Lib.hid (blw_trans hw.out hb)⟩) (fun hHeld => ?_)
  clear hK K
  (try simp only [Act.put, List.setIfInBounds_toArray, List.set_cons_zero, List.set_cons_succ])
  refine take_run (d := (some 56)) (v := ?v186) 15 rfl rfl (by kernel_rfl) (by kernel_rfl) (by kernel_rfl) (fun _ _ _ h => h) (by rfl) hHeld ?hy186 ?rs186
  case hy186 => (intro w hSw; (try dsimp only at hSw); go_simp) <;> (try with_reducible rfl)
  (try simp only [Act.put, List.setIfInBounds_toArray, List.set_cons_zero, List.set_cons_succ])
  refine take_run (d := (some 15)) (v := ?v187) 16 rfl rfl (by kernel_rfl) (by kernel_rfl) (by kernel_rfl) (fun _ _ _ h => h) (by rfl) hHeld ?hy187 ?rs187
  case hy187 => (intro w hSw; (try dsimp only at hSw); go_simp) <;> (try with_reducible rfl)
  (try simp only [Act.put, List.setIfInBounds_toArray, List.set_cons_zero, List.set_cons_succ])
  refine wpAnyH_done (by kernel_rfl) ?_ _
  obtain ⟨z0, z1, z2, z3, z4, z5, z6, z7, z8, z9, z10, z11, z12, z13, z14, zW⟩ := hHeld
  have lz_u := World.block_lt_of_cell? _ _ z0
  try simp only at lz_u
  have lz_t := World.block_lt_of_cell? _ _ z3
  try simp only at lz_t
  have lz_a := World.block_lt_of_cell? _ _ z6
  try simp only at lz_a
  have lz_x := World.block_lt_of_cell? _ _ z9
  try simp only at lz_x
  go_wp2_with fail
  refine (CB.out _ (hT.below (by repeat (first | exact zW.out | refine blw_drewN ?_ _ | refine Below.setCell ?_ (by first | (simp; done) | omega | (simp; omega)) _ | refine Below.alloc ?_ (by first | (simp; done) | omega | (simp; omega)) _)))).mono ?_
  rintro e w106 ⟨rfl, hb⟩
  have W106 := Lib.hid (blw_trans (show Below w.heap.size w _ by repeat (first | exact zW.out | refine blw_drewN ?_ _ | refine Below.setCell ?_ (by first | (simp; done) | omega | (simp; omega)) _ | refine Below.alloc ?_ (by first | (simp; done) | omega | (simp; omega)) _)) hb)
  have n106 := hb.size
  try simp at n106
  have k106_u0 := cell_keep (a := ⟨w.heap.size + 1, 0, none⟩) (v := .int .i64 p) (by first | (go_keep; done) | (simp [go_sem, *]; done)) hb
  have k106_u1 := cell_keep (a := ⟨w.heap.size + 1, 1, none⟩) (v := .int .i64 q) (by first | (go_keep; done) | (simp [go_sem, *]; done)) hb
  have k106_u2 := cell_keep (a := ⟨w.heap.size + 1, 2, none⟩) (v := .int .i64 r) (by first | (go_keep; done) | (simp [go_sem, *]; done)) hb
  have l106_u := World.block_lt_of_cell? _ _ k106_u0
  try simp only at l106_u
  have k106_t0 := cell_keep (a := ⟨w1.heap.size, 0, none⟩) (v := .int .i64 0) (by first | (go_keep; done) | (simp [go_sem, *]; done)) hb
  have k106_t1 := cell_keep (a := ⟨w1.heap.size, 1, none⟩) (v := .int .i64 0) (by first | (go_keep; done) | (simp [go_sem, *]; done)) hb
  have k106_t2 := cell_keep (a := ⟨w1.heap.size, 2, none⟩) (v := .int .i64 0) (by first | (go_keep; done) | (simp [go_sem, *]; done)) hb
  have l106_t := World.block_lt_of_cell? _ _ k106_t0
  try simp only at l106_t
  have k106_a0 := cell_keep (a := ⟨w3.heap.size, 0, none⟩) (v := .int .i64 0) (by first | (go_keep; done) | (simp [go_sem, *]; done)) hb
  have k106_a1 := cell_keep (a := ⟨w3.heap.size, 1, none⟩) (v := .int .i64 0) (by first | (go_keep; done) | (simp [go_sem, *]; done)) hb
  have k106_a2 := cell_keep (a := ⟨w3.heap.size, 2, none⟩) (v := .int .i64 0) (by first | (go_keep; done) | (simp [go_sem, *]; done)) hb
  have l106_a := World.block_lt_of_cell? _ _ k106_a0
  try simp only at l106_a
  have k106_x0 := cell_keep (a := ⟨w5.heap.size, 0, none⟩) (v := .int .i64 0) (by first | (go_keep; done) | (simp [go_sem, *]; done)) hb
  have k106_x1 := cell_keep (a := ⟨w5.heap.size, 1, none⟩) (v := .int .i64 0) (by first | (go_keep; done) | (simp [go_sem, *]; done)) hb
  have k106_x2 := cell_keep (a := ⟨w5.heap.size, 2, none⟩) (v := .int .i64 0) (by first | (go_keep; done) | (simp [go_sem, *]; done)) hb
  have l106_x := World.block_lt_of_cell? _ _ k106_x0
  try simp only at l106_x
  clear hb z0 z1 z2 z3 z4 z5 z6 z7 z8 z9 z10 z11 z12 z13 z14 lz_u lz_t lz_a lz_x zW
  go_wp2_with fail
  refine (E1.out _ (hT.below (by repeat (first | exact W106.out | refine blw_drewN ?_ _ | refine Below.setCell ?_ (by first | (simp; done) | omega | (simp; omega)) _ | refine Below.alloc ?_ (by first | (simp; done) | omega | (simp; omega)) _)))).mono ?_
  rintro e w107 ⟨rfl, hb⟩
  have W107 := Lib.hid (blw_trans (show Below w.heap.size w _ by repeat (first | exact W106.out | refine blw_drewN ?_ _ | refine Below.setCell ?_ (by first | (simp; done) | omega | (simp; omega)) _ | refine Below.alloc ?_ (by first | (simp; done) | omega | (simp; omega)) _)) hb)
  have n107 := hb.size
  try simp at n107
  have k107_u0 := cell_keep (a := ⟨w.heap.size + 1, 0, none⟩) (v := .int .i64 p) (by first | (go_keep; done) | (simp [go_sem, *]; done)) hb
  have k107_u1 := cell_keep (a := ⟨w.heap.size + 1, 1, none⟩) (v := .int .i64 q) (by first | (go_keep; done) | (simp [go_sem, *]; done)) hb
  have k107_u2 := cell_keep (a := ⟨w.heap.size + 1, 2, none⟩) (v := .int .i64 r) (by first | (go_keep; done) | (simp [go_sem, *]; done)) hb
  have l107_u := World.block_lt_of_cell? _ _ k107_u0
  try simp only at l107_u
  have k107_t0 := cell_keep (a := ⟨w1.heap.size, 0, none⟩) (v := .int .i64 0) (by first | (go_keep; done) | (simp [go_sem, *]; done)) hb
  have k107_t1 := cell_keep (a := ⟨w1.heap.size, 1, none⟩) (v := .int .i64 0) (by first | (go_keep; done) | (simp [go_sem, *]; done)) hb
  have k107_t2 := cell_keep (a := ⟨w1.heap.size, 2, none⟩) (v := .int .i64 0) (by first | (go_keep; done) | (simp [go_sem, *]; done)) hb
  have l107_t := World.block_lt_of_cell? _ _ k107_t0
  try simp only at l107_t
  have k107_a0 := cell_keep (a := ⟨w3.heap.size, 0, none⟩) (v := .int .i64 0) (by first | (go_keep; done) | (simp [go_sem, *]; done)) hb
  have k107_a1 := cell_keep (a := ⟨w3.heap.size, 1, none⟩) (v := .int .i64 0) (by first | (go_keep; done) | (simp [go_sem, *]; done)) hb
  have k107_a2 := cell_keep (a := ⟨w3.heap.size, 2, none⟩) (v := .int .i64 0) (by first | (go_keep; done) | (simp [go_sem, *]; done)) hb
  have l107_a := World.block_lt_of_cell? _ _ k107_a0
  try simp only at l107_a
  have k107_x0 := cell_keep (a := ⟨w5.heap.size, 0, none⟩) (v := .int .i64 0) (by first | (go_keep; done) | (simp [go_sem, *]; done)) hb
  have k107_x1 := cell_keep (a := ⟨w5.heap.size, 1, none⟩) (v := .int .i64 0) (by first | (go_keep; done) | (simp [go_sem, *]; done)) hb
  have k107_x2 := cell_keep (a := ⟨w5.heap.size, 2, none⟩) (v := .int .i64 0) (by first | (go_keep; done) | (simp [go_sem, *]; done)) hb
  have l107_x := World.block_lt_of_cell? _ _ k107_x0
  try simp only at l107_x
  have k107_b0 := cell_keep (a := ⟨w106.heap.size, 0, none⟩) (v := .int .i64 0) (by first | (go_keep; done) | (simp [go_sem, *]; done)) hb
  have k107_b1 := cell_keep (a := ⟨w106.heap.size, 1, none⟩) (v := .int .i64 0) (by first | (go_keep; done) | (simp [go_sem, *]; done)) hb
  have k107_b2 := cell_keep (a := ⟨w106.heap.size, 2, none⟩) (v := .int .i64 0) (by first | (go_keep; done) | (simp [go_sem, *]; done)) hb
  have l107_b := World.block_lt_of_cell? _ _ k107_b0
  try simp only at l107_b
  clear hb k106_u0 k106_u1 k106_u2 l106_u k106_t0 k106_t1 k106_t2 l106_t k106_a0 k106_a1 k106_a2 l106_a k106_x0 k106_x1 k106_x2 l106_x W106
  go_wp2_with fail
  refine (CT.out _ (hT.below (by repeat (first | exact W107.out | refine blw_drewN ?_ _ | refine Below.setCell ?_ (by first | (simp; done) | omega | (simp; omega)) _ | refine Below.alloc ?_ (by first | (simp; done) | omega | (simp; omega)) _)))).mono ?_
  rintro e w108 ⟨rfl, hb⟩
  have W108 := Lib.hid (blw_trans (show Below w.heap.size w _ by repeat (first | exact W107.out | refine blw_drewN ?_ _ | refine Below.setCell ?_ (by first | (simp; done) | omega | (simp; omega)) _ | refine Below.alloc ?_ (by first | (simp; done) | omega | (simp; omega)) _)) hb)
  have n108 := hb.size
  try simp at n108
  have k108_u0 := cell_keep (a := ⟨w.heap.size + 1, 0, none⟩) (v := .int .i64 p) (by first | (go_keep; done) | (simp [go_sem, *]; done)) hb
  have k108_u1 := cell_keep (a := ⟨w.heap.size + 1, 1, none⟩) (v := .int .i64 q) (by first | (go_keep; done) | (simp [go_sem, *]; done)) hb
  have k108_u2 := cell_keep (a := ⟨w.heap.size + 1, 2, none⟩) (v := .int .i64 r) (by first | (go_keep; done) | (simp [go_sem, *]; done)) hb
  have l108_u := World.block_lt_of_cell? _ _ k108_u0
  try simp only at l108_u
  have k108_t0 := cell_keep (a := ⟨w1.heap.size, 0, none⟩) (v := .int .i64 0) (by first | (go_keep; done) | (simp [go_sem, *]; done)) hb
  have k108_t1 := cell_keep (a := ⟨w1.heap.size, 1, none⟩) (v := .int .i64 0) (by first | (go_keep; done) | (simp [go_sem, *]; done)) hb
  have k108_t2 := cell_keep (a := ⟨w1.heap.size, 2, none⟩) (v := .int .i64 0) (by first | (go_keep; done) | (simp [go_sem, *]; done)) hb
  have l108_t := World.block_lt_of_cell? _ _ k108_t0
  try simp only at l108_t
  have k108_a0 := cell_keep (a := ⟨w3.heap.size, 0, none⟩) (v := .int .i64 0) (by first | (go_keep; done) | (simp [go_sem, *]; done)) hb
  have k108_a1 := cell_keep (a := ⟨w3.heap.size, 1, none⟩) (v := .int .i64 0) (by first | (go_keep; done) | (simp [go_sem, *]; done)) hb
  have k108_a2 := cell_keep (a := ⟨w3.heap.size, 2, none⟩) (v := .int .i64 0) (by first | (go_keep; done) | (simp [go_sem, *]; done)) hb
  have l108_a := World.block_lt_of_cell? _ _ k108_a0
  try simp only at l108_a
  have k108_x0 := cell_keep (a := ⟨w5.heap.size, 0, none⟩) (v := .int .i64 0) (by first | (go_keep; done) | (simp [go_sem, *]; done)) hb
  have k108_x1 := cell_keep (a := ⟨w5.heap.size, 1, none⟩) (v := .int .i64 0) (by first | (go_keep; done) | (simp [go_sem, *]; done)) hb
  have k108_x2 := cell_keep (a := ⟨w5.heap.size, 2, none⟩) (v := .int .i64 0) (by first | (go_keep; done) | (simp [go_sem, *]; done)) hb
  have l108_x := World.block_lt_of_cell? _ _ k108_x0
  try simp only at l108_x
  have k108_b0 := cell_keep (a := ⟨w106.heap.size, 0, none⟩) (v := .int .i64 0) (by first | (go_keep; done) | (simp [go_sem, *]; done)) hb
  have k108_b1 := cell_keep (a := ⟨w106.heap.size, 1, none⟩) (v := .int .i64 0) (by first | (go_keep; done) | (simp [go_sem, *]; done)) hb
  have k108_b2 := cell_keep (a := ⟨w106.heap.size, 2, none⟩) (v := .int .i64 0) (by first | (go_keep; done) | (simp [go_sem, *]; done)) hb
  have l108_b := World.block_lt_of_cell? _ _ k108_b0
  try simp only at l108_b
  clear hb k107_u0 k107_u1 k107_u2 l107_u k107_t0 k107_t1 k107_t2 l107_t k107_a0 k107_a1 k107_a2 l107_a k107_x0 k107_x1 k107_x2 l107_x k107_b0 k107_b1 k107_b2 l107_b W107
  go_wp2_with fail
  refine (E1.out _ (hT.below (by repeat (first | exact W108.out | refine blw_drewN ?_ _ | refine Below.setCell ?_ (by first | (simp; done) | omega | (simp; omega)) _ | refine Below.alloc ?_ (by first | (simp; done) | omega | (simp; omega)) _)))).mono ?_
  rintro e w109 ⟨rfl, hb⟩
  have W109 := Lib.hid (blw_trans (show Below w.heap.size w _ by repeat (first | exact W108.out | refine blw_drewN ?_ _ | refine Below.setCell ?_ (by first | (simp; done) | omega | (simp; omega)) _ | refine Below.alloc ?_ (by first | (simp; done) | omega | (simp; omega)) _)) hb)
  have n109 := hb.size
  try simp at n109
  have k109_t0 := cell_keep (a := ⟨w1.heap.size, 0, none⟩) (v := .int .i64 0) (by first | (go_keep; done) | (simp [go_sem, *]; done)) hb
  have k109_t1 := cell_keep (a := ⟨w1.heap.size, 1, none⟩) (v := .int .i64 0) (by first | (go_keep; done) | (simp [go_sem, *]; done)) hb
  have k109_t2 := cell_keep (a := ⟨w1.heap.size, 2, none⟩) (v := .int .i64 0) (by first | (go_keep; done) | (simp [go_sem, *]; done)) hb
  have l109_t := World.block_lt_of_cell? _ _ k109_t0
  try simp only at l109_t
  have k109_a0 := cell_keep (a := ⟨w3.heap.size, 0, none⟩) (v := .int .i64 0) (by first | (go_keep; done) | (simp [go_sem, *]; done)) hb
  have k109_a1 := cell_keep (a := ⟨w3.heap.size, 1, none⟩) (v := .int .i64 0) (by first | (go_keep; done) | (simp [go_sem, *]; done)) hb
  have k109_a2 := cell_keep (a := ⟨w3.heap.size, 2, none⟩) (v := .int .i64 0) (by first | (go_keep; done) | (simp [go_sem, *]; done)) hb
  have l109_a := World.block_lt_of_cell? _ _ k109_a0
  try simp only at l109_a
  have k109_x0 := cell_keep (a := ⟨w5.heap.size, 0, none⟩) (v := .int .i64 0) (by first | (go_keep; done) | (simp [go_sem, *]; done)) hb
  have k109_x1 := cell_keep (a := ⟨w5.heap.size, 1, none⟩) (v := .int .i64 0) (by first | (go_keep; done) | (simp [go_sem, *]; done)) hb
  have k109_x2 := cell_keep (a := ⟨w5.heap.size, 2, none⟩) (v := .int .i64 0) (by first | (go_keep; done) | (simp [go_sem, *]; done)) hb
  have l109_x := World.block_lt_of_cell? _ _ k109_x0
  try simp only at l109_x
  have k109_b0 := cell_keep (a := ⟨w106.heap.size, 0, none⟩) (v := .int .i64 0) (by first | (go_keep; done) | (simp [go_sem, *]; done)) hb
  have k109_b1 := cell_keep (a := ⟨w106.heap.size, 1, none⟩) (v := .int .i64 0) (by first | (go_keep; done) | (simp [go_sem, *]; done)) hb
  have k109_b2 := cell_keep (a := ⟨w106.heap.size, 2, none⟩) (v := .int .i64 0) (by first | (go_keep; done) | (simp [go_sem, *]; done)) hb
  have l109_b := World.block_lt_of_cell? _ _ k109_b0
  try simp only at l109_b
  clear hb k108_u0 k108_u1 k108_u2 l108_u k108_t0 k108_t1 k108_t2 l108_t k108_a0 k108_a1 k108_a2 l108_a k108_x0 k108_x1 k108_x2 l108_x k108_b0 k108_b1 k108_b2 l108_b W108
  go_wp2_with fail
  refine (CN.out _).mono ?_
  rintro e w' ⟨rfl, rfl⟩
  go_wp2_with fail
  refine (E1.out _ (hT.below (by repeat (first | exact W109.out | refine blw_drewN ?_ _ | refine Below.setCell ?_ (by first | (simp; done) | omega | (simp; omega)) _ | refine Below.alloc ?_ (by first | (simp; done) | omega | (simp; omega)) _)))).mono ?_
  rintro e w110 ⟨rfl, hb⟩
  have W110 := Lib.hid (blw_trans (show Below w.heap.size w _ by repeat (first | exact W109.out | refine blw_drewN ?_ _ | refine Below.setCell ?_ (by first | (simp; done) | omega | (simp; omega)) _ | refine Below.alloc ?_ (by first | (simp; done) | omega | (simp; omega)) _)) hb)
  have n110 := hb.size
  try simp at n110
  have k110_t0 := cell_keep (a := ⟨w1.heap.size, 0, none⟩) (v := .int .i64 0) (by first | (go_keep; done) | (simp [go_sem, *]; done)) hb
  have k110_t1 := cell_keep (a := ⟨w1.heap.size, 1, none⟩) (v := .int .i64 0) (by first | (go_keep; done) | (simp [go_sem, *]; done)) hb
  have k110_t2 := cell_keep (a := ⟨w1.heap.size, 2, none⟩) (v := .int .i64 0) (by first | (go_keep; done) | (simp [go_sem, *]; done)) hb
  have l110_t := World.block_lt_of_cell? _ _ k110_t0
  try simp only at l110_t
  have k110_a0 := cell_keep (a := ⟨w3.heap.size, 0, none⟩) (v := .int .i64 0) (by first | (go_keep; done) | (simp [go_sem, *]; done)) hb
  have k110_a1 := cell_keep (a := ⟨w3.heap.size, 1, none⟩) (v := .int .i64 0) (by first | (go_keep; done) | (simp [go_sem, *]; done)) hb
  have k110_a2 := cell_keep (a := ⟨w3.heap.size, 2, none⟩) (v := .int .i64 0) (by first | (go_keep; done) | (simp [go_sem, *]; done)) hb
  have l110_a := World.block_lt_of_cell? _ _ k110_a0
  try simp only at l110_a
  have k110_x0 := cell_keep (a := ⟨w5.heap.size, 0, none⟩) (v := .int .i64 0) (by first | (go_keep; done) | (simp [go_sem, *]; done)) hb
  have k110_x1 := cell_keep (a := ⟨w5.heap.size, 1, none⟩) (v := .int .i64 0) (by first | (go_keep; done) | (simp [go_sem, *]; done)) hb
  have k110_x2 := cell_keep (a := ⟨w5.heap.size, 2, none⟩) (v := .int .i64 0) (by first | (go_keep; done) | (simp [go_sem, *]; done)) hb
  have l110_x := World.block_lt_of_cell? _ _ k110_x0
  try simp only at l110_x
  have k110_b0 := cell_keep (a := ⟨w106.heap.size, 0, none⟩) (v := .int .i64 0) (by first | (go_keep; done) | (simp [go_sem, *]; done)) hb
  have k110_b1 := cell_keep (a := ⟨w106.heap.size, 1, none⟩) (v := .int .i64 0) (by first | (go_keep; done) | (simp [go_sem, *]; done)) hb
  have k110_b2 := cell_keep (a := ⟨w106.heap.size, 2, none⟩) (v := .int .i64 0) (by first | (go_keep; done) | (simp [go_sem, *]; done)) hb
  have l110_b := World.block_lt_of_cell? _ _ k110_b0
  try simp only at l110_b
  clear hb k109_t0 k109_t1 k109_t2 l109_t k109_a0 k109_a1 k109_a2 l109_a k109_x0 k109_x1 k109_x2 l109_x k109_b0 k109_b1 k109_b2 l109_b W109
  go_wp2
  go_ret
  exact ⟨ret_bool (by simp), by repeat (first | exact W110.out | refine blw_drewN ?_ _ | refine Below.setCell ?_ (by first | (simp; done) | omega | (simp; omega)) _ | refine Below.alloc ?_ (by first | (simp; done) | omega | (simp; omega)) _)⟩

set_option maxRecDepth 100000 in
set_option maxHeartbeats 4000000 in
theorem weekTells_nngt (y m d p q r x p0 q0 r0 : Int) (P Q R T : List UInt8) (w : World) (hT : TPH w)
    (lp : P.length ≤ 120) (lq : Q.length ≤ 120) (lr : R.length ≤ 120) (HX : P ++ [45, 87] ++ Q ++ [45] ++ R = T)
    (mp : max p 0 = p0) (mq : max q 0 = q0) (mr : max r 0 = r0)
    (CF : Hid (∀ w : World, Calls Tryd.prog 6 #[.agg #[.int .i64 y, .int .i64 m, .int .i64 d]] w fun e w' => e = .returned (.bool true) ∧ Below w.heap.size w w'))
    (CO : Hid (∀ w : World, TPH w → Calls Tryd.prog 8 #[.agg #[.int .i64 y, .int .i64 m, .int .i64 d]] w fun e w' => e = .returned (.tuple #[.agg #[.int .i64 0, .int .i64 0, .int .i64 0], errV 1]) ∧ Below w.heap.size w w'))
    (CX : Hid (∀ w : World, Calls Tryd.prog 10 #[.agg #[.int .i64 p, .int .i64 q, .int .i64 r]] w fun e w' => e = .returned (.tuple #[.agg #[.int .i64 0, .int .i64 0, .int .i64 0], .bool false]) ∧ Below w.heap.size w w'))
    (D1 : Hid (∀ w : World, Calls Tryd.prog 11 #[.int .i64 p0, .int .i64 4] w fun e w' => e = .returned (.string ⟨P.toArray⟩) ∧ Below w.heap.size w w'))
    (D2 : Hid (∀ w : World, Calls Tryd.prog 11 #[.int .i64 q0, .int .i64 2] w fun e w' => e = .returned (.string ⟨Q.toArray⟩) ∧ Below w.heap.size w w'))
    (D3 : Hid (∀ w : World, Calls Tryd.prog 11 #[.int .i64 r0, .int .i64 1] w fun e w' => e = .returned (.string ⟨R.toArray⟩) ∧ Below w.heap.size w w'))
    (CB : Hid (∀ w : World, TPH w → Calls Tryd.prog 12 #[.agg #[.int .i64 p, .int .i64 q, .int .i64 r]] w fun e w' => e = .returned (.tuple #[.agg #[.int .i64 0, .int .i64 0, .int .i64 0], errV 1]) ∧ Below w.heap.size w w'))
    (CT : Hid (∀ w : World, TPH w → Calls Tryd.prog 13 #[.agg #[.int .i64 p, .int .i64 q, .int .i64 r]] w fun e w' => e = .returned (.tuple #[.string ⟨#[]⟩, errV 1]) ∧ Below w.heap.size w w'))
    (y0 : ¬ x < 1) (y1 : 9999 < x)
    (CN : Hid (∀ w : World, Calls Tryd.prog 15 #[.int .i64 x] w fun e w' => e = .returned (.tuple #[.int .i64 0, errV 1]) ∧ w = w')) :
    Calls Tryd.prog 3 #[.agg #[.int .i64 y, .int .i64 m, .int .i64 d], .agg #[.int .i64 p, .int .i64 q, .int .i64 r], .int .i64 x] w fun e w' => e = .returned (.bool true) ∧ Below w.heap.size w w' := by
  have C0 := Lib.hid fun w (hT : TPH w) => weekly_any w hT.t
  have E0 := Lib.hid fun w (hT : TPH w) => sameErr_yes ErrNo.nil w hT.h
  have E1 := Lib.hid fun w (hT : TPH w) => sameErr_yes (ErrNo.no 1) w hT.h
  have g1 : decide (x < 1) = false := dec_no y0
  have g2 : decide (9999 < x) = true := dec_yes y1
  obtain ⟨Y1, x1⟩ : ∃ X, X = P ++ [45, 87] := ⟨_, rfl⟩
  have S1 : ∀ w, (Op.stringOp .add ⟨P.toArray⟩ ⟨#[45, 87]⟩).run Tryd.prog w = .ok (.string ⟨Y1.toArray⟩) w := fun w => by rw [x1]; exact add_str (P := Tryd.prog) P [45, 87] (by first | omega | (simp; omega)) w
  have m1 : Y1.length = P.length + 2 := by rw [x1]; simp
  obtain ⟨Y2, x2⟩ : ∃ X, X = Y1 ++ Q := ⟨_, rfl⟩
  have S2 : ∀ w, (Op.stringOp .add ⟨Y1.toArray⟩ ⟨Q.toArray⟩).run Tryd.prog w = .ok (.string ⟨Y2.toArray⟩) w := fun w => by rw [x2]; exact add_str (P := Tryd.prog) Y1 Q (by first | omega | (simp; omega)) w
  have m2 : Y2.length = Y1.length + Q.length := by rw [x2]; simp
  obtain ⟨Y3, x3⟩ : ∃ X, X = Y2 ++ [45] := ⟨_, rfl⟩
  have S3 : ∀ w, (Op.stringOp .add ⟨Y2.toArray⟩ ⟨#[45]⟩).run Tryd.prog w = .ok (.string ⟨Y3.toArray⟩) w := fun w => by rw [x3]; exact add_str (P := Tryd.prog) Y2 [45] (by first | omega | (simp; omega)) w
  have m3 : Y3.length = Y2.length + 1 := by rw [x3]; simp
  have S4 : ∀ w, (Op.stringOp .add ⟨Y3.toArray⟩ ⟨R.toArray⟩).run Tryd.prog w = .ok (.string ⟨T.toArray⟩) w := fun w => by rw [← HX, ← x1, ← x2, ← x3]; exact add_str (P := Tryd.prog) Y3 R (by omega) w
  clear x1 x2 x3 m1 m2 m3 HX lp lq lr
  go_enter Tryd.func3, Tryd.ntmps3
  go_wp2_with fail
  refine (C0.out _ (hT.below (by repeat (first | exact (Below.refl _ _) | refine blw_drewN ?_ _ | refine Below.setCell ?_ (by first | (simp; done) | omega | (simp; omega)) _ | refine Below.alloc ?_ (by first | (simp; done) | omega | (simp; omega)) _)))).mono ?_
  rintro e w1 ⟨rfl, hb⟩
  have W1 := Lib.hid (blw_trans (show Below w.heap.size w _ by repeat (first | exact (Below.refl _ _) | refine blw_drewN ?_ _ | refine Below.setCell ?_ (by first | (simp; done) | omega | (simp; omega)) _ | refine Below.alloc ?_ (by first | (simp; done) | omega | (simp; omega)) _)) hb)
  have n1 := hb.size
  try simp at n1
  have k1_d0 := cell_keep (a := ⟨w.heap.size, 0, none⟩) (v := .int .i64 y) (by first | (go_keep; done) | (simp [go_sem, *]; done)) hb
  have k1_d1 := cell_keep (a := ⟨w.heap.size, 1, none⟩) (v := .int .i64 m) (by first | (go_keep; done) | (simp [go_sem, *]; done)) hb
  have k1_d2 := cell_keep (a := ⟨w.heap.size, 2, none⟩) (v := .int .i64 d) (by first | (go_keep; done) | (simp [go_sem, *]; done)) hb
  have l1_d := World.block_lt_of_cell? _ _ k1_d0
  try simp only at l1_d
  have k1_u0 := cell_keep (a := ⟨w.heap.size + 1, 0, none⟩) (v := .int .i64 p) (by first | (go_keep; done) | (simp [go_sem, *]; done)) hb
  have k1_u1 := cell_keep (a := ⟨w.heap.size + 1, 1, none⟩) (v := .int .i64 q) (by first | (go_keep; done) | (simp [go_sem, *]; done)) hb
  have k1_u2 := cell_keep (a := ⟨w.heap.size + 1, 2, none⟩) (v := .int .i64 r) (by first | (go_keep; done) | (simp [go_sem, *]; done)) hb
  have l1_u := World.block_lt_of_cell? _ _ k1_u0
  try simp only at l1_u
  clear hb
  go_wp2_with fail
  refine (CF.out _).mono ?_
  rintro e w2 ⟨rfl, hb⟩
  have W2 := Lib.hid (blw_trans (show Below w.heap.size w _ by repeat (first | exact W1.out | refine blw_drewN ?_ _ | refine Below.setCell ?_ (by first | (simp; done) | omega | (simp; omega)) _ | refine Below.alloc ?_ (by first | (simp; done) | omega | (simp; omega)) _)) hb)
  have n2 := hb.size
  try simp at n2
  have k2_d0 := cell_keep (a := ⟨w.heap.size, 0, none⟩) (v := .int .i64 y) (by first | (go_keep; done) | (simp [go_sem, *]; done)) hb
  have k2_d1 := cell_keep (a := ⟨w.heap.size, 1, none⟩) (v := .int .i64 m) (by first | (go_keep; done) | (simp [go_sem, *]; done)) hb
  have k2_d2 := cell_keep (a := ⟨w.heap.size, 2, none⟩) (v := .int .i64 d) (by first | (go_keep; done) | (simp [go_sem, *]; done)) hb
  have l2_d := World.block_lt_of_cell? _ _ k2_d0
  try simp only at l2_d
  have k2_u0 := cell_keep (a := ⟨w.heap.size + 1, 0, none⟩) (v := .int .i64 p) (by first | (go_keep; done) | (simp [go_sem, *]; done)) hb
  have k2_u1 := cell_keep (a := ⟨w.heap.size + 1, 1, none⟩) (v := .int .i64 q) (by first | (go_keep; done) | (simp [go_sem, *]; done)) hb
  have k2_u2 := cell_keep (a := ⟨w.heap.size + 1, 2, none⟩) (v := .int .i64 r) (by first | (go_keep; done) | (simp [go_sem, *]; done)) hb
  have l2_u := World.block_lt_of_cell? _ _ k2_u0
  try simp only at l2_u
  have k2_t0 := cell_keep (a := ⟨w1.heap.size, 0, none⟩) (v := .int .i64 0) (by first | (go_keep; done) | (simp [go_sem, *]; done)) hb
  have k2_t1 := cell_keep (a := ⟨w1.heap.size, 1, none⟩) (v := .int .i64 0) (by first | (go_keep; done) | (simp [go_sem, *]; done)) hb
  have k2_t2 := cell_keep (a := ⟨w1.heap.size, 2, none⟩) (v := .int .i64 0) (by first | (go_keep; done) | (simp [go_sem, *]; done)) hb
  have l2_t := World.block_lt_of_cell? _ _ k2_t0
  try simp only at l2_t
  clear hb k1_d0 k1_d1 k1_d2 l1_d k1_u0 k1_u1 k1_u2 l1_u W1
  go_wp2_with fail
  refine (CO.out _ (hT.below (by repeat (first | exact W2.out | refine blw_drewN ?_ _ | refine Below.setCell ?_ (by first | (simp; done) | omega | (simp; omega)) _ | refine Below.alloc ?_ (by first | (simp; done) | omega | (simp; omega)) _)))).mono ?_
  rintro e w3 ⟨rfl, hb⟩
  have W3 := Lib.hid (blw_trans (show Below w.heap.size w _ by repeat (first | exact W2.out | refine blw_drewN ?_ _ | refine Below.setCell ?_ (by first | (simp; done) | omega | (simp; omega)) _ | refine Below.alloc ?_ (by first | (simp; done) | omega | (simp; omega)) _)) hb)
  have n3 := hb.size
  try simp at n3
  have k3_u0 := cell_keep (a := ⟨w.heap.size + 1, 0, none⟩) (v := .int .i64 p) (by first | (go_keep; done) | (simp [go_sem, *]; done)) hb
  have k3_u1 := cell_keep (a := ⟨w.heap.size + 1, 1, none⟩) (v := .int .i64 q) (by first | (go_keep; done) | (simp [go_sem, *]; done)) hb
  have k3_u2 := cell_keep (a := ⟨w.heap.size + 1, 2, none⟩) (v := .int .i64 r) (by first | (go_keep; done) | (simp [go_sem, *]; done)) hb
  have l3_u := World.block_lt_of_cell? _ _ k3_u0
  try simp only at l3_u
  have k3_t0 := cell_keep (a := ⟨w1.heap.size, 0, none⟩) (v := .int .i64 0) (by first | (go_keep; done) | (simp [go_sem, *]; done)) hb
  have k3_t1 := cell_keep (a := ⟨w1.heap.size, 1, none⟩) (v := .int .i64 0) (by first | (go_keep; done) | (simp [go_sem, *]; done)) hb
  have k3_t2 := cell_keep (a := ⟨w1.heap.size, 2, none⟩) (v := .int .i64 0) (by first | (go_keep; done) | (simp [go_sem, *]; done)) hb
  have l3_t := World.block_lt_of_cell? _ _ k3_t0
  try simp only at l3_t
  clear hb k2_d0 k2_d1 k2_d2 l2_d k2_u0 k2_u1 k2_u2 l2_u k2_t0 k2_t1 k2_t2 l2_t W2
  go_wp2_with fail
  refine (E1.out _ (hT.below (by repeat (first | exact W3.out | refine blw_drewN ?_ _ | refine Below.setCell ?_ (by first | (simp; done) | omega | (simp; omega)) _ | refine Below.alloc ?_ (by first | (simp; done) | omega | (simp; omega)) _)))).mono ?_
  rintro e w4 ⟨rfl, hb⟩
  have W4 := Lib.hid (blw_trans (show Below w.heap.size w _ by repeat (first | exact W3.out | refine blw_drewN ?_ _ | refine Below.setCell ?_ (by first | (simp; done) | omega | (simp; omega)) _ | refine Below.alloc ?_ (by first | (simp; done) | omega | (simp; omega)) _)) hb)
  have n4 := hb.size
  try simp at n4
  have k4_u0 := cell_keep (a := ⟨w.heap.size + 1, 0, none⟩) (v := .int .i64 p) (by first | (go_keep; done) | (simp [go_sem, *]; done)) hb
  have k4_u1 := cell_keep (a := ⟨w.heap.size + 1, 1, none⟩) (v := .int .i64 q) (by first | (go_keep; done) | (simp [go_sem, *]; done)) hb
  have k4_u2 := cell_keep (a := ⟨w.heap.size + 1, 2, none⟩) (v := .int .i64 r) (by first | (go_keep; done) | (simp [go_sem, *]; done)) hb
  have l4_u := World.block_lt_of_cell? _ _ k4_u0
  try simp only at l4_u
  have k4_t0 := cell_keep (a := ⟨w1.heap.size, 0, none⟩) (v := .int .i64 0) (by first | (go_keep; done) | (simp [go_sem, *]; done)) hb
  have k4_t1 := cell_keep (a := ⟨w1.heap.size, 1, none⟩) (v := .int .i64 0) (by first | (go_keep; done) | (simp [go_sem, *]; done)) hb
  have k4_t2 := cell_keep (a := ⟨w1.heap.size, 2, none⟩) (v := .int .i64 0) (by first | (go_keep; done) | (simp [go_sem, *]; done)) hb
  have l4_t := World.block_lt_of_cell? _ _ k4_t0
  try simp only at l4_t
  have k4_a0 := cell_keep (a := ⟨w3.heap.size, 0, none⟩) (v := .int .i64 0) (by first | (go_keep; done) | (simp [go_sem, *]; done)) hb
  have k4_a1 := cell_keep (a := ⟨w3.heap.size, 1, none⟩) (v := .int .i64 0) (by first | (go_keep; done) | (simp [go_sem, *]; done)) hb
  have k4_a2 := cell_keep (a := ⟨w3.heap.size, 2, none⟩) (v := .int .i64 0) (by first | (go_keep; done) | (simp [go_sem, *]; done)) hb
  have l4_a := World.block_lt_of_cell? _ _ k4_a0
  try simp only at l4_a
  clear hb k3_u0 k3_u1 k3_u2 l3_u k3_t0 k3_t1 k3_t2 l3_t W3
  go_wp2_with fail
  refine (CX.out _).mono ?_
  rintro e w5 ⟨rfl, hb⟩
  have W5 := Lib.hid (blw_trans (show Below w.heap.size w _ by repeat (first | exact W4.out | refine blw_drewN ?_ _ | refine Below.setCell ?_ (by first | (simp; done) | omega | (simp; omega)) _ | refine Below.alloc ?_ (by first | (simp; done) | omega | (simp; omega)) _)) hb)
  have n5 := hb.size
  try simp at n5
  have k5_u0 := cell_keep (a := ⟨w.heap.size + 1, 0, none⟩) (v := .int .i64 p) (by first | (go_keep; done) | (simp [go_sem, *]; done)) hb
  have k5_u1 := cell_keep (a := ⟨w.heap.size + 1, 1, none⟩) (v := .int .i64 q) (by first | (go_keep; done) | (simp [go_sem, *]; done)) hb
  have k5_u2 := cell_keep (a := ⟨w.heap.size + 1, 2, none⟩) (v := .int .i64 r) (by first | (go_keep; done) | (simp [go_sem, *]; done)) hb
  have l5_u := World.block_lt_of_cell? _ _ k5_u0
  try simp only at l5_u
  have k5_t0 := cell_keep (a := ⟨w1.heap.size, 0, none⟩) (v := .int .i64 0) (by first | (go_keep; done) | (simp [go_sem, *]; done)) hb
  have k5_t1 := cell_keep (a := ⟨w1.heap.size, 1, none⟩) (v := .int .i64 0) (by first | (go_keep; done) | (simp [go_sem, *]; done)) hb
  have k5_t2 := cell_keep (a := ⟨w1.heap.size, 2, none⟩) (v := .int .i64 0) (by first | (go_keep; done) | (simp [go_sem, *]; done)) hb
  have l5_t := World.block_lt_of_cell? _ _ k5_t0
  try simp only at l5_t
  have k5_a0 := cell_keep (a := ⟨w3.heap.size, 0, none⟩) (v := .int .i64 0) (by first | (go_keep; done) | (simp [go_sem, *]; done)) hb
  have k5_a1 := cell_keep (a := ⟨w3.heap.size, 1, none⟩) (v := .int .i64 0) (by first | (go_keep; done) | (simp [go_sem, *]; done)) hb
  have k5_a2 := cell_keep (a := ⟨w3.heap.size, 2, none⟩) (v := .int .i64 0) (by first | (go_keep; done) | (simp [go_sem, *]; done)) hb
  have l5_a := World.block_lt_of_cell? _ _ k5_a0
  try simp only at l5_a
  clear hb k4_u0 k4_u1 k4_u2 l4_u k4_t0 k4_t1 k4_t2 l4_t k4_a0 k4_a1 k4_a2 l4_a W4
  have ne1 : ¬ w5.heap.size = w.heap.size + 1 := by omega
  have me1 : ¬ w.heap.size + 1 = w5.heap.size := by omega
  have ne2 : ¬ w5.heap.size = w1.heap.size := by omega
  have me2 : ¬ w1.heap.size = w5.heap.size := by omega
  have ne3 : ¬ w5.heap.size = w3.heap.size := by omega
  have me3 : ¬ w3.heap.size = w5.heap.size := by omega
  go_wp2_with fail
  refine wp_region_held_drew (S := fun w' => w'.cell? ⟨w.heap.size + 1, 0, none⟩ = some (.int .i64 p) ∧ w'.cell? ⟨w.heap.size + 1, 1, none⟩ = some (.int .i64 q) ∧ w'.cell? ⟨w.heap.size + 1, 2, none⟩ = some (.int .i64 r) ∧ w'.cell? ⟨w1.heap.size, 0, none⟩ = some (.int .i64 0) ∧ w'.cell? ⟨w1.heap.size, 1, none⟩ = some (.int .i64 0) ∧ w'.cell? ⟨w1.heap.size, 2, none⟩ = some (.int .i64 0) ∧ w'.cell? ⟨w3.heap.size, 0, none⟩ = some (.int .i64 0) ∧ w'.cell? ⟨w3.heap.size, 1, none⟩ = some (.int .i64 0) ∧ w'.cell? ⟨w3.heap.size, 2, none⟩ = some (.int .i64 0) ∧ w'.cell? ⟨w5.heap.size, 0, none⟩ = some (.int .i64 0) ∧ w'.cell? ⟨w5.heap.size, 1, none⟩ = some (.int .i64 0) ∧ w'.cell? ⟨w5.heap.size, 2, none⟩ = some (.int .i64 0) ∧ w'.frozen? ⟨w5.heap.size, 0, none⟩ = false ∧ w'.frozen? ⟨w5.heap.size, 1, none⟩ = false ∧ w'.frozen? ⟨w5.heap.size, 2, none⟩ = false ∧ Hid (Below w.heap.size w w')) (by kernel_rfl) (by refine ⟨by go_keep, by go_keep, by go_keep, by go_keep, by go_keep, by go_keep, by go_keep, by go_keep, by go_keep, by go_keep, by go_keep, by go_keep, by simp [go_sem], by simp [go_sem], by simp [go_sem], Lib.hid (Below.drew ?_)⟩; repeat (first | exact W5.out | refine blw_drewN ?_ _ | refine Below.setCell ?_ (by first | (simp; done) | omega | (simp; omega)) _ | refine Below.alloc ?_ (by first | (simp; done) | omega | (simp; omega)) _)) (fun hHeld => ?_)
  refine take_run (d := (some 41)) (v := ?v188) 0 rfl rfl (by kernel_rfl) (by kernel_rfl) (by kernel_rfl) (fun _ _ _ h => h) (by rfl) hHeld ?hy188 ?rs188
  case hy188 => (intro w hSw; (try dsimp only at hSw); go_simp) <;> (try with_reducible rfl)
  (try simp only [Act.put, List.setIfInBounds_toArray, List.set_cons_zero, List.set_cons_succ])
  refine take_run (d := (some 42)) (v := ?v189) 1 rfl rfl (by kernel_rfl) (by kernel_rfl) (by kernel_rfl) (fun _ _ _ h => h) (by rfl) hHeld ?hy189 ?rs189
  case hy189 => (intro w hSw; (try dsimp only at hSw); go_simp) <;> (try with_reducible rfl)
  (try simp only [Act.put, List.setIfInBounds_toArray, List.set_cons_zero, List.set_cons_succ])
  refine take_run (d := (some 43)) (v := ?v190) 2 rfl rfl (by kernel_rfl) (by kernel_rfl) (by kernel_rfl) (fun _ _ _ h => h) (by rfl) hHeld ?hy190 ?rs190
  case hy190 => (intro w hSw; (try dsimp only at hSw); go_simp) <;> (try with_reducible rfl)
  (try simp only [Act.put, List.setIfInBounds_toArray, List.set_cons_zero, List.set_cons_succ])
  refine take_run (d := (some 46)) (v := ?v191) 5 rfl rfl (by kernel_rfl) (by kernel_rfl) (by kernel_rfl) (fun _ _ _ h => h) (by rfl) hHeld ?hy191 ?rs191
  case hy191 => (intro w hSw; (try dsimp only at hSw); go_simp) <;> (try with_reducible rfl)
  (try simp only [Act.put, List.setIfInBounds_toArray, List.set_cons_zero, List.set_cons_succ])
  refine take_run (d := (some 47)) (v := ?v192) 6 rfl rfl (by kernel_rfl) (by kernel_rfl) (by kernel_rfl) (fun _ _ _ h => h) (by rfl) hHeld ?hy192 ?rs192
  case hy192 => (intro w hSw; (try dsimp only at hSw); go_simp) <;> (try with_reducible rfl)
  (try simp only [Act.put, List.setIfInBounds_toArray, List.set_cons_zero, List.set_cons_succ])
  refine take_run (d := (some 48)) (v := ?v193) 7 rfl rfl (by kernel_rfl) (by kernel_rfl) (by kernel_rfl) (fun _ _ _ h => h) (by rfl) hHeld ?hy193 ?rs193
  case hy193 => (intro w hSw; (try dsimp only at hSw); go_simp) <;> (try with_reducible rfl)
  (try simp only [Act.put, List.setIfInBounds_toArray, List.set_cons_zero, List.set_cons_succ])
  refine take_run (d := (some 52)) (v := ?v194) 11 rfl rfl (by kernel_rfl) (by kernel_rfl) (by kernel_rfl) (fun _ _ _ h => h) (by rfl) hHeld ?hy194 ?rs194
  case hy194 => (intro w hSw; (try dsimp only at hSw); go_simp) <;> (try with_reducible rfl)
  (try simp only [Act.put, List.setIfInBounds_toArray, List.set_cons_zero, List.set_cons_succ])
  refine take_run (d := (some 53)) (v := ?v195) 12 rfl rfl (by kernel_rfl) (by kernel_rfl) (by kernel_rfl) (fun _ _ _ h => h) (by rfl) hHeld ?hy195 ?rs195
  case hy195 => (intro w hSw; (try dsimp only at hSw); go_simp) <;> (try with_reducible rfl)
  (try simp only [Act.put, List.setIfInBounds_toArray, List.set_cons_zero, List.set_cons_succ])
  refine take_run (d := (some 54)) (v := ?v196) 13 rfl rfl (by kernel_rfl) (by kernel_rfl) (by kernel_rfl) (fun _ _ _ h => h) (by rfl) hHeld ?hy196 ?rs196
  case hy196 => (intro w hSw; (try dsimp only at hSw); go_simp) <;> (try with_reducible rfl)
  (try simp only [Act.put, List.setIfInBounds_toArray, List.set_cons_zero, List.set_cons_succ])
  refine take_call 3 rfl (by kernel_rfl) (by rfl) (fun K hK => ?_)
  go_simp
  refine (D1.out _).mono ?_
  rintro e w' ⟨rfl, hb⟩
  refine hK.out _ _ (by obtain ⟨h0, h1, h2, h3, h4, h5, h6, h7, h8, h9, h10, h11, h12, h13, h14, hw⟩ := hHeld; exact ⟨cell_keep h0 hb, cell_keep h1 hb, cell_keep h2 hb, cell_keep h3 hb, cell_keep h4 hb, cell_keep h5 hb, cell_keep h6 hb, cell_keep h7 hb, cell_keep h8 hb, cell_keep h9 hb, cell_keep h10 hb, cell_keep h11 hb, free_keep h9 h12 hb, free_keep h10 h13 hb, free_keep h11 h14 hb, Lib.hid (blw_trans hw.out hb)⟩) (fun hHeld => ?_)
  clear hK K
  (try simp only [Act.put, List.setIfInBounds_toArray, List.set_cons_zero, List.set_cons_succ])
  refine take_run (d := (some 45)) (v := ?v198) 4 rfl rfl (by kernel_rfl) (by kernel_rfl) (by kernel_rfl) (fun _ _ _ h => h) (by rfl) hHeld ?hy198 ?rs198
  case hy198 => (intro w hSw; (try dsimp only at hSw); go_simp) <;> (try with_reducible rfl)
  (try simp only [Act.put, List.setIfInBounds_toArray, List.set_cons_zero, List.set_cons_succ])
  refine take_call 8 rfl (by kernel_rfl) (by rfl) (fun K hK => ?_)
  go_simp
  refine (D2.out _).mono ?_
  rintro e w' ⟨rfl, hb⟩
  refine hK.out _ _ (by obtain ⟨h0, h1, h2, h3, h4, h5, h6, h7, h8, h9, h10, h11, h12, h13, h14, hw⟩ := hHeld; exact ⟨cell_keep h0 hb, cell_keep h1 hb, cell_keep h2 hb, cell_keep h3 hb, cell_keep h4 hb, cell_keep h5 hb, cell_keep h6 hb, cell_keep h7 hb, cell_keep h8 hb, cell_keep h9 hb, cell_keep h10 hb, cell_keep h11 hb, free_keep h9 h12 hb, free_keep h10 h13 hb, free_keep h11 h14 hb, Lib.hid (blw_trans hw.out hb)⟩) (fun hHeld => ?_)
  clear hK K
  (try simp only [Act.put, List.setIfInBounds_toArray, List.set_cons_zero, List.set_cons_succ])
  refine take_run (d := (some 50)) (v := ?v200) 9 rfl rfl (by kernel_rfl) (by kernel_rfl) (by kernel_rfl) (fun _ _ _ h => h) (by rfl) hHeld ?hy200 ?rs200
  case hy200 => (intro w hSw; (try dsimp only at hSw); go_simp) <;> (try with_reducible rfl)
  (try simp only [Act.put, List.setIfInBounds_toArray, List.set_cons_zero, List.set_cons_succ])
  refine take_run (d := (some 51)) (v := ?v201) 10 rfl rfl (by kernel_rfl) (by kernel_rfl) (by kernel_rfl) (fun _ _ _ h => h) (by rfl) hHeld ?hy201 ?rs201
  case hy201 => (intro w hSw; (try dsimp only at hSw); go_simp) <;> (try with_reducible rfl)
  (try simp only [Act.put, List.setIfInBounds_toArray, List.set_cons_zero, List.set_cons_succ])
  refine take_call 14 rfl (by kernel_rfl) (by rfl) (fun K hK => ?_)
  go_simp
  refine (D3.out _).mono ?_
  rintro e w' ⟨rfl, hb⟩
  refine hK.out _ _ (by obtain ⟨h0, h1, h2, h3, h4, h5, h6, h7, h8, h9, h10, h11, h12, h13, h14, hw⟩ := hHeld; exact ⟨cell_keep h0 hb, cell_keep h1 hb, cell_keep h2 hb, cell_keep h3 hb, cell_keep h4 hb, cell_keep h5 hb, cell_keep h6 hb, cell_keep h7 hb, cell_keep h8 hb, cell_keep h9 hb, cell_keep h10 hb, cell_keep h11 hb, free_keep h9 h12 hb, free_keep h10 h13 hb, free_keep h11 h14 hb, Lib.hid (blw_trans hw.out hb)⟩) (fun hHeld => ?_)
  clear hK K
  (try simp only [Act.put, List.setIfInBounds_toArray, List.set_cons_zero, List.set_cons_succ])
  refine take_run (d := (some 56)) (v := ?v203) 15 rfl rfl (by kernel_rfl) (by kernel_rfl) (by kernel_rfl) (fun _ _ _ h => h) (by rfl) hHeld ?hy203 ?rs203
  case hy203 => (intro w hSw; (try dsimp only at hSw); go_simp) <;> (try with_reducible rfl)
  (try simp only [Act.put, List.setIfInBounds_toArray, List.set_cons_zero, List.set_cons_succ])
  refine take_run (d := (some 15)) (v := ?v204) 16 rfl rfl (by kernel_rfl) (by kernel_rfl) (by kernel_rfl) (fun _ _ _ h => h) (by rfl) hHeld ?hy204 ?rs204
  case hy204 => (intro w hSw; (try dsimp only at hSw); go_simp) <;> (try with_reducible rfl)
  (try simp only [Act.put, List.setIfInBounds_toArray, List.set_cons_zero, List.set_cons_succ])
  refine wpAnyH_done (by kernel_rfl) ?_ _
  obtain ⟨z0, z1, z2, z3, z4, z5, z6, z7, z8, z9, z10, z11, z12, z13, z14, zW⟩ := hHeld
  have lz_u := World.block_lt_of_cell? _ _ z0
  try simp only at lz_u
  have lz_t := World.block_lt_of_cell? _ _ z3
  try simp only at lz_t
  have lz_a := World.block_lt_of_cell? _ _ z6
  try simp only at lz_a
  have lz_x := World.block_lt_of_cell? _ _ z9
  try simp only at lz_x
  go_wp2_with fail
  refine (CB.out _ (hT.below (by repeat (first | exact zW.out | refine blw_drewN ?_ _ | refine Below.setCell ?_ (by first | (simp; done) | omega | (simp; omega)) _ | refine Below.alloc ?_ (by first | (simp; done) | omega | (simp; omega)) _)))).mono ?_
  rintro e w106 ⟨rfl, hb⟩
  have W106 := Lib.hid (blw_trans (show Below w.heap.size w _ by repeat (first | exact zW.out | refine blw_drewN ?_ _ | refine Below.setCell ?_ (by first | (simp; done) | omega | (simp; omega)) _ | refine Below.alloc ?_ (by first | (simp; done) | omega | (simp; omega)) _)) hb)
  have n106 := hb.size
  try simp at n106
  have k106_u0 := cell_keep (a := ⟨w.heap.size + 1, 0, none⟩) (v := .int .i64 p) (by first | (go_keep; done) | (simp [go_sem, *]; done)) hb
  have k106_u1 := cell_keep (a := ⟨w.heap.size + 1, 1, none⟩) (v := .int .i64 q) (by first | (go_keep; done) | (simp [go_sem, *]; done)) hb
  have k106_u2 := cell_keep (a := ⟨w.heap.size + 1, 2, none⟩) (v := .int .i64 r) (by first | (go_keep; done) | (simp [go_sem, *]; done)) hb
  have l106_u := World.block_lt_of_cell? _ _ k106_u0
  try simp only at l106_u
  have k106_t0 := cell_keep (a := ⟨w1.heap.size, 0, none⟩) (v := .int .i64 0) (by first | (go_keep; done) | (simp [go_sem, *]; done)) hb
  have k106_t1 := cell_keep (a := ⟨w1.heap.size, 1, none⟩) (v := .int .i64 0) (by first | (go_keep; done) | (simp [go_sem, *]; done)) hb
  have k106_t2 := cell_keep (a := ⟨w1.heap.size, 2, none⟩) (v := .int .i64 0) (by first | (go_keep; done) | (simp [go_sem, *]; done)) hb
  have l106_t := World.block_lt_of_cell? _ _ k106_t0
  try simp only at l106_t
  have k106_a0 := cell_keep (a := ⟨w3.heap.size, 0, none⟩) (v := .int .i64 0) (by first | (go_keep; done) | (simp [go_sem, *]; done)) hb
  have k106_a1 := cell_keep (a := ⟨w3.heap.size, 1, none⟩) (v := .int .i64 0) (by first | (go_keep; done) | (simp [go_sem, *]; done)) hb
  have k106_a2 := cell_keep (a := ⟨w3.heap.size, 2, none⟩) (v := .int .i64 0) (by first | (go_keep; done) | (simp [go_sem, *]; done)) hb
  have l106_a := World.block_lt_of_cell? _ _ k106_a0
  try simp only at l106_a
  have k106_x0 := cell_keep (a := ⟨w5.heap.size, 0, none⟩) (v := .int .i64 0) (by first | (go_keep; done) | (simp [go_sem, *]; done)) hb
  have k106_x1 := cell_keep (a := ⟨w5.heap.size, 1, none⟩) (v := .int .i64 0) (by first | (go_keep; done) | (simp [go_sem, *]; done)) hb
  have k106_x2 := cell_keep (a := ⟨w5.heap.size, 2, none⟩) (v := .int .i64 0) (by first | (go_keep; done) | (simp [go_sem, *]; done)) hb
  have l106_x := World.block_lt_of_cell? _ _ k106_x0
  try simp only at l106_x
  clear hb z0 z1 z2 z3 z4 z5 z6 z7 z8 z9 z10 z11 z12 z13 z14 lz_u lz_t lz_a lz_x zW
  go_wp2_with fail
  refine (E1.out _ (hT.below (by repeat (first | exact W106.out | refine blw_drewN ?_ _ | refine Below.setCell ?_ (by first | (simp; done) | omega | (simp; omega)) _ | refine Below.alloc ?_ (by first | (simp; done) | omega | (simp; omega)) _)))).mono ?_
  rintro e w107 ⟨rfl, hb⟩
  have W107 := Lib.hid (blw_trans (show Below w.heap.size w _ by repeat (first | exact W106.out | refine blw_drewN ?_ _ | refine Below.setCell ?_ (by first | (simp; done) | omega | (simp; omega)) _ | refine Below.alloc ?_ (by first | (simp; done) | omega | (simp; omega)) _)) hb)
  have n107 := hb.size
  try simp at n107
  have k107_u0 := cell_keep (a := ⟨w.heap.size + 1, 0, none⟩) (v := .int .i64 p) (by first | (go_keep; done) | (simp [go_sem, *]; done)) hb
  have k107_u1 := cell_keep (a := ⟨w.heap.size + 1, 1, none⟩) (v := .int .i64 q) (by first | (go_keep; done) | (simp [go_sem, *]; done)) hb
  have k107_u2 := cell_keep (a := ⟨w.heap.size + 1, 2, none⟩) (v := .int .i64 r) (by first | (go_keep; done) | (simp [go_sem, *]; done)) hb
  have l107_u := World.block_lt_of_cell? _ _ k107_u0
  try simp only at l107_u
  have k107_t0 := cell_keep (a := ⟨w1.heap.size, 0, none⟩) (v := .int .i64 0) (by first | (go_keep; done) | (simp [go_sem, *]; done)) hb
  have k107_t1 := cell_keep (a := ⟨w1.heap.size, 1, none⟩) (v := .int .i64 0) (by first | (go_keep; done) | (simp [go_sem, *]; done)) hb
  have k107_t2 := cell_keep (a := ⟨w1.heap.size, 2, none⟩) (v := .int .i64 0) (by first | (go_keep; done) | (simp [go_sem, *]; done)) hb
  have l107_t := World.block_lt_of_cell? _ _ k107_t0
  try simp only at l107_t
  have k107_a0 := cell_keep (a := ⟨w3.heap.size, 0, none⟩) (v := .int .i64 0) (by first | (go_keep; done) | (simp [go_sem, *]; done)) hb
  have k107_a1 := cell_keep (a := ⟨w3.heap.size, 1, none⟩) (v := .int .i64 0) (by first | (go_keep; done) | (simp [go_sem, *]; done)) hb
  have k107_a2 := cell_keep (a := ⟨w3.heap.size, 2, none⟩) (v := .int .i64 0) (by first | (go_keep; done) | (simp [go_sem, *]; done)) hb
  have l107_a := World.block_lt_of_cell? _ _ k107_a0
  try simp only at l107_a
  have k107_x0 := cell_keep (a := ⟨w5.heap.size, 0, none⟩) (v := .int .i64 0) (by first | (go_keep; done) | (simp [go_sem, *]; done)) hb
  have k107_x1 := cell_keep (a := ⟨w5.heap.size, 1, none⟩) (v := .int .i64 0) (by first | (go_keep; done) | (simp [go_sem, *]; done)) hb
  have k107_x2 := cell_keep (a := ⟨w5.heap.size, 2, none⟩) (v := .int .i64 0) (by first | (go_keep; done) | (simp [go_sem, *]; done)) hb
  have l107_x := World.block_lt_of_cell? _ _ k107_x0
  try simp only at l107_x
  have k107_b0 := cell_keep (a := ⟨w106.heap.size, 0, none⟩) (v := .int .i64 0) (by first | (go_keep; done) | (simp [go_sem, *]; done)) hb
  have k107_b1 := cell_keep (a := ⟨w106.heap.size, 1, none⟩) (v := .int .i64 0) (by first | (go_keep; done) | (simp [go_sem, *]; done)) hb
  have k107_b2 := cell_keep (a := ⟨w106.heap.size, 2, none⟩) (v := .int .i64 0) (by first | (go_keep; done) | (simp [go_sem, *]; done)) hb
  have l107_b := World.block_lt_of_cell? _ _ k107_b0
  try simp only at l107_b
  clear hb k106_u0 k106_u1 k106_u2 l106_u k106_t0 k106_t1 k106_t2 l106_t k106_a0 k106_a1 k106_a2 l106_a k106_x0 k106_x1 k106_x2 l106_x W106
  go_wp2_with fail
  refine (CT.out _ (hT.below (by repeat (first | exact W107.out | refine blw_drewN ?_ _ | refine Below.setCell ?_ (by first | (simp; done) | omega | (simp; omega)) _ | refine Below.alloc ?_ (by first | (simp; done) | omega | (simp; omega)) _)))).mono ?_
  rintro e w108 ⟨rfl, hb⟩
  have W108 := Lib.hid (blw_trans (show Below w.heap.size w _ by repeat (first | exact W107.out | refine blw_drewN ?_ _ | refine Below.setCell ?_ (by first | (simp; done) | omega | (simp; omega)) _ | refine Below.alloc ?_ (by first | (simp; done) | omega | (simp; omega)) _)) hb)
  have n108 := hb.size
  try simp at n108
  have k108_u0 := cell_keep (a := ⟨w.heap.size + 1, 0, none⟩) (v := .int .i64 p) (by first | (go_keep; done) | (simp [go_sem, *]; done)) hb
  have k108_u1 := cell_keep (a := ⟨w.heap.size + 1, 1, none⟩) (v := .int .i64 q) (by first | (go_keep; done) | (simp [go_sem, *]; done)) hb
  have k108_u2 := cell_keep (a := ⟨w.heap.size + 1, 2, none⟩) (v := .int .i64 r) (by first | (go_keep; done) | (simp [go_sem, *]; done)) hb
  have l108_u := World.block_lt_of_cell? _ _ k108_u0
  try simp only at l108_u
  have k108_t0 := cell_keep (a := ⟨w1.heap.size, 0, none⟩) (v := .int .i64 0) (by first | (go_keep; done) | (simp [go_sem, *]; done)) hb
  have k108_t1 := cell_keep (a := ⟨w1.heap.size, 1, none⟩) (v := .int .i64 0) (by first | (go_keep; done) | (simp [go_sem, *]; done)) hb
  have k108_t2 := cell_keep (a := ⟨w1.heap.size, 2, none⟩) (v := .int .i64 0) (by first | (go_keep; done) | (simp [go_sem, *]; done)) hb
  have l108_t := World.block_lt_of_cell? _ _ k108_t0
  try simp only at l108_t
  have k108_a0 := cell_keep (a := ⟨w3.heap.size, 0, none⟩) (v := .int .i64 0) (by first | (go_keep; done) | (simp [go_sem, *]; done)) hb
  have k108_a1 := cell_keep (a := ⟨w3.heap.size, 1, none⟩) (v := .int .i64 0) (by first | (go_keep; done) | (simp [go_sem, *]; done)) hb
  have k108_a2 := cell_keep (a := ⟨w3.heap.size, 2, none⟩) (v := .int .i64 0) (by first | (go_keep; done) | (simp [go_sem, *]; done)) hb
  have l108_a := World.block_lt_of_cell? _ _ k108_a0
  try simp only at l108_a
  have k108_x0 := cell_keep (a := ⟨w5.heap.size, 0, none⟩) (v := .int .i64 0) (by first | (go_keep; done) | (simp [go_sem, *]; done)) hb
  have k108_x1 := cell_keep (a := ⟨w5.heap.size, 1, none⟩) (v := .int .i64 0) (by first | (go_keep; done) | (simp [go_sem, *]; done)) hb
  have k108_x2 := cell_keep (a := ⟨w5.heap.size, 2, none⟩) (v := .int .i64 0) (by first | (go_keep; done) | (simp [go_sem, *]; done)) hb
  have l108_x := World.block_lt_of_cell? _ _ k108_x0
  try simp only at l108_x
  have k108_b0 := cell_keep (a := ⟨w106.heap.size, 0, none⟩) (v := .int .i64 0) (by first | (go_keep; done) | (simp [go_sem, *]; done)) hb
  have k108_b1 := cell_keep (a := ⟨w106.heap.size, 1, none⟩) (v := .int .i64 0) (by first | (go_keep; done) | (simp [go_sem, *]; done)) hb
  have k108_b2 := cell_keep (a := ⟨w106.heap.size, 2, none⟩) (v := .int .i64 0) (by first | (go_keep; done) | (simp [go_sem, *]; done)) hb
  have l108_b := World.block_lt_of_cell? _ _ k108_b0
  try simp only at l108_b
  clear hb k107_u0 k107_u1 k107_u2 l107_u k107_t0 k107_t1 k107_t2 l107_t k107_a0 k107_a1 k107_a2 l107_a k107_x0 k107_x1 k107_x2 l107_x k107_b0 k107_b1 k107_b2 l107_b W107
  go_wp2_with fail
  refine (E1.out _ (hT.below (by repeat (first | exact W108.out | refine blw_drewN ?_ _ | refine Below.setCell ?_ (by first | (simp; done) | omega | (simp; omega)) _ | refine Below.alloc ?_ (by first | (simp; done) | omega | (simp; omega)) _)))).mono ?_
  rintro e w109 ⟨rfl, hb⟩
  have W109 := Lib.hid (blw_trans (show Below w.heap.size w _ by repeat (first | exact W108.out | refine blw_drewN ?_ _ | refine Below.setCell ?_ (by first | (simp; done) | omega | (simp; omega)) _ | refine Below.alloc ?_ (by first | (simp; done) | omega | (simp; omega)) _)) hb)
  have n109 := hb.size
  try simp at n109
  have k109_t0 := cell_keep (a := ⟨w1.heap.size, 0, none⟩) (v := .int .i64 0) (by first | (go_keep; done) | (simp [go_sem, *]; done)) hb
  have k109_t1 := cell_keep (a := ⟨w1.heap.size, 1, none⟩) (v := .int .i64 0) (by first | (go_keep; done) | (simp [go_sem, *]; done)) hb
  have k109_t2 := cell_keep (a := ⟨w1.heap.size, 2, none⟩) (v := .int .i64 0) (by first | (go_keep; done) | (simp [go_sem, *]; done)) hb
  have l109_t := World.block_lt_of_cell? _ _ k109_t0
  try simp only at l109_t
  have k109_a0 := cell_keep (a := ⟨w3.heap.size, 0, none⟩) (v := .int .i64 0) (by first | (go_keep; done) | (simp [go_sem, *]; done)) hb
  have k109_a1 := cell_keep (a := ⟨w3.heap.size, 1, none⟩) (v := .int .i64 0) (by first | (go_keep; done) | (simp [go_sem, *]; done)) hb
  have k109_a2 := cell_keep (a := ⟨w3.heap.size, 2, none⟩) (v := .int .i64 0) (by first | (go_keep; done) | (simp [go_sem, *]; done)) hb
  have l109_a := World.block_lt_of_cell? _ _ k109_a0
  try simp only at l109_a
  have k109_x0 := cell_keep (a := ⟨w5.heap.size, 0, none⟩) (v := .int .i64 0) (by first | (go_keep; done) | (simp [go_sem, *]; done)) hb
  have k109_x1 := cell_keep (a := ⟨w5.heap.size, 1, none⟩) (v := .int .i64 0) (by first | (go_keep; done) | (simp [go_sem, *]; done)) hb
  have k109_x2 := cell_keep (a := ⟨w5.heap.size, 2, none⟩) (v := .int .i64 0) (by first | (go_keep; done) | (simp [go_sem, *]; done)) hb
  have l109_x := World.block_lt_of_cell? _ _ k109_x0
  try simp only at l109_x
  have k109_b0 := cell_keep (a := ⟨w106.heap.size, 0, none⟩) (v := .int .i64 0) (by first | (go_keep; done) | (simp [go_sem, *]; done)) hb
  have k109_b1 := cell_keep (a := ⟨w106.heap.size, 1, none⟩) (v := .int .i64 0) (by first | (go_keep; done) | (simp [go_sem, *]; done)) hb
  have k109_b2 := cell_keep (a := ⟨w106.heap.size, 2, none⟩) (v := .int .i64 0) (by first | (go_keep; done) | (simp [go_sem, *]; done)) hb
  have l109_b := World.block_lt_of_cell? _ _ k109_b0
  try simp only at l109_b
  clear hb k108_u0 k108_u1 k108_u2 l108_u k108_t0 k108_t1 k108_t2 l108_t k108_a0 k108_a1 k108_a2 l108_a k108_x0 k108_x1 k108_x2 l108_x k108_b0 k108_b1 k108_b2 l108_b W108
  go_wp2_with fail
  refine (CN.out _).mono ?_
  rintro e w' ⟨rfl, rfl⟩
  go_wp2_with fail
  refine (E1.out _ (hT.below (by repeat (first | exact W109.out | refine blw_drewN ?_ _ | refine Below.setCell ?_ (by first | (simp; done) | omega | (simp; omega)) _ | refine Below.alloc ?_ (by first | (simp; done) | omega | (simp; omega)) _)))).mono ?_
  rintro e w110 ⟨rfl, hb⟩
  have W110 := Lib.hid (blw_trans (show Below w.heap.size w _ by repeat (first | exact W109.out | refine blw_drewN ?_ _ | refine Below.setCell ?_ (by first | (simp; done) | omega | (simp; omega)) _ | refine Below.alloc ?_ (by first | (simp; done) | omega | (simp; omega)) _)) hb)
  have n110 := hb.size
  try simp at n110
  have k110_t0 := cell_keep (a := ⟨w1.heap.size, 0, none⟩) (v := .int .i64 0) (by first | (go_keep; done) | (simp [go_sem, *]; done)) hb
  have k110_t1 := cell_keep (a := ⟨w1.heap.size, 1, none⟩) (v := .int .i64 0) (by first | (go_keep; done) | (simp [go_sem, *]; done)) hb
  have k110_t2 := cell_keep (a := ⟨w1.heap.size, 2, none⟩) (v := .int .i64 0) (by first | (go_keep; done) | (simp [go_sem, *]; done)) hb
  have l110_t := World.block_lt_of_cell? _ _ k110_t0
  try simp only at l110_t
  have k110_a0 := cell_keep (a := ⟨w3.heap.size, 0, none⟩) (v := .int .i64 0) (by first | (go_keep; done) | (simp [go_sem, *]; done)) hb
  have k110_a1 := cell_keep (a := ⟨w3.heap.size, 1, none⟩) (v := .int .i64 0) (by first | (go_keep; done) | (simp [go_sem, *]; done)) hb
  have k110_a2 := cell_keep (a := ⟨w3.heap.size, 2, none⟩) (v := .int .i64 0) (by first | (go_keep; done) | (simp [go_sem, *]; done)) hb
  have l110_a := World.block_lt_of_cell? _ _ k110_a0
  try simp only at l110_a
  have k110_x0 := cell_keep (a := ⟨w5.heap.size, 0, none⟩) (v := .int .i64 0) (by first | (go_keep; done) | (simp [go_sem, *]; done)) hb
  have k110_x1 := cell_keep (a := ⟨w5.heap.size, 1, none⟩) (v := .int .i64 0) (by first | (go_keep; done) | (simp [go_sem, *]; done)) hb
  have k110_x2 := cell_keep (a := ⟨w5.heap.size, 2, none⟩) (v := .int .i64 0) (by first | (go_keep; done) | (simp [go_sem, *]; done)) hb
  have l110_x := World.block_lt_of_cell? _ _ k110_x0
  try simp only at l110_x
  have k110_b0 := cell_keep (a := ⟨w106.heap.size, 0, none⟩) (v := .int .i64 0) (by first | (go_keep; done) | (simp [go_sem, *]; done)) hb
  have k110_b1 := cell_keep (a := ⟨w106.heap.size, 1, none⟩) (v := .int .i64 0) (by first | (go_keep; done) | (simp [go_sem, *]; done)) hb
  have k110_b2 := cell_keep (a := ⟨w106.heap.size, 2, none⟩) (v := .int .i64 0) (by first | (go_keep; done) | (simp [go_sem, *]; done)) hb
  have l110_b := World.block_lt_of_cell? _ _ k110_b0
  try simp only at l110_b
  clear hb k109_t0 k109_t1 k109_t2 l109_t k109_a0 k109_a1 k109_a2 l109_a k109_x0 k109_x1 k109_x2 l109_x k109_b0 k109_b1 k109_b2 l109_b W109
  go_wp2
  go_ret
  exact ⟨ret_bool (by simp), by repeat (first | exact W110.out | refine blw_drewN ?_ _ | refine Below.setCell ?_ (by first | (simp; done) | omega | (simp; omega)) _ | refine Below.alloc ?_ (by first | (simp; done) | omega | (simp; omega)) _)⟩
end Go.Proofs.YtdcemkfljhdceaaDoor
