/- The walk of the law DateCycle: it returns true of whatever two days. -/
import Derived.Test.YthanbfimeolidaaDoorDated
import Derived.Test.YthanbfimeolidaaDoorDateTxt
import Derived.Test.YthanbfimeolidaaDoorDcyP
namespace Go.Proofs.YthanbfimeolidaaDoor
open Go.RowKit

structure DP (w : World) : Prop where
  t : TabW w
  p : PowW w
theorem DP.below {w w' : World} (h : DP w) (hb : Below w.heap.size w w') : DP w' := ⟨h.t.below hb, h.p.below hb⟩
theorem DP.alloc {w : World} (h : DP w) (o : Obj) : DP (w.alloc o) := h.below (blw_alloc w o)

set_option maxRecDepth 100000 in
set_option maxHeartbeats 2000000 in
theorem dateCycle_no (y m d y' m' d' : Int) (w : World) (hT : DP w) (h : ¬ Cal.vld y m d) :
    Calls Tryd.prog 3 #[.agg #[.int .i64 y, .int .i64 m, .int .i64 d], .agg #[.int .i64 y', .int .i64 m', .int .i64 d']] w fun e w' => e = .returned (.bool true) ∧ Below w.heap.size w w' := by
  have C1 := Lib.hid fun w (hT : DP w) => number_no y m d w h hT.t
  clear h
  have C0 := Lib.hid fun w (hT : DP w) => dated_any w hT.t
  go_enter Tryd.func3, Tryd.ntmps3
  go_wp2_with fail
  refine (C0.out _ (by exact ((hT.alloc _).alloc _))).mono ?_
  rintro e w1 ⟨rfl, hb⟩
  have T1 := ((hT.alloc _).alloc _).below hb
  have B1_d := Boxed.below (Boxed.alloc (Boxed.made _ #[.int .i64 y, .int .i64 m, .int .i64 d] 23) _) hb
  have B1_c := Boxed.below (Boxed.made _ #[.int .i64 y', .int .i64 m', .int .i64 d'] 23) hb
  have W1 := Lib.hid (blw_trans (blw_trans (blw_trans (Below.refl w.heap.size w) (blw_alloc _ _)) (blw_alloc _ _)) hb)
  clear hb 
  have kd0 := B1_d.cell 0 _ rfl
  have kd1 := B1_d.cell 1 _ rfl
  have kd2 := B1_d.cell 2 _ rfl
  have kdl := B1_d.lt
  try simp at kd0 kd1 kd2 kdl
  have kc0 := B1_c.cell 0 _ rfl
  have kc1 := B1_c.cell 1 _ rfl
  have kc2 := B1_c.cell 2 _ rfl
  have kcl := B1_c.lt
  try simp at kc0 kc1 kc2 kcl
  go_wp2_with fail
  refine (C1.out _ (by exact T1)).mono ?_
  rintro e w2 ⟨rfl, hb⟩
  clear kd0 kd1 kd2 kdl kc0 kc1 kc2 kcl
  have T2 := T1.below hb
  have B2_d := B1_d.below hb
  have B2_c := B1_c.below hb
  have W2 := Lib.hid (blw_trans W1.out hb)
  clear hb T1 B1_d B1_c W1
  clear T2 B2_d B2_c
  go_wp2
  go_ret
  exact ⟨ret_bool (by simp), W2.out⟩

set_option maxRecDepth 100000 in
set_option maxHeartbeats 2000000 in
theorem dateCycle_uy0 (y m d y' m' d' : Int) (w : World) (hT : DP w) (n k : Int) (S T : List UInt8) (HB : Op.bytesLess S T = decide (n < k)) (Y : Int) (y0 : 1 ≤ y) (y1 : y ≤ 9999) (Y0 : 0 ≤ Y) (Y1 : Y ≤ 3652425) (n0 : Y ≤ n) (n1 : n ≤ Y + 364) (g : ¬ 9599 < y)
    (C1 : Hid (∀ w : World, DP w → Calls Tryd.prog 9 #[.agg #[.int .i64 y, .int .i64 m, .int .i64 d]] w fun e w' => e = .returned (.tuple #[.int .i64 n, .nilIface]) ∧ Below w.heap.size w w'))
    (C2 : Hid (∀ w : World, DP w → Calls Tryd.prog 9 #[.agg #[.int .i64 (y + 400), .int .i64 m, .int .i64 d]] w fun e w' => e = .returned (.tuple #[.int .i64 (n + 146097), .nilIface]) ∧ Below w.heap.size w w'))
    (C3 : Hid (∀ w : World, DP w → Calls Tryd.prog 9 #[.agg #[.int .i64 y, .int .i64 1, .int .i64 1]] w fun e w' => e = .returned (.tuple #[.int .i64 Y, .nilIface]) ∧ Below w.heap.size w w'))
    (C4 : Hid (∀ w : World, DP w → Calls Tryd.prog 9 #[.agg #[.int .i64 y, .int .i64 12, .int .i64 31]] w fun e w' => e = .returned (.tuple #[.int .i64 (Y + 364), .nilIface]) ∧ Below w.heap.size w w'))
    (C5 : Hid (∀ w : World, DP w → Calls Tryd.prog 9 #[.agg #[.int .i64 y', .int .i64 m', .int .i64 d']] w fun e w' => e = .returned (.tuple #[.int .i64 k, .nilIface]) ∧ Below w.heap.size w w'))
    (C6 : Hid (∀ w : World, DP w → Calls Tryd.prog 10 #[.agg #[.int .i64 y, .int .i64 m, .int .i64 d]] w fun e w' => e = .returned (.tuple #[.string ⟨S.toArray⟩, .nilIface]) ∧ Below w.heap.size w w'))
    (C7 : Hid (∀ w : World, DP w → Calls Tryd.prog 10 #[.agg #[.int .i64 y', .int .i64 m', .int .i64 d']] w fun e w' => e = .returned (.tuple #[.string ⟨T.toArray⟩, .nilIface]) ∧ Below w.heap.size w w')) :
    Calls Tryd.prog 3 #[.agg #[.int .i64 y, .int .i64 m, .int .i64 d], .agg #[.int .i64 y', .int .i64 m', .int .i64 d']] w fun e w' => e = .returned (.bool true) ∧ Below w.heap.size w w' := by
  have E : Y + 364 - Y = 364 := by omega
  have yk := And.intro Y0 Y1
  have g2 : decide (y ≤ 9599) = true := dec_yes (by omega)
  have HB' := Lib.hid HB
  clear HB
  have C0 := Lib.hid fun w (hT : DP w) => dated_any w hT.t
  go_enter Tryd.func3, Tryd.ntmps3
  go_wp2_with fail
  refine (C0.out _ (by exact ((hT.alloc _).alloc _))).mono ?_
  rintro e w1 ⟨rfl, hb⟩
  have T1 := ((hT.alloc _).alloc _).below hb
  have B1_d := Boxed.below (Boxed.alloc (Boxed.made _ #[.int .i64 y, .int .i64 m, .int .i64 d] 23) _) hb
  have B1_c := Boxed.below (Boxed.made _ #[.int .i64 y', .int .i64 m', .int .i64 d'] 23) hb
  have W1 := Lib.hid (blw_trans (blw_trans (blw_trans (Below.refl w.heap.size w) (blw_alloc _ _)) (blw_alloc _ _)) hb)
  clear hb 
  have kd0 := B1_d.cell 0 _ rfl
  have kd1 := B1_d.cell 1 _ rfl
  have kd2 := B1_d.cell 2 _ rfl
  have kdl := B1_d.lt
  try simp at kd0 kd1 kd2 kdl
  have kc0 := B1_c.cell 0 _ rfl
  have kc1 := B1_c.cell 1 _ rfl
  have kc2 := B1_c.cell 2 _ rfl
  have kcl := B1_c.lt
  try simp at kc0 kc1 kc2 kcl
  go_wp2_with fail
  refine (C1.out _ (by exact T1)).mono ?_
  rintro e w2 ⟨rfl, hb⟩
  clear kd0 kd1 kd2 kdl kc0 kc1 kc2 kcl
  have T2 := T1.below hb
  have B2_d := B1_d.below hb
  have B2_c := B1_c.below hb
  have W2 := Lib.hid (blw_trans W1.out hb)
  clear hb T1 B1_d B1_c W1
  have kd0 := B2_d.cell 0 _ rfl
  have kd1 := B2_d.cell 1 _ rfl
  have kd2 := B2_d.cell 2 _ rfl
  have kdl := B2_d.lt
  try simp at kd0 kd1 kd2 kdl
  have kc0 := B2_c.cell 0 _ rfl
  have kc1 := B2_c.cell 1 _ rfl
  have kc2 := B2_c.cell 2 _ rfl
  have kcl := B2_c.lt
  try simp at kc0 kc1 kc2 kcl
  go_wp2_with fail
  refine (C2.out _ (by exact T2)).mono ?_
  rintro e w3 ⟨rfl, hb⟩
  clear kd0 kd1 kd2 kdl kc0 kc1 kc2 kcl
  have T3 := T2.below hb
  have B3_d := B2_d.below hb
  have B3_c := B2_c.below hb
  have W3 := Lib.hid (blw_trans W2.out hb)
  clear hb T2 B2_d B2_c W2
  have kd0 := B3_d.cell 0 _ rfl
  have kd1 := B3_d.cell 1 _ rfl
  have kd2 := B3_d.cell 2 _ rfl
  have kdl := B3_d.lt
  try simp at kd0 kd1 kd2 kdl
  have kc0 := B3_c.cell 0 _ rfl
  have kc1 := B3_c.cell 1 _ rfl
  have kc2 := B3_c.cell 2 _ rfl
  have kcl := B3_c.lt
  try simp at kc0 kc1 kc2 kcl
  go_wp2_with fail
  refine (C3.out _ (by exact T3)).mono ?_
  rintro e w4 ⟨rfl, hb⟩
  clear kd0 kd1 kd2 kdl kc0 kc1 kc2 kcl
  have T4 := T3.below hb
  have B4_d := B3_d.below hb
  have B4_c := B3_c.below hb
  have W4 := Lib.hid (blw_trans W3.out hb)
  clear hb T3 B3_d B3_c W3
  have kd0 := B4_d.cell 0 _ rfl
  have kd1 := B4_d.cell 1 _ rfl
  have kd2 := B4_d.cell 2 _ rfl
  have kdl := B4_d.lt
  try simp at kd0 kd1 kd2 kdl
  have kc0 := B4_c.cell 0 _ rfl
  have kc1 := B4_c.cell 1 _ rfl
  have kc2 := B4_c.cell 2 _ rfl
  have kcl := B4_c.lt
  try simp at kc0 kc1 kc2 kcl
  go_wp2_with fail
  refine (C4.out _ (by exact T4)).mono ?_
  rintro e w5 ⟨rfl, hb⟩
  clear kd0 kd1 kd2 kdl kc0 kc1 kc2 kcl
  have T5 := T4.below hb
  have B5_d := B4_d.below hb
  have B5_c := B4_c.below hb
  have W5 := Lib.hid (blw_trans W4.out hb)
  clear hb T4 B4_d B4_c W4
  have kd0 := B5_d.cell 0 _ rfl
  have kd1 := B5_d.cell 1 _ rfl
  have kd2 := B5_d.cell 2 _ rfl
  have kdl := B5_d.lt
  try simp at kd0 kd1 kd2 kdl
  have kc0 := B5_c.cell 0 _ rfl
  have kc1 := B5_c.cell 1 _ rfl
  have kc2 := B5_c.cell 2 _ rfl
  have kcl := B5_c.lt
  try simp at kc0 kc1 kc2 kcl
  go_wp2_with fail
  refine (C5.out _ (by exact T5)).mono ?_
  rintro e w6 ⟨rfl, hb⟩
  clear kd0 kd1 kd2 kdl kc0 kc1 kc2 kcl
  have T6 := T5.below hb
  have B6_d := B5_d.below hb
  have B6_c := B5_c.below hb
  have W6 := Lib.hid (blw_trans W5.out hb)
  clear hb T5 B5_d B5_c W5
  have kd0 := B6_d.cell 0 _ rfl
  have kd1 := B6_d.cell 1 _ rfl
  have kd2 := B6_d.cell 2 _ rfl
  have kdl := B6_d.lt
  try simp at kd0 kd1 kd2 kdl
  have kc0 := B6_c.cell 0 _ rfl
  have kc1 := B6_c.cell 1 _ rfl
  have kc2 := B6_c.cell 2 _ rfl
  have kcl := B6_c.lt
  try simp at kc0 kc1 kc2 kcl
  go_wp2_with fail
  refine (C6.out _ (by exact T6)).mono ?_
  rintro e w7 ⟨rfl, hb⟩
  clear kd0 kd1 kd2 kdl kc0 kc1 kc2 kcl
  have T7 := T6.below hb
  have B7_d := B6_d.below hb
  have B7_c := B6_c.below hb
  have W7 := Lib.hid (blw_trans W6.out hb)
  clear hb T6 B6_d B6_c W6
  have kd0 := B7_d.cell 0 _ rfl
  have kd1 := B7_d.cell 1 _ rfl
  have kd2 := B7_d.cell 2 _ rfl
  have kdl := B7_d.lt
  try simp at kd0 kd1 kd2 kdl
  have kc0 := B7_c.cell 0 _ rfl
  have kc1 := B7_c.cell 1 _ rfl
  have kc2 := B7_c.cell 2 _ rfl
  have kcl := B7_c.lt
  try simp at kc0 kc1 kc2 kcl
  go_wp2_with fail
  refine (C7.out _ (by exact T7)).mono ?_
  rintro e w8 ⟨rfl, hb⟩
  clear kd0 kd1 kd2 kdl kc0 kc1 kc2 kcl
  have T8 := T7.below hb
  have B8_d := B7_d.below hb
  have B8_c := B7_c.below hb
  have W8 := Lib.hid (blw_trans W7.out hb)
  clear hb T7 B7_d B7_c W7
  have HB2 := HB'.out
  clear T8 B8_d B8_c
  go_wp2
  go_ret
  exact ⟨ret_bool (by simp), W8.out⟩

set_option maxRecDepth 100000 in
set_option maxHeartbeats 2000000 in
theorem dateCycle_uy1 (y m d y' m' d' : Int) (w : World) (hT : DP w) (n k : Int) (S T : List UInt8) (HB : Op.bytesLess S T = decide (n < k)) (Y : Int) (y0 : 1 ≤ y) (y1 : y ≤ 9999) (Y0 : 0 ≤ Y) (Y1 : Y ≤ 3652425) (n0 : Y ≤ n) (n1 : n ≤ Y + 365) (g : ¬ 9599 < y)
    (C1 : Hid (∀ w : World, DP w → Calls Tryd.prog 9 #[.agg #[.int .i64 y, .int .i64 m, .int .i64 d]] w fun e w' => e = .returned (.tuple #[.int .i64 n, .nilIface]) ∧ Below w.heap.size w w'))
    (C2 : Hid (∀ w : World, DP w → Calls Tryd.prog 9 #[.agg #[.int .i64 (y + 400), .int .i64 m, .int .i64 d]] w fun e w' => e = .returned (.tuple #[.int .i64 (n + 146097), .nilIface]) ∧ Below w.heap.size w w'))
    (C3 : Hid (∀ w : World, DP w → Calls Tryd.prog 9 #[.agg #[.int .i64 y, .int .i64 1, .int .i64 1]] w fun e w' => e = .returned (.tuple #[.int .i64 Y, .nilIface]) ∧ Below w.heap.size w w'))
    (C4 : Hid (∀ w : World, DP w → Calls Tryd.prog 9 #[.agg #[.int .i64 y, .int .i64 12, .int .i64 31]] w fun e w' => e = .returned (.tuple #[.int .i64 (Y + 365), .nilIface]) ∧ Below w.heap.size w w'))
    (C5 : Hid (∀ w : World, DP w → Calls Tryd.prog 9 #[.agg #[.int .i64 y', .int .i64 m', .int .i64 d']] w fun e w' => e = .returned (.tuple #[.int .i64 k, .nilIface]) ∧ Below w.heap.size w w'))
    (C6 : Hid (∀ w : World, DP w → Calls Tryd.prog 10 #[.agg #[.int .i64 y, .int .i64 m, .int .i64 d]] w fun e w' => e = .returned (.tuple #[.string ⟨S.toArray⟩, .nilIface]) ∧ Below w.heap.size w w'))
    (C7 : Hid (∀ w : World, DP w → Calls Tryd.prog 10 #[.agg #[.int .i64 y', .int .i64 m', .int .i64 d']] w fun e w' => e = .returned (.tuple #[.string ⟨T.toArray⟩, .nilIface]) ∧ Below w.heap.size w w')) :
    Calls Tryd.prog 3 #[.agg #[.int .i64 y, .int .i64 m, .int .i64 d], .agg #[.int .i64 y', .int .i64 m', .int .i64 d']] w fun e w' => e = .returned (.bool true) ∧ Below w.heap.size w w' := by
  have E : Y + 365 - Y = 365 := by omega
  have yk := And.intro Y0 Y1
  have g2 : decide (y ≤ 9599) = true := dec_yes (by omega)
  have HB' := Lib.hid HB
  clear HB
  have C0 := Lib.hid fun w (hT : DP w) => dated_any w hT.t
  go_enter Tryd.func3, Tryd.ntmps3
  go_wp2_with fail
  refine (C0.out _ (by exact ((hT.alloc _).alloc _))).mono ?_
  rintro e w1 ⟨rfl, hb⟩
  have T1 := ((hT.alloc _).alloc _).below hb
  have B1_d := Boxed.below (Boxed.alloc (Boxed.made _ #[.int .i64 y, .int .i64 m, .int .i64 d] 23) _) hb
  have B1_c := Boxed.below (Boxed.made _ #[.int .i64 y', .int .i64 m', .int .i64 d'] 23) hb
  have W1 := Lib.hid (blw_trans (blw_trans (blw_trans (Below.refl w.heap.size w) (blw_alloc _ _)) (blw_alloc _ _)) hb)
  clear hb 
  have kd0 := B1_d.cell 0 _ rfl
  have kd1 := B1_d.cell 1 _ rfl
  have kd2 := B1_d.cell 2 _ rfl
  have kdl := B1_d.lt
  try simp at kd0 kd1 kd2 kdl
  have kc0 := B1_c.cell 0 _ rfl
  have kc1 := B1_c.cell 1 _ rfl
  have kc2 := B1_c.cell 2 _ rfl
  have kcl := B1_c.lt
  try simp at kc0 kc1 kc2 kcl
  go_wp2_with fail
  refine (C1.out _ (by exact T1)).mono ?_
  rintro e w2 ⟨rfl, hb⟩
  clear kd0 kd1 kd2 kdl kc0 kc1 kc2 kcl
  have T2 := T1.below hb
  have B2_d := B1_d.below hb
  have B2_c := B1_c.below hb
  have W2 := Lib.hid (blw_trans W1.out hb)
  clear hb T1 B1_d B1_c W1
  have kd0 := B2_d.cell 0 _ rfl
  have kd1 := B2_d.cell 1 _ rfl
  have kd2 := B2_d.cell 2 _ rfl
  have kdl := B2_d.lt
  try simp at kd0 kd1 kd2 kdl
  have kc0 := B2_c.cell 0 _ rfl
  have kc1 := B2_c.cell 1 _ rfl
  have kc2 := B2_c.cell 2 _ rfl
  have kcl := B2_c.lt
  try simp at kc0 kc1 kc2 kcl
  go_wp2_with fail
  refine (C2.out _ (by exact T2)).mono ?_
  rintro e w3 ⟨rfl, hb⟩
  clear kd0 kd1 kd2 kdl kc0 kc1 kc2 kcl
  have T3 := T2.below hb
  have B3_d := B2_d.below hb
  have B3_c := B2_c.below hb
  have W3 := Lib.hid (blw_trans W2.out hb)
  clear hb T2 B2_d B2_c W2
  have kd0 := B3_d.cell 0 _ rfl
  have kd1 := B3_d.cell 1 _ rfl
  have kd2 := B3_d.cell 2 _ rfl
  have kdl := B3_d.lt
  try simp at kd0 kd1 kd2 kdl
  have kc0 := B3_c.cell 0 _ rfl
  have kc1 := B3_c.cell 1 _ rfl
  have kc2 := B3_c.cell 2 _ rfl
  have kcl := B3_c.lt
  try simp at kc0 kc1 kc2 kcl
  go_wp2_with fail
  refine (C3.out _ (by exact T3)).mono ?_
  rintro e w4 ⟨rfl, hb⟩
  clear kd0 kd1 kd2 kdl kc0 kc1 kc2 kcl
  have T4 := T3.below hb
  have B4_d := B3_d.below hb
  have B4_c := B3_c.below hb
  have W4 := Lib.hid (blw_trans W3.out hb)
  clear hb T3 B3_d B3_c W3
  have kd0 := B4_d.cell 0 _ rfl
  have kd1 := B4_d.cell 1 _ rfl
  have kd2 := B4_d.cell 2 _ rfl
  have kdl := B4_d.lt
  try simp at kd0 kd1 kd2 kdl
  have kc0 := B4_c.cell 0 _ rfl
  have kc1 := B4_c.cell 1 _ rfl
  have kc2 := B4_c.cell 2 _ rfl
  have kcl := B4_c.lt
  try simp at kc0 kc1 kc2 kcl
  go_wp2_with fail
  refine (C4.out _ (by exact T4)).mono ?_
  rintro e w5 ⟨rfl, hb⟩
  clear kd0 kd1 kd2 kdl kc0 kc1 kc2 kcl
  have T5 := T4.below hb
  have B5_d := B4_d.below hb
  have B5_c := B4_c.below hb
  have W5 := Lib.hid (blw_trans W4.out hb)
  clear hb T4 B4_d B4_c W4
  have kd0 := B5_d.cell 0 _ rfl
  have kd1 := B5_d.cell 1 _ rfl
  have kd2 := B5_d.cell 2 _ rfl
  have kdl := B5_d.lt
  try simp at kd0 kd1 kd2 kdl
  have kc0 := B5_c.cell 0 _ rfl
  have kc1 := B5_c.cell 1 _ rfl
  have kc2 := B5_c.cell 2 _ rfl
  have kcl := B5_c.lt
  try simp at kc0 kc1 kc2 kcl
  go_wp2_with fail
  refine (C5.out _ (by exact T5)).mono ?_
  rintro e w6 ⟨rfl, hb⟩
  clear kd0 kd1 kd2 kdl kc0 kc1 kc2 kcl
  have T6 := T5.below hb
  have B6_d := B5_d.below hb
  have B6_c := B5_c.below hb
  have W6 := Lib.hid (blw_trans W5.out hb)
  clear hb T5 B5_d B5_c W5
  have kd0 := B6_d.cell 0 _ rfl
  have kd1 := B6_d.cell 1 _ rfl
  have kd2 := B6_d.cell 2 _ rfl
  have kdl := B6_d.lt
  try simp at kd0 kd1 kd2 kdl
  have kc0 := B6_c.cell 0 _ rfl
  have kc1 := B6_c.cell 1 _ rfl
  have kc2 := B6_c.cell 2 _ rfl
  have kcl := B6_c.lt
  try simp at kc0 kc1 kc2 kcl
  go_wp2_with fail
  refine (C6.out _ (by exact T6)).mono ?_
  rintro e w7 ⟨rfl, hb⟩
  clear kd0 kd1 kd2 kdl kc0 kc1 kc2 kcl
  have T7 := T6.below hb
  have B7_d := B6_d.below hb
  have B7_c := B6_c.below hb
  have W7 := Lib.hid (blw_trans W6.out hb)
  clear hb T6 B6_d B6_c W6
  have kd0 := B7_d.cell 0 _ rfl
  have kd1 := B7_d.cell 1 _ rfl
  have kd2 := B7_d.cell 2 _ rfl
  have kdl := B7_d.lt
  try simp at kd0 kd1 kd2 kdl
  have kc0 := B7_c.cell 0 _ rfl
  have kc1 := B7_c.cell 1 _ rfl
  have kc2 := B7_c.cell 2 _ rfl
  have kcl := B7_c.lt
  try simp at kc0 kc1 kc2 kcl
  go_wp2_with fail
  refine (C7.out _ (by exact T7)).mono ?_
  rintro e w8 ⟨rfl, hb⟩
  clear kd0 kd1 kd2 kdl kc0 kc1 kc2 kcl
  have T8 := T7.below hb
  have B8_d := B7_d.below hb
  have B8_c := B7_c.below hb
  have W8 := Lib.hid (blw_trans W7.out hb)
  clear hb T7 B7_d B7_c W7
  have HB2 := HB'.out
  clear T8 B8_d B8_c
  go_wp2
  go_ret
  exact ⟨ret_bool (by simp), W8.out⟩

set_option maxRecDepth 100000 in
set_option maxHeartbeats 2000000 in
theorem dateCycle_un0 (y m d y' m' d' : Int) (w : World) (hT : DP w) (n Y : Int) (y0 : 1 ≤ y) (y1 : y ≤ 9999) (Y0 : 0 ≤ Y) (Y1 : Y ≤ 3652425) (n0 : Y ≤ n) (n1 : n ≤ Y + 364) (g : ¬ 9599 < y)
    (C1 : Hid (∀ w : World, DP w → Calls Tryd.prog 9 #[.agg #[.int .i64 y, .int .i64 m, .int .i64 d]] w fun e w' => e = .returned (.tuple #[.int .i64 n, .nilIface]) ∧ Below w.heap.size w w'))
    (C2 : Hid (∀ w : World, DP w → Calls Tryd.prog 9 #[.agg #[.int .i64 (y + 400), .int .i64 m, .int .i64 d]] w fun e w' => e = .returned (.tuple #[.int .i64 (n + 146097), .nilIface]) ∧ Below w.heap.size w w'))
    (C3 : Hid (∀ w : World, DP w → Calls Tryd.prog 9 #[.agg #[.int .i64 y, .int .i64 1, .int .i64 1]] w fun e w' => e = .returned (.tuple #[.int .i64 Y, .nilIface]) ∧ Below w.heap.size w w'))
    (C4 : Hid (∀ w : World, DP w → Calls Tryd.prog 9 #[.agg #[.int .i64 y, .int .i64 12, .int .i64 31]] w fun e w' => e = .returned (.tuple #[.int .i64 (Y + 364), .nilIface]) ∧ Below w.heap.size w w'))
    (C5 : Hid (∀ w : World, DP w → Calls Tryd.prog 9 #[.agg #[.int .i64 y', .int .i64 m', .int .i64 d']] w fun e w' => e = .returned (.tuple #[.int .i64 0, errV 1]) ∧ Below w.heap.size w w')) :
    Calls Tryd.prog 3 #[.agg #[.int .i64 y, .int .i64 m, .int .i64 d], .agg #[.int .i64 y', .int .i64 m', .int .i64 d']] w fun e w' => e = .returned (.bool true) ∧ Below w.heap.size w w' := by
  have E : Y + 364 - Y = 364 := by omega
  have yk := And.intro Y0 Y1
  have g2 : decide (y ≤ 9599) = true := dec_yes (by omega)
  have C0 := Lib.hid fun w (hT : DP w) => dated_any w hT.t
  go_enter Tryd.func3, Tryd.ntmps3
  go_wp2_with fail
  refine (C0.out _ (by exact ((hT.alloc _).alloc _))).mono ?_
  rintro e w1 ⟨rfl, hb⟩
  have T1 := ((hT.alloc _).alloc _).below hb
  have B1_d := Boxed.below (Boxed.alloc (Boxed.made _ #[.int .i64 y, .int .i64 m, .int .i64 d] 23) _) hb
  have B1_c := Boxed.below (Boxed.made _ #[.int .i64 y', .int .i64 m', .int .i64 d'] 23) hb
  have W1 := Lib.hid (blw_trans (blw_trans (blw_trans (Below.refl w.heap.size w) (blw_alloc _ _)) (blw_alloc _ _)) hb)
  clear hb 
  have kd0 := B1_d.cell 0 _ rfl
  have kd1 := B1_d.cell 1 _ rfl
  have kd2 := B1_d.cell 2 _ rfl
  have kdl := B1_d.lt
  try simp at kd0 kd1 kd2 kdl
  have kc0 := B1_c.cell 0 _ rfl
  have kc1 := B1_c.cell 1 _ rfl
  have kc2 := B1_c.cell 2 _ rfl
  have kcl := B1_c.lt
  try simp at kc0 kc1 kc2 kcl
  go_wp2_with fail
  refine (C1.out _ (by exact T1)).mono ?_
  rintro e w2 ⟨rfl, hb⟩
  clear kd0 kd1 kd2 kdl kc0 kc1 kc2 kcl
  have T2 := T1.below hb
  have B2_d := B1_d.below hb
  have B2_c := B1_c.below hb
  have W2 := Lib.hid (blw_trans W1.out hb)
  clear hb T1 B1_d B1_c W1
  have kd0 := B2_d.cell 0 _ rfl
  have kd1 := B2_d.cell 1 _ rfl
  have kd2 := B2_d.cell 2 _ rfl
  have kdl := B2_d.lt
  try simp at kd0 kd1 kd2 kdl
  have kc0 := B2_c.cell 0 _ rfl
  have kc1 := B2_c.cell 1 _ rfl
  have kc2 := B2_c.cell 2 _ rfl
  have kcl := B2_c.lt
  try simp at kc0 kc1 kc2 kcl
  go_wp2_with fail
  refine (C2.out _ (by exact T2)).mono ?_
  rintro e w3 ⟨rfl, hb⟩
  clear kd0 kd1 kd2 kdl kc0 kc1 kc2 kcl
  have T3 := T2.below hb
  have B3_d := B2_d.below hb
  have B3_c := B2_c.below hb
  have W3 := Lib.hid (blw_trans W2.out hb)
  clear hb T2 B2_d B2_c W2
  have kd0 := B3_d.cell 0 _ rfl
  have kd1 := B3_d.cell 1 _ rfl
  have kd2 := B3_d.cell 2 _ rfl
  have kdl := B3_d.lt
  try simp at kd0 kd1 kd2 kdl
  have kc0 := B3_c.cell 0 _ rfl
  have kc1 := B3_c.cell 1 _ rfl
  have kc2 := B3_c.cell 2 _ rfl
  have kcl := B3_c.lt
  try simp at kc0 kc1 kc2 kcl
  go_wp2_with fail
  refine (C3.out _ (by exact T3)).mono ?_
  rintro e w4 ⟨rfl, hb⟩
  clear kd0 kd1 kd2 kdl kc0 kc1 kc2 kcl
  have T4 := T3.below hb
  have B4_d := B3_d.below hb
  have B4_c := B3_c.below hb
  have W4 := Lib.hid (blw_trans W3.out hb)
  clear hb T3 B3_d B3_c W3
  have kd0 := B4_d.cell 0 _ rfl
  have kd1 := B4_d.cell 1 _ rfl
  have kd2 := B4_d.cell 2 _ rfl
  have kdl := B4_d.lt
  try simp at kd0 kd1 kd2 kdl
  have kc0 := B4_c.cell 0 _ rfl
  have kc1 := B4_c.cell 1 _ rfl
  have kc2 := B4_c.cell 2 _ rfl
  have kcl := B4_c.lt
  try simp at kc0 kc1 kc2 kcl
  go_wp2_with fail
  refine (C4.out _ (by exact T4)).mono ?_
  rintro e w5 ⟨rfl, hb⟩
  clear kd0 kd1 kd2 kdl kc0 kc1 kc2 kcl
  have T5 := T4.below hb
  have B5_d := B4_d.below hb
  have B5_c := B4_c.below hb
  have W5 := Lib.hid (blw_trans W4.out hb)
  clear hb T4 B4_d B4_c W4
  have kd0 := B5_d.cell 0 _ rfl
  have kd1 := B5_d.cell 1 _ rfl
  have kd2 := B5_d.cell 2 _ rfl
  have kdl := B5_d.lt
  try simp at kd0 kd1 kd2 kdl
  have kc0 := B5_c.cell 0 _ rfl
  have kc1 := B5_c.cell 1 _ rfl
  have kc2 := B5_c.cell 2 _ rfl
  have kcl := B5_c.lt
  try simp at kc0 kc1 kc2 kcl
  go_wp2_with fail
  refine (C5.out _ (by exact T5)).mono ?_
  rintro e w6 ⟨rfl, hb⟩
  clear kd0 kd1 kd2 kdl kc0 kc1 kc2 kcl
  have T6 := T5.below hb
  have B6_d := B5_d.below hb
  have B6_c := B5_c.below hb
  have W6 := Lib.hid (blw_trans W5.out hb)
  clear hb T5 B5_d B5_c W5
  have kd0 := B6_d.cell 0 _ rfl
  have kd1 := B6_d.cell 1 _ rfl
  have kd2 := B6_d.cell 2 _ rfl
  have kdl := B6_d.lt
  try simp at kd0 kd1 kd2 kdl
  have kc0 := B6_c.cell 0 _ rfl
  have kc1 := B6_c.cell 1 _ rfl
  have kc2 := B6_c.cell 2 _ rfl
  have kcl := B6_c.lt
  try simp at kc0 kc1 kc2 kcl
  clear T6 B6_d B6_c
  go_wp2
  go_ret
  exact ⟨ret_bool (by simp), W6.out⟩

set_option maxRecDepth 100000 in
set_option maxHeartbeats 2000000 in
theorem dateCycle_un1 (y m d y' m' d' : Int) (w : World) (hT : DP w) (n Y : Int) (y0 : 1 ≤ y) (y1 : y ≤ 9999) (Y0 : 0 ≤ Y) (Y1 : Y ≤ 3652425) (n0 : Y ≤ n) (n1 : n ≤ Y + 365) (g : ¬ 9599 < y)
    (C1 : Hid (∀ w : World, DP w → Calls Tryd.prog 9 #[.agg #[.int .i64 y, .int .i64 m, .int .i64 d]] w fun e w' => e = .returned (.tuple #[.int .i64 n, .nilIface]) ∧ Below w.heap.size w w'))
    (C2 : Hid (∀ w : World, DP w → Calls Tryd.prog 9 #[.agg #[.int .i64 (y + 400), .int .i64 m, .int .i64 d]] w fun e w' => e = .returned (.tuple #[.int .i64 (n + 146097), .nilIface]) ∧ Below w.heap.size w w'))
    (C3 : Hid (∀ w : World, DP w → Calls Tryd.prog 9 #[.agg #[.int .i64 y, .int .i64 1, .int .i64 1]] w fun e w' => e = .returned (.tuple #[.int .i64 Y, .nilIface]) ∧ Below w.heap.size w w'))
    (C4 : Hid (∀ w : World, DP w → Calls Tryd.prog 9 #[.agg #[.int .i64 y, .int .i64 12, .int .i64 31]] w fun e w' => e = .returned (.tuple #[.int .i64 (Y + 365), .nilIface]) ∧ Below w.heap.size w w'))
    (C5 : Hid (∀ w : World, DP w → Calls Tryd.prog 9 #[.agg #[.int .i64 y', .int .i64 m', .int .i64 d']] w fun e w' => e = .returned (.tuple #[.int .i64 0, errV 1]) ∧ Below w.heap.size w w')) :
    Calls Tryd.prog 3 #[.agg #[.int .i64 y, .int .i64 m, .int .i64 d], .agg #[.int .i64 y', .int .i64 m', .int .i64 d']] w fun e w' => e = .returned (.bool true) ∧ Below w.heap.size w w' := by
  have E : Y + 365 - Y = 365 := by omega
  have yk := And.intro Y0 Y1
  have g2 : decide (y ≤ 9599) = true := dec_yes (by omega)
  have C0 := Lib.hid fun w (hT : DP w) => dated_any w hT.t
  go_enter Tryd.func3, Tryd.ntmps3
  go_wp2_with fail
  refine (C0.out _ (by exact ((hT.alloc _).alloc _))).mono ?_
  rintro e w1 ⟨rfl, hb⟩
  have T1 := ((hT.alloc _).alloc _).below hb
  have B1_d := Boxed.below (Boxed.alloc (Boxed.made _ #[.int .i64 y, .int .i64 m, .int .i64 d] 23) _) hb
  have B1_c := Boxed.below (Boxed.made _ #[.int .i64 y', .int .i64 m', .int .i64 d'] 23) hb
  have W1 := Lib.hid (blw_trans (blw_trans (blw_trans (Below.refl w.heap.size w) (blw_alloc _ _)) (blw_alloc _ _)) hb)
  clear hb 
  have kd0 := B1_d.cell 0 _ rfl
  have kd1 := B1_d.cell 1 _ rfl
  have kd2 := B1_d.cell 2 _ rfl
  have kdl := B1_d.lt
  try simp at kd0 kd1 kd2 kdl
  have kc0 := B1_c.cell 0 _ rfl
  have kc1 := B1_c.cell 1 _ rfl
  have kc2 := B1_c.cell 2 _ rfl
  have kcl := B1_c.lt
  try simp at kc0 kc1 kc2 kcl
  go_wp2_with fail
  refine (C1.out _ (by exact T1)).mono ?_
  rintro e w2 ⟨rfl, hb⟩
  clear kd0 kd1 kd2 kdl kc0 kc1 kc2 kcl
  have T2 := T1.below hb
  have B2_d := B1_d.below hb
  have B2_c := B1_c.below hb
  have W2 := Lib.hid (blw_trans W1.out hb)
  clear hb T1 B1_d B1_c W1
  have kd0 := B2_d.cell 0 _ rfl
  have kd1 := B2_d.cell 1 _ rfl
  have kd2 := B2_d.cell 2 _ rfl
  have kdl := B2_d.lt
  try simp at kd0 kd1 kd2 kdl
  have kc0 := B2_c.cell 0 _ rfl
  have kc1 := B2_c.cell 1 _ rfl
  have kc2 := B2_c.cell 2 _ rfl
  have kcl := B2_c.lt
  try simp at kc0 kc1 kc2 kcl
  go_wp2_with fail
  refine (C2.out _ (by exact T2)).mono ?_
  rintro e w3 ⟨rfl, hb⟩
  clear kd0 kd1 kd2 kdl kc0 kc1 kc2 kcl
  have T3 := T2.below hb
  have B3_d := B2_d.below hb
  have B3_c := B2_c.below hb
  have W3 := Lib.hid (blw_trans W2.out hb)
  clear hb T2 B2_d B2_c W2
  have kd0 := B3_d.cell 0 _ rfl
  have kd1 := B3_d.cell 1 _ rfl
  have kd2 := B3_d.cell 2 _ rfl
  have kdl := B3_d.lt
  try simp at kd0 kd1 kd2 kdl
  have kc0 := B3_c.cell 0 _ rfl
  have kc1 := B3_c.cell 1 _ rfl
  have kc2 := B3_c.cell 2 _ rfl
  have kcl := B3_c.lt
  try simp at kc0 kc1 kc2 kcl
  go_wp2_with fail
  refine (C3.out _ (by exact T3)).mono ?_
  rintro e w4 ⟨rfl, hb⟩
  clear kd0 kd1 kd2 kdl kc0 kc1 kc2 kcl
  have T4 := T3.below hb
  have B4_d := B3_d.below hb
  have B4_c := B3_c.below hb
  have W4 := Lib.hid (blw_trans W3.out hb)
  clear hb T3 B3_d B3_c W3
  have kd0 := B4_d.cell 0 _ rfl
  have kd1 := B4_d.cell 1 _ rfl
  have kd2 := B4_d.cell 2 _ rfl
  have kdl := B4_d.lt
  try simp at kd0 kd1 kd2 kdl
  have kc0 := B4_c.cell 0 _ rfl
  have kc1 := B4_c.cell 1 _ rfl
  have kc2 := B4_c.cell 2 _ rfl
  have kcl := B4_c.lt
  try simp at kc0 kc1 kc2 kcl
  go_wp2_with fail
  refine (C4.out _ (by exact T4)).mono ?_
  rintro e w5 ⟨rfl, hb⟩
  clear kd0 kd1 kd2 kdl kc0 kc1 kc2 kcl
  have T5 := T4.below hb
  have B5_d := B4_d.below hb
  have B5_c := B4_c.below hb
  have W5 := Lib.hid (blw_trans W4.out hb)
  clear hb T4 B4_d B4_c W4
  have kd0 := B5_d.cell 0 _ rfl
  have kd1 := B5_d.cell 1 _ rfl
  have kd2 := B5_d.cell 2 _ rfl
  have kdl := B5_d.lt
  try simp at kd0 kd1 kd2 kdl
  have kc0 := B5_c.cell 0 _ rfl
  have kc1 := B5_c.cell 1 _ rfl
  have kc2 := B5_c.cell 2 _ rfl
  have kcl := B5_c.lt
  try simp at kc0 kc1 kc2 kcl
  go_wp2_with fail
  refine (C5.out _ (by exact T5)).mono ?_
  rintro e w6 ⟨rfl, hb⟩
  clear kd0 kd1 kd2 kdl kc0 kc1 kc2 kcl
  have T6 := T5.below hb
  have B6_d := B5_d.below hb
  have B6_c := B5_c.below hb
  have W6 := Lib.hid (blw_trans W5.out hb)
  clear hb T5 B5_d B5_c W5
  have kd0 := B6_d.cell 0 _ rfl
  have kd1 := B6_d.cell 1 _ rfl
  have kd2 := B6_d.cell 2 _ rfl
  have kdl := B6_d.lt
  try simp at kd0 kd1 kd2 kdl
  have kc0 := B6_c.cell 0 _ rfl
  have kc1 := B6_c.cell 1 _ rfl
  have kc2 := B6_c.cell 2 _ rfl
  have kcl := B6_c.lt
  try simp at kc0 kc1 kc2 kcl
  clear T6 B6_d B6_c
  go_wp2
  go_ret
  exact ⟨ret_bool (by simp), W6.out⟩

set_option maxRecDepth 100000 in
set_option maxHeartbeats 2000000 in
theorem dateCycle_vy0 (y m d y' m' d' : Int) (w : World) (hT : DP w) (n k : Int) (S T : List UInt8) (HB : Op.bytesLess S T = decide (n < k)) (Y : Int) (y0 : 1 ≤ y) (y1 : y ≤ 9999) (Y0 : 0 ≤ Y) (Y1 : Y ≤ 3652425) (n0 : Y ≤ n) (n1 : n ≤ Y + 364) (g : 9599 < y)
    (C1 : Hid (∀ w : World, DP w → Calls Tryd.prog 9 #[.agg #[.int .i64 y, .int .i64 m, .int .i64 d]] w fun e w' => e = .returned (.tuple #[.int .i64 n, .nilIface]) ∧ Below w.heap.size w w'))
    (C2 : Hid (∀ w : World, DP w → Calls Tryd.prog 9 #[.agg #[.int .i64 (y + 400), .int .i64 m, .int .i64 d]] w fun e w' => e = .returned (.tuple #[.int .i64 0, errV 1]) ∧ Below w.heap.size w w'))
    (C3 : Hid (∀ w : World, DP w → Calls Tryd.prog 9 #[.agg #[.int .i64 y, .int .i64 1, .int .i64 1]] w fun e w' => e = .returned (.tuple #[.int .i64 Y, .nilIface]) ∧ Below w.heap.size w w'))
    (C4 : Hid (∀ w : World, DP w → Calls Tryd.prog 9 #[.agg #[.int .i64 y, .int .i64 12, .int .i64 31]] w fun e w' => e = .returned (.tuple #[.int .i64 (Y + 364), .nilIface]) ∧ Below w.heap.size w w'))
    (C5 : Hid (∀ w : World, DP w → Calls Tryd.prog 9 #[.agg #[.int .i64 y', .int .i64 m', .int .i64 d']] w fun e w' => e = .returned (.tuple #[.int .i64 k, .nilIface]) ∧ Below w.heap.size w w'))
    (C6 : Hid (∀ w : World, DP w → Calls Tryd.prog 10 #[.agg #[.int .i64 y, .int .i64 m, .int .i64 d]] w fun e w' => e = .returned (.tuple #[.string ⟨S.toArray⟩, .nilIface]) ∧ Below w.heap.size w w'))
    (C7 : Hid (∀ w : World, DP w → Calls Tryd.prog 10 #[.agg #[.int .i64 y', .int .i64 m', .int .i64 d']] w fun e w' => e = .returned (.tuple #[.string ⟨T.toArray⟩, .nilIface]) ∧ Below w.heap.size w w')) :
    Calls Tryd.prog 3 #[.agg #[.int .i64 y, .int .i64 m, .int .i64 d], .agg #[.int .i64 y', .int .i64 m', .int .i64 d']] w fun e w' => e = .returned (.bool true) ∧ Below w.heap.size w w' := by
  have E : Y + 364 - Y = 364 := by omega
  have yk := And.intro Y0 Y1
  have g2 : decide (y ≤ 9599) = false := dec_no (by omega)
  have HB' := Lib.hid HB
  clear HB
  have C0 := Lib.hid fun w (hT : DP w) => dated_any w hT.t
  go_enter Tryd.func3, Tryd.ntmps3
  go_wp2_with fail
  refine (C0.out _ (by exact ((hT.alloc _).alloc _))).mono ?_
  rintro e w1 ⟨rfl, hb⟩
  have T1 := ((hT.alloc _).alloc _).below hb
  have B1_d := Boxed.below (Boxed.alloc (Boxed.made _ #[.int .i64 y, .int .i64 m, .int .i64 d] 23) _) hb
  have B1_c := Boxed.below (Boxed.made _ #[.int .i64 y', .int .i64 m', .int .i64 d'] 23) hb
  have W1 := Lib.hid (blw_trans (blw_trans (blw_trans (Below.refl w.heap.size w) (blw_alloc _ _)) (blw_alloc _ _)) hb)
  clear hb 
  have kd0 := B1_d.cell 0 _ rfl
  have kd1 := B1_d.cell 1 _ rfl
  have kd2 := B1_d.cell 2 _ rfl
  have kdl := B1_d.lt
  try simp at kd0 kd1 kd2 kdl
  have kc0 := B1_c.cell 0 _ rfl
  have kc1 := B1_c.cell 1 _ rfl
  have kc2 := B1_c.cell 2 _ rfl
  have kcl := B1_c.lt
  try simp at kc0 kc1 kc2 kcl
  go_wp2_with fail
  refine (C1.out _ (by exact T1)).mono ?_
  rintro e w2 ⟨rfl, hb⟩
  clear kd0 kd1 kd2 kdl kc0 kc1 kc2 kcl
  have T2 := T1.below hb
  have B2_d := B1_d.below hb
  have B2_c := B1_c.below hb
  have W2 := Lib.hid (blw_trans W1.out hb)
  clear hb T1 B1_d B1_c W1
  have kd0 := B2_d.cell 0 _ rfl
  have kd1 := B2_d.cell 1 _ rfl
  have kd2 := B2_d.cell 2 _ rfl
  have kdl := B2_d.lt
  try simp at kd0 kd1 kd2 kdl
  have kc0 := B2_c.cell 0 _ rfl
  have kc1 := B2_c.cell 1 _ rfl
  have kc2 := B2_c.cell 2 _ rfl
  have kcl := B2_c.lt
  try simp at kc0 kc1 kc2 kcl
  go_wp2_with fail
  refine (C2.out _ (by exact T2)).mono ?_
  rintro e w3 ⟨rfl, hb⟩
  clear kd0 kd1 kd2 kdl kc0 kc1 kc2 kcl
  have T3 := T2.below hb
  have B3_d := B2_d.below hb
  have B3_c := B2_c.below hb
  have W3 := Lib.hid (blw_trans W2.out hb)
  clear hb T2 B2_d B2_c W2
  have kd0 := B3_d.cell 0 _ rfl
  have kd1 := B3_d.cell 1 _ rfl
  have kd2 := B3_d.cell 2 _ rfl
  have kdl := B3_d.lt
  try simp at kd0 kd1 kd2 kdl
  have kc0 := B3_c.cell 0 _ rfl
  have kc1 := B3_c.cell 1 _ rfl
  have kc2 := B3_c.cell 2 _ rfl
  have kcl := B3_c.lt
  try simp at kc0 kc1 kc2 kcl
  go_wp2_with fail
  refine (C3.out _ (by exact T3)).mono ?_
  rintro e w4 ⟨rfl, hb⟩
  clear kd0 kd1 kd2 kdl kc0 kc1 kc2 kcl
  have T4 := T3.below hb
  have B4_d := B3_d.below hb
  have B4_c := B3_c.below hb
  have W4 := Lib.hid (blw_trans W3.out hb)
  clear hb T3 B3_d B3_c W3
  have kd0 := B4_d.cell 0 _ rfl
  have kd1 := B4_d.cell 1 _ rfl
  have kd2 := B4_d.cell 2 _ rfl
  have kdl := B4_d.lt
  try simp at kd0 kd1 kd2 kdl
  have kc0 := B4_c.cell 0 _ rfl
  have kc1 := B4_c.cell 1 _ rfl
  have kc2 := B4_c.cell 2 _ rfl
  have kcl := B4_c.lt
  try simp at kc0 kc1 kc2 kcl
  go_wp2_with fail
  refine (C4.out _ (by exact T4)).mono ?_
  rintro e w5 ⟨rfl, hb⟩
  clear kd0 kd1 kd2 kdl kc0 kc1 kc2 kcl
  have T5 := T4.below hb
  have B5_d := B4_d.below hb
  have B5_c := B4_c.below hb
  have W5 := Lib.hid (blw_trans W4.out hb)
  clear hb T4 B4_d B4_c W4
  have kd0 := B5_d.cell 0 _ rfl
  have kd1 := B5_d.cell 1 _ rfl
  have kd2 := B5_d.cell 2 _ rfl
  have kdl := B5_d.lt
  try simp at kd0 kd1 kd2 kdl
  have kc0 := B5_c.cell 0 _ rfl
  have kc1 := B5_c.cell 1 _ rfl
  have kc2 := B5_c.cell 2 _ rfl
  have kcl := B5_c.lt
  try simp at kc0 kc1 kc2 kcl
  go_wp2_with fail
  refine (C5.out _ (by exact T5)).mono ?_
  rintro e w6 ⟨rfl, hb⟩
  clear kd0 kd1 kd2 kdl kc0 kc1 kc2 kcl
  have T6 := T5.below hb
  have B6_d := B5_d.below hb
  have B6_c := B5_c.below hb
  have W6 := Lib.hid (blw_trans W5.out hb)
  clear hb T5 B5_d B5_c W5
  have kd0 := B6_d.cell 0 _ rfl
  have kd1 := B6_d.cell 1 _ rfl
  have kd2 := B6_d.cell 2 _ rfl
  have kdl := B6_d.lt
  try simp at kd0 kd1 kd2 kdl
  have kc0 := B6_c.cell 0 _ rfl
  have kc1 := B6_c.cell 1 _ rfl
  have kc2 := B6_c.cell 2 _ rfl
  have kcl := B6_c.lt
  try simp at kc0 kc1 kc2 kcl
  go_wp2_with fail
  refine (C6.out _ (by exact T6)).mono ?_
  rintro e w7 ⟨rfl, hb⟩
  clear kd0 kd1 kd2 kdl kc0 kc1 kc2 kcl
  have T7 := T6.below hb
  have B7_d := B6_d.below hb
  have B7_c := B6_c.below hb
  have W7 := Lib.hid (blw_trans W6.out hb)
  clear hb T6 B6_d B6_c W6
  have kd0 := B7_d.cell 0 _ rfl
  have kd1 := B7_d.cell 1 _ rfl
  have kd2 := B7_d.cell 2 _ rfl
  have kdl := B7_d.lt
  try simp at kd0 kd1 kd2 kdl
  have kc0 := B7_c.cell 0 _ rfl
  have kc1 := B7_c.cell 1 _ rfl
  have kc2 := B7_c.cell 2 _ rfl
  have kcl := B7_c.lt
  try simp at kc0 kc1 kc2 kcl
  go_wp2_with fail
  refine (C7.out _ (by exact T7)).mono ?_
  rintro e w8 ⟨rfl, hb⟩
  clear kd0 kd1 kd2 kdl kc0 kc1 kc2 kcl
  have T8 := T7.below hb
  have B8_d := B7_d.below hb
  have B8_c := B7_c.below hb
  have W8 := Lib.hid (blw_trans W7.out hb)
  clear hb T7 B7_d B7_c W7
  have HB2 := HB'.out
  clear T8 B8_d B8_c
  go_wp2
  go_ret
  exact ⟨ret_bool (by simp), W8.out⟩

set_option maxRecDepth 100000 in
set_option maxHeartbeats 2000000 in
theorem dateCycle_vy1 (y m d y' m' d' : Int) (w : World) (hT : DP w) (n k : Int) (S T : List UInt8) (HB : Op.bytesLess S T = decide (n < k)) (Y : Int) (y0 : 1 ≤ y) (y1 : y ≤ 9999) (Y0 : 0 ≤ Y) (Y1 : Y ≤ 3652425) (n0 : Y ≤ n) (n1 : n ≤ Y + 365) (g : 9599 < y)
    (C1 : Hid (∀ w : World, DP w → Calls Tryd.prog 9 #[.agg #[.int .i64 y, .int .i64 m, .int .i64 d]] w fun e w' => e = .returned (.tuple #[.int .i64 n, .nilIface]) ∧ Below w.heap.size w w'))
    (C2 : Hid (∀ w : World, DP w → Calls Tryd.prog 9 #[.agg #[.int .i64 (y + 400), .int .i64 m, .int .i64 d]] w fun e w' => e = .returned (.tuple #[.int .i64 0, errV 1]) ∧ Below w.heap.size w w'))
    (C3 : Hid (∀ w : World, DP w → Calls Tryd.prog 9 #[.agg #[.int .i64 y, .int .i64 1, .int .i64 1]] w fun e w' => e = .returned (.tuple #[.int .i64 Y, .nilIface]) ∧ Below w.heap.size w w'))
    (C4 : Hid (∀ w : World, DP w → Calls Tryd.prog 9 #[.agg #[.int .i64 y, .int .i64 12, .int .i64 31]] w fun e w' => e = .returned (.tuple #[.int .i64 (Y + 365), .nilIface]) ∧ Below w.heap.size w w'))
    (C5 : Hid (∀ w : World, DP w → Calls Tryd.prog 9 #[.agg #[.int .i64 y', .int .i64 m', .int .i64 d']] w fun e w' => e = .returned (.tuple #[.int .i64 k, .nilIface]) ∧ Below w.heap.size w w'))
    (C6 : Hid (∀ w : World, DP w → Calls Tryd.prog 10 #[.agg #[.int .i64 y, .int .i64 m, .int .i64 d]] w fun e w' => e = .returned (.tuple #[.string ⟨S.toArray⟩, .nilIface]) ∧ Below w.heap.size w w'))
    (C7 : Hid (∀ w : World, DP w → Calls Tryd.prog 10 #[.agg #[.int .i64 y', .int .i64 m', .int .i64 d']] w fun e w' => e = .returned (.tuple #[.string ⟨T.toArray⟩, .nilIface]) ∧ Below w.heap.size w w')) :
    Calls Tryd.prog 3 #[.agg #[.int .i64 y, .int .i64 m, .int .i64 d], .agg #[.int .i64 y', .int .i64 m', .int .i64 d']] w fun e w' => e = .returned (.bool true) ∧ Below w.heap.size w w' := by
  have E : Y + 365 - Y = 365 := by omega
  have yk := And.intro Y0 Y1
  have g2 : decide (y ≤ 9599) = false := dec_no (by omega)
  have HB' := Lib.hid HB
  clear HB
  have C0 := Lib.hid fun w (hT : DP w) => dated_any w hT.t
  go_enter Tryd.func3, Tryd.ntmps3
  go_wp2_with fail
  refine (C0.out _ (by exact ((hT.alloc _).alloc _))).mono ?_
  rintro e w1 ⟨rfl, hb⟩
  have T1 := ((hT.alloc _).alloc _).below hb
  have B1_d := Boxed.below (Boxed.alloc (Boxed.made _ #[.int .i64 y, .int .i64 m, .int .i64 d] 23) _) hb
  have B1_c := Boxed.below (Boxed.made _ #[.int .i64 y', .int .i64 m', .int .i64 d'] 23) hb
  have W1 := Lib.hid (blw_trans (blw_trans (blw_trans (Below.refl w.heap.size w) (blw_alloc _ _)) (blw_alloc _ _)) hb)
  clear hb 
  have kd0 := B1_d.cell 0 _ rfl
  have kd1 := B1_d.cell 1 _ rfl
  have kd2 := B1_d.cell 2 _ rfl
  have kdl := B1_d.lt
  try simp at kd0 kd1 kd2 kdl
  have kc0 := B1_c.cell 0 _ rfl
  have kc1 := B1_c.cell 1 _ rfl
  have kc2 := B1_c.cell 2 _ rfl
  have kcl := B1_c.lt
  try simp at kc0 kc1 kc2 kcl
  go_wp2_with fail
  refine (C1.out _ (by exact T1)).mono ?_
  rintro e w2 ⟨rfl, hb⟩
  clear kd0 kd1 kd2 kdl kc0 kc1 kc2 kcl
  have T2 := T1.below hb
  have B2_d := B1_d.below hb
  have B2_c := B1_c.below hb
  have W2 := Lib.hid (blw_trans W1.out hb)
  clear hb T1 B1_d B1_c W1
  have kd0 := B2_d.cell 0 _ rfl
  have kd1 := B2_d.cell 1 _ rfl
  have kd2 := B2_d.cell 2 _ rfl
  have kdl := B2_d.lt
  try simp at kd0 kd1 kd2 kdl
  have kc0 := B2_c.cell 0 _ rfl
  have kc1 := B2_c.cell 1 _ rfl
  have kc2 := B2_c.cell 2 _ rfl
  have kcl := B2_c.lt
  try simp at kc0 kc1 kc2 kcl
  go_wp2_with fail
  refine (C2.out _ (by exact T2)).mono ?_
  rintro e w3 ⟨rfl, hb⟩
  clear kd0 kd1 kd2 kdl kc0 kc1 kc2 kcl
  have T3 := T2.below hb
  have B3_d := B2_d.below hb
  have B3_c := B2_c.below hb
  have W3 := Lib.hid (blw_trans W2.out hb)
  clear hb T2 B2_d B2_c W2
  have kd0 := B3_d.cell 0 _ rfl
  have kd1 := B3_d.cell 1 _ rfl
  have kd2 := B3_d.cell 2 _ rfl
  have kdl := B3_d.lt
  try simp at kd0 kd1 kd2 kdl
  have kc0 := B3_c.cell 0 _ rfl
  have kc1 := B3_c.cell 1 _ rfl
  have kc2 := B3_c.cell 2 _ rfl
  have kcl := B3_c.lt
  try simp at kc0 kc1 kc2 kcl
  go_wp2_with fail
  refine (C3.out _ (by exact T3)).mono ?_
  rintro e w4 ⟨rfl, hb⟩
  clear kd0 kd1 kd2 kdl kc0 kc1 kc2 kcl
  have T4 := T3.below hb
  have B4_d := B3_d.below hb
  have B4_c := B3_c.below hb
  have W4 := Lib.hid (blw_trans W3.out hb)
  clear hb T3 B3_d B3_c W3
  have kd0 := B4_d.cell 0 _ rfl
  have kd1 := B4_d.cell 1 _ rfl
  have kd2 := B4_d.cell 2 _ rfl
  have kdl := B4_d.lt
  try simp at kd0 kd1 kd2 kdl
  have kc0 := B4_c.cell 0 _ rfl
  have kc1 := B4_c.cell 1 _ rfl
  have kc2 := B4_c.cell 2 _ rfl
  have kcl := B4_c.lt
  try simp at kc0 kc1 kc2 kcl
  go_wp2_with fail
  refine (C4.out _ (by exact T4)).mono ?_
  rintro e w5 ⟨rfl, hb⟩
  clear kd0 kd1 kd2 kdl kc0 kc1 kc2 kcl
  have T5 := T4.below hb
  have B5_d := B4_d.below hb
  have B5_c := B4_c.below hb
  have W5 := Lib.hid (blw_trans W4.out hb)
  clear hb T4 B4_d B4_c W4
  have kd0 := B5_d.cell 0 _ rfl
  have kd1 := B5_d.cell 1 _ rfl
  have kd2 := B5_d.cell 2 _ rfl
  have kdl := B5_d.lt
  try simp at kd0 kd1 kd2 kdl
  have kc0 := B5_c.cell 0 _ rfl
  have kc1 := B5_c.cell 1 _ rfl
  have kc2 := B5_c.cell 2 _ rfl
  have kcl := B5_c.lt
  try simp at kc0 kc1 kc2 kcl
  go_wp2_with fail
  refine (C5.out _ (by exact T5)).mono ?_
  rintro e w6 ⟨rfl, hb⟩
  clear kd0 kd1 kd2 kdl kc0 kc1 kc2 kcl
  have T6 := T5.below hb
  have B6_d := B5_d.below hb
  have B6_c := B5_c.below hb
  have W6 := Lib.hid (blw_trans W5.out hb)
  clear hb T5 B5_d B5_c W5
  have kd0 := B6_d.cell 0 _ rfl
  have kd1 := B6_d.cell 1 _ rfl
  have kd2 := B6_d.cell 2 _ rfl
  have kdl := B6_d.lt
  try simp at kd0 kd1 kd2 kdl
  have kc0 := B6_c.cell 0 _ rfl
  have kc1 := B6_c.cell 1 _ rfl
  have kc2 := B6_c.cell 2 _ rfl
  have kcl := B6_c.lt
  try simp at kc0 kc1 kc2 kcl
  go_wp2_with fail
  refine (C6.out _ (by exact T6)).mono ?_
  rintro e w7 ⟨rfl, hb⟩
  clear kd0 kd1 kd2 kdl kc0 kc1 kc2 kcl
  have T7 := T6.below hb
  have B7_d := B6_d.below hb
  have B7_c := B6_c.below hb
  have W7 := Lib.hid (blw_trans W6.out hb)
  clear hb T6 B6_d B6_c W6
  have kd0 := B7_d.cell 0 _ rfl
  have kd1 := B7_d.cell 1 _ rfl
  have kd2 := B7_d.cell 2 _ rfl
  have kdl := B7_d.lt
  try simp at kd0 kd1 kd2 kdl
  have kc0 := B7_c.cell 0 _ rfl
  have kc1 := B7_c.cell 1 _ rfl
  have kc2 := B7_c.cell 2 _ rfl
  have kcl := B7_c.lt
  try simp at kc0 kc1 kc2 kcl
  go_wp2_with fail
  refine (C7.out _ (by exact T7)).mono ?_
  rintro e w8 ⟨rfl, hb⟩
  clear kd0 kd1 kd2 kdl kc0 kc1 kc2 kcl
  have T8 := T7.below hb
  have B8_d := B7_d.below hb
  have B8_c := B7_c.below hb
  have W8 := Lib.hid (blw_trans W7.out hb)
  clear hb T7 B7_d B7_c W7
  have HB2 := HB'.out
  clear T8 B8_d B8_c
  go_wp2
  go_ret
  exact ⟨ret_bool (by simp), W8.out⟩

set_option maxRecDepth 100000 in
set_option maxHeartbeats 2000000 in
theorem dateCycle_vn0 (y m d y' m' d' : Int) (w : World) (hT : DP w) (n Y : Int) (y0 : 1 ≤ y) (y1 : y ≤ 9999) (Y0 : 0 ≤ Y) (Y1 : Y ≤ 3652425) (n0 : Y ≤ n) (n1 : n ≤ Y + 364) (g : 9599 < y)
    (C1 : Hid (∀ w : World, DP w → Calls Tryd.prog 9 #[.agg #[.int .i64 y, .int .i64 m, .int .i64 d]] w fun e w' => e = .returned (.tuple #[.int .i64 n, .nilIface]) ∧ Below w.heap.size w w'))
    (C2 : Hid (∀ w : World, DP w → Calls Tryd.prog 9 #[.agg #[.int .i64 (y + 400), .int .i64 m, .int .i64 d]] w fun e w' => e = .returned (.tuple #[.int .i64 0, errV 1]) ∧ Below w.heap.size w w'))
    (C3 : Hid (∀ w : World, DP w → Calls Tryd.prog 9 #[.agg #[.int .i64 y, .int .i64 1, .int .i64 1]] w fun e w' => e = .returned (.tuple #[.int .i64 Y, .nilIface]) ∧ Below w.heap.size w w'))
    (C4 : Hid (∀ w : World, DP w → Calls Tryd.prog 9 #[.agg #[.int .i64 y, .int .i64 12, .int .i64 31]] w fun e w' => e = .returned (.tuple #[.int .i64 (Y + 364), .nilIface]) ∧ Below w.heap.size w w'))
    (C5 : Hid (∀ w : World, DP w → Calls Tryd.prog 9 #[.agg #[.int .i64 y', .int .i64 m', .int .i64 d']] w fun e w' => e = .returned (.tuple #[.int .i64 0, errV 1]) ∧ Below w.heap.size w w')) :
    Calls Tryd.prog 3 #[.agg #[.int .i64 y, .int .i64 m, .int .i64 d], .agg #[.int .i64 y', .int .i64 m', .int .i64 d']] w fun e w' => e = .returned (.bool true) ∧ Below w.heap.size w w' := by
  have E : Y + 364 - Y = 364 := by omega
  have yk := And.intro Y0 Y1
  have g2 : decide (y ≤ 9599) = false := dec_no (by omega)
  have C0 := Lib.hid fun w (hT : DP w) => dated_any w hT.t
  go_enter Tryd.func3, Tryd.ntmps3
  go_wp2_with fail
  refine (C0.out _ (by exact ((hT.alloc _).alloc _))).mono ?_
  rintro e w1 ⟨rfl, hb⟩
  have T1 := ((hT.alloc _).alloc _).below hb
  have B1_d := Boxed.below (Boxed.alloc (Boxed.made _ #[.int .i64 y, .int .i64 m, .int .i64 d] 23) _) hb
  have B1_c := Boxed.below (Boxed.made _ #[.int .i64 y', .int .i64 m', .int .i64 d'] 23) hb
  have W1 := Lib.hid (blw_trans (blw_trans (blw_trans (Below.refl w.heap.size w) (blw_alloc _ _)) (blw_alloc _ _)) hb)
  clear hb 
  have kd0 := B1_d.cell 0 _ rfl
  have kd1 := B1_d.cell 1 _ rfl
  have kd2 := B1_d.cell 2 _ rfl
  have kdl := B1_d.lt
  try simp at kd0 kd1 kd2 kdl
  have kc0 := B1_c.cell 0 _ rfl
  have kc1 := B1_c.cell 1 _ rfl
  have kc2 := B1_c.cell 2 _ rfl
  have kcl := B1_c.lt
  try simp at kc0 kc1 kc2 kcl
  go_wp2_with fail
  refine (C1.out _ (by exact T1)).mono ?_
  rintro e w2 ⟨rfl, hb⟩
  clear kd0 kd1 kd2 kdl kc0 kc1 kc2 kcl
  have T2 := T1.below hb
  have B2_d := B1_d.below hb
  have B2_c := B1_c.below hb
  have W2 := Lib.hid (blw_trans W1.out hb)
  clear hb T1 B1_d B1_c W1
  have kd0 := B2_d.cell 0 _ rfl
  have kd1 := B2_d.cell 1 _ rfl
  have kd2 := B2_d.cell 2 _ rfl
  have kdl := B2_d.lt
  try simp at kd0 kd1 kd2 kdl
  have kc0 := B2_c.cell 0 _ rfl
  have kc1 := B2_c.cell 1 _ rfl
  have kc2 := B2_c.cell 2 _ rfl
  have kcl := B2_c.lt
  try simp at kc0 kc1 kc2 kcl
  go_wp2_with fail
  refine (C2.out _ (by exact T2)).mono ?_
  rintro e w3 ⟨rfl, hb⟩
  clear kd0 kd1 kd2 kdl kc0 kc1 kc2 kcl
  have T3 := T2.below hb
  have B3_d := B2_d.below hb
  have B3_c := B2_c.below hb
  have W3 := Lib.hid (blw_trans W2.out hb)
  clear hb T2 B2_d B2_c W2
  have kd0 := B3_d.cell 0 _ rfl
  have kd1 := B3_d.cell 1 _ rfl
  have kd2 := B3_d.cell 2 _ rfl
  have kdl := B3_d.lt
  try simp at kd0 kd1 kd2 kdl
  have kc0 := B3_c.cell 0 _ rfl
  have kc1 := B3_c.cell 1 _ rfl
  have kc2 := B3_c.cell 2 _ rfl
  have kcl := B3_c.lt
  try simp at kc0 kc1 kc2 kcl
  go_wp2_with fail
  refine (C3.out _ (by exact T3)).mono ?_
  rintro e w4 ⟨rfl, hb⟩
  clear kd0 kd1 kd2 kdl kc0 kc1 kc2 kcl
  have T4 := T3.below hb
  have B4_d := B3_d.below hb
  have B4_c := B3_c.below hb
  have W4 := Lib.hid (blw_trans W3.out hb)
  clear hb T3 B3_d B3_c W3
  have kd0 := B4_d.cell 0 _ rfl
  have kd1 := B4_d.cell 1 _ rfl
  have kd2 := B4_d.cell 2 _ rfl
  have kdl := B4_d.lt
  try simp at kd0 kd1 kd2 kdl
  have kc0 := B4_c.cell 0 _ rfl
  have kc1 := B4_c.cell 1 _ rfl
  have kc2 := B4_c.cell 2 _ rfl
  have kcl := B4_c.lt
  try simp at kc0 kc1 kc2 kcl
  go_wp2_with fail
  refine (C4.out _ (by exact T4)).mono ?_
  rintro e w5 ⟨rfl, hb⟩
  clear kd0 kd1 kd2 kdl kc0 kc1 kc2 kcl
  have T5 := T4.below hb
  have B5_d := B4_d.below hb
  have B5_c := B4_c.below hb
  have W5 := Lib.hid (blw_trans W4.out hb)
  clear hb T4 B4_d B4_c W4
  have kd0 := B5_d.cell 0 _ rfl
  have kd1 := B5_d.cell 1 _ rfl
  have kd2 := B5_d.cell 2 _ rfl
  have kdl := B5_d.lt
  try simp at kd0 kd1 kd2 kdl
  have kc0 := B5_c.cell 0 _ rfl
  have kc1 := B5_c.cell 1 _ rfl
  have kc2 := B5_c.cell 2 _ rfl
  have kcl := B5_c.lt
  try simp at kc0 kc1 kc2 kcl
  go_wp2_with fail
  refine (C5.out _ (by exact T5)).mono ?_
  rintro e w6 ⟨rfl, hb⟩
  clear kd0 kd1 kd2 kdl kc0 kc1 kc2 kcl
  have T6 := T5.below hb
  have B6_d := B5_d.below hb
  have B6_c := B5_c.below hb
  have W6 := Lib.hid (blw_trans W5.out hb)
  clear hb T5 B5_d B5_c W5
  have kd0 := B6_d.cell 0 _ rfl
  have kd1 := B6_d.cell 1 _ rfl
  have kd2 := B6_d.cell 2 _ rfl
  have kdl := B6_d.lt
  try simp at kd0 kd1 kd2 kdl
  have kc0 := B6_c.cell 0 _ rfl
  have kc1 := B6_c.cell 1 _ rfl
  have kc2 := B6_c.cell 2 _ rfl
  have kcl := B6_c.lt
  try simp at kc0 kc1 kc2 kcl
  clear T6 B6_d B6_c
  go_wp2
  go_ret
  exact ⟨ret_bool (by simp), W6.out⟩

set_option maxRecDepth 100000 in
set_option maxHeartbeats 2000000 in
theorem dateCycle_vn1 (y m d y' m' d' : Int) (w : World) (hT : DP w) (n Y : Int) (y0 : 1 ≤ y) (y1 : y ≤ 9999) (Y0 : 0 ≤ Y) (Y1 : Y ≤ 3652425) (n0 : Y ≤ n) (n1 : n ≤ Y + 365) (g : 9599 < y)
    (C1 : Hid (∀ w : World, DP w → Calls Tryd.prog 9 #[.agg #[.int .i64 y, .int .i64 m, .int .i64 d]] w fun e w' => e = .returned (.tuple #[.int .i64 n, .nilIface]) ∧ Below w.heap.size w w'))
    (C2 : Hid (∀ w : World, DP w → Calls Tryd.prog 9 #[.agg #[.int .i64 (y + 400), .int .i64 m, .int .i64 d]] w fun e w' => e = .returned (.tuple #[.int .i64 0, errV 1]) ∧ Below w.heap.size w w'))
    (C3 : Hid (∀ w : World, DP w → Calls Tryd.prog 9 #[.agg #[.int .i64 y, .int .i64 1, .int .i64 1]] w fun e w' => e = .returned (.tuple #[.int .i64 Y, .nilIface]) ∧ Below w.heap.size w w'))
    (C4 : Hid (∀ w : World, DP w → Calls Tryd.prog 9 #[.agg #[.int .i64 y, .int .i64 12, .int .i64 31]] w fun e w' => e = .returned (.tuple #[.int .i64 (Y + 365), .nilIface]) ∧ Below w.heap.size w w'))
    (C5 : Hid (∀ w : World, DP w → Calls Tryd.prog 9 #[.agg #[.int .i64 y', .int .i64 m', .int .i64 d']] w fun e w' => e = .returned (.tuple #[.int .i64 0, errV 1]) ∧ Below w.heap.size w w')) :
    Calls Tryd.prog 3 #[.agg #[.int .i64 y, .int .i64 m, .int .i64 d], .agg #[.int .i64 y', .int .i64 m', .int .i64 d']] w fun e w' => e = .returned (.bool true) ∧ Below w.heap.size w w' := by
  have E : Y + 365 - Y = 365 := by omega
  have yk := And.intro Y0 Y1
  have g2 : decide (y ≤ 9599) = false := dec_no (by omega)
  have C0 := Lib.hid fun w (hT : DP w) => dated_any w hT.t
  go_enter Tryd.func3, Tryd.ntmps3
  go_wp2_with fail
  refine (C0.out _ (by exact ((hT.alloc _).alloc _))).mono ?_
  rintro e w1 ⟨rfl, hb⟩
  have T1 := ((hT.alloc _).alloc _).below hb
  have B1_d := Boxed.below (Boxed.alloc (Boxed.made _ #[.int .i64 y, .int .i64 m, .int .i64 d] 23) _) hb
  have B1_c := Boxed.below (Boxed.made _ #[.int .i64 y', .int .i64 m', .int .i64 d'] 23) hb
  have W1 := Lib.hid (blw_trans (blw_trans (blw_trans (Below.refl w.heap.size w) (blw_alloc _ _)) (blw_alloc _ _)) hb)
  clear hb 
  have kd0 := B1_d.cell 0 _ rfl
  have kd1 := B1_d.cell 1 _ rfl
  have kd2 := B1_d.cell 2 _ rfl
  have kdl := B1_d.lt
  try simp at kd0 kd1 kd2 kdl
  have kc0 := B1_c.cell 0 _ rfl
  have kc1 := B1_c.cell 1 _ rfl
  have kc2 := B1_c.cell 2 _ rfl
  have kcl := B1_c.lt
  try simp at kc0 kc1 kc2 kcl
  go_wp2_with fail
  refine (C1.out _ (by exact T1)).mono ?_
  rintro e w2 ⟨rfl, hb⟩
  clear kd0 kd1 kd2 kdl kc0 kc1 kc2 kcl
  have T2 := T1.below hb
  have B2_d := B1_d.below hb
  have B2_c := B1_c.below hb
  have W2 := Lib.hid (blw_trans W1.out hb)
  clear hb T1 B1_d B1_c W1
  have kd0 := B2_d.cell 0 _ rfl
  have kd1 := B2_d.cell 1 _ rfl
  have kd2 := B2_d.cell 2 _ rfl
  have kdl := B2_d.lt
  try simp at kd0 kd1 kd2 kdl
  have kc0 := B2_c.cell 0 _ rfl
  have kc1 := B2_c.cell 1 _ rfl
  have kc2 := B2_c.cell 2 _ rfl
  have kcl := B2_c.lt
  try simp at kc0 kc1 kc2 kcl
  go_wp2_with fail
  refine (C2.out _ (by exact T2)).mono ?_
  rintro e w3 ⟨rfl, hb⟩
  clear kd0 kd1 kd2 kdl kc0 kc1 kc2 kcl
  have T3 := T2.below hb
  have B3_d := B2_d.below hb
  have B3_c := B2_c.below hb
  have W3 := Lib.hid (blw_trans W2.out hb)
  clear hb T2 B2_d B2_c W2
  have kd0 := B3_d.cell 0 _ rfl
  have kd1 := B3_d.cell 1 _ rfl
  have kd2 := B3_d.cell 2 _ rfl
  have kdl := B3_d.lt
  try simp at kd0 kd1 kd2 kdl
  have kc0 := B3_c.cell 0 _ rfl
  have kc1 := B3_c.cell 1 _ rfl
  have kc2 := B3_c.cell 2 _ rfl
  have kcl := B3_c.lt
  try simp at kc0 kc1 kc2 kcl
  go_wp2_with fail
  refine (C3.out _ (by exact T3)).mono ?_
  rintro e w4 ⟨rfl, hb⟩
  clear kd0 kd1 kd2 kdl kc0 kc1 kc2 kcl
  have T4 := T3.below hb
  have B4_d := B3_d.below hb
  have B4_c := B3_c.below hb
  have W4 := Lib.hid (blw_trans W3.out hb)
  clear hb T3 B3_d B3_c W3
  have kd0 := B4_d.cell 0 _ rfl
  have kd1 := B4_d.cell 1 _ rfl
  have kd2 := B4_d.cell 2 _ rfl
  have kdl := B4_d.lt
  try simp at kd0 kd1 kd2 kdl
  have kc0 := B4_c.cell 0 _ rfl
  have kc1 := B4_c.cell 1 _ rfl
  have kc2 := B4_c.cell 2 _ rfl
  have kcl := B4_c.lt
  try simp at kc0 kc1 kc2 kcl
  go_wp2_with fail
  refine (C4.out _ (by exact T4)).mono ?_
  rintro e w5 ⟨rfl, hb⟩
  clear kd0 kd1 kd2 kdl kc0 kc1 kc2 kcl
  have T5 := T4.below hb
  have B5_d := B4_d.below hb
  have B5_c := B4_c.below hb
  have W5 := Lib.hid (blw_trans W4.out hb)
  clear hb T4 B4_d B4_c W4
  have kd0 := B5_d.cell 0 _ rfl
  have kd1 := B5_d.cell 1 _ rfl
  have kd2 := B5_d.cell 2 _ rfl
  have kdl := B5_d.lt
  try simp at kd0 kd1 kd2 kdl
  have kc0 := B5_c.cell 0 _ rfl
  have kc1 := B5_c.cell 1 _ rfl
  have kc2 := B5_c.cell 2 _ rfl
  have kcl := B5_c.lt
  try simp at kc0 kc1 kc2 kcl
  go_wp2_with fail
  refine (C5.out _ (by exact T5)).mono ?_
  rintro e w6 ⟨rfl, hb⟩
  clear kd0 kd1 kd2 kdl kc0 kc1 kc2 kcl
  have T6 := T5.below hb
  have B6_d := B5_d.below hb
  have B6_c := B5_c.below hb
  have W6 := Lib.hid (blw_trans W5.out hb)
  clear hb T5 B5_d B5_c W5
  have kd0 := B6_d.cell 0 _ rfl
  have kd1 := B6_d.cell 1 _ rfl
  have kd2 := B6_d.cell 2 _ rfl
  have kdl := B6_d.lt
  try simp at kd0 kd1 kd2 kdl
  have kc0 := B6_c.cell 0 _ rfl
  have kc1 := B6_c.cell 1 _ rfl
  have kc2 := B6_c.cell 2 _ rfl
  have kcl := B6_c.lt
  try simp at kc0 kc1 kc2 kcl
  clear T6 B6_d B6_c
  go_wp2
  go_ret
  exact ⟨ret_bool (by simp), W6.out⟩

theorem dateCycle_any (y m d y' m' d' : Int) (w : World) (hT : DP w) :
    Calls Tryd.prog 3 #[.agg #[.int .i64 y, .int .i64 m, .int .i64 d], .agg #[.int .i64 y', .int .i64 m', .int .i64 d']] w fun e w' => e = .returned (.bool true) ∧ Below w.heap.size w w' := by
  by_cases h : Cal.vld y m d
  · have hin := Dcy.within h
    have hyb := Cal.yr_bd y h.1 (by have := h.2.1; omega)
    obtain ⟨f1, f2, e1, e2⟩ := Dcy.ends y h.1 h.2.1
    have l01 := Cal.lp_01 y
    have c1 := fun w (hT : DP w) => number_yes y m d w h hT.t
    have c3 := fun w (hT : DP w) => number_yes y 1 1 w f1 hT.t
    have c4 := fun w (hT : DP w) => number_yes y 12 31 w f2 hT.t
    rw [e1] at c3
    rw [e2] at c4
    have hl : Cal.lp y = 0 ∨ Cal.lp y = 1 := by omega
    have c6 := fun w (hT : DP w) => dtext_yes y m d w hT.t hT.p h
    by_cases g : 9599 < y
    · have c2 := fun w (hT : DP w) => number_no (y + 400) m d w (fun q => by have := q.2.1; omega) hT.t
      by_cases h' : Cal.vld y' m' d'
      · have c5 := fun w (hT : DP w) => number_yes y' m' d' w h' hT.t
        have c7 := fun w (hT : DP w) => dtext_yes y' m' d' w hT.t hT.p h'
        rcases hl with hl | hl
        all_goals first | rw [hl, show Cal.yr y + 364 + 0 = Cal.yr y + 364 by omega] at c4 hin | rw [hl, show Cal.yr y + 364 + 1 = Cal.yr y + 365 by omega] at c4 hin
        · exact dateCycle_vy0 y m d y' m' d' w hT _ _ _ _ (Dcy.txt_lt h h') _ h.1 h.2.1 hyb.1 hyb.2 hin.1 hin.2 g (Lib.hid c1) (Lib.hid c2) (Lib.hid c3) (Lib.hid c4) (Lib.hid c5) (Lib.hid c6) (Lib.hid c7)
        · exact dateCycle_vy1 y m d y' m' d' w hT _ _ _ _ (Dcy.txt_lt h h') _ h.1 h.2.1 hyb.1 hyb.2 hin.1 hin.2 g (Lib.hid c1) (Lib.hid c2) (Lib.hid c3) (Lib.hid c4) (Lib.hid c5) (Lib.hid c6) (Lib.hid c7)
      · have c5 := fun w (hT : DP w) => number_no y' m' d' w h' hT.t
        rcases hl with hl | hl
        all_goals first | rw [hl, show Cal.yr y + 364 + 0 = Cal.yr y + 364 by omega] at c4 hin | rw [hl, show Cal.yr y + 364 + 1 = Cal.yr y + 365 by omega] at c4 hin
        · exact dateCycle_vn0 y m d y' m' d' w hT _ _ h.1 h.2.1 hyb.1 hyb.2 hin.1 hin.2 g (Lib.hid c1) (Lib.hid c2) (Lib.hid c3) (Lib.hid c4) (Lib.hid c5)
        · exact dateCycle_vn1 y m d y' m' d' w hT _ _ h.1 h.2.1 hyb.1 hyb.2 hin.1 hin.2 g (Lib.hid c1) (Lib.hid c2) (Lib.hid c3) (Lib.hid c4) (Lib.hid c5)
    · have c2 := fun w (hT : DP w) => number_yes (y + 400) m d w (Dcy.vld_400 y m d h (by omega)) hT.t
      rw [Dcy.num_400] at c2
      by_cases h' : Cal.vld y' m' d'
      · have c5 := fun w (hT : DP w) => number_yes y' m' d' w h' hT.t
        have c7 := fun w (hT : DP w) => dtext_yes y' m' d' w hT.t hT.p h'
        rcases hl with hl | hl
        all_goals first | rw [hl, show Cal.yr y + 364 + 0 = Cal.yr y + 364 by omega] at c4 hin | rw [hl, show Cal.yr y + 364 + 1 = Cal.yr y + 365 by omega] at c4 hin
        · exact dateCycle_uy0 y m d y' m' d' w hT _ _ _ _ (Dcy.txt_lt h h') _ h.1 h.2.1 hyb.1 hyb.2 hin.1 hin.2 g (Lib.hid c1) (Lib.hid c2) (Lib.hid c3) (Lib.hid c4) (Lib.hid c5) (Lib.hid c6) (Lib.hid c7)
        · exact dateCycle_uy1 y m d y' m' d' w hT _ _ _ _ (Dcy.txt_lt h h') _ h.1 h.2.1 hyb.1 hyb.2 hin.1 hin.2 g (Lib.hid c1) (Lib.hid c2) (Lib.hid c3) (Lib.hid c4) (Lib.hid c5) (Lib.hid c6) (Lib.hid c7)
      · have c5 := fun w (hT : DP w) => number_no y' m' d' w h' hT.t
        rcases hl with hl | hl
        all_goals first | rw [hl, show Cal.yr y + 364 + 0 = Cal.yr y + 364 by omega] at c4 hin | rw [hl, show Cal.yr y + 364 + 1 = Cal.yr y + 365 by omega] at c4 hin
        · exact dateCycle_un0 y m d y' m' d' w hT _ _ h.1 h.2.1 hyb.1 hyb.2 hin.1 hin.2 g (Lib.hid c1) (Lib.hid c2) (Lib.hid c3) (Lib.hid c4) (Lib.hid c5)
        · exact dateCycle_un1 y m d y' m' d' w hT _ _ h.1 h.2.1 hyb.1 hyb.2 hin.1 hin.2 g (Lib.hid c1) (Lib.hid c2) (Lib.hid c3) (Lib.hid c4) (Lib.hid c5)
  · exact dateCycle_no y m d y' m' d' w hT h
end Go.Proofs.YthanbfimeolidaaDoor
