/- The walk of the law RelTurned: it returns true of whatever times. -/
import Derived.Test.YthanbfimeolidaaDoorRelT
import Derived.Test.YthanbfimeolidaaDoorRelQ
namespace Go.Proofs.YthanbfimeolidaaDoor
open Go.RowKit

structure UP (w : World) : Prop where
  u : UnitsW w
  p : PowW w
theorem UP.below {w w' : World} (h : UP w) (hb : Below w.heap.size w w') : UP w' := ⟨h.u.below hb, h.p.below hb⟩
theorem UP.alloc {w : World} (h : UP w) (o : Obj) : UP (w.alloc o) := h.below (blw_alloc w o)

set_option maxRecDepth 100000 in
set_option maxHeartbeats 1000000 in
theorem relTurned_no (a b m : Int) (w : World) (hT : UP w) (h : ¬ inFar a b) :
    Calls Tryd.prog 4 #[.int .i64 a, .int .i64 b, .int .i64 m] w fun e w' => e = .returned (.bool true) ∧ Below w.heap.size w w' := by
  have C0 := Lib.hid fun w (hT : UP w) => relText_fact w hT.u hT.p
  have C1 := Lib.hid fun w => relOf_no a b w h
  have C2 := Lib.hid fun w => relOf_no b a w (fun g => h ⟨g.2.2.1, g.2.2.2, g.1, g.2.1⟩)
  clear h
  go_enter Tryd.func4, Tryd.ntmps4
  go_wp2_with fail
  refine (C0.out _ (by exact hT)).mono ?_
  rintro e w1 ⟨rfl, hb⟩
  have T1 := hT.below hb
  have W1 := Lib.hid (blw_trans (Below.refl w.heap.size w) hb)
  clear hb 
  go_wp2_with fail
  refine (C1.out _).mono ?_
  rintro e w2 ⟨rfl, hb⟩
  have T2 := T1.below hb
  have W2 := Lib.hid (blw_trans W1.out hb)
  clear hb T1 W1
  go_wp2_with fail
  refine (C2.out _).mono ?_
  rintro e w3 ⟨rfl, hb⟩
  have T3 := T2.below hb
  have W3 := Lib.hid (blw_trans W2.out hb)
  clear hb T2 W2
  clear T3
  go_wp2
  go_ret
  exact ⟨ret_bool (by simp), W3.out⟩

set_option maxRecDepth 100000 in
set_option maxHeartbeats 2000000 in
theorem relTurned_c0y (a b m q : Int) (w : World) (hT : UP w) (h0 : ¬ a < -1099511627776) (h1 : ¬ 1099511627776 < a) (h2 : ¬ b < -1099511627776) (h3 : ¬ 1099511627776 < b)
    (C1 : Hid (∀ w : World, UP w → Calls Tryd.prog 12 #[.int .i64 a, .int .i64 b] w fun e w' => e = .returned (.tuple #[.string ⟨#[100, 97, 121]⟩, .int .i64 q, .nilIface]) ∧ Below w.heap.size w w')) (C2 : Hid (∀ w : World, UP w → Calls Tryd.prog 12 #[.int .i64 b, .int .i64 a] w fun e w' => e = .returned (.tuple #[.string ⟨#[100, 97, 121]⟩, .int .i64 (-q), .nilIface]) ∧ Below w.heap.size w w'))
    (C3 : Hid (¬ m < -1099511627776 → ¬ 1099511627776 < m → ∀ w : World, UP w → Calls Tryd.prog 12 #[.int .i64 (a + m), .int .i64 (b + m)] w fun e w' => e = .returned (.tuple #[.string ⟨#[100, 97, 121]⟩, .int .i64 q, .nilIface]) ∧ Below w.heap.size w w'))
    (z1 : Rlt.size q * 86400 ≤ Rlt.size (b - a)) (z2 : Rlt.size (b - a) < (Rlt.size q + 1) * 86400) :
    Calls Tryd.prog 4 #[.int .i64 a, .int .i64 b, .int .i64 m] w fun e w' => e = .returned (.bool true) ∧ Below w.heap.size w w' := by
  have fb := size_far a b ⟨h0, h1, h2, h3⟩
  have sn := size_nn q
  have qb : -2199023255552 ≤ q ∧ q ≤ 2199023255552 := by
    have : Rlt.size q ≤ 2199023255552 := by omega
    unfold Rlt.size at this; split at this <;> omega
  obtain ⟨qb1, qb2⟩ := qb
  have CF := Lib.hid fun w => rsize_any (b - a) w (by omega) (by omega)
  have CQ := Lib.hid fun w => rsize_any q w (by omega) (by omega)
  have C0 := Lib.hid fun w (hT : UP w) => relText_fact w hT.u hT.p
  generalize Rlt.size (b - a) = far at *
  generalize Rlt.size q = z at *
  have zb : z ≤ 2199023255552 := by omega
  go_enter Tryd.func4, Tryd.ntmps4
  go_wp2_with fail
  refine (C0.out _ (by exact hT)).mono ?_
  rintro e w1 ⟨rfl, hb⟩
  have T1 := hT.below hb
  have W1 := Lib.hid (blw_trans (Below.refl w.heap.size w) hb)
  clear hb 
  go_wp2_with fail
  refine (C1.out _ (by exact T1)).mono ?_
  rintro e w2 ⟨rfl, hb⟩
  have T2 := T1.below hb
  have W2 := Lib.hid (blw_trans W1.out hb)
  clear hb T1 W1
  go_wp2_with fail
  refine (C2.out _ (by exact T2)).mono ?_
  rintro e w3 ⟨rfl, hb⟩
  have T3 := T2.below hb
  have W3 := Lib.hid (blw_trans W2.out hb)
  clear hb T2 W2
  go_wp2_with fail
  refine (CF.out _).mono ?_
  rintro e w' ⟨rfl, rfl⟩
  go_wp2_with fail
  refine (CQ.out _).mono ?_
  rintro e w' ⟨rfl, rfl⟩
  go_wp2_with fail
  refine (CQ.out _).mono ?_
  rintro e w' ⟨rfl, rfl⟩
  by_cases m1 : m < -1099511627776
  · go_wp2_with fail
    go_ret
    exact ⟨rfl, W3.out⟩
  by_cases m2 : 1099511627776 < m
  · go_wp2_with fail
    go_ret
    exact ⟨rfl, W3.out⟩
  have C4 := Lib.hid (C3.out (by omega) (by omega))
  clear C3
  go_wp2_with fail
  refine (C4.out _ T3).mono ?_
  rintro e w4 ⟨rfl, hb⟩
  have W4 := Lib.hid (blw_trans W3.out hb)
  clear hb
  go_wp2_with fail
  go_ret
  exact ⟨ret_bool (by simp), W4.out⟩

set_option maxRecDepth 100000 in
set_option maxHeartbeats 2000000 in
theorem relTurned_c0n (a b m q : Int) (w : World) (hT : UP w) (h0 : ¬ a < -1099511627776) (h1 : ¬ 1099511627776 < a) (h2 : ¬ b < -1099511627776) (h3 : ¬ 1099511627776 < b)
    (C1 : Hid (∀ w : World, UP w → Calls Tryd.prog 12 #[.int .i64 a, .int .i64 b] w fun e w' => e = .returned (.tuple #[.string ⟨#[100, 97, 121]⟩, .int .i64 q, .nilIface]) ∧ Below w.heap.size w w')) (C2 : Hid (∀ w : World, UP w → Calls Tryd.prog 12 #[.int .i64 b, .int .i64 a] w fun e w' => e = .returned (.tuple #[.string ⟨#[100, 97, 121]⟩, .int .i64 (-q), .nilIface]) ∧ Below w.heap.size w w'))
    (C3 : Hid (¬ m < -1099511627776 → ¬ 1099511627776 < m → ∀ w : World, UP w → Calls Tryd.prog 12 #[.int .i64 (a + m), .int .i64 (b + m)] w fun e w' => e = .returned (.tuple #[.string ⟨#[]⟩, .int .i64 0, errV 1]) ∧ Below w.heap.size w w'))
    (z1 : Rlt.size q * 86400 ≤ Rlt.size (b - a)) (z2 : Rlt.size (b - a) < (Rlt.size q + 1) * 86400) :
    Calls Tryd.prog 4 #[.int .i64 a, .int .i64 b, .int .i64 m] w fun e w' => e = .returned (.bool true) ∧ Below w.heap.size w w' := by
  have fb := size_far a b ⟨h0, h1, h2, h3⟩
  have sn := size_nn q
  have qb : -2199023255552 ≤ q ∧ q ≤ 2199023255552 := by
    have : Rlt.size q ≤ 2199023255552 := by omega
    unfold Rlt.size at this; split at this <;> omega
  obtain ⟨qb1, qb2⟩ := qb
  have CF := Lib.hid fun w => rsize_any (b - a) w (by omega) (by omega)
  have CQ := Lib.hid fun w => rsize_any q w (by omega) (by omega)
  have C0 := Lib.hid fun w (hT : UP w) => relText_fact w hT.u hT.p
  generalize Rlt.size (b - a) = far at *
  generalize Rlt.size q = z at *
  have zb : z ≤ 2199023255552 := by omega
  go_enter Tryd.func4, Tryd.ntmps4
  go_wp2_with fail
  refine (C0.out _ (by exact hT)).mono ?_
  rintro e w1 ⟨rfl, hb⟩
  have T1 := hT.below hb
  have W1 := Lib.hid (blw_trans (Below.refl w.heap.size w) hb)
  clear hb 
  go_wp2_with fail
  refine (C1.out _ (by exact T1)).mono ?_
  rintro e w2 ⟨rfl, hb⟩
  have T2 := T1.below hb
  have W2 := Lib.hid (blw_trans W1.out hb)
  clear hb T1 W1
  go_wp2_with fail
  refine (C2.out _ (by exact T2)).mono ?_
  rintro e w3 ⟨rfl, hb⟩
  have T3 := T2.below hb
  have W3 := Lib.hid (blw_trans W2.out hb)
  clear hb T2 W2
  go_wp2_with fail
  refine (CF.out _).mono ?_
  rintro e w' ⟨rfl, rfl⟩
  go_wp2_with fail
  refine (CQ.out _).mono ?_
  rintro e w' ⟨rfl, rfl⟩
  go_wp2_with fail
  refine (CQ.out _).mono ?_
  rintro e w' ⟨rfl, rfl⟩
  by_cases m1 : m < -1099511627776
  · go_wp2_with fail
    go_ret
    exact ⟨rfl, W3.out⟩
  by_cases m2 : 1099511627776 < m
  · go_wp2_with fail
    go_ret
    exact ⟨rfl, W3.out⟩
  have C4 := Lib.hid (C3.out (by omega) (by omega))
  clear C3
  go_wp2_with fail
  refine (C4.out _ T3).mono ?_
  rintro e w4 ⟨rfl, hb⟩
  have W4 := Lib.hid (blw_trans W3.out hb)
  clear hb
  go_wp2_with fail
  go_ret
  exact ⟨ret_bool (by simp), W4.out⟩

set_option maxRecDepth 100000 in
set_option maxHeartbeats 2000000 in
theorem relTurned_c1y (a b m q : Int) (w : World) (hT : UP w) (h0 : ¬ a < -1099511627776) (h1 : ¬ 1099511627776 < a) (h2 : ¬ b < -1099511627776) (h3 : ¬ 1099511627776 < b)
    (C1 : Hid (∀ w : World, UP w → Calls Tryd.prog 12 #[.int .i64 a, .int .i64 b] w fun e w' => e = .returned (.tuple #[.string ⟨#[104, 111, 117, 114]⟩, .int .i64 q, .nilIface]) ∧ Below w.heap.size w w')) (C2 : Hid (∀ w : World, UP w → Calls Tryd.prog 12 #[.int .i64 b, .int .i64 a] w fun e w' => e = .returned (.tuple #[.string ⟨#[104, 111, 117, 114]⟩, .int .i64 (-q), .nilIface]) ∧ Below w.heap.size w w'))
    (C3 : Hid (¬ m < -1099511627776 → ¬ 1099511627776 < m → ∀ w : World, UP w → Calls Tryd.prog 12 #[.int .i64 (a + m), .int .i64 (b + m)] w fun e w' => e = .returned (.tuple #[.string ⟨#[104, 111, 117, 114]⟩, .int .i64 q, .nilIface]) ∧ Below w.heap.size w w'))
    (z1 : Rlt.size q * 3600 ≤ Rlt.size (b - a)) (z2 : Rlt.size (b - a) < (Rlt.size q + 1) * 3600) :
    Calls Tryd.prog 4 #[.int .i64 a, .int .i64 b, .int .i64 m] w fun e w' => e = .returned (.bool true) ∧ Below w.heap.size w w' := by
  have fb := size_far a b ⟨h0, h1, h2, h3⟩
  have sn := size_nn q
  have qb : -2199023255552 ≤ q ∧ q ≤ 2199023255552 := by
    have : Rlt.size q ≤ 2199023255552 := by omega
    unfold Rlt.size at this; split at this <;> omega
  obtain ⟨qb1, qb2⟩ := qb
  have CF := Lib.hid fun w => rsize_any (b - a) w (by omega) (by omega)
  have CQ := Lib.hid fun w => rsize_any q w (by omega) (by omega)
  have C0 := Lib.hid fun w (hT : UP w) => relText_fact w hT.u hT.p
  generalize Rlt.size (b - a) = far at *
  generalize Rlt.size q = z at *
  have zb : z ≤ 2199023255552 := by omega
  go_enter Tryd.func4, Tryd.ntmps4
  go_wp2_with fail
  refine (C0.out _ (by exact hT)).mono ?_
  rintro e w1 ⟨rfl, hb⟩
  have T1 := hT.below hb
  have W1 := Lib.hid (blw_trans (Below.refl w.heap.size w) hb)
  clear hb 
  go_wp2_with fail
  refine (C1.out _ (by exact T1)).mono ?_
  rintro e w2 ⟨rfl, hb⟩
  have T2 := T1.below hb
  have W2 := Lib.hid (blw_trans W1.out hb)
  clear hb T1 W1
  go_wp2_with fail
  refine (C2.out _ (by exact T2)).mono ?_
  rintro e w3 ⟨rfl, hb⟩
  have T3 := T2.below hb
  have W3 := Lib.hid (blw_trans W2.out hb)
  clear hb T2 W2
  go_wp2_with fail
  refine (CF.out _).mono ?_
  rintro e w' ⟨rfl, rfl⟩
  go_wp2_with fail
  refine (CQ.out _).mono ?_
  rintro e w' ⟨rfl, rfl⟩
  go_wp2_with fail
  refine (CQ.out _).mono ?_
  rintro e w' ⟨rfl, rfl⟩
  by_cases m1 : m < -1099511627776
  · go_wp2_with fail
    go_ret
    exact ⟨rfl, W3.out⟩
  by_cases m2 : 1099511627776 < m
  · go_wp2_with fail
    go_ret
    exact ⟨rfl, W3.out⟩
  have C4 := Lib.hid (C3.out (by omega) (by omega))
  clear C3
  go_wp2_with fail
  refine (C4.out _ T3).mono ?_
  rintro e w4 ⟨rfl, hb⟩
  have W4 := Lib.hid (blw_trans W3.out hb)
  clear hb
  go_wp2_with fail
  go_ret
  exact ⟨ret_bool (by simp), W4.out⟩

set_option maxRecDepth 100000 in
set_option maxHeartbeats 2000000 in
theorem relTurned_c1n (a b m q : Int) (w : World) (hT : UP w) (h0 : ¬ a < -1099511627776) (h1 : ¬ 1099511627776 < a) (h2 : ¬ b < -1099511627776) (h3 : ¬ 1099511627776 < b)
    (C1 : Hid (∀ w : World, UP w → Calls Tryd.prog 12 #[.int .i64 a, .int .i64 b] w fun e w' => e = .returned (.tuple #[.string ⟨#[104, 111, 117, 114]⟩, .int .i64 q, .nilIface]) ∧ Below w.heap.size w w')) (C2 : Hid (∀ w : World, UP w → Calls Tryd.prog 12 #[.int .i64 b, .int .i64 a] w fun e w' => e = .returned (.tuple #[.string ⟨#[104, 111, 117, 114]⟩, .int .i64 (-q), .nilIface]) ∧ Below w.heap.size w w'))
    (C3 : Hid (¬ m < -1099511627776 → ¬ 1099511627776 < m → ∀ w : World, UP w → Calls Tryd.prog 12 #[.int .i64 (a + m), .int .i64 (b + m)] w fun e w' => e = .returned (.tuple #[.string ⟨#[]⟩, .int .i64 0, errV 1]) ∧ Below w.heap.size w w'))
    (z1 : Rlt.size q * 3600 ≤ Rlt.size (b - a)) (z2 : Rlt.size (b - a) < (Rlt.size q + 1) * 3600) :
    Calls Tryd.prog 4 #[.int .i64 a, .int .i64 b, .int .i64 m] w fun e w' => e = .returned (.bool true) ∧ Below w.heap.size w w' := by
  have fb := size_far a b ⟨h0, h1, h2, h3⟩
  have sn := size_nn q
  have qb : -2199023255552 ≤ q ∧ q ≤ 2199023255552 := by
    have : Rlt.size q ≤ 2199023255552 := by omega
    unfold Rlt.size at this; split at this <;> omega
  obtain ⟨qb1, qb2⟩ := qb
  have CF := Lib.hid fun w => rsize_any (b - a) w (by omega) (by omega)
  have CQ := Lib.hid fun w => rsize_any q w (by omega) (by omega)
  have C0 := Lib.hid fun w (hT : UP w) => relText_fact w hT.u hT.p
  generalize Rlt.size (b - a) = far at *
  generalize Rlt.size q = z at *
  have zb : z ≤ 2199023255552 := by omega
  go_enter Tryd.func4, Tryd.ntmps4
  go_wp2_with fail
  refine (C0.out _ (by exact hT)).mono ?_
  rintro e w1 ⟨rfl, hb⟩
  have T1 := hT.below hb
  have W1 := Lib.hid (blw_trans (Below.refl w.heap.size w) hb)
  clear hb 
  go_wp2_with fail
  refine (C1.out _ (by exact T1)).mono ?_
  rintro e w2 ⟨rfl, hb⟩
  have T2 := T1.below hb
  have W2 := Lib.hid (blw_trans W1.out hb)
  clear hb T1 W1
  go_wp2_with fail
  refine (C2.out _ (by exact T2)).mono ?_
  rintro e w3 ⟨rfl, hb⟩
  have T3 := T2.below hb
  have W3 := Lib.hid (blw_trans W2.out hb)
  clear hb T2 W2
  go_wp2_with fail
  refine (CF.out _).mono ?_
  rintro e w' ⟨rfl, rfl⟩
  go_wp2_with fail
  refine (CQ.out _).mono ?_
  rintro e w' ⟨rfl, rfl⟩
  go_wp2_with fail
  refine (CQ.out _).mono ?_
  rintro e w' ⟨rfl, rfl⟩
  by_cases m1 : m < -1099511627776
  · go_wp2_with fail
    go_ret
    exact ⟨rfl, W3.out⟩
  by_cases m2 : 1099511627776 < m
  · go_wp2_with fail
    go_ret
    exact ⟨rfl, W3.out⟩
  have C4 := Lib.hid (C3.out (by omega) (by omega))
  clear C3
  go_wp2_with fail
  refine (C4.out _ T3).mono ?_
  rintro e w4 ⟨rfl, hb⟩
  have W4 := Lib.hid (blw_trans W3.out hb)
  clear hb
  go_wp2_with fail
  go_ret
  exact ⟨ret_bool (by simp), W4.out⟩

set_option maxRecDepth 100000 in
set_option maxHeartbeats 2000000 in
theorem relTurned_c2y (a b m q : Int) (w : World) (hT : UP w) (h0 : ¬ a < -1099511627776) (h1 : ¬ 1099511627776 < a) (h2 : ¬ b < -1099511627776) (h3 : ¬ 1099511627776 < b)
    (C1 : Hid (∀ w : World, UP w → Calls Tryd.prog 12 #[.int .i64 a, .int .i64 b] w fun e w' => e = .returned (.tuple #[.string ⟨#[109, 105, 110, 117, 116, 101]⟩, .int .i64 q, .nilIface]) ∧ Below w.heap.size w w')) (C2 : Hid (∀ w : World, UP w → Calls Tryd.prog 12 #[.int .i64 b, .int .i64 a] w fun e w' => e = .returned (.tuple #[.string ⟨#[109, 105, 110, 117, 116, 101]⟩, .int .i64 (-q), .nilIface]) ∧ Below w.heap.size w w'))
    (C3 : Hid (¬ m < -1099511627776 → ¬ 1099511627776 < m → ∀ w : World, UP w → Calls Tryd.prog 12 #[.int .i64 (a + m), .int .i64 (b + m)] w fun e w' => e = .returned (.tuple #[.string ⟨#[109, 105, 110, 117, 116, 101]⟩, .int .i64 q, .nilIface]) ∧ Below w.heap.size w w'))
    (z1 : Rlt.size q * 60 ≤ Rlt.size (b - a)) (z2 : Rlt.size (b - a) < (Rlt.size q + 1) * 60) :
    Calls Tryd.prog 4 #[.int .i64 a, .int .i64 b, .int .i64 m] w fun e w' => e = .returned (.bool true) ∧ Below w.heap.size w w' := by
  have fb := size_far a b ⟨h0, h1, h2, h3⟩
  have sn := size_nn q
  have qb : -2199023255552 ≤ q ∧ q ≤ 2199023255552 := by
    have : Rlt.size q ≤ 2199023255552 := by omega
    unfold Rlt.size at this; split at this <;> omega
  obtain ⟨qb1, qb2⟩ := qb
  have CF := Lib.hid fun w => rsize_any (b - a) w (by omega) (by omega)
  have CQ := Lib.hid fun w => rsize_any q w (by omega) (by omega)
  have C0 := Lib.hid fun w (hT : UP w) => relText_fact w hT.u hT.p
  generalize Rlt.size (b - a) = far at *
  generalize Rlt.size q = z at *
  have zb : z ≤ 2199023255552 := by omega
  go_enter Tryd.func4, Tryd.ntmps4
  go_wp2_with fail
  refine (C0.out _ (by exact hT)).mono ?_
  rintro e w1 ⟨rfl, hb⟩
  have T1 := hT.below hb
  have W1 := Lib.hid (blw_trans (Below.refl w.heap.size w) hb)
  clear hb 
  go_wp2_with fail
  refine (C1.out _ (by exact T1)).mono ?_
  rintro e w2 ⟨rfl, hb⟩
  have T2 := T1.below hb
  have W2 := Lib.hid (blw_trans W1.out hb)
  clear hb T1 W1
  go_wp2_with fail
  refine (C2.out _ (by exact T2)).mono ?_
  rintro e w3 ⟨rfl, hb⟩
  have T3 := T2.below hb
  have W3 := Lib.hid (blw_trans W2.out hb)
  clear hb T2 W2
  go_wp2_with fail
  refine (CF.out _).mono ?_
  rintro e w' ⟨rfl, rfl⟩
  go_wp2_with fail
  refine (CQ.out _).mono ?_
  rintro e w' ⟨rfl, rfl⟩
  go_wp2_with fail
  refine (CQ.out _).mono ?_
  rintro e w' ⟨rfl, rfl⟩
  by_cases m1 : m < -1099511627776
  · go_wp2_with fail
    go_ret
    exact ⟨rfl, W3.out⟩
  by_cases m2 : 1099511627776 < m
  · go_wp2_with fail
    go_ret
    exact ⟨rfl, W3.out⟩
  have C4 := Lib.hid (C3.out (by omega) (by omega))
  clear C3
  go_wp2_with fail
  refine (C4.out _ T3).mono ?_
  rintro e w4 ⟨rfl, hb⟩
  have W4 := Lib.hid (blw_trans W3.out hb)
  clear hb
  go_wp2_with fail
  go_ret
  exact ⟨ret_bool (by simp), W4.out⟩

set_option maxRecDepth 100000 in
set_option maxHeartbeats 2000000 in
theorem relTurned_c2n (a b m q : Int) (w : World) (hT : UP w) (h0 : ¬ a < -1099511627776) (h1 : ¬ 1099511627776 < a) (h2 : ¬ b < -1099511627776) (h3 : ¬ 1099511627776 < b)
    (C1 : Hid (∀ w : World, UP w → Calls Tryd.prog 12 #[.int .i64 a, .int .i64 b] w fun e w' => e = .returned (.tuple #[.string ⟨#[109, 105, 110, 117, 116, 101]⟩, .int .i64 q, .nilIface]) ∧ Below w.heap.size w w')) (C2 : Hid (∀ w : World, UP w → Calls Tryd.prog 12 #[.int .i64 b, .int .i64 a] w fun e w' => e = .returned (.tuple #[.string ⟨#[109, 105, 110, 117, 116, 101]⟩, .int .i64 (-q), .nilIface]) ∧ Below w.heap.size w w'))
    (C3 : Hid (¬ m < -1099511627776 → ¬ 1099511627776 < m → ∀ w : World, UP w → Calls Tryd.prog 12 #[.int .i64 (a + m), .int .i64 (b + m)] w fun e w' => e = .returned (.tuple #[.string ⟨#[]⟩, .int .i64 0, errV 1]) ∧ Below w.heap.size w w'))
    (z1 : Rlt.size q * 60 ≤ Rlt.size (b - a)) (z2 : Rlt.size (b - a) < (Rlt.size q + 1) * 60) :
    Calls Tryd.prog 4 #[.int .i64 a, .int .i64 b, .int .i64 m] w fun e w' => e = .returned (.bool true) ∧ Below w.heap.size w w' := by
  have fb := size_far a b ⟨h0, h1, h2, h3⟩
  have sn := size_nn q
  have qb : -2199023255552 ≤ q ∧ q ≤ 2199023255552 := by
    have : Rlt.size q ≤ 2199023255552 := by omega
    unfold Rlt.size at this; split at this <;> omega
  obtain ⟨qb1, qb2⟩ := qb
  have CF := Lib.hid fun w => rsize_any (b - a) w (by omega) (by omega)
  have CQ := Lib.hid fun w => rsize_any q w (by omega) (by omega)
  have C0 := Lib.hid fun w (hT : UP w) => relText_fact w hT.u hT.p
  generalize Rlt.size (b - a) = far at *
  generalize Rlt.size q = z at *
  have zb : z ≤ 2199023255552 := by omega
  go_enter Tryd.func4, Tryd.ntmps4
  go_wp2_with fail
  refine (C0.out _ (by exact hT)).mono ?_
  rintro e w1 ⟨rfl, hb⟩
  have T1 := hT.below hb
  have W1 := Lib.hid (blw_trans (Below.refl w.heap.size w) hb)
  clear hb 
  go_wp2_with fail
  refine (C1.out _ (by exact T1)).mono ?_
  rintro e w2 ⟨rfl, hb⟩
  have T2 := T1.below hb
  have W2 := Lib.hid (blw_trans W1.out hb)
  clear hb T1 W1
  go_wp2_with fail
  refine (C2.out _ (by exact T2)).mono ?_
  rintro e w3 ⟨rfl, hb⟩
  have T3 := T2.below hb
  have W3 := Lib.hid (blw_trans W2.out hb)
  clear hb T2 W2
  go_wp2_with fail
  refine (CF.out _).mono ?_
  rintro e w' ⟨rfl, rfl⟩
  go_wp2_with fail
  refine (CQ.out _).mono ?_
  rintro e w' ⟨rfl, rfl⟩
  go_wp2_with fail
  refine (CQ.out _).mono ?_
  rintro e w' ⟨rfl, rfl⟩
  by_cases m1 : m < -1099511627776
  · go_wp2_with fail
    go_ret
    exact ⟨rfl, W3.out⟩
  by_cases m2 : 1099511627776 < m
  · go_wp2_with fail
    go_ret
    exact ⟨rfl, W3.out⟩
  have C4 := Lib.hid (C3.out (by omega) (by omega))
  clear C3
  go_wp2_with fail
  refine (C4.out _ T3).mono ?_
  rintro e w4 ⟨rfl, hb⟩
  have W4 := Lib.hid (blw_trans W3.out hb)
  clear hb
  go_wp2_with fail
  go_ret
  exact ⟨ret_bool (by simp), W4.out⟩

set_option maxRecDepth 100000 in
set_option maxHeartbeats 2000000 in
theorem relTurned_c3y (a b m q : Int) (w : World) (hT : UP w) (h0 : ¬ a < -1099511627776) (h1 : ¬ 1099511627776 < a) (h2 : ¬ b < -1099511627776) (h3 : ¬ 1099511627776 < b)
    (C1 : Hid (∀ w : World, UP w → Calls Tryd.prog 12 #[.int .i64 a, .int .i64 b] w fun e w' => e = .returned (.tuple #[.string ⟨#[115, 101, 99, 111, 110, 100]⟩, .int .i64 q, .nilIface]) ∧ Below w.heap.size w w')) (C2 : Hid (∀ w : World, UP w → Calls Tryd.prog 12 #[.int .i64 b, .int .i64 a] w fun e w' => e = .returned (.tuple #[.string ⟨#[115, 101, 99, 111, 110, 100]⟩, .int .i64 (-q), .nilIface]) ∧ Below w.heap.size w w'))
    (C3 : Hid (¬ m < -1099511627776 → ¬ 1099511627776 < m → ∀ w : World, UP w → Calls Tryd.prog 12 #[.int .i64 (a + m), .int .i64 (b + m)] w fun e w' => e = .returned (.tuple #[.string ⟨#[115, 101, 99, 111, 110, 100]⟩, .int .i64 q, .nilIface]) ∧ Below w.heap.size w w'))
    (z1 : Rlt.size q * 1 ≤ Rlt.size (b - a)) (z2 : Rlt.size (b - a) < (Rlt.size q + 1) * 1) :
    Calls Tryd.prog 4 #[.int .i64 a, .int .i64 b, .int .i64 m] w fun e w' => e = .returned (.bool true) ∧ Below w.heap.size w w' := by
  have fb := size_far a b ⟨h0, h1, h2, h3⟩
  have sn := size_nn q
  have qb : -2199023255552 ≤ q ∧ q ≤ 2199023255552 := by
    have : Rlt.size q ≤ 2199023255552 := by omega
    unfold Rlt.size at this; split at this <;> omega
  obtain ⟨qb1, qb2⟩ := qb
  have CF := Lib.hid fun w => rsize_any (b - a) w (by omega) (by omega)
  have CQ := Lib.hid fun w => rsize_any q w (by omega) (by omega)
  have C0 := Lib.hid fun w (hT : UP w) => relText_fact w hT.u hT.p
  generalize Rlt.size (b - a) = far at *
  generalize Rlt.size q = z at *
  have zb : z ≤ 2199023255552 := by omega
  go_enter Tryd.func4, Tryd.ntmps4
  go_wp2_with fail
  refine (C0.out _ (by exact hT)).mono ?_
  rintro e w1 ⟨rfl, hb⟩
  have T1 := hT.below hb
  have W1 := Lib.hid (blw_trans (Below.refl w.heap.size w) hb)
  clear hb 
  go_wp2_with fail
  refine (C1.out _ (by exact T1)).mono ?_
  rintro e w2 ⟨rfl, hb⟩
  have T2 := T1.below hb
  have W2 := Lib.hid (blw_trans W1.out hb)
  clear hb T1 W1
  go_wp2_with fail
  refine (C2.out _ (by exact T2)).mono ?_
  rintro e w3 ⟨rfl, hb⟩
  have T3 := T2.below hb
  have W3 := Lib.hid (blw_trans W2.out hb)
  clear hb T2 W2
  go_wp2_with fail
  refine (CF.out _).mono ?_
  rintro e w' ⟨rfl, rfl⟩
  go_wp2_with fail
  refine (CQ.out _).mono ?_
  rintro e w' ⟨rfl, rfl⟩
  go_wp2_with fail
  refine (CQ.out _).mono ?_
  rintro e w' ⟨rfl, rfl⟩
  by_cases m1 : m < -1099511627776
  · go_wp2_with fail
    go_ret
    exact ⟨rfl, W3.out⟩
  by_cases m2 : 1099511627776 < m
  · go_wp2_with fail
    go_ret
    exact ⟨rfl, W3.out⟩
  have C4 := Lib.hid (C3.out (by omega) (by omega))
  clear C3
  go_wp2_with fail
  refine (C4.out _ T3).mono ?_
  rintro e w4 ⟨rfl, hb⟩
  have W4 := Lib.hid (blw_trans W3.out hb)
  clear hb
  go_wp2_with fail
  go_ret
  exact ⟨ret_bool (by simp), W4.out⟩

set_option maxRecDepth 100000 in
set_option maxHeartbeats 2000000 in
theorem relTurned_c3n (a b m q : Int) (w : World) (hT : UP w) (h0 : ¬ a < -1099511627776) (h1 : ¬ 1099511627776 < a) (h2 : ¬ b < -1099511627776) (h3 : ¬ 1099511627776 < b)
    (C1 : Hid (∀ w : World, UP w → Calls Tryd.prog 12 #[.int .i64 a, .int .i64 b] w fun e w' => e = .returned (.tuple #[.string ⟨#[115, 101, 99, 111, 110, 100]⟩, .int .i64 q, .nilIface]) ∧ Below w.heap.size w w')) (C2 : Hid (∀ w : World, UP w → Calls Tryd.prog 12 #[.int .i64 b, .int .i64 a] w fun e w' => e = .returned (.tuple #[.string ⟨#[115, 101, 99, 111, 110, 100]⟩, .int .i64 (-q), .nilIface]) ∧ Below w.heap.size w w'))
    (C3 : Hid (¬ m < -1099511627776 → ¬ 1099511627776 < m → ∀ w : World, UP w → Calls Tryd.prog 12 #[.int .i64 (a + m), .int .i64 (b + m)] w fun e w' => e = .returned (.tuple #[.string ⟨#[]⟩, .int .i64 0, errV 1]) ∧ Below w.heap.size w w'))
    (z1 : Rlt.size q * 1 ≤ Rlt.size (b - a)) (z2 : Rlt.size (b - a) < (Rlt.size q + 1) * 1) :
    Calls Tryd.prog 4 #[.int .i64 a, .int .i64 b, .int .i64 m] w fun e w' => e = .returned (.bool true) ∧ Below w.heap.size w w' := by
  have fb := size_far a b ⟨h0, h1, h2, h3⟩
  have sn := size_nn q
  have qb : -2199023255552 ≤ q ∧ q ≤ 2199023255552 := by
    have : Rlt.size q ≤ 2199023255552 := by omega
    unfold Rlt.size at this; split at this <;> omega
  obtain ⟨qb1, qb2⟩ := qb
  have CF := Lib.hid fun w => rsize_any (b - a) w (by omega) (by omega)
  have CQ := Lib.hid fun w => rsize_any q w (by omega) (by omega)
  have C0 := Lib.hid fun w (hT : UP w) => relText_fact w hT.u hT.p
  generalize Rlt.size (b - a) = far at *
  generalize Rlt.size q = z at *
  have zb : z ≤ 2199023255552 := by omega
  go_enter Tryd.func4, Tryd.ntmps4
  go_wp2_with fail
  refine (C0.out _ (by exact hT)).mono ?_
  rintro e w1 ⟨rfl, hb⟩
  have T1 := hT.below hb
  have W1 := Lib.hid (blw_trans (Below.refl w.heap.size w) hb)
  clear hb 
  go_wp2_with fail
  refine (C1.out _ (by exact T1)).mono ?_
  rintro e w2 ⟨rfl, hb⟩
  have T2 := T1.below hb
  have W2 := Lib.hid (blw_trans W1.out hb)
  clear hb T1 W1
  go_wp2_with fail
  refine (C2.out _ (by exact T2)).mono ?_
  rintro e w3 ⟨rfl, hb⟩
  have T3 := T2.below hb
  have W3 := Lib.hid (blw_trans W2.out hb)
  clear hb T2 W2
  go_wp2_with fail
  refine (CF.out _).mono ?_
  rintro e w' ⟨rfl, rfl⟩
  go_wp2_with fail
  refine (CQ.out _).mono ?_
  rintro e w' ⟨rfl, rfl⟩
  go_wp2_with fail
  refine (CQ.out _).mono ?_
  rintro e w' ⟨rfl, rfl⟩
  by_cases m1 : m < -1099511627776
  · go_wp2_with fail
    go_ret
    exact ⟨rfl, W3.out⟩
  by_cases m2 : 1099511627776 < m
  · go_wp2_with fail
    go_ret
    exact ⟨rfl, W3.out⟩
  have C4 := Lib.hid (C3.out (by omega) (by omega))
  clear C3
  go_wp2_with fail
  refine (C4.out _ T3).mono ?_
  rintro e w4 ⟨rfl, hb⟩
  have W4 := Lib.hid (blw_trans W3.out hb)
  clear hb
  go_wp2_with fail
  go_ret
  exact ⟨ret_bool (by simp), W4.out⟩

theorem relTurned_any (a b m : Int) (w : World) (hT : UP w) :
    Calls Tryd.prog 4 #[.int .i64 a, .int .i64 b, .int .i64 m] w fun e w' => e = .returned (.bool true) ∧ Below w.heap.size w w' := by
  by_cases h : inFar a b
  · have h' : inFar b a := ⟨h.2.2.1, h.2.2.2, h.1, h.2.1⟩
    have c1 := fun w (hT : UP w) => relOf_yes a b w hT.u h
    have c2 := fun w (hT : UP w) => relOf_yes b a w hT.u h'
    rw [show a - b = -(b - a) by omega, Rlt.unit_neg, Rlt.quot_neg] at c2
    have hw := Rlt.which (b - a)
    have e3 : b + m - (a + m) = b - a := by omega
    obtain ⟨h0, h1, h2, h3⟩ := h
    by_cases hm : inFar (a + m) (b + m)
    · have c3 := fun (_ : ¬ m < -1099511627776) (_ : ¬ 1099511627776 < m) w (hT : UP w) => relOf_yes (a + m) (b + m) w hT.u hm
      rw [e3] at c3
      rcases hw with ⟨e, z1, z2⟩ | ⟨e, z1, z2⟩ | ⟨e, z1, z2⟩ | ⟨e, z1, z2⟩ <;> rw [e] at c1 c2 c3
      · exact relTurned_c0y a b m _ w hT h0 h1 h2 h3 (Lib.hid c1) (Lib.hid c2) (Lib.hid c3) z1 z2
      · exact relTurned_c1y a b m _ w hT h0 h1 h2 h3 (Lib.hid c1) (Lib.hid c2) (Lib.hid c3) z1 z2
      · exact relTurned_c2y a b m _ w hT h0 h1 h2 h3 (Lib.hid c1) (Lib.hid c2) (Lib.hid c3) z1 z2
      · exact relTurned_c3y a b m _ w hT h0 h1 h2 h3 (Lib.hid c1) (Lib.hid c2) (Lib.hid c3) z1 z2
    · have c3 := fun (_ : ¬ m < -1099511627776) (_ : ¬ 1099511627776 < m) w (_ : UP w) => relOf_no (a + m) (b + m) w hm
      rcases hw with ⟨e, z1, z2⟩ | ⟨e, z1, z2⟩ | ⟨e, z1, z2⟩ | ⟨e, z1, z2⟩ <;> rw [e] at c1 c2
      · exact relTurned_c0n a b m _ w hT h0 h1 h2 h3 (Lib.hid c1) (Lib.hid c2) (Lib.hid c3) z1 z2
      · exact relTurned_c1n a b m _ w hT h0 h1 h2 h3 (Lib.hid c1) (Lib.hid c2) (Lib.hid c3) z1 z2
      · exact relTurned_c2n a b m _ w hT h0 h1 h2 h3 (Lib.hid c1) (Lib.hid c2) (Lib.hid c3) z1 z2
      · exact relTurned_c3n a b m _ w hT h0 h1 h2 h3 (Lib.hid c1) (Lib.hid c2) (Lib.hid c3) z1 z2
  · exact relTurned_no a b m w hT h
end Go.Proofs.YthanbfimeolidaaDoor
