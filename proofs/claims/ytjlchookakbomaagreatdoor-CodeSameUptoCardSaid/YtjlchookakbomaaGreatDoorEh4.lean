/- Three boxes of a call: a pattern, signs, a number. -/
import Derived.Test.YtjlchookakbomaaGreatDoorEh3
import Derived.Lib.Join
import Derived.Lib.Split
import Derived.Lib.Replace
import Derived.Test.YtjlchookakbomaaGreatDoorEh0
import Derived.Test.YtjlchookakbomaaGreatDoorShelfG
import Derived.Shelf.Strings.SlTrimAscii
import Derived.Test.YtjlchookakbomaaGreatDoorEh1
import Derived.Test.YtjlchookakbomaaGreatDoorShelfU
namespace Go.Proofs.YtjlchookakbomaaGreatDoor
open Go.RowKit
set_option maxRecDepth 100000 in
set_option maxHeartbeats 2000000 in
theorem pck_a (pre suf : List UInt8) (mi nf mf g g2 : Int) (w : World) (C1 : Hid (∀ w : World, Calls Tryz.prog 169 #[.string ⟨pre.toArray⟩] w fun e w' => e = .returned (.bool false) ∧ Below w.heap.size w w')) :
    Calls Tryz.prog 133 #[.agg #[.string ⟨pre.toArray⟩, .string ⟨suf.toArray⟩, .int .i64 mi, .int .i64 nf, .int .i64 mf, .int .i64 g, .int .i64 g2]] w fun e w' => e = .returned (errV 3) ∧ Below w.heap.size w w' := by
  have W0 := Lib.hid (blw_alloc w (.cells #[.string ⟨pre.toArray⟩, .string ⟨suf.toArray⟩, .int .i64 mi, .int .i64 nf, .int .i64 mf, .int .i64 g, .int .i64 g2] 123))
  have B0 := Lib.hid (Boxed.made w #[.string ⟨pre.toArray⟩, .string ⟨suf.toArray⟩, .int .i64 mi, .int .i64 nf, .int .i64 mf, .int .i64 g, .int .i64 g2] 123)
  go_enter Tryz.func133, Tryz.ntmps133
  go_wp2_with fail
  refine (C1.out _).mono ?_
  rintro e w1 ⟨rfl, hb⟩
  have W1 := Lib.hid (blw_trans W0.out hb)
  have B1 := Lib.hid (B0.out.below hb)
  clear hb W0 B0
  have c0 := B1.out.cell 0 _ rfl
  have c1 := B1.out.cell 1 _ rfl
  have c2 := B1.out.cell 2 _ rfl
  have c3 := B1.out.cell 3 _ rfl
  have c4 := B1.out.cell 4 _ rfl
  have c5 := B1.out.cell 5 _ rfl
  have c6 := B1.out.cell 6 _ rfl
  have cl := B1.out.lt
  go_wp2_with fail
  go_ret
  exact ⟨rfl, W1.out⟩
set_option maxRecDepth 100000 in
set_option maxHeartbeats 2000000 in
theorem pck_b (pre suf : List UInt8) (mi nf mf g g2 : Int) (w : World) (C1 : Hid (∀ w : World, Calls Tryz.prog 169 #[.string ⟨pre.toArray⟩] w fun e w' => e = .returned (.bool true) ∧ Below w.heap.size w w')) (C2 : Hid (∀ w : World, Calls Tryz.prog 169 #[.string ⟨suf.toArray⟩] w fun e w' => e = .returned (.bool false) ∧ Below w.heap.size w w')) :
    Calls Tryz.prog 133 #[.agg #[.string ⟨pre.toArray⟩, .string ⟨suf.toArray⟩, .int .i64 mi, .int .i64 nf, .int .i64 mf, .int .i64 g, .int .i64 g2]] w fun e w' => e = .returned (errV 3) ∧ Below w.heap.size w w' := by
  have W0 := Lib.hid (blw_alloc w (.cells #[.string ⟨pre.toArray⟩, .string ⟨suf.toArray⟩, .int .i64 mi, .int .i64 nf, .int .i64 mf, .int .i64 g, .int .i64 g2] 123))
  have B0 := Lib.hid (Boxed.made w #[.string ⟨pre.toArray⟩, .string ⟨suf.toArray⟩, .int .i64 mi, .int .i64 nf, .int .i64 mf, .int .i64 g, .int .i64 g2] 123)
  go_enter Tryz.func133, Tryz.ntmps133
  go_wp2_with fail
  refine (C1.out _).mono ?_
  rintro e w1 ⟨rfl, hb⟩
  have W1 := Lib.hid (blw_trans W0.out hb)
  have B1 := Lib.hid (B0.out.below hb)
  clear hb W0 B0
  have c0 := B1.out.cell 0 _ rfl
  have c1 := B1.out.cell 1 _ rfl
  have c2 := B1.out.cell 2 _ rfl
  have c3 := B1.out.cell 3 _ rfl
  have c4 := B1.out.cell 4 _ rfl
  have c5 := B1.out.cell 5 _ rfl
  have c6 := B1.out.cell 6 _ rfl
  have cl := B1.out.lt
  go_wp2_with fail
  refine (C2.out _).mono ?_
  rintro e w2 ⟨rfl, hb⟩
  have W2 := Lib.hid (blw_trans W1.out hb)
  have B2 := Lib.hid (B1.out.below hb)
  clear hb W1 B1 c0 c1 c2 c3 c4 c5 c6 cl
  have c0 := B2.out.cell 0 _ rfl
  have c1 := B2.out.cell 1 _ rfl
  have c2 := B2.out.cell 2 _ rfl
  have c3 := B2.out.cell 3 _ rfl
  have c4 := B2.out.cell 4 _ rfl
  have c5 := B2.out.cell 5 _ rfl
  have c6 := B2.out.cell 6 _ rfl
  have cl := B2.out.lt
  go_wp2_with fail
  go_ret
  exact ⟨rfl, W2.out⟩
set_option maxRecDepth 100000 in
set_option maxHeartbeats 2000000 in
theorem pck_s0 (pre suf : List UInt8) (mi nf mf g g2 : Int) (w : World) (C1 : Hid (∀ w : World, Calls Tryz.prog 169 #[.string ⟨pre.toArray⟩] w fun e w' => e = .returned (.bool true) ∧ Below w.heap.size w w')) (C2 : Hid (∀ w : World, Calls Tryz.prog 169 #[.string ⟨suf.toArray⟩] w fun e w' => e = .returned (.bool true) ∧ Below w.heap.size w w')) (h0 : mi < 1) :
    Calls Tryz.prog 133 #[.agg #[.string ⟨pre.toArray⟩, .string ⟨suf.toArray⟩, .int .i64 mi, .int .i64 nf, .int .i64 mf, .int .i64 g, .int .i64 g2]] w fun e w' => e = .returned (errV 1) ∧ Below w.heap.size w w' := by
  have d0 : decide (mi < 1) = true := dec_yes (by omega)
  have W0 := Lib.hid (blw_alloc w (.cells #[.string ⟨pre.toArray⟩, .string ⟨suf.toArray⟩, .int .i64 mi, .int .i64 nf, .int .i64 mf, .int .i64 g, .int .i64 g2] 123))
  have B0 := Lib.hid (Boxed.made w #[.string ⟨pre.toArray⟩, .string ⟨suf.toArray⟩, .int .i64 mi, .int .i64 nf, .int .i64 mf, .int .i64 g, .int .i64 g2] 123)
  go_enter Tryz.func133, Tryz.ntmps133
  go_wp2_with fail
  refine (C1.out _).mono ?_
  rintro e w1 ⟨rfl, hb⟩
  have W1 := Lib.hid (blw_trans W0.out hb)
  have B1 := Lib.hid (B0.out.below hb)
  clear hb W0 B0
  have c0 := B1.out.cell 0 _ rfl
  have c1 := B1.out.cell 1 _ rfl
  have c2 := B1.out.cell 2 _ rfl
  have c3 := B1.out.cell 3 _ rfl
  have c4 := B1.out.cell 4 _ rfl
  have c5 := B1.out.cell 5 _ rfl
  have c6 := B1.out.cell 6 _ rfl
  have cl := B1.out.lt
  go_wp2_with fail
  refine (C2.out _).mono ?_
  rintro e w2 ⟨rfl, hb⟩
  have W2 := Lib.hid (blw_trans W1.out hb)
  have B2 := Lib.hid (B1.out.below hb)
  clear hb W1 B1 c0 c1 c2 c3 c4 c5 c6 cl
  have c0 := B2.out.cell 0 _ rfl
  have c1 := B2.out.cell 1 _ rfl
  have c2 := B2.out.cell 2 _ rfl
  have c3 := B2.out.cell 3 _ rfl
  have c4 := B2.out.cell 4 _ rfl
  have c5 := B2.out.cell 5 _ rfl
  have c6 := B2.out.cell 6 _ rfl
  have cl := B2.out.lt
  go_wp2_with fail
  go_ret
  exact ⟨rfl, W2.out⟩
set_option maxRecDepth 100000 in
set_option maxHeartbeats 2000000 in
theorem pck_s1 (pre suf : List UInt8) (mi nf mf g g2 : Int) (w : World) (C1 : Hid (∀ w : World, Calls Tryz.prog 169 #[.string ⟨pre.toArray⟩] w fun e w' => e = .returned (.bool true) ∧ Below w.heap.size w w')) (C2 : Hid (∀ w : World, Calls Tryz.prog 169 #[.string ⟨suf.toArray⟩] w fun e w' => e = .returned (.bool true) ∧ Below w.heap.size w w')) (h0 : ¬ mi < 1) (h1 : 9 < mi) :
    Calls Tryz.prog 133 #[.agg #[.string ⟨pre.toArray⟩, .string ⟨suf.toArray⟩, .int .i64 mi, .int .i64 nf, .int .i64 mf, .int .i64 g, .int .i64 g2]] w fun e w' => e = .returned (errV 1) ∧ Below w.heap.size w w' := by
  have d0 : decide (mi < 1) = false := dec_no (by omega)
  have d1 : decide (9 < mi) = true := dec_yes (by omega)
  have W0 := Lib.hid (blw_alloc w (.cells #[.string ⟨pre.toArray⟩, .string ⟨suf.toArray⟩, .int .i64 mi, .int .i64 nf, .int .i64 mf, .int .i64 g, .int .i64 g2] 123))
  have B0 := Lib.hid (Boxed.made w #[.string ⟨pre.toArray⟩, .string ⟨suf.toArray⟩, .int .i64 mi, .int .i64 nf, .int .i64 mf, .int .i64 g, .int .i64 g2] 123)
  go_enter Tryz.func133, Tryz.ntmps133
  go_wp2_with fail
  refine (C1.out _).mono ?_
  rintro e w1 ⟨rfl, hb⟩
  have W1 := Lib.hid (blw_trans W0.out hb)
  have B1 := Lib.hid (B0.out.below hb)
  clear hb W0 B0
  have c0 := B1.out.cell 0 _ rfl
  have c1 := B1.out.cell 1 _ rfl
  have c2 := B1.out.cell 2 _ rfl
  have c3 := B1.out.cell 3 _ rfl
  have c4 := B1.out.cell 4 _ rfl
  have c5 := B1.out.cell 5 _ rfl
  have c6 := B1.out.cell 6 _ rfl
  have cl := B1.out.lt
  go_wp2_with fail
  refine (C2.out _).mono ?_
  rintro e w2 ⟨rfl, hb⟩
  have W2 := Lib.hid (blw_trans W1.out hb)
  have B2 := Lib.hid (B1.out.below hb)
  clear hb W1 B1 c0 c1 c2 c3 c4 c5 c6 cl
  have c0 := B2.out.cell 0 _ rfl
  have c1 := B2.out.cell 1 _ rfl
  have c2 := B2.out.cell 2 _ rfl
  have c3 := B2.out.cell 3 _ rfl
  have c4 := B2.out.cell 4 _ rfl
  have c5 := B2.out.cell 5 _ rfl
  have c6 := B2.out.cell 6 _ rfl
  have cl := B2.out.lt
  go_wp2_with fail
  go_ret
  exact ⟨rfl, W2.out⟩
set_option maxRecDepth 100000 in
set_option maxHeartbeats 2000000 in
theorem pck_s2 (pre suf : List UInt8) (mi nf mf g g2 : Int) (w : World) (C1 : Hid (∀ w : World, Calls Tryz.prog 169 #[.string ⟨pre.toArray⟩] w fun e w' => e = .returned (.bool true) ∧ Below w.heap.size w w')) (C2 : Hid (∀ w : World, Calls Tryz.prog 169 #[.string ⟨suf.toArray⟩] w fun e w' => e = .returned (.bool true) ∧ Below w.heap.size w w')) (h0 : ¬ mi < 1) (h1 : ¬ 9 < mi) (h2 : mf < 0) :
    Calls Tryz.prog 133 #[.agg #[.string ⟨pre.toArray⟩, .string ⟨suf.toArray⟩, .int .i64 mi, .int .i64 nf, .int .i64 mf, .int .i64 g, .int .i64 g2]] w fun e w' => e = .returned (errV 1) ∧ Below w.heap.size w w' := by
  have d0 : decide (mi < 1) = false := dec_no (by omega)
  have d1 : decide (9 < mi) = false := dec_no (by omega)
  have d2 : decide (mf < 0) = true := dec_yes (by omega)
  have W0 := Lib.hid (blw_alloc w (.cells #[.string ⟨pre.toArray⟩, .string ⟨suf.toArray⟩, .int .i64 mi, .int .i64 nf, .int .i64 mf, .int .i64 g, .int .i64 g2] 123))
  have B0 := Lib.hid (Boxed.made w #[.string ⟨pre.toArray⟩, .string ⟨suf.toArray⟩, .int .i64 mi, .int .i64 nf, .int .i64 mf, .int .i64 g, .int .i64 g2] 123)
  go_enter Tryz.func133, Tryz.ntmps133
  go_wp2_with fail
  refine (C1.out _).mono ?_
  rintro e w1 ⟨rfl, hb⟩
  have W1 := Lib.hid (blw_trans W0.out hb)
  have B1 := Lib.hid (B0.out.below hb)
  clear hb W0 B0
  have c0 := B1.out.cell 0 _ rfl
  have c1 := B1.out.cell 1 _ rfl
  have c2 := B1.out.cell 2 _ rfl
  have c3 := B1.out.cell 3 _ rfl
  have c4 := B1.out.cell 4 _ rfl
  have c5 := B1.out.cell 5 _ rfl
  have c6 := B1.out.cell 6 _ rfl
  have cl := B1.out.lt
  go_wp2_with fail
  refine (C2.out _).mono ?_
  rintro e w2 ⟨rfl, hb⟩
  have W2 := Lib.hid (blw_trans W1.out hb)
  have B2 := Lib.hid (B1.out.below hb)
  clear hb W1 B1 c0 c1 c2 c3 c4 c5 c6 cl
  have c0 := B2.out.cell 0 _ rfl
  have c1 := B2.out.cell 1 _ rfl
  have c2 := B2.out.cell 2 _ rfl
  have c3 := B2.out.cell 3 _ rfl
  have c4 := B2.out.cell 4 _ rfl
  have c5 := B2.out.cell 5 _ rfl
  have c6 := B2.out.cell 6 _ rfl
  have cl := B2.out.lt
  go_wp2_with fail
  go_ret
  exact ⟨rfl, W2.out⟩
set_option maxRecDepth 100000 in
set_option maxHeartbeats 2000000 in
theorem pck_s3 (pre suf : List UInt8) (mi nf mf g g2 : Int) (w : World) (C1 : Hid (∀ w : World, Calls Tryz.prog 169 #[.string ⟨pre.toArray⟩] w fun e w' => e = .returned (.bool true) ∧ Below w.heap.size w w')) (C2 : Hid (∀ w : World, Calls Tryz.prog 169 #[.string ⟨suf.toArray⟩] w fun e w' => e = .returned (.bool true) ∧ Below w.heap.size w w')) (h0 : ¬ mi < 1) (h1 : ¬ 9 < mi) (h2 : ¬ mf < 0) (h3 : 6 < mf) :
    Calls Tryz.prog 133 #[.agg #[.string ⟨pre.toArray⟩, .string ⟨suf.toArray⟩, .int .i64 mi, .int .i64 nf, .int .i64 mf, .int .i64 g, .int .i64 g2]] w fun e w' => e = .returned (errV 1) ∧ Below w.heap.size w w' := by
  have d0 : decide (mi < 1) = false := dec_no (by omega)
  have d1 : decide (9 < mi) = false := dec_no (by omega)
  have d2 : decide (mf < 0) = false := dec_no (by omega)
  have d3 : decide (6 < mf) = true := dec_yes (by omega)
  have W0 := Lib.hid (blw_alloc w (.cells #[.string ⟨pre.toArray⟩, .string ⟨suf.toArray⟩, .int .i64 mi, .int .i64 nf, .int .i64 mf, .int .i64 g, .int .i64 g2] 123))
  have B0 := Lib.hid (Boxed.made w #[.string ⟨pre.toArray⟩, .string ⟨suf.toArray⟩, .int .i64 mi, .int .i64 nf, .int .i64 mf, .int .i64 g, .int .i64 g2] 123)
  go_enter Tryz.func133, Tryz.ntmps133
  go_wp2_with fail
  refine (C1.out _).mono ?_
  rintro e w1 ⟨rfl, hb⟩
  have W1 := Lib.hid (blw_trans W0.out hb)
  have B1 := Lib.hid (B0.out.below hb)
  clear hb W0 B0
  have c0 := B1.out.cell 0 _ rfl
  have c1 := B1.out.cell 1 _ rfl
  have c2 := B1.out.cell 2 _ rfl
  have c3 := B1.out.cell 3 _ rfl
  have c4 := B1.out.cell 4 _ rfl
  have c5 := B1.out.cell 5 _ rfl
  have c6 := B1.out.cell 6 _ rfl
  have cl := B1.out.lt
  go_wp2_with fail
  refine (C2.out _).mono ?_
  rintro e w2 ⟨rfl, hb⟩
  have W2 := Lib.hid (blw_trans W1.out hb)
  have B2 := Lib.hid (B1.out.below hb)
  clear hb W1 B1 c0 c1 c2 c3 c4 c5 c6 cl
  have c0 := B2.out.cell 0 _ rfl
  have c1 := B2.out.cell 1 _ rfl
  have c2 := B2.out.cell 2 _ rfl
  have c3 := B2.out.cell 3 _ rfl
  have c4 := B2.out.cell 4 _ rfl
  have c5 := B2.out.cell 5 _ rfl
  have c6 := B2.out.cell 6 _ rfl
  have cl := B2.out.lt
  go_wp2_with fail
  go_ret
  exact ⟨rfl, W2.out⟩
set_option maxRecDepth 100000 in
set_option maxHeartbeats 2000000 in
theorem pck_s4 (pre suf : List UInt8) (mi nf mf g g2 : Int) (w : World) (C1 : Hid (∀ w : World, Calls Tryz.prog 169 #[.string ⟨pre.toArray⟩] w fun e w' => e = .returned (.bool true) ∧ Below w.heap.size w w')) (C2 : Hid (∀ w : World, Calls Tryz.prog 169 #[.string ⟨suf.toArray⟩] w fun e w' => e = .returned (.bool true) ∧ Below w.heap.size w w')) (h0 : ¬ mi < 1) (h1 : ¬ 9 < mi) (h2 : ¬ mf < 0) (h3 : ¬ 6 < mf) (h4 : nf < 0) :
    Calls Tryz.prog 133 #[.agg #[.string ⟨pre.toArray⟩, .string ⟨suf.toArray⟩, .int .i64 mi, .int .i64 nf, .int .i64 mf, .int .i64 g, .int .i64 g2]] w fun e w' => e = .returned (errV 1) ∧ Below w.heap.size w w' := by
  have d0 : decide (mi < 1) = false := dec_no (by omega)
  have d1 : decide (9 < mi) = false := dec_no (by omega)
  have d2 : decide (mf < 0) = false := dec_no (by omega)
  have d3 : decide (6 < mf) = false := dec_no (by omega)
  have d4 : decide (nf < 0) = true := dec_yes (by omega)
  have W0 := Lib.hid (blw_alloc w (.cells #[.string ⟨pre.toArray⟩, .string ⟨suf.toArray⟩, .int .i64 mi, .int .i64 nf, .int .i64 mf, .int .i64 g, .int .i64 g2] 123))
  have B0 := Lib.hid (Boxed.made w #[.string ⟨pre.toArray⟩, .string ⟨suf.toArray⟩, .int .i64 mi, .int .i64 nf, .int .i64 mf, .int .i64 g, .int .i64 g2] 123)
  go_enter Tryz.func133, Tryz.ntmps133
  go_wp2_with fail
  refine (C1.out _).mono ?_
  rintro e w1 ⟨rfl, hb⟩
  have W1 := Lib.hid (blw_trans W0.out hb)
  have B1 := Lib.hid (B0.out.below hb)
  clear hb W0 B0
  have c0 := B1.out.cell 0 _ rfl
  have c1 := B1.out.cell 1 _ rfl
  have c2 := B1.out.cell 2 _ rfl
  have c3 := B1.out.cell 3 _ rfl
  have c4 := B1.out.cell 4 _ rfl
  have c5 := B1.out.cell 5 _ rfl
  have c6 := B1.out.cell 6 _ rfl
  have cl := B1.out.lt
  go_wp2_with fail
  refine (C2.out _).mono ?_
  rintro e w2 ⟨rfl, hb⟩
  have W2 := Lib.hid (blw_trans W1.out hb)
  have B2 := Lib.hid (B1.out.below hb)
  clear hb W1 B1 c0 c1 c2 c3 c4 c5 c6 cl
  have c0 := B2.out.cell 0 _ rfl
  have c1 := B2.out.cell 1 _ rfl
  have c2 := B2.out.cell 2 _ rfl
  have c3 := B2.out.cell 3 _ rfl
  have c4 := B2.out.cell 4 _ rfl
  have c5 := B2.out.cell 5 _ rfl
  have c6 := B2.out.cell 6 _ rfl
  have cl := B2.out.lt
  go_wp2_with fail
  go_ret
  exact ⟨rfl, W2.out⟩
set_option maxRecDepth 100000 in
set_option maxHeartbeats 2000000 in
theorem pck_s5 (pre suf : List UInt8) (mi nf mf g g2 : Int) (w : World) (C1 : Hid (∀ w : World, Calls Tryz.prog 169 #[.string ⟨pre.toArray⟩] w fun e w' => e = .returned (.bool true) ∧ Below w.heap.size w w')) (C2 : Hid (∀ w : World, Calls Tryz.prog 169 #[.string ⟨suf.toArray⟩] w fun e w' => e = .returned (.bool true) ∧ Below w.heap.size w w')) (h0 : ¬ mi < 1) (h1 : ¬ 9 < mi) (h2 : ¬ mf < 0) (h3 : ¬ 6 < mf) (h4 : ¬ nf < 0) (h5 : mf < nf) :
    Calls Tryz.prog 133 #[.agg #[.string ⟨pre.toArray⟩, .string ⟨suf.toArray⟩, .int .i64 mi, .int .i64 nf, .int .i64 mf, .int .i64 g, .int .i64 g2]] w fun e w' => e = .returned (errV 1) ∧ Below w.heap.size w w' := by
  have d0 : decide (mi < 1) = false := dec_no (by omega)
  have d1 : decide (9 < mi) = false := dec_no (by omega)
  have d2 : decide (mf < 0) = false := dec_no (by omega)
  have d3 : decide (6 < mf) = false := dec_no (by omega)
  have d4 : decide (nf < 0) = false := dec_no (by omega)
  have d5 : decide (mf < nf) = true := dec_yes (by omega)
  have W0 := Lib.hid (blw_alloc w (.cells #[.string ⟨pre.toArray⟩, .string ⟨suf.toArray⟩, .int .i64 mi, .int .i64 nf, .int .i64 mf, .int .i64 g, .int .i64 g2] 123))
  have B0 := Lib.hid (Boxed.made w #[.string ⟨pre.toArray⟩, .string ⟨suf.toArray⟩, .int .i64 mi, .int .i64 nf, .int .i64 mf, .int .i64 g, .int .i64 g2] 123)
  go_enter Tryz.func133, Tryz.ntmps133
  go_wp2_with fail
  refine (C1.out _).mono ?_
  rintro e w1 ⟨rfl, hb⟩
  have W1 := Lib.hid (blw_trans W0.out hb)
  have B1 := Lib.hid (B0.out.below hb)
  clear hb W0 B0
  have c0 := B1.out.cell 0 _ rfl
  have c1 := B1.out.cell 1 _ rfl
  have c2 := B1.out.cell 2 _ rfl
  have c3 := B1.out.cell 3 _ rfl
  have c4 := B1.out.cell 4 _ rfl
  have c5 := B1.out.cell 5 _ rfl
  have c6 := B1.out.cell 6 _ rfl
  have cl := B1.out.lt
  go_wp2_with fail
  refine (C2.out _).mono ?_
  rintro e w2 ⟨rfl, hb⟩
  have W2 := Lib.hid (blw_trans W1.out hb)
  have B2 := Lib.hid (B1.out.below hb)
  clear hb W1 B1 c0 c1 c2 c3 c4 c5 c6 cl
  have c0 := B2.out.cell 0 _ rfl
  have c1 := B2.out.cell 1 _ rfl
  have c2 := B2.out.cell 2 _ rfl
  have c3 := B2.out.cell 3 _ rfl
  have c4 := B2.out.cell 4 _ rfl
  have c5 := B2.out.cell 5 _ rfl
  have c6 := B2.out.cell 6 _ rfl
  have cl := B2.out.lt
  go_wp2_with fail
  go_ret
  exact ⟨rfl, W2.out⟩
set_option maxRecDepth 100000 in
set_option maxHeartbeats 2000000 in
theorem pck_s6 (pre suf : List UInt8) (mi nf mf g g2 : Int) (w : World) (C1 : Hid (∀ w : World, Calls Tryz.prog 169 #[.string ⟨pre.toArray⟩] w fun e w' => e = .returned (.bool true) ∧ Below w.heap.size w w')) (C2 : Hid (∀ w : World, Calls Tryz.prog 169 #[.string ⟨suf.toArray⟩] w fun e w' => e = .returned (.bool true) ∧ Below w.heap.size w w')) (h0 : ¬ mi < 1) (h1 : ¬ 9 < mi) (h2 : ¬ mf < 0) (h3 : ¬ 6 < mf) (h4 : ¬ nf < 0) (h5 : ¬ mf < nf) (h6 : g < 0) :
    Calls Tryz.prog 133 #[.agg #[.string ⟨pre.toArray⟩, .string ⟨suf.toArray⟩, .int .i64 mi, .int .i64 nf, .int .i64 mf, .int .i64 g, .int .i64 g2]] w fun e w' => e = .returned (errV 1) ∧ Below w.heap.size w w' := by
  have d0 : decide (mi < 1) = false := dec_no (by omega)
  have d1 : decide (9 < mi) = false := dec_no (by omega)
  have d2 : decide (mf < 0) = false := dec_no (by omega)
  have d3 : decide (6 < mf) = false := dec_no (by omega)
  have d4 : decide (nf < 0) = false := dec_no (by omega)
  have d5 : decide (mf < nf) = false := dec_no (by omega)
  have d6 : decide (g < 0) = true := dec_yes (by omega)
  have W0 := Lib.hid (blw_alloc w (.cells #[.string ⟨pre.toArray⟩, .string ⟨suf.toArray⟩, .int .i64 mi, .int .i64 nf, .int .i64 mf, .int .i64 g, .int .i64 g2] 123))
  have B0 := Lib.hid (Boxed.made w #[.string ⟨pre.toArray⟩, .string ⟨suf.toArray⟩, .int .i64 mi, .int .i64 nf, .int .i64 mf, .int .i64 g, .int .i64 g2] 123)
  go_enter Tryz.func133, Tryz.ntmps133
  go_wp2_with fail
  refine (C1.out _).mono ?_
  rintro e w1 ⟨rfl, hb⟩
  have W1 := Lib.hid (blw_trans W0.out hb)
  have B1 := Lib.hid (B0.out.below hb)
  clear hb W0 B0
  have c0 := B1.out.cell 0 _ rfl
  have c1 := B1.out.cell 1 _ rfl
  have c2 := B1.out.cell 2 _ rfl
  have c3 := B1.out.cell 3 _ rfl
  have c4 := B1.out.cell 4 _ rfl
  have c5 := B1.out.cell 5 _ rfl
  have c6 := B1.out.cell 6 _ rfl
  have cl := B1.out.lt
  go_wp2_with fail
  refine (C2.out _).mono ?_
  rintro e w2 ⟨rfl, hb⟩
  have W2 := Lib.hid (blw_trans W1.out hb)
  have B2 := Lib.hid (B1.out.below hb)
  clear hb W1 B1 c0 c1 c2 c3 c4 c5 c6 cl
  have c0 := B2.out.cell 0 _ rfl
  have c1 := B2.out.cell 1 _ rfl
  have c2 := B2.out.cell 2 _ rfl
  have c3 := B2.out.cell 3 _ rfl
  have c4 := B2.out.cell 4 _ rfl
  have c5 := B2.out.cell 5 _ rfl
  have c6 := B2.out.cell 6 _ rfl
  have cl := B2.out.lt
  go_wp2_with fail
  go_ret
  exact ⟨rfl, W2.out⟩
set_option maxRecDepth 100000 in
set_option maxHeartbeats 2000000 in
theorem pck_s7 (pre suf : List UInt8) (mi nf mf g g2 : Int) (w : World) (C1 : Hid (∀ w : World, Calls Tryz.prog 169 #[.string ⟨pre.toArray⟩] w fun e w' => e = .returned (.bool true) ∧ Below w.heap.size w w')) (C2 : Hid (∀ w : World, Calls Tryz.prog 169 #[.string ⟨suf.toArray⟩] w fun e w' => e = .returned (.bool true) ∧ Below w.heap.size w w')) (h0 : ¬ mi < 1) (h1 : ¬ 9 < mi) (h2 : ¬ mf < 0) (h3 : ¬ 6 < mf) (h4 : ¬ nf < 0) (h5 : ¬ mf < nf) (h6 : ¬ g < 0) (h7 : 4 < g) :
    Calls Tryz.prog 133 #[.agg #[.string ⟨pre.toArray⟩, .string ⟨suf.toArray⟩, .int .i64 mi, .int .i64 nf, .int .i64 mf, .int .i64 g, .int .i64 g2]] w fun e w' => e = .returned (errV 1) ∧ Below w.heap.size w w' := by
  have d0 : decide (mi < 1) = false := dec_no (by omega)
  have d1 : decide (9 < mi) = false := dec_no (by omega)
  have d2 : decide (mf < 0) = false := dec_no (by omega)
  have d3 : decide (6 < mf) = false := dec_no (by omega)
  have d4 : decide (nf < 0) = false := dec_no (by omega)
  have d5 : decide (mf < nf) = false := dec_no (by omega)
  have d6 : decide (g < 0) = false := dec_no (by omega)
  have d7 : decide (4 < g) = true := dec_yes (by omega)
  have W0 := Lib.hid (blw_alloc w (.cells #[.string ⟨pre.toArray⟩, .string ⟨suf.toArray⟩, .int .i64 mi, .int .i64 nf, .int .i64 mf, .int .i64 g, .int .i64 g2] 123))
  have B0 := Lib.hid (Boxed.made w #[.string ⟨pre.toArray⟩, .string ⟨suf.toArray⟩, .int .i64 mi, .int .i64 nf, .int .i64 mf, .int .i64 g, .int .i64 g2] 123)
  go_enter Tryz.func133, Tryz.ntmps133
  go_wp2_with fail
  refine (C1.out _).mono ?_
  rintro e w1 ⟨rfl, hb⟩
  have W1 := Lib.hid (blw_trans W0.out hb)
  have B1 := Lib.hid (B0.out.below hb)
  clear hb W0 B0
  have c0 := B1.out.cell 0 _ rfl
  have c1 := B1.out.cell 1 _ rfl
  have c2 := B1.out.cell 2 _ rfl
  have c3 := B1.out.cell 3 _ rfl
  have c4 := B1.out.cell 4 _ rfl
  have c5 := B1.out.cell 5 _ rfl
  have c6 := B1.out.cell 6 _ rfl
  have cl := B1.out.lt
  go_wp2_with fail
  refine (C2.out _).mono ?_
  rintro e w2 ⟨rfl, hb⟩
  have W2 := Lib.hid (blw_trans W1.out hb)
  have B2 := Lib.hid (B1.out.below hb)
  clear hb W1 B1 c0 c1 c2 c3 c4 c5 c6 cl
  have c0 := B2.out.cell 0 _ rfl
  have c1 := B2.out.cell 1 _ rfl
  have c2 := B2.out.cell 2 _ rfl
  have c3 := B2.out.cell 3 _ rfl
  have c4 := B2.out.cell 4 _ rfl
  have c5 := B2.out.cell 5 _ rfl
  have c6 := B2.out.cell 6 _ rfl
  have cl := B2.out.lt
  go_wp2_with fail
  go_ret
  exact ⟨rfl, W2.out⟩
set_option maxRecDepth 100000 in
set_option maxHeartbeats 2000000 in
theorem pck_s8 (pre suf : List UInt8) (mi nf mf g g2 : Int) (w : World) (C1 : Hid (∀ w : World, Calls Tryz.prog 169 #[.string ⟨pre.toArray⟩] w fun e w' => e = .returned (.bool true) ∧ Below w.heap.size w w')) (C2 : Hid (∀ w : World, Calls Tryz.prog 169 #[.string ⟨suf.toArray⟩] w fun e w' => e = .returned (.bool true) ∧ Below w.heap.size w w')) (h0 : ¬ mi < 1) (h1 : ¬ 9 < mi) (h2 : ¬ mf < 0) (h3 : ¬ 6 < mf) (h4 : ¬ nf < 0) (h5 : ¬ mf < nf) (h6 : ¬ g < 0) (h7 : ¬ 4 < g) (h8 : g2 < 0) :
    Calls Tryz.prog 133 #[.agg #[.string ⟨pre.toArray⟩, .string ⟨suf.toArray⟩, .int .i64 mi, .int .i64 nf, .int .i64 mf, .int .i64 g, .int .i64 g2]] w fun e w' => e = .returned (errV 1) ∧ Below w.heap.size w w' := by
  have d0 : decide (mi < 1) = false := dec_no (by omega)
  have d1 : decide (9 < mi) = false := dec_no (by omega)
  have d2 : decide (mf < 0) = false := dec_no (by omega)
  have d3 : decide (6 < mf) = false := dec_no (by omega)
  have d4 : decide (nf < 0) = false := dec_no (by omega)
  have d5 : decide (mf < nf) = false := dec_no (by omega)
  have d6 : decide (g < 0) = false := dec_no (by omega)
  have d7 : decide (4 < g) = false := dec_no (by omega)
  have d8 : decide (g2 < 0) = true := dec_yes (by omega)
  have W0 := Lib.hid (blw_alloc w (.cells #[.string ⟨pre.toArray⟩, .string ⟨suf.toArray⟩, .int .i64 mi, .int .i64 nf, .int .i64 mf, .int .i64 g, .int .i64 g2] 123))
  have B0 := Lib.hid (Boxed.made w #[.string ⟨pre.toArray⟩, .string ⟨suf.toArray⟩, .int .i64 mi, .int .i64 nf, .int .i64 mf, .int .i64 g, .int .i64 g2] 123)
  go_enter Tryz.func133, Tryz.ntmps133
  go_wp2_with fail
  refine (C1.out _).mono ?_
  rintro e w1 ⟨rfl, hb⟩
  have W1 := Lib.hid (blw_trans W0.out hb)
  have B1 := Lib.hid (B0.out.below hb)
  clear hb W0 B0
  have c0 := B1.out.cell 0 _ rfl
  have c1 := B1.out.cell 1 _ rfl
  have c2 := B1.out.cell 2 _ rfl
  have c3 := B1.out.cell 3 _ rfl
  have c4 := B1.out.cell 4 _ rfl
  have c5 := B1.out.cell 5 _ rfl
  have c6 := B1.out.cell 6 _ rfl
  have cl := B1.out.lt
  go_wp2_with fail
  refine (C2.out _).mono ?_
  rintro e w2 ⟨rfl, hb⟩
  have W2 := Lib.hid (blw_trans W1.out hb)
  have B2 := Lib.hid (B1.out.below hb)
  clear hb W1 B1 c0 c1 c2 c3 c4 c5 c6 cl
  have c0 := B2.out.cell 0 _ rfl
  have c1 := B2.out.cell 1 _ rfl
  have c2 := B2.out.cell 2 _ rfl
  have c3 := B2.out.cell 3 _ rfl
  have c4 := B2.out.cell 4 _ rfl
  have c5 := B2.out.cell 5 _ rfl
  have c6 := B2.out.cell 6 _ rfl
  have cl := B2.out.lt
  go_wp2_with fail
  go_ret
  exact ⟨rfl, W2.out⟩
set_option maxRecDepth 100000 in
set_option maxHeartbeats 2000000 in
theorem pck_s9 (pre suf : List UInt8) (mi nf mf g g2 : Int) (w : World) (C1 : Hid (∀ w : World, Calls Tryz.prog 169 #[.string ⟨pre.toArray⟩] w fun e w' => e = .returned (.bool true) ∧ Below w.heap.size w w')) (C2 : Hid (∀ w : World, Calls Tryz.prog 169 #[.string ⟨suf.toArray⟩] w fun e w' => e = .returned (.bool true) ∧ Below w.heap.size w w')) (h0 : ¬ mi < 1) (h1 : ¬ 9 < mi) (h2 : ¬ mf < 0) (h3 : ¬ 6 < mf) (h4 : ¬ nf < 0) (h5 : ¬ mf < nf) (h6 : ¬ g < 0) (h7 : ¬ 4 < g) (h8 : ¬ g2 < 0) (h9 : 4 < g2) :
    Calls Tryz.prog 133 #[.agg #[.string ⟨pre.toArray⟩, .string ⟨suf.toArray⟩, .int .i64 mi, .int .i64 nf, .int .i64 mf, .int .i64 g, .int .i64 g2]] w fun e w' => e = .returned (errV 1) ∧ Below w.heap.size w w' := by
  have d0 : decide (mi < 1) = false := dec_no (by omega)
  have d1 : decide (9 < mi) = false := dec_no (by omega)
  have d2 : decide (mf < 0) = false := dec_no (by omega)
  have d3 : decide (6 < mf) = false := dec_no (by omega)
  have d4 : decide (nf < 0) = false := dec_no (by omega)
  have d5 : decide (mf < nf) = false := dec_no (by omega)
  have d6 : decide (g < 0) = false := dec_no (by omega)
  have d7 : decide (4 < g) = false := dec_no (by omega)
  have d8 : decide (g2 < 0) = false := dec_no (by omega)
  have d9 : decide (4 < g2) = true := dec_yes (by omega)
  have W0 := Lib.hid (blw_alloc w (.cells #[.string ⟨pre.toArray⟩, .string ⟨suf.toArray⟩, .int .i64 mi, .int .i64 nf, .int .i64 mf, .int .i64 g, .int .i64 g2] 123))
  have B0 := Lib.hid (Boxed.made w #[.string ⟨pre.toArray⟩, .string ⟨suf.toArray⟩, .int .i64 mi, .int .i64 nf, .int .i64 mf, .int .i64 g, .int .i64 g2] 123)
  go_enter Tryz.func133, Tryz.ntmps133
  go_wp2_with fail
  refine (C1.out _).mono ?_
  rintro e w1 ⟨rfl, hb⟩
  have W1 := Lib.hid (blw_trans W0.out hb)
  have B1 := Lib.hid (B0.out.below hb)
  clear hb W0 B0
  have c0 := B1.out.cell 0 _ rfl
  have c1 := B1.out.cell 1 _ rfl
  have c2 := B1.out.cell 2 _ rfl
  have c3 := B1.out.cell 3 _ rfl
  have c4 := B1.out.cell 4 _ rfl
  have c5 := B1.out.cell 5 _ rfl
  have c6 := B1.out.cell 6 _ rfl
  have cl := B1.out.lt
  go_wp2_with fail
  refine (C2.out _).mono ?_
  rintro e w2 ⟨rfl, hb⟩
  have W2 := Lib.hid (blw_trans W1.out hb)
  have B2 := Lib.hid (B1.out.below hb)
  clear hb W1 B1 c0 c1 c2 c3 c4 c5 c6 cl
  have c0 := B2.out.cell 0 _ rfl
  have c1 := B2.out.cell 1 _ rfl
  have c2 := B2.out.cell 2 _ rfl
  have c3 := B2.out.cell 3 _ rfl
  have c4 := B2.out.cell 4 _ rfl
  have c5 := B2.out.cell 5 _ rfl
  have c6 := B2.out.cell 6 _ rfl
  have cl := B2.out.lt
  go_wp2_with fail
  go_ret
  exact ⟨rfl, W2.out⟩
set_option maxRecDepth 100000 in
set_option maxHeartbeats 2000000 in
theorem pck_g (pre suf : List UInt8) (mi nf mf g2 : Int) (w : World) (C1 : Hid (∀ w : World, Calls Tryz.prog 169 #[.string ⟨pre.toArray⟩] w fun e w' => e = .returned (.bool true) ∧ Below w.heap.size w w')) (C2 : Hid (∀ w : World, Calls Tryz.prog 169 #[.string ⟨suf.toArray⟩] w fun e w' => e = .returned (.bool true) ∧ Below w.heap.size w w')) (h0 : ¬ mi < 1) (h1 : ¬ 9 < mi) (h2 : ¬ mf < 0) (h3 : ¬ 6 < mf) (h4 : ¬ nf < 0) (h5 : ¬ mf < nf) (h6 : ¬ g2 < 0) (h7 : ¬ 4 < g2) (h8 : ¬ g2 = 0) :
    Calls Tryz.prog 133 #[.agg #[.string ⟨pre.toArray⟩, .string ⟨suf.toArray⟩, .int .i64 mi, .int .i64 nf, .int .i64 mf, .int .i64 0, .int .i64 g2]] w fun e w' => e = .returned (errV 3) ∧ Below w.heap.size w w' := by
  have d0 : decide (mi < 1) = false := dec_no (by omega)
  have d1 : decide (9 < mi) = false := dec_no (by omega)
  have d2 : decide (mf < 0) = false := dec_no (by omega)
  have d3 : decide (6 < mf) = false := dec_no (by omega)
  have d4 : decide (nf < 0) = false := dec_no (by omega)
  have d5 : decide (mf < nf) = false := dec_no (by omega)
  have d6 : decide (g2 < 0) = false := dec_no (by omega)
  have d7 : decide (4 < g2) = false := dec_no (by omega)
  have q0 : (g2 == 0) = false := beq_no (by omega)
  have q1 : (g2 != 0) = true := by rw [bne, beq_no (by omega)]; rfl
  have W0 := Lib.hid (blw_alloc w (.cells #[.string ⟨pre.toArray⟩, .string ⟨suf.toArray⟩, .int .i64 mi, .int .i64 nf, .int .i64 mf, .int .i64 0, .int .i64 g2] 123))
  have B0 := Lib.hid (Boxed.made w #[.string ⟨pre.toArray⟩, .string ⟨suf.toArray⟩, .int .i64 mi, .int .i64 nf, .int .i64 mf, .int .i64 0, .int .i64 g2] 123)
  go_enter Tryz.func133, Tryz.ntmps133
  go_wp2_with fail
  refine (C1.out _).mono ?_
  rintro e w1 ⟨rfl, hb⟩
  have W1 := Lib.hid (blw_trans W0.out hb)
  have B1 := Lib.hid (B0.out.below hb)
  clear hb W0 B0
  have c0 := B1.out.cell 0 _ rfl
  have c1 := B1.out.cell 1 _ rfl
  have c2 := B1.out.cell 2 _ rfl
  have c3 := B1.out.cell 3 _ rfl
  have c4 := B1.out.cell 4 _ rfl
  have c5 := B1.out.cell 5 _ rfl
  have c6 := B1.out.cell 6 _ rfl
  have cl := B1.out.lt
  go_wp2_with fail
  refine (C2.out _).mono ?_
  rintro e w2 ⟨rfl, hb⟩
  have W2 := Lib.hid (blw_trans W1.out hb)
  have B2 := Lib.hid (B1.out.below hb)
  clear hb W1 B1 c0 c1 c2 c3 c4 c5 c6 cl
  have c0 := B2.out.cell 0 _ rfl
  have c1 := B2.out.cell 1 _ rfl
  have c2 := B2.out.cell 2 _ rfl
  have c3 := B2.out.cell 3 _ rfl
  have c4 := B2.out.cell 4 _ rfl
  have c5 := B2.out.cell 5 _ rfl
  have c6 := B2.out.cell 6 _ rfl
  have cl := B2.out.lt
  go_wp2_with fail
  go_ret
  exact ⟨rfl, W2.out⟩
set_option maxRecDepth 100000 in
set_option maxHeartbeats 2000000 in
theorem pck_h (pre suf : List UInt8) (mi nf mf g g2 : Int) (w : World) (C1 : Hid (∀ w : World, Calls Tryz.prog 169 #[.string ⟨pre.toArray⟩] w fun e w' => e = .returned (.bool true) ∧ Below w.heap.size w w')) (C2 : Hid (∀ w : World, Calls Tryz.prog 169 #[.string ⟨suf.toArray⟩] w fun e w' => e = .returned (.bool true) ∧ Below w.heap.size w w')) (h0 : ¬ mi < 1) (h1 : ¬ 9 < mi) (h2 : ¬ mf < 0) (h3 : ¬ 6 < mf) (h4 : ¬ nf < 0) (h5 : ¬ mf < nf) (h6 : ¬ g < 0) (h7 : ¬ 4 < g) (h8 : ¬ g2 < 0) (h9 : ¬ 4 < g2) (h10 : ¬ g2 = 0) (h11 : ¬ g = 0) :
    Calls Tryz.prog 133 #[.agg #[.string ⟨pre.toArray⟩, .string ⟨suf.toArray⟩, .int .i64 mi, .int .i64 nf, .int .i64 mf, .int .i64 g, .int .i64 g2]] w fun e w' => e = .returned .nilIface ∧ Below w.heap.size w w' := by
  have d0 : decide (mi < 1) = false := dec_no (by omega)
  have d1 : decide (9 < mi) = false := dec_no (by omega)
  have d2 : decide (mf < 0) = false := dec_no (by omega)
  have d3 : decide (6 < mf) = false := dec_no (by omega)
  have d4 : decide (nf < 0) = false := dec_no (by omega)
  have d5 : decide (mf < nf) = false := dec_no (by omega)
  have d6 : decide (g < 0) = false := dec_no (by omega)
  have d7 : decide (4 < g) = false := dec_no (by omega)
  have d8 : decide (g2 < 0) = false := dec_no (by omega)
  have d9 : decide (4 < g2) = false := dec_no (by omega)
  have q0 : (g2 == 0) = false := beq_no (by omega)
  have q1 : (g2 != 0) = true := by rw [bne, beq_no (by omega)]; rfl
  have q2 : (g == 0) = false := beq_no (by omega)
  have W0 := Lib.hid (blw_alloc w (.cells #[.string ⟨pre.toArray⟩, .string ⟨suf.toArray⟩, .int .i64 mi, .int .i64 nf, .int .i64 mf, .int .i64 g, .int .i64 g2] 123))
  have B0 := Lib.hid (Boxed.made w #[.string ⟨pre.toArray⟩, .string ⟨suf.toArray⟩, .int .i64 mi, .int .i64 nf, .int .i64 mf, .int .i64 g, .int .i64 g2] 123)
  go_enter Tryz.func133, Tryz.ntmps133
  go_wp2_with fail
  refine (C1.out _).mono ?_
  rintro e w1 ⟨rfl, hb⟩
  have W1 := Lib.hid (blw_trans W0.out hb)
  have B1 := Lib.hid (B0.out.below hb)
  clear hb W0 B0
  have c0 := B1.out.cell 0 _ rfl
  have c1 := B1.out.cell 1 _ rfl
  have c2 := B1.out.cell 2 _ rfl
  have c3 := B1.out.cell 3 _ rfl
  have c4 := B1.out.cell 4 _ rfl
  have c5 := B1.out.cell 5 _ rfl
  have c6 := B1.out.cell 6 _ rfl
  have cl := B1.out.lt
  go_wp2_with fail
  refine (C2.out _).mono ?_
  rintro e w2 ⟨rfl, hb⟩
  have W2 := Lib.hid (blw_trans W1.out hb)
  have B2 := Lib.hid (B1.out.below hb)
  clear hb W1 B1 c0 c1 c2 c3 c4 c5 c6 cl
  have c0 := B2.out.cell 0 _ rfl
  have c1 := B2.out.cell 1 _ rfl
  have c2 := B2.out.cell 2 _ rfl
  have c3 := B2.out.cell 3 _ rfl
  have c4 := B2.out.cell 4 _ rfl
  have c5 := B2.out.cell 5 _ rfl
  have c6 := B2.out.cell 6 _ rfl
  have cl := B2.out.lt
  go_wp2_with fail
  go_ret
  exact ⟨rfl, W2.out⟩
set_option maxRecDepth 100000 in
set_option maxHeartbeats 2000000 in
theorem pck_z (pre suf : List UInt8) (mi nf mf g : Int) (w : World) (C1 : Hid (∀ w : World, Calls Tryz.prog 169 #[.string ⟨pre.toArray⟩] w fun e w' => e = .returned (.bool true) ∧ Below w.heap.size w w')) (C2 : Hid (∀ w : World, Calls Tryz.prog 169 #[.string ⟨suf.toArray⟩] w fun e w' => e = .returned (.bool true) ∧ Below w.heap.size w w')) (h0 : ¬ mi < 1) (h1 : ¬ 9 < mi) (h2 : ¬ mf < 0) (h3 : ¬ 6 < mf) (h4 : ¬ nf < 0) (h5 : ¬ mf < nf) (h6 : ¬ g < 0) (h7 : ¬ 4 < g) :
    Calls Tryz.prog 133 #[.agg #[.string ⟨pre.toArray⟩, .string ⟨suf.toArray⟩, .int .i64 mi, .int .i64 nf, .int .i64 mf, .int .i64 g, .int .i64 0]] w fun e w' => e = .returned .nilIface ∧ Below w.heap.size w w' := by
  have d0 : decide (mi < 1) = false := dec_no (by omega)
  have d1 : decide (9 < mi) = false := dec_no (by omega)
  have d2 : decide (mf < 0) = false := dec_no (by omega)
  have d3 : decide (6 < mf) = false := dec_no (by omega)
  have d4 : decide (nf < 0) = false := dec_no (by omega)
  have d5 : decide (mf < nf) = false := dec_no (by omega)
  have d6 : decide (g < 0) = false := dec_no (by omega)
  have d7 : decide (4 < g) = false := dec_no (by omega)
  have W0 := Lib.hid (blw_alloc w (.cells #[.string ⟨pre.toArray⟩, .string ⟨suf.toArray⟩, .int .i64 mi, .int .i64 nf, .int .i64 mf, .int .i64 g, .int .i64 0] 123))
  have B0 := Lib.hid (Boxed.made w #[.string ⟨pre.toArray⟩, .string ⟨suf.toArray⟩, .int .i64 mi, .int .i64 nf, .int .i64 mf, .int .i64 g, .int .i64 0] 123)
  go_enter Tryz.func133, Tryz.ntmps133
  go_wp2_with fail
  refine (C1.out _).mono ?_
  rintro e w1 ⟨rfl, hb⟩
  have W1 := Lib.hid (blw_trans W0.out hb)
  have B1 := Lib.hid (B0.out.below hb)
  clear hb W0 B0
  have c0 := B1.out.cell 0 _ rfl
  have c1 := B1.out.cell 1 _ rfl
  have c2 := B1.out.cell 2 _ rfl
  have c3 := B1.out.cell 3 _ rfl
  have c4 := B1.out.cell 4 _ rfl
  have c5 := B1.out.cell 5 _ rfl
  have c6 := B1.out.cell 6 _ rfl
  have cl := B1.out.lt
  go_wp2_with fail
  refine (C2.out _).mono ?_
  rintro e w2 ⟨rfl, hb⟩
  have W2 := Lib.hid (blw_trans W1.out hb)
  have B2 := Lib.hid (B1.out.below hb)
  clear hb W1 B1 c0 c1 c2 c3 c4 c5 c6 cl
  have c0 := B2.out.cell 0 _ rfl
  have c1 := B2.out.cell 1 _ rfl
  have c2 := B2.out.cell 2 _ rfl
  have c3 := B2.out.cell 3 _ rfl
  have c4 := B2.out.cell 4 _ rfl
  have c5 := B2.out.cell 5 _ rfl
  have c6 := B2.out.cell 6 _ rfl
  have cl := B2.out.lt
  go_wp2_with fail
  go_ret
  exact ⟨rfl, W2.out⟩
theorem pck_any (p : Nt.Pt) (w : World) (h1 : p.pre.length ≤ 1000000000) (h2 : p.suf.length ≤ 1000000000) :
    Calls Tryz.prog 133 #[.agg #[.string ⟨p.pre.toArray⟩, .string ⟨p.suf.toArray⟩, .int .i64 p.mi, .int .i64 p.nf, .int .i64 p.mf, .int .i64 p.g, .int .i64 p.g2]] w fun e w' => e = .returned (errN (Nt.patE p)) ∧ Below w.heap.size w w' := by
  have A1 : ∀ (b : Bool), Nt.affB p.pre = b → Hid (∀ w : World, Calls Tryz.prog 169 #[.string ⟨p.pre.toArray⟩] w fun e w' => e = .returned (.bool b) ∧ Below w.heap.size w w') := fun b hb => Lib.hid fun w => hb ▸ affix_any p.pre w (by omega)
  have A2 : ∀ (b : Bool), Nt.affB p.suf = b → Hid (∀ w : World, Calls Tryz.prog 169 #[.string ⟨p.suf.toArray⟩] w fun e w' => e = .returned (.bool b) ∧ Below w.heap.size w w') := fun b hb => Lib.hid fun w => hb ▸ affix_any p.suf w (by omega)
  obtain ⟨pre, suf, mi, nf, mf, g, g2⟩ := p
  simp only at *
  by_cases ha' : Nt.affB pre = false
  · skip
    have e : Nt.patE ⟨pre, suf, mi, nf, mf, g, g2⟩ = 3 := by unfold Nt.patE; simp only [ha', Bool.false_and, Bool.false_eq_true, if_false]
    rw [e]
    rw [show errN 3 = (errV 3) from by unfold errN; rw [if_neg (by decide)]]
    exact pck_a pre suf mi nf mf g g2 w (A1 _ ha')
  have ha : Nt.affB pre = true := by simpa using ha'
  by_cases hs' : Nt.affB suf = false
  · skip
    have e : Nt.patE ⟨pre, suf, mi, nf, mf, g, g2⟩ = 3 := by unfold Nt.patE; simp only [ha, hs', Bool.and_false, Bool.false_eq_true, if_false]
    rw [e]
    rw [show errN 3 = (errV 3) from by unfold errN; rw [if_neg (by decide)]]
    exact pck_b pre suf mi nf mf g g2 w (A1 _ ha) (A2 _ hs')
  have hs : Nt.affB suf = true := by simpa using hs'
  have en : ∀ b, Nt.sizeB ⟨pre, suf, mi, nf, mf, g, g2⟩ = b → Nt.patE ⟨pre, suf, mi, nf, mf, g, g2⟩ = if b then (if g2 ≠ 0 ∧ g = 0 then 3 else 0) else 1 := fun b hb => by unfold Nt.patE; simp only [ha, hs, hb, Bool.and_self, if_true]
  by_cases r0 : mi < 1
  · have z : Nt.sizeB ⟨pre, suf, mi, nf, mf, g, g2⟩ = false := by rw [Bool.eq_false_iff]; intro z; have := Nt.size_ok z; simp only at this; omega
    have e : Nt.patE ⟨pre, suf, mi, nf, mf, g, g2⟩ = 1 := by rw [en _ z]; rfl
    rw [e]
    rw [show errN 1 = (errV 1) from by unfold errN; rw [if_neg (by decide)]]
    exact pck_s0 pre suf mi nf mf g g2 w (A1 _ ha) (A2 _ hs) r0
  by_cases r1 : 9 < mi
  · have z : Nt.sizeB ⟨pre, suf, mi, nf, mf, g, g2⟩ = false := by rw [Bool.eq_false_iff]; intro z; have := Nt.size_ok z; simp only at this; omega
    have e : Nt.patE ⟨pre, suf, mi, nf, mf, g, g2⟩ = 1 := by rw [en _ z]; rfl
    rw [e]
    rw [show errN 1 = (errV 1) from by unfold errN; rw [if_neg (by decide)]]
    exact pck_s1 pre suf mi nf mf g g2 w (A1 _ ha) (A2 _ hs) r0 r1
  by_cases r2 : mf < 0
  · have z : Nt.sizeB ⟨pre, suf, mi, nf, mf, g, g2⟩ = false := by rw [Bool.eq_false_iff]; intro z; have := Nt.size_ok z; simp only at this; omega
    have e : Nt.patE ⟨pre, suf, mi, nf, mf, g, g2⟩ = 1 := by rw [en _ z]; rfl
    rw [e]
    rw [show errN 1 = (errV 1) from by unfold errN; rw [if_neg (by decide)]]
    exact pck_s2 pre suf mi nf mf g g2 w (A1 _ ha) (A2 _ hs) r0 r1 r2
  by_cases r3 : 6 < mf
  · have z : Nt.sizeB ⟨pre, suf, mi, nf, mf, g, g2⟩ = false := by rw [Bool.eq_false_iff]; intro z; have := Nt.size_ok z; simp only at this; omega
    have e : Nt.patE ⟨pre, suf, mi, nf, mf, g, g2⟩ = 1 := by rw [en _ z]; rfl
    rw [e]
    rw [show errN 1 = (errV 1) from by unfold errN; rw [if_neg (by decide)]]
    exact pck_s3 pre suf mi nf mf g g2 w (A1 _ ha) (A2 _ hs) r0 r1 r2 r3
  by_cases r4 : nf < 0
  · have z : Nt.sizeB ⟨pre, suf, mi, nf, mf, g, g2⟩ = false := by rw [Bool.eq_false_iff]; intro z; have := Nt.size_ok z; simp only at this; omega
    have e : Nt.patE ⟨pre, suf, mi, nf, mf, g, g2⟩ = 1 := by rw [en _ z]; rfl
    rw [e]
    rw [show errN 1 = (errV 1) from by unfold errN; rw [if_neg (by decide)]]
    exact pck_s4 pre suf mi nf mf g g2 w (A1 _ ha) (A2 _ hs) r0 r1 r2 r3 r4
  by_cases r5 : mf < nf
  · have z : Nt.sizeB ⟨pre, suf, mi, nf, mf, g, g2⟩ = false := by rw [Bool.eq_false_iff]; intro z; have := Nt.size_ok z; simp only at this; omega
    have e : Nt.patE ⟨pre, suf, mi, nf, mf, g, g2⟩ = 1 := by rw [en _ z]; rfl
    rw [e]
    rw [show errN 1 = (errV 1) from by unfold errN; rw [if_neg (by decide)]]
    exact pck_s5 pre suf mi nf mf g g2 w (A1 _ ha) (A2 _ hs) r0 r1 r2 r3 r4 r5
  by_cases r6 : g < 0
  · have z : Nt.sizeB ⟨pre, suf, mi, nf, mf, g, g2⟩ = false := by rw [Bool.eq_false_iff]; intro z; have := Nt.size_ok z; simp only at this; omega
    have e : Nt.patE ⟨pre, suf, mi, nf, mf, g, g2⟩ = 1 := by rw [en _ z]; rfl
    rw [e]
    rw [show errN 1 = (errV 1) from by unfold errN; rw [if_neg (by decide)]]
    exact pck_s6 pre suf mi nf mf g g2 w (A1 _ ha) (A2 _ hs) r0 r1 r2 r3 r4 r5 r6
  by_cases r7 : 4 < g
  · have z : Nt.sizeB ⟨pre, suf, mi, nf, mf, g, g2⟩ = false := by rw [Bool.eq_false_iff]; intro z; have := Nt.size_ok z; simp only at this; omega
    have e : Nt.patE ⟨pre, suf, mi, nf, mf, g, g2⟩ = 1 := by rw [en _ z]; rfl
    rw [e]
    rw [show errN 1 = (errV 1) from by unfold errN; rw [if_neg (by decide)]]
    exact pck_s7 pre suf mi nf mf g g2 w (A1 _ ha) (A2 _ hs) r0 r1 r2 r3 r4 r5 r6 r7
  by_cases r8 : g2 < 0
  · have z : Nt.sizeB ⟨pre, suf, mi, nf, mf, g, g2⟩ = false := by rw [Bool.eq_false_iff]; intro z; have := Nt.size_ok z; simp only at this; omega
    have e : Nt.patE ⟨pre, suf, mi, nf, mf, g, g2⟩ = 1 := by rw [en _ z]; rfl
    rw [e]
    rw [show errN 1 = (errV 1) from by unfold errN; rw [if_neg (by decide)]]
    exact pck_s8 pre suf mi nf mf g g2 w (A1 _ ha) (A2 _ hs) r0 r1 r2 r3 r4 r5 r6 r7 r8
  by_cases r9 : 4 < g2
  · have z : Nt.sizeB ⟨pre, suf, mi, nf, mf, g, g2⟩ = false := by rw [Bool.eq_false_iff]; intro z; have := Nt.size_ok z; simp only at this; omega
    have e : Nt.patE ⟨pre, suf, mi, nf, mf, g, g2⟩ = 1 := by rw [en _ z]; rfl
    rw [e]
    rw [show errN 1 = (errV 1) from by unfold errN; rw [if_neg (by decide)]]
    exact pck_s9 pre suf mi nf mf g g2 w (A1 _ ha) (A2 _ hs) r0 r1 r2 r3 r4 r5 r6 r7 r8 r9
  have z : Nt.sizeB ⟨pre, suf, mi, nf, mf, g, g2⟩ = true := by unfold Nt.sizeB; simp only [Bool.and_eq_true, decide_eq_true_eq]; omega
  by_cases z2 : g2 = 0
  · have e : Nt.patE ⟨pre, suf, mi, nf, mf, g, g2⟩ = 0 := by rw [en _ z, if_pos rfl, if_neg (by omega)]
    rw [e]
    rw [show errN 0 = .nilIface from by unfold errN; rw [if_pos rfl]]
    subst z2
    exact pck_z pre suf mi nf mf g w (A1 _ ha) (A2 _ hs) r0 r1 r2 r3 r4 r5 r6 r7
  by_cases z1 : g = 0
  · have e : Nt.patE ⟨pre, suf, mi, nf, mf, g, g2⟩ = 3 := by rw [en _ z, if_pos rfl, if_pos ⟨z2, z1⟩]
    rw [e]
    rw [show errN 3 = (errV 3) from by unfold errN; rw [if_neg (by decide)]]
    subst z1
    exact pck_g pre suf mi nf mf g2 w (A1 _ ha) (A2 _ hs) r0 r1 r2 r3 r4 r5 r8 r9 z2
  · have e : Nt.patE ⟨pre, suf, mi, nf, mf, g, g2⟩ = 0 := by rw [en _ z, if_pos rfl, if_neg (by omega)]
    rw [e]
    rw [show errN 0 = .nilIface from by unfold errN; rw [if_pos rfl]]
    exact pck_h pre suf mi nf mf g g2 w (A1 _ ha) (A2 _ hs) r0 r1 r2 r3 r4 r5 r6 r7 r8 r9 z2 z1
end Go.Proofs.YtjlchookakbomaaGreatDoor
namespace Grp
open Go Go.Lib
/-- the pieces of a text from its end: the last of g signs, the others of g2 each, the first one no longer -/
def pieces (g g2 : Nat) (s : List UInt8) : List (List UInt8) :=
  if _h : 0 < g ∧ g < s.length then pieces g2 g2 (s.take (s.length - g)) ++ [s.drop (s.length - g)] else [s]
termination_by s.length
decreasing_by simp; omega
theorem pieces_cut {g g2 : Nat} {s : List UInt8} (h0 : 0 < g) (h : g < s.length) : pieces g g2 s = pieces g2 g2 (s.take (s.length - g)) ++ [s.drop (s.length - g)] := by
  rw [pieces, dif_pos ⟨h0, h⟩]
theorem pieces_one {g g2 : Nat} {s : List UInt8} (h : s.length ≤ g) : pieces g g2 s = [s] := by
  rw [pieces, dif_neg (by omega)]
theorem pieces_ne (g g2 : Nat) (s : List UInt8) : pieces g g2 s ≠ [] := by
  rw [pieces]; split <;> simp
theorem joinTail_snoc (sep : List UInt8) (r : List (List UInt8)) (y : List UInt8) : joinTail sep (r ++ [y]) = joinTail sep r ++ sep ++ y := by
  unfold joinTail; simp
theorem join_snoc {l : List (List UInt8)} (hl : l ≠ []) (y sep : List UInt8) : join (l ++ [y]) sep = join l sep ++ sep ++ y := by
  cases l with
  | nil => exact absurd rfl hl
  | cons x r => rw [List.cons_append, join_cons, join_cons, joinTail_snoc]; simp
/-- grouped digits -/
def grouped (g g2 : Nat) (s : List UInt8) (c : UInt8) : List UInt8 := join (pieces g g2 s) [c]
theorem grouped_cut {g g2 : Nat} {s : List UInt8} (c : UInt8) (h0 : 0 < g) (h : g < s.length) : grouped g g2 s c = grouped g2 g2 (s.take (s.length - g)) c ++ [c] ++ s.drop (s.length - g) := by
  unfold grouped
  rw [pieces_cut h0 h, join_snoc (pieces_ne _ _ _)]
theorem grouped_one {g g2 : Nat} {s : List UInt8} (c : UInt8) (h : s.length ≤ g) : grouped g g2 s c = s := by
  unfold grouped
  rw [pieces_one h, join_one]
theorem grouped_len (n : Nat) : ∀ (g g2 : Nat) (s : List UInt8) (c : UInt8), s.length ≤ n → (grouped g g2 s c).length ≤ 2 * s.length ∧ (pieces g g2 s).length ≤ s.length + 1 := by
  induction n with
  | zero => intro g g2 s c h; rw [grouped_one c (by omega), pieces_one (by omega)]; simp; omega
  | succ n ih =>
    intro g g2 s c h
    by_cases hc : 0 < g ∧ g < s.length
    · have i := ih g2 g2 (s.take (s.length - g)) c (by simp; omega)
      rw [grouped_cut c hc.1 hc.2, pieces_cut hc.1 hc.2]
      simp only [List.length_append, List.length_take, List.length_drop, List.length_cons, List.length_nil] at i ⊢
      omega
    · rw [pieces, dif_neg hc]
      unfold grouped
      rw [pieces, dif_neg hc, join_one]
      simp; omega
end Grp
namespace Go.Proofs.YtjlchookakbomaaGreatDoor
/-- what is told of digits -/
def gout (s : List UInt8) (g g2 : Int) (c : UInt8) : List UInt8 := if g = 0 then s else Grp.grouped g.toNat (if g2 = 0 then g.toNat else g2.toNat) s c
theorem gout_len (s : List UInt8) (g g2 : Int) (c : UInt8) : (gout s g g2 c).length ≤ 2 * s.length := by
  unfold gout
  split
  · omega
  · exact (Grp.grouped_len s.length _ _ s c (Nat.le_refl _)).1
end Go.Proofs.YtjlchookakbomaaGreatDoor
namespace Go.Proofs.YtjlchookakbomaaGreatDoor
open Go.RowKit

abbrev NUM : List UInt8 := [48, 49, 50, 51, 52, 53, 54, 55, 56, 57]
/-- a text of digits, one at least -/
def digB (s : List UInt8) : Bool := s.all (fun c => NUM.contains c) && !s.isEmpty
theorem trim_nil (s : List UInt8) : Lib.trimS s NUM = [] ↔ s.all (fun c => NUM.contains c) = true := by
  unfold Lib.trimS Lib.trimLeftS Lib.trimRightS
  rw [dropWhile_all, List.all_reverse]
  constructor
  · intro h
    by_cases hs : s.all (fun c => NUM.contains c) = true
    · exact hs
    · exfalso
      have h2 : (s.reverse.dropWhile (NUM.contains ·)) ≠ [] := fun e => hs (by rw [← List.all_reverse]; exact dropWhile_all.1 e)
      cases hd : s.reverse.dropWhile (NUM.contains ·) with
      | nil => exact h2 hd
      | cons x r =>
        have hx : NUM.contains x = false := by
          have := List.head?_dropWhile_not (NUM.contains ·) s.reverse
          rw [hd] at this
          simpa using this
        rw [hd] at h
        simp only [List.all_cons, hx, Bool.false_and] at h
        cases h
  · intro h
    have e : s.reverse.dropWhile (NUM.contains ·) = [] := dropWhile_all.2 (by rw [List.all_reverse]; exact h)
    rw [e]; rfl
theorem trimN_any (s : List UInt8) (w : World) (hs : s.length ≤ 4000000000) :
    Calls Tryz.prog 83 #[.string ⟨s.toArray⟩, .string ⟨#[48, 49, 50, 51, 52, 53, 54, 55, 56, 57]⟩] w fun e w' => e = .returned (.string ⟨(Lib.trimS s NUM).toArray⟩) ∧ Below w.heap.size w w' := by
  have c := Any.strings_Trim_laid Tryz.lays160 (by kernel_rfl) ⟨s.toArray⟩ ⟨#[48, 49, 50, 51, 52, 53, 54, 55, 56, 57]⟩ w (by rw [size_mkl]; omega) (by decide) (fun j b hb => by
    have hm : b ∈ NUM := List.mem_of_getElem? (i := j) hb
    simp at hm
    rcases hm with rfl | rfl | rfl | rfl | rfl | rfl | rfl | rfl | rfl | rfl <;> decide)
  exact c

set_option maxRecDepth 100000 in
set_option maxHeartbeats 1000000 in
theorem gdigits_any (s : List UInt8) (w : World) (hs : s.length ≤ 4000000000) :
    Calls Tryz.prog 139 #[.string ⟨s.toArray⟩] w fun e w' => e = .returned (.bool (digB s)) ∧ Below w.heap.size w w' := by
  cases s with
  | nil =>
    go_enter Tryz.func139, Tryz.ntmps139
    go_wp2
    go_ret
    exact ⟨rfl, Below.refl _ _⟩
  | cons b r =>
    have CT := Lib.hid fun w => trimN_any (b :: r) w hs
    have h0 : (b :: r == []) = false := rfl
    have HD : Hid (digB (b :: r) = decide (Lib.trimS (b :: r) NUM = [])) := Lib.hid (by
      rw [Bool.eq_iff_iff, decide_eq_true_iff, trim_nil]; unfold digB; simp)
    generalize hL : b :: r = L at *
    have hL' := Lib.hid hL
    clear hL hs
    generalize Lib.trimS L NUM = T at *
    have hne : L ≠ [] := fun e => by rw [e] at hL'; cases hL'.out
    have e1 : L.isEmpty = false := by cases L with | nil => exact absurd rfl hne | cons => rfl
    cases T with
    | nil =>
      go_enter Tryz.func139, Tryz.ntmps139
      go_wp2_with fail
      refine (CT.out _).mono ?_
      rintro e w' ⟨rfl, hb⟩
      have W := Lib.hid hb
      clear hb
      go_wp2_with fail
      go_ret
      exact ⟨ret_bool (by rw [HD.out]; simp), W.out⟩
    | cons x y =>
      go_enter Tryz.func139, Tryz.ntmps139
      go_wp2_with fail
      refine (CT.out _).mono ?_
      rintro e w' ⟨rfl, hb⟩
      have W := Lib.hid hb
      clear hb
      go_wp2_with fail
      go_ret
      exact ⟨ret_bool (by rw [HD.out]; simp), W.out⟩

set_option maxRecDepth 100000 in
set_option maxHeartbeats 1000000 in
theorem gcheck_a0 (g g2 c : Int) (w : World) (n : c < 48) (r1 : ¬ g < 0) (r2 : ¬ 4 < g) (r3 : ¬ g2 < 0) (r4 : ¬ 4 < g2) :
    Calls Tryz.prog 140 #[.int .i64 g, .int .i64 g2, .int .u8 c] w fun e w' => e = .returned (.nilIface) ∧ w = w' := by
  have d1 : decide (48 ≤ c) = false := dec_no (by omega)
  have d3 : decide (g < 0) = false := dec_no (by omega)
  have d4 : decide (4 < g) = false := dec_no (by omega)
  have d5 : decide (g2 < 0) = false := dec_no (by omega)
  have d6 : decide (4 < g2) = false := dec_no (by omega)
  go_enter Tryz.func140, Tryz.ntmps140
  go_wp2
  go_ret
  exact ⟨rfl, rfl⟩

set_option maxRecDepth 100000 in
set_option maxHeartbeats 1000000 in
theorem gcheck_b0 (g g2 c : Int) (w : World) (n : 57 < c) (r1 : ¬ g < 0) (r2 : ¬ 4 < g) (r3 : ¬ g2 < 0) (r4 : ¬ 4 < g2) :
    Calls Tryz.prog 140 #[.int .i64 g, .int .i64 g2, .int .u8 c] w fun e w' => e = .returned (.nilIface) ∧ w = w' := by
  have d1 : decide (48 ≤ c) = true := dec_yes (by omega)
  have d2 : decide (c ≤ 57) = false := dec_no (by omega)
  have d3 : decide (g < 0) = false := dec_no (by omega)
  have d4 : decide (4 < g) = false := dec_no (by omega)
  have d5 : decide (g2 < 0) = false := dec_no (by omega)
  have d6 : decide (4 < g2) = false := dec_no (by omega)
  go_enter Tryz.func140, Tryz.ntmps140
  go_wp2
  go_ret
  exact ⟨rfl, rfl⟩

/-- the sizes and the sign are right -/
def rightG (g g2 : Int) : Prop := 0 ≤ g ∧ g ≤ 4 ∧ 0 ≤ g2 ∧ g2 ≤ 4
theorem gcheck_ok (g g2 c : Int) (w : World) (hc : ¬ (48 ≤ c ∧ c ≤ 57)) (h : rightG g g2) :
    Calls Tryz.prog 140 #[.int .i64 g, .int .i64 g2, .int .u8 c] w fun e w' => e = .returned .nilIface ∧ w = w' := by
  obtain ⟨h1, h2, h3, h4⟩ := h
  by_cases n : c < 48
  · exact gcheck_a0 g g2 c w n (by omega) (by omega) (by omega) (by omega)
  · exact gcheck_b0 g g2 c w (by omega) (by omega) (by omega) (by omega) (by omega)
end Go.Proofs.YtjlchookakbomaaGreatDoor
namespace Go.Proofs.YtjlchookakbomaaGreatDoor.Nt
open Go Go.Lib Byt
open Dcm (okD)
/-- digits ahead of the point, and behind it -/
def wh (c s : Int) : List UInt8 := (zdig (zn c s) c.natAbs).take ((zdig (zn c s) c.natAbs).length - s.toNat)
def bh (c s : Int) : List UInt8 := (zdig (zn c s) c.natAbs).drop ((zdig (zn c s) c.natAbs).length - s.toNat)
theorem zn_zero {c s : Int} (h : s ≤ 0) : zn c s = 0 := by
  have := List.length_pos_iff.2 (digits_ne c.natAbs)
  unfold zn; omega
theorem wh_zero {c s : Int} (h : s ≤ 0) : wh c s = decDigits c.natAbs := by
  unfold wh
  rw [zn_zero h, show s.toNat = 0 by omega]
  simp [zdig]
theorem bh_zero {c s : Int} (h : s ≤ 0) : bh c s = [] := by
  unfold bh
  rw [show s.toNat = 0 by omega]
  simp
theorem bh_len (c s : Int) : (bh c s).length = s.toNat := by
  have := zdig_len c s
  unfold bh
  rw [List.length_drop]; omega
theorem wh_ne (c s : Int) : wh c s ≠ [] := fun e => by
  have h := zdig_len c s
  have := congrArg List.length e
  unfold wh at this
  rw [List.length_take, List.length_nil] at this
  omega
theorem wh_dig (c s : Int) : AllDig (wh c s) := fun x hx => zdig_all _ _ x (List.mem_of_mem_take hx)
theorem text_parts (c s : Int) : decText c s = sgn c ++ wh c s ++ (if s ≤ 0 then [] else 46 :: bh c s) := by
  unfold decText
  split
  · rename_i h; rw [wh_zero h]; simp
  · simp [wh, bh]
theorem wh_len (c s : Int) (h : okD c s) : (wh c s).length ≤ 100 := by
  have := dec_len c s h
  rw [text_parts] at this
  simp only [List.length_append] at this
  omega
theorem no_head (c s : Int) : (46 : UInt8) ∉ sgn c ++ wh c s := fun e => by
  rcases List.mem_append.1 e with e | e
  · exact sgn_point c e
  · exact no_point (wh_dig c s) e
theorem cut_text (c s : Int) : cut (decText c s) [46] = (sgn c ++ wh c s, bh c s, decide (0 < s)) := by
  rw [text_parts]
  split
  · rename_i h
    rw [List.append_nil, cut_miss (no_head c s), bh_zero h, decide_eq_false (by omega)]
  · rename_i h
    rw [cut_hit _ (no_head c s), decide_eq_true (by omega)]
/-- with noughts ahead, with noughts behind -/
def pad (mi c s : Int) : List UInt8 := List.replicate (mi.toNat - (wh c s).length) 48 ++ wh c s
def fr (nf c s : Int) : List UInt8 := bh c s ++ List.replicate (nf.toNat - (bh c s).length) 48
def tail (pt : UInt8) (l : List UInt8) : List UInt8 := if l = [] then [] else pt :: l
def body (p : Pt) (pt cm : UInt8) (c s : Int) : List UInt8 := p.pre ++ (gout (pad p.mi c s) p.g p.g2 cm ++ tail pt (fr p.nf c s)) ++ p.suf
/-- without noughts at the end -/
def trim (c s : Int) : Int × Int := ((Dcm.strip s.toNat c).2, ((Dcm.strip s.toNat c).1 : Int))
/-- with no more digits behind the point than so many -/
def red (mf c s : Int) : Int × Int := if mf < (trim c s).2 then trim (Dcm.rndC (trim c s).1 (trim c s).2 mf 5) mf else trim c s
def shown (p : Pt) (pt cm : UInt8) (c s : Int) : List UInt8 := sgn (red p.mf c s).1 ++ body p pt cm (red p.mf c s).1 (red p.mf c s).2
def sgnL : List UInt8 := [46, 44, 39, 95]
def symB (pt cm : UInt8) : Bool := pt != cm && sgnL.contains pt && sgnL.contains cm
def allE (p : Pt) (pt cm : UInt8) : Int := if patE p ≠ 0 then patE p else if symB pt cm then 0 else 3
def fmtE (p : Pt) (pt cm : UInt8) (c s : Int) : Int := if allE p pt cm ≠ 0 then allE p pt cm else if 0 ≤ s ∧ s ≤ 9 ∧ -1000000000000000 ≤ c ∧ c ≤ 1000000000000000 then 0 else 1
/-- sums -/
theorem pat_ok {p : Pt} (h : patE p = 0) : affB p.pre = true ∧ affB p.suf = true ∧ sizeB p = true ∧ ¬ (p.g2 ≠ 0 ∧ p.g = 0) := by
  unfold patE at h
  split at h
  · rename_i h1
    split at h
    · rename_i h2
      split at h
      · omega
      · rename_i h3
        exact ⟨(Bool.and_eq_true _ _ ▸ h1).1, (Bool.and_eq_true _ _ ▸ h1).2, h2, h3⟩
    · omega
  · omega
theorem fmt_ok {p : Pt} {pt cm : UInt8} {c s : Int} (h : fmtE p pt cm c s = 0) : patE p = 0 ∧ symB pt cm = true ∧ okD c s := by
  unfold fmtE allE at h
  by_cases h1 : patE p = 0
  · by_cases h2 : symB pt cm = true
    · by_cases h3 : 0 ≤ s ∧ s ≤ 9 ∧ -1000000000000000 ≤ c ∧ c ≤ 1000000000000000
      · exact ⟨h1, h2, h3⟩
      · simp only [h1, h2, h3, if_false, if_true, ne_eq, not_true_eq_false] at h
        omega
    · simp [h1, h2] at h
  · simp [h1] at h
theorem red_trim (c s : Int) (h : okD c s) : okD (trim c s).1 (trim c s).2 ∧ (trim c s).2 ≤ s ∧ 0 ≤ (trim c s).2 := by
  have hl := Dcm.strip_le s.toNat c
  have hm := Dcm.strip_mul s.toNat c (by unfold okD at h; omega)
  have hp := Dcm.P10_bd ((s.toNat : Int) - ((Dcm.strip s.toNat c).1 : Int))
  unfold okD at *
  unfold trim
  generalize Dcm.strip s.toNat c = q at *
  obtain ⟨q1, q2⟩ := q
  simp only at *
  generalize Dcm.P10 ((s.toNat : Int) - (q1 : Int)) = U at *
  refine ⟨⟨by omega, by omega, ?_, ?_⟩, by omega, by omega⟩
  · by_cases h0 : 0 ≤ q2
    · omega
    · have : q2 * U ≤ q2 * 1 := Int.mul_le_mul_of_nonpos_left (by omega) (by omega)
      omega
  · by_cases h0 : 0 ≤ q2
    · have : q2 * 1 ≤ q2 * U := Int.mul_le_mul_of_nonneg_left (by omega) h0
      omega
    · omega
theorem pre_hit (a b : List UInt8) : trimPrefix (a ++ b) a = b := by
  unfold trimPrefix hasPrefix
  rw [if_pos (List.isPrefixOf_iff_prefix.2 (List.prefix_append a b))]
  simp
theorem no_minus {l : List UInt8} (h : (45 : UInt8) ∉ l) : hasPrefix l [45] = false := by
  unfold hasPrefix
  rw [Bool.eq_false_iff]
  intro e
  obtain ⟨t, rfl⟩ := List.isPrefixOf_iff_prefix.1 e
  exact h (by simp)
theorem red_fine (mf c s : Int) (h : okD c s) (m0 : 0 ≤ mf) (m1 : mf ≤ 6) : okD (red mf c s).1 (red mf c s).2 ∧ (red mf c s).2 ≤ mf ∧ ((red mf c s).2 = 0 ∨ (red mf c s).1 % 10 ≠ 0) := by
  have ends : ∀ c s, (trim c s).2 = 0 ∨ (trim c s).1 % 10 ≠ 0 := fun c s => by
    rcases Dcm.strip_end s.toNat c with e | e
    · exact .inl (by unfold trim; simp only; omega)
    · exact .inr e
  obtain ⟨h1, h2, h3⟩ := red_trim c s h
  unfold red
  split
  · rename_i hlt
    have hr : okD (Dcm.rndC (trim c s).1 (trim c s).2 mf 5) mf := by
      have := Dcm.near_facts (trim c s).1 (trim c s).2 mf 5 h1.2.2 h1.2.1 m0 hlt (by omega) (by omega)
      exact ⟨m0, by omega, by omega, by omega⟩
    obtain ⟨g1, g2, g3⟩ := red_trim _ _ hr
    exact ⟨g1, g2, ends _ _⟩
  · rename_i hlt
    exact ⟨h1, by omega, ends _ _⟩
theorem head_minus (a b : Int) : trimPrefix (sgn a ++ wh a b) [45] = wh a b ∧ hasPrefix (sgn a ++ wh a b) [45] = decide (a < 0) := by
  have mB : (45 : UInt8) ∉ wh a b := fun hm => by have := wh_dig a b 45 hm; revert this; decide
  unfold sgn
  split
  · rename_i h
    exact ⟨pre_hit _ _, by rw [decide_eq_true h]; exact List.isPrefixOf_iff_prefix.2 (List.prefix_append _ _)⟩
  · rename_i h
    rw [List.nil_append]
    exact ⟨by unfold trimPrefix; rw [no_minus mB, if_neg (by simp)], by rw [no_minus mB, decide_eq_false h]⟩
theorem dig_B {l : List UInt8} (h : AllDig l) (hn : l ≠ []) : digB l = true := by
  unfold digB
  rw [Bool.and_eq_true, List.all_eq_true]
  refine ⟨fun x hx => ?_, by simpa using hn⟩
  have := h x hx
  have e : x = UInt8.ofNat x.toNat := by simp
  have hk : ∀ k : Nat, 48 ≤ k → k ≤ 57 → NUM.contains (UInt8.ofNat k) = true := by
    intro k h1 h2
    have : k = 48 ∨ k = 49 ∨ k = 50 ∨ k = 51 ∨ k = 52 ∨ k = 53 ∨ k = 54 ∨ k = 55 ∨ k = 56 ∨ k = 57 := by omega
    rcases this with rfl | rfl | rfl | rfl | rfl | rfl | rfl | rfl | rfl | rfl <;> decide
  rw [e]; exact hk _ this.1 this.2
end Go.Proofs.YtjlchookakbomaaGreatDoor.Nt
namespace Go.Proofs.YtjlchookakbomaaGreatDoor
open Go.RowKit
theorem idx4_neg (x : UInt8) : decide (Lib.indexByte Nt.sgnL x < 0) = !Nt.sgnL.contains x := by
  by_cases h1 : x = 46
  · subst h1; decide
  by_cases h2 : x = 44
  · subst h2; decide
  by_cases h3 : x = 39
  · subst h3; decide
  by_cases h4 : x = 95
  · subst h4; decide
  have b : ∀ y : UInt8, x ≠ y → (y == x) = false := fun y h => beq_eq_false_iff_ne.2 fun e => h e.symm
  simp [Nt.sgnL, Lib.indexByte, b _ h1, b _ h2, b _ h3, b _ h4, h1, h2, h3, h4]
theorem ibyte_any (x : UInt8) (w : World) : Calls Tryz.prog 84 #[.string ⟨#[46, 44, 39, 95]⟩, .int .u8 (x.toNat : Int)] w fun e w' => e = .returned (.int .i64 (Lib.indexByte Nt.sgnL x)) ∧ w' = w := by
  have h := Tryz.strings_IndexByte ⟨#[46, 44, 39, 95]⟩ (x.toNat : Int) w
  rw [show ((x.toNat : Int).toNat.toUInt8) = x by simp] at h
  exact h
theorem byteN_eq (x y : UInt8) : ((x.toNat : Int) == (y.toNat : Int)) = (x == y) := by
  rw [Bool.eq_iff_iff, beq_iff_eq, beq_iff_eq]
  constructor
  · intro h; exact UInt8.toNat.inj (by omega)
  · rintro rfl; rfl

set_option maxRecDepth 100000 in
set_option maxHeartbeats 2000000 in
theorem nck_any (pt cm : UInt8) (w : World) :
    Calls Tryz.prog 134 #[.agg #[.int .u8 (pt.toNat : Int), .int .u8 (cm.toNat : Int)]] w fun e w' => e = .returned (errN (if Nt.symB pt cm then 0 else 3)) ∧ Below w.heap.size w w' := by
  have CP := Lib.hid fun w => ibyte_any pt w
  have CC := Lib.hid fun w => ibyte_any cm w
  have hb := byteN_eq pt cm
  have n1 := idx4_neg pt
  have n2 := idx4_neg cm
  have hs : Nt.symB pt cm = (!(pt == cm) && Nt.sgnL.contains pt && Nt.sgnL.contains cm) := rfl
  rw [hs]
  clear hs
  generalize (pt == cm) = E at *
  generalize Nt.sgnL.contains pt = A at *
  generalize Nt.sgnL.contains cm = B at *
  generalize (pt.toNat : Int) = p at *
  generalize (cm.toNat : Int) = q at *
  generalize Lib.indexByte Nt.sgnL pt = i at *
  generalize Lib.indexByte Nt.sgnL cm = j at *
  have W0 := Lib.hid (blw_alloc w (.cells #[.int .u8 p, .int .u8 q] 125))
  cases E <;> cases A <;> cases B <;> simp only [Bool.not_true, Bool.not_false, Bool.and_true, Bool.and_false, if_true, if_false, Bool.false_eq_true] at * <;> clear pt cm
  all_goals
    go_enter Tryz.func134, Tryz.ntmps134
    go_wp2_with fail
    try (refine (CP.out _).mono ?_; rintro e w' ⟨rfl, rfl⟩; go_wp2_with fail)
    try (refine (CC.out _).mono ?_; rintro e w' ⟨rfl, rfl⟩; go_wp2_with fail)
    go_ret
    exact ⟨rfl, W0.out⟩
def pV (p : Nt.Pt) : Value := .agg #[.string ⟨p.pre.toArray⟩, .string ⟨p.suf.toArray⟩, .int .i64 p.mi, .int .i64 p.nf, .int .i64 p.mf, .int .i64 p.g, .int .i64 p.g2]

set_option maxRecDepth 100000 in
set_option maxHeartbeats 2000000 in
theorem chk_any (p : Nt.Pt) (pt cm : UInt8) (w : World) (h1 : p.pre.length ≤ 1000000000) (h2 : p.suf.length ≤ 1000000000) :
    Calls Tryz.prog 85 #[pV p, .agg #[.int .u8 (pt.toNat : Int), .int .u8 (cm.toNat : Int)]] w fun e w' => e = .returned (errN (Nt.allE p pt cm)) ∧ Below w.heap.size w w' := by
  have CP := Lib.hid fun w => pck_any p w h1 h2
  have CC := Lib.hid fun w => nck_any pt cm w
  unfold Nt.allE
  generalize hE : Nt.patE p = E at *
  clear hE
  generalize (if Nt.symB pt cm then (0 : Int) else 3) = F at *
  unfold pV
  obtain ⟨pre, suf, mi, nf, mf, g, g2⟩ := p
  simp only at *
  generalize (pt.toNat : Int) = a at *
  generalize (cm.toNat : Int) = b at *
  clear pt cm h1 h2
  have W0 := Lib.hid (blw_trans (blw_alloc w (.cells #[.string ⟨pre.toArray⟩, .string ⟨suf.toArray⟩, .int .i64 mi, .int .i64 nf, .int .i64 mf, .int .i64 g, .int .i64 g2] 123)) (blw_alloc _ (.cells #[.int .u8 a, .int .u8 b] 125)))
  have Y0 := Lib.hid (Boxed.at (q := w.heap.size + 1) (Boxed.made (w.alloc (.cells #[.string ⟨pre.toArray⟩, .string ⟨suf.toArray⟩, .int .i64 mi, .int .i64 nf, .int .i64 mf, .int .i64 g, .int .i64 g2] 123)) #[.int .u8 a, .int .u8 b] 125) (by simp))
  by_cases h0 : E = 0
  · subst h0
    rw [show errN 0 = .nilIface from rfl] at CP
    rw [if_neg (by simp)]
    go_enter Tryz.func85, Tryz.ntmps85
    go_wp2_with fail
    refine (CP.out _).mono ?_
    rintro e w1 ⟨rfl, hb⟩
    have W1 := Lib.hid (blw_trans W0.out hb)
    have Y1 := Lib.hid (Y0.out.below hb)
    clear hb CP W0 Y0
    have y0 := Y1.out.cell 0 _ rfl
    have y1 := Y1.out.cell 1 _ rfl
    go_wp2_with fail
    refine (CC.out _).mono ?_
    rintro e w2 ⟨rfl, hb⟩
    have W2 := Lib.hid (blw_trans W1.out hb)
    clear hb CC W1 Y1 y0 y1
    go_wp2_with fail
    go_ret
    exact ⟨rfl, W2.out⟩
  · rw [show errN E = errV E from if_neg h0] at CP
    rw [if_pos h0, show errN E = errV E from if_neg h0]
    go_enter Tryz.func85, Tryz.ntmps85
    go_wp2_with fail
    refine (CP.out _).mono ?_
    rintro e w1 ⟨rfl, hb⟩
    have W1 := Lib.hid (blw_trans W0.out hb)
    clear hb CP W0 Y0
    go_wp2_with fail
    go_ret
    exact ⟨rfl, W1.out⟩
end Go.Proofs.YtjlchookakbomaaGreatDoor
namespace Go.Proofs.YtjlchookakbomaaGreatDoor
open Go.RowKit
structure Bx (w0 : World) (pv yv : Array Value) (c s : Value) (w : World) : Prop where
  b : Below w0.heap.size w0 w
  p : Boxed w w0.heap.size pv
  y : Boxed w (w0.heap.size + 1) yv
  d : Boxed w (w0.heap.size + 2) #[c, s]
theorem Bx.made (w0 : World) (pv yv : Array Value) (c s : Value) (t1 t2 t3 : TypeId) : Bx w0 pv yv c s (((w0.alloc (.cells pv t1)).alloc (.cells yv t2)).alloc (.cells #[c, s] t3)) :=
  ⟨blw_trans (blw_trans (blw_alloc _ _) (blw_alloc _ _)) (blw_alloc _ _), ((Boxed.made w0 pv t1).alloc _).alloc _, ((Boxed.made _ yv t2).alloc _).at (by simp), (Boxed.made _ _ t3).at (by simp)⟩
theorem Bx.below {w0 w w' : World} {pv yv : Array Value} {c s : Value} (h : Bx w0 pv yv c s w) (hb : Below w.heap.size w w') : Bx w0 pv yv c s w' :=
  ⟨blw_trans h.b hb, h.p.below hb, h.y.below hb, h.d.below hb⟩
theorem Bx.alloc {w0 w : World} {pv yv : Array Value} {c s : Value} (h : Bx w0 pv yv c s w) (o : Obj) : Bx w0 pv yv c s (w.alloc o) := h.below (blw_alloc w o)
theorem Bx.drewN {w0 w : World} {pv yv : Array Value} {c s : Value} (h : Bx w0 pv yv c s w) (n : Nat) : Bx w0 pv yv c s (w.drewN n) := ⟨blw_drewN h.b n, h.p.drewN n, h.y.drewN n, h.d.drewN n⟩
theorem Bx.store {w0 w : World} {pv yv : Array Value} {c s : Value} (h : Bx w0 pv yv c s w) (x z : Value) : Bx w0 pv yv x z ((w.setCell ⟨w0.heap.size + 2, 0, none⟩ x).setCell ⟨w0.heap.size + 2, 1, none⟩ z) :=
  ⟨Below.setCell (Below.setCell h.b (by simp) x) (by simp) z,
   (h.p.far (q := w0.heap.size + 2) (by omega) 0 x).far (q := w0.heap.size + 2) (by omega) 1 z,
   (h.y.far (q := w0.heap.size + 2) (by omega) 0 x).far (q := w0.heap.size + 2) (by omega) 1 z,
   (h.d.set 0 x (by simp)).set 1 z (by simp)⟩
/-- another block than the three -/
theorem Bx.lt {w0 w : World} {pv yv : Array Value} {c s : Value} (h : Bx w0 pv yv c s w) : w0.heap.size + 2 < w.heap.size := h.d.lt
end Go.Proofs.YtjlchookakbomaaGreatDoor
