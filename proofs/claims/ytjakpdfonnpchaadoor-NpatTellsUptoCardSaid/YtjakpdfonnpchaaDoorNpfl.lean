/- The walk of the reference's PatFault. Conditions: the texts are short. -/
import Derived.Test.YtjakpdfonnpchaaDoorNAff
import Derived.Test.YtjakpdfonnpchaaDoorOnly
namespace Go.Proofs.YtjakpdfonnpchaaDoor
open Go.RowKit
set_option maxRecDepth 100000 in
set_option maxHeartbeats 2000000 in
theorem pfl_a (pre suf : List UInt8) (mi nf mf g g2 : Int) (w : World) (C1 : Hid (∀ w : World, Calls Tryd.prog 19 #[.string ⟨pre.toArray⟩, .string ⟨#[97, 98, 99, 100, 101, 102, 103, 104, 105, 106, 107, 108, 109, 110, 111, 112, 113, 114, 115, 116, 117, 118, 119, 120, 121, 122, 65, 66, 67, 68, 69, 70, 71, 72, 73, 74, 75, 76, 77, 78, 79, 80, 81, 82, 83, 84, 85, 86, 87, 88, 89, 90, 32, 36, 37]⟩, .int .i64 0, .int .i64 5] w fun e w' => e = .returned (.bool false) ∧ Below w.heap.size w w')) :
    Calls Tryd.prog 8 #[.agg #[.string ⟨pre.toArray⟩, .string ⟨suf.toArray⟩, .int .i64 mi, .int .i64 nf, .int .i64 mf, .int .i64 g, .int .i64 g2]] w fun e w' => e = .returned (.int .i64 3) ∧ Below w.heap.size w w' := by
  have W0 := Lib.hid (blw_alloc w (.cells #[.string ⟨pre.toArray⟩, .string ⟨suf.toArray⟩, .int .i64 mi, .int .i64 nf, .int .i64 mf, .int .i64 g, .int .i64 g2] 23))
  have B0 := Lib.hid (Boxed.made w #[.string ⟨pre.toArray⟩, .string ⟨suf.toArray⟩, .int .i64 mi, .int .i64 nf, .int .i64 mf, .int .i64 g, .int .i64 g2] 23)
  go_enter Tryd.func8, Tryd.ntmps8
  go_wp2_with fail
  refine (C1.out _).mono ?_
  rintro e w1 ⟨rfl, hb⟩
  have W1 := Lib.hid (blw_trans W0.out hb)
  have B1 := Lib.hid (B0.out.below hb)
  clear hb W0 B0
  have c0 := B1.out.cell 0 _ rfl
  have c1 := B1.out.cell 1 _ rfl
  have c2 := B1.out.cell 2 _ rfl
  have c3 := B1.out.cell 3 _ rfl
  have c4 := B1.out.cell 4 _ rfl
  have c5 := B1.out.cell 5 _ rfl
  have c6 := B1.out.cell 6 _ rfl
  have cl := B1.out.lt
  go_wp2_with fail
  go_ret
  exact ⟨rfl, W1.out⟩
set_option maxRecDepth 100000 in
set_option maxHeartbeats 2000000 in
theorem pfl_b (pre suf : List UInt8) (mi nf mf g g2 : Int) (w : World) (C1 : Hid (∀ w : World, Calls Tryd.prog 19 #[.string ⟨pre.toArray⟩, .string ⟨#[97, 98, 99, 100, 101, 102, 103, 104, 105, 106, 107, 108, 109, 110, 111, 112, 113, 114, 115, 116, 117, 118, 119, 120, 121, 122, 65, 66, 67, 68, 69, 70, 71, 72, 73, 74, 75, 76, 77, 78, 79, 80, 81, 82, 83, 84, 85, 86, 87, 88, 89, 90, 32, 36, 37]⟩, .int .i64 0, .int .i64 5] w fun e w' => e = .returned (.bool true) ∧ Below w.heap.size w w')) (C2 : Hid (∀ w : World, Calls Tryd.prog 19 #[.string ⟨suf.toArray⟩, .string ⟨#[97, 98, 99, 100, 101, 102, 103, 104, 105, 106, 107, 108, 109, 110, 111, 112, 113, 114, 115, 116, 117, 118, 119, 120, 121, 122, 65, 66, 67, 68, 69, 70, 71, 72, 73, 74, 75, 76, 77, 78, 79, 80, 81, 82, 83, 84, 85, 86, 87, 88, 89, 90, 32, 36, 37]⟩, .int .i64 0, .int .i64 5] w fun e w' => e = .returned (.bool false) ∧ Below w.heap.size w w')) :
    Calls Tryd.prog 8 #[.agg #[.string ⟨pre.toArray⟩, .string ⟨suf.toArray⟩, .int .i64 mi, .int .i64 nf, .int .i64 mf, .int .i64 g, .int .i64 g2]] w fun e w' => e = .returned (.int .i64 3) ∧ Below w.heap.size w w' := by
  have W0 := Lib.hid (blw_alloc w (.cells #[.string ⟨pre.toArray⟩, .string ⟨suf.toArray⟩, .int .i64 mi, .int .i64 nf, .int .i64 mf, .int .i64 g, .int .i64 g2] 23))
  have B0 := Lib.hid (Boxed.made w #[.string ⟨pre.toArray⟩, .string ⟨suf.toArray⟩, .int .i64 mi, .int .i64 nf, .int .i64 mf, .int .i64 g, .int .i64 g2] 23)
  go_enter Tryd.func8, Tryd.ntmps8
  go_wp2_with fail
  refine (C1.out _).mono ?_
  rintro e w1 ⟨rfl, hb⟩
  have W1 := Lib.hid (blw_trans W0.out hb)
  have B1 := Lib.hid (B0.out.below hb)
  clear hb W0 B0
  have c0 := B1.out.cell 0 _ rfl
  have c1 := B1.out.cell 1 _ rfl
  have c2 := B1.out.cell 2 _ rfl
  have c3 := B1.out.cell 3 _ rfl
  have c4 := B1.out.cell 4 _ rfl
  have c5 := B1.out.cell 5 _ rfl
  have c6 := B1.out.cell 6 _ rfl
  have cl := B1.out.lt
  go_wp2_with fail
  refine (C2.out _).mono ?_
  rintro e w2 ⟨rfl, hb⟩
  have W2 := Lib.hid (blw_trans W1.out hb)
  have B2 := Lib.hid (B1.out.below hb)
  clear hb W1 B1 c0 c1 c2 c3 c4 c5 c6 cl
  have c0 := B2.out.cell 0 _ rfl
  have c1 := B2.out.cell 1 _ rfl
  have c2 := B2.out.cell 2 _ rfl
  have c3 := B2.out.cell 3 _ rfl
  have c4 := B2.out.cell 4 _ rfl
  have c5 := B2.out.cell 5 _ rfl
  have c6 := B2.out.cell 6 _ rfl
  have cl := B2.out.lt
  go_wp2_with fail
  go_ret
  exact ⟨rfl, W2.out⟩
set_option maxRecDepth 100000 in
set_option maxHeartbeats 2000000 in
theorem pfl_s0 (pre suf : List UInt8) (mi nf mf g g2 : Int) (w : World) (C1 : Hid (∀ w : World, Calls Tryd.prog 19 #[.string ⟨pre.toArray⟩, .string ⟨#[97, 98, 99, 100, 101, 102, 103, 104, 105, 106, 107, 108, 109, 110, 111, 112, 113, 114, 115, 116, 117, 118, 119, 120, 121, 122, 65, 66, 67, 68, 69, 70, 71, 72, 73, 74, 75, 76, 77, 78, 79, 80, 81, 82, 83, 84, 85, 86, 87, 88, 89, 90, 32, 36, 37]⟩, .int .i64 0, .int .i64 5] w fun e w' => e = .returned (.bool true) ∧ Below w.heap.size w w')) (C2 : Hid (∀ w : World, Calls Tryd.prog 19 #[.string ⟨suf.toArray⟩, .string ⟨#[97, 98, 99, 100, 101, 102, 103, 104, 105, 106, 107, 108, 109, 110, 111, 112, 113, 114, 115, 116, 117, 118, 119, 120, 121, 122, 65, 66, 67, 68, 69, 70, 71, 72, 73, 74, 75, 76, 77, 78, 79, 80, 81, 82, 83, 84, 85, 86, 87, 88, 89, 90, 32, 36, 37]⟩, .int .i64 0, .int .i64 5] w fun e w' => e = .returned (.bool true) ∧ Below w.heap.size w w')) (h0 : mi < 1) :
    Calls Tryd.prog 8 #[.agg #[.string ⟨pre.toArray⟩, .string ⟨suf.toArray⟩, .int .i64 mi, .int .i64 nf, .int .i64 mf, .int .i64 g, .int .i64 g2]] w fun e w' => e = .returned (.int .i64 1) ∧ Below w.heap.size w w' := by
  have d0 : decide (mi < 1) = true := dec_yes (by omega)
  have W0 := Lib.hid (blw_alloc w (.cells #[.string ⟨pre.toArray⟩, .string ⟨suf.toArray⟩, .int .i64 mi, .int .i64 nf, .int .i64 mf, .int .i64 g, .int .i64 g2] 23))
  have B0 := Lib.hid (Boxed.made w #[.string ⟨pre.toArray⟩, .string ⟨suf.toArray⟩, .int .i64 mi, .int .i64 nf, .int .i64 mf, .int .i64 g, .int .i64 g2] 23)
  go_enter Tryd.func8, Tryd.ntmps8
  go_wp2_with fail
  refine (C1.out _).mono ?_
  rintro e w1 ⟨rfl, hb⟩
  have W1 := Lib.hid (blw_trans W0.out hb)
  have B1 := Lib.hid (B0.out.below hb)
  clear hb W0 B0
  have c0 := B1.out.cell 0 _ rfl
  have c1 := B1.out.cell 1 _ rfl
  have c2 := B1.out.cell 2 _ rfl
  have c3 := B1.out.cell 3 _ rfl
  have c4 := B1.out.cell 4 _ rfl
  have c5 := B1.out.cell 5 _ rfl
  have c6 := B1.out.cell 6 _ rfl
  have cl := B1.out.lt
  go_wp2_with fail
  refine (C2.out _).mono ?_
  rintro e w2 ⟨rfl, hb⟩
  have W2 := Lib.hid (blw_trans W1.out hb)
  have B2 := Lib.hid (B1.out.below hb)
  clear hb W1 B1 c0 c1 c2 c3 c4 c5 c6 cl
  have c0 := B2.out.cell 0 _ rfl
  have c1 := B2.out.cell 1 _ rfl
  have c2 := B2.out.cell 2 _ rfl
  have c3 := B2.out.cell 3 _ rfl
  have c4 := B2.out.cell 4 _ rfl
  have c5 := B2.out.cell 5 _ rfl
  have c6 := B2.out.cell 6 _ rfl
  have cl := B2.out.lt
  go_wp2_with fail
  go_ret
  exact ⟨rfl, W2.out⟩
set_option maxRecDepth 100000 in
set_option maxHeartbeats 2000000 in
theorem pfl_s1 (pre suf : List UInt8) (mi nf mf g g2 : Int) (w : World) (C1 : Hid (∀ w : World, Calls Tryd.prog 19 #[.string ⟨pre.toArray⟩, .string ⟨#[97, 98, 99, 100, 101, 102, 103, 104, 105, 106, 107, 108, 109, 110, 111, 112, 113, 114, 115, 116, 117, 118, 119, 120, 121, 122, 65, 66, 67, 68, 69, 70, 71, 72, 73, 74, 75, 76, 77, 78, 79, 80, 81, 82, 83, 84, 85, 86, 87, 88, 89, 90, 32, 36, 37]⟩, .int .i64 0, .int .i64 5] w fun e w' => e = .returned (.bool true) ∧ Below w.heap.size w w')) (C2 : Hid (∀ w : World, Calls Tryd.prog 19 #[.string ⟨suf.toArray⟩, .string ⟨#[97, 98, 99, 100, 101, 102, 103, 104, 105, 106, 107, 108, 109, 110, 111, 112, 113, 114, 115, 116, 117, 118, 119, 120, 121, 122, 65, 66, 67, 68, 69, 70, 71, 72, 73, 74, 75, 76, 77, 78, 79, 80, 81, 82, 83, 84, 85, 86, 87, 88, 89, 90, 32, 36, 37]⟩, .int .i64 0, .int .i64 5] w fun e w' => e = .returned (.bool true) ∧ Below w.heap.size w w')) (h0 : ¬ mi < 1) (h1 : 9 < mi) :
    Calls Tryd.prog 8 #[.agg #[.string ⟨pre.toArray⟩, .string ⟨suf.toArray⟩, .int .i64 mi, .int .i64 nf, .int .i64 mf, .int .i64 g, .int .i64 g2]] w fun e w' => e = .returned (.int .i64 1) ∧ Below w.heap.size w w' := by
  have d0 : decide (mi < 1) = false := dec_no (by omega)
  have d1 : decide (9 < mi) = true := dec_yes (by omega)
  have W0 := Lib.hid (blw_alloc w (.cells #[.string ⟨pre.toArray⟩, .string ⟨suf.toArray⟩, .int .i64 mi, .int .i64 nf, .int .i64 mf, .int .i64 g, .int .i64 g2] 23))
  have B0 := Lib.hid (Boxed.made w #[.string ⟨pre.toArray⟩, .string ⟨suf.toArray⟩, .int .i64 mi, .int .i64 nf, .int .i64 mf, .int .i64 g, .int .i64 g2] 23)
  go_enter Tryd.func8, Tryd.ntmps8
  go_wp2_with fail
  refine (C1.out _).mono ?_
  rintro e w1 ⟨rfl, hb⟩
  have W1 := Lib.hid (blw_trans W0.out hb)
  have B1 := Lib.hid (B0.out.below hb)
  clear hb W0 B0
  have c0 := B1.out.cell 0 _ rfl
  have c1 := B1.out.cell 1 _ rfl
  have c2 := B1.out.cell 2 _ rfl
  have c3 := B1.out.cell 3 _ rfl
  have c4 := B1.out.cell 4 _ rfl
  have c5 := B1.out.cell 5 _ rfl
  have c6 := B1.out.cell 6 _ rfl
  have cl := B1.out.lt
  go_wp2_with fail
  refine (C2.out _).mono ?_
  rintro e w2 ⟨rfl, hb⟩
  have W2 := Lib.hid (blw_trans W1.out hb)
  have B2 := Lib.hid (B1.out.below hb)
  clear hb W1 B1 c0 c1 c2 c3 c4 c5 c6 cl
  have c0 := B2.out.cell 0 _ rfl
  have c1 := B2.out.cell 1 _ rfl
  have c2 := B2.out.cell 2 _ rfl
  have c3 := B2.out.cell 3 _ rfl
  have c4 := B2.out.cell 4 _ rfl
  have c5 := B2.out.cell 5 _ rfl
  have c6 := B2.out.cell 6 _ rfl
  have cl := B2.out.lt
  go_wp2_with fail
  go_ret
  exact ⟨rfl, W2.out⟩
set_option maxRecDepth 100000 in
set_option maxHeartbeats 2000000 in
theorem pfl_s2 (pre suf : List UInt8) (mi nf mf g g2 : Int) (w : World) (C1 : Hid (∀ w : World, Calls Tryd.prog 19 #[.string ⟨pre.toArray⟩, .string ⟨#[97, 98, 99, 100, 101, 102, 103, 104, 105, 106, 107, 108, 109, 110, 111, 112, 113, 114, 115, 116, 117, 118, 119, 120, 121, 122, 65, 66, 67, 68, 69, 70, 71, 72, 73, 74, 75, 76, 77, 78, 79, 80, 81, 82, 83, 84, 85, 86, 87, 88, 89, 90, 32, 36, 37]⟩, .int .i64 0, .int .i64 5] w fun e w' => e = .returned (.bool true) ∧ Below w.heap.size w w')) (C2 : Hid (∀ w : World, Calls Tryd.prog 19 #[.string ⟨suf.toArray⟩, .string ⟨#[97, 98, 99, 100, 101, 102, 103, 104, 105, 106, 107, 108, 109, 110, 111, 112, 113, 114, 115, 116, 117, 118, 119, 120, 121, 122, 65, 66, 67, 68, 69, 70, 71, 72, 73, 74, 75, 76, 77, 78, 79, 80, 81, 82, 83, 84, 85, 86, 87, 88, 89, 90, 32, 36, 37]⟩, .int .i64 0, .int .i64 5] w fun e w' => e = .returned (.bool true) ∧ Below w.heap.size w w')) (h0 : ¬ mi < 1) (h1 : ¬ 9 < mi) (h2 : mf < 0) :
    Calls Tryd.prog 8 #[.agg #[.string ⟨pre.toArray⟩, .string ⟨suf.toArray⟩, .int .i64 mi, .int .i64 nf, .int .i64 mf, .int .i64 g, .int .i64 g2]] w fun e w' => e = .returned (.int .i64 1) ∧ Below w.heap.size w w' := by
  have d0 : decide (mi < 1) = false := dec_no (by omega)
  have d1 : decide (9 < mi) = false := dec_no (by omega)
  have d2 : decide (mf < 0) = true := dec_yes (by omega)
  have W0 := Lib.hid (blw_alloc w (.cells #[.string ⟨pre.toArray⟩, .string ⟨suf.toArray⟩, .int .i64 mi, .int .i64 nf, .int .i64 mf, .int .i64 g, .int .i64 g2] 23))
  have B0 := Lib.hid (Boxed.made w #[.string ⟨pre.toArray⟩, .string ⟨suf.toArray⟩, .int .i64 mi, .int .i64 nf, .int .i64 mf, .int .i64 g, .int .i64 g2] 23)
  go_enter Tryd.func8, Tryd.ntmps8
  go_wp2_with fail
  refine (C1.out _).mono ?_
  rintro e w1 ⟨rfl, hb⟩
  have W1 := Lib.hid (blw_trans W0.out hb)
  have B1 := Lib.hid (B0.out.below hb)
  clear hb W0 B0
  have c0 := B1.out.cell 0 _ rfl
  have c1 := B1.out.cell 1 _ rfl
  have c2 := B1.out.cell 2 _ rfl
  have c3 := B1.out.cell 3 _ rfl
  have c4 := B1.out.cell 4 _ rfl
  have c5 := B1.out.cell 5 _ rfl
  have c6 := B1.out.cell 6 _ rfl
  have cl := B1.out.lt
  go_wp2_with fail
  refine (C2.out _).mono ?_
  rintro e w2 ⟨rfl, hb⟩
  have W2 := Lib.hid (blw_trans W1.out hb)
  have B2 := Lib.hid (B1.out.below hb)
  clear hb W1 B1 c0 c1 c2 c3 c4 c5 c6 cl
  have c0 := B2.out.cell 0 _ rfl
  have c1 := B2.out.cell 1 _ rfl
  have c2 := B2.out.cell 2 _ rfl
  have c3 := B2.out.cell 3 _ rfl
  have c4 := B2.out.cell 4 _ rfl
  have c5 := B2.out.cell 5 _ rfl
  have c6 := B2.out.cell 6 _ rfl
  have cl := B2.out.lt
  go_wp2_with fail
  go_ret
  exact ⟨rfl, W2.out⟩
set_option maxRecDepth 100000 in
set_option maxHeartbeats 2000000 in
theorem pfl_s3 (pre suf : List UInt8) (mi nf mf g g2 : Int) (w : World) (C1 : Hid (∀ w : World, Calls Tryd.prog 19 #[.string ⟨pre.toArray⟩, .string ⟨#[97, 98, 99, 100, 101, 102, 103, 104, 105, 106, 107, 108, 109, 110, 111, 112, 113, 114, 115, 116, 117, 118, 119, 120, 121, 122, 65, 66, 67, 68, 69, 70, 71, 72, 73, 74, 75, 76, 77, 78, 79, 80, 81, 82, 83, 84, 85, 86, 87, 88, 89, 90, 32, 36, 37]⟩, .int .i64 0, .int .i64 5] w fun e w' => e = .returned (.bool true) ∧ Below w.heap.size w w')) (C2 : Hid (∀ w : World, Calls Tryd.prog 19 #[.string ⟨suf.toArray⟩, .string ⟨#[97, 98, 99, 100, 101, 102, 103, 104, 105, 106, 107, 108, 109, 110, 111, 112, 113, 114, 115, 116, 117, 118, 119, 120, 121, 122, 65, 66, 67, 68, 69, 70, 71, 72, 73, 74, 75, 76, 77, 78, 79, 80, 81, 82, 83, 84, 85, 86, 87, 88, 89, 90, 32, 36, 37]⟩, .int .i64 0, .int .i64 5] w fun e w' => e = .returned (.bool true) ∧ Below w.heap.size w w')) (h0 : ¬ mi < 1) (h1 : ¬ 9 < mi) (h2 : ¬ mf < 0) (h3 : 6 < mf) :
    Calls Tryd.prog 8 #[.agg #[.string ⟨pre.toArray⟩, .string ⟨suf.toArray⟩, .int .i64 mi, .int .i64 nf, .int .i64 mf, .int .i64 g, .int .i64 g2]] w fun e w' => e = .returned (.int .i64 1) ∧ Below w.heap.size w w' := by
  have d0 : decide (mi < 1) = false := dec_no (by omega)
  have d1 : decide (9 < mi) = false := dec_no (by omega)
  have d2 : decide (mf < 0) = false := dec_no (by omega)
  have d3 : decide (6 < mf) = true := dec_yes (by omega)
  have W0 := Lib.hid (blw_alloc w (.cells #[.string ⟨pre.toArray⟩, .string ⟨suf.toArray⟩, .int .i64 mi, .int .i64 nf, .int .i64 mf, .int .i64 g, .int .i64 g2] 23))
  have B0 := Lib.hid (Boxed.made w #[.string ⟨pre.toArray⟩, .string ⟨suf.toArray⟩, .int .i64 mi, .int .i64 nf, .int .i64 mf, .int .i64 g, .int .i64 g2] 23)
  go_enter Tryd.func8, Tryd.ntmps8
  go_wp2_with fail
  refine (C1.out _).mono ?_
  rintro e w1 ⟨rfl, hb⟩
  have W1 := Lib.hid (blw_trans W0.out hb)
  have B1 := Lib.hid (B0.out.below hb)
  clear hb W0 B0
  have c0 := B1.out.cell 0 _ rfl
  have c1 := B1.out.cell 1 _ rfl
  have c2 := B1.out.cell 2 _ rfl
  have c3 := B1.out.cell 3 _ rfl
  have c4 := B1.out.cell 4 _ rfl
  have c5 := B1.out.cell 5 _ rfl
  have c6 := B1.out.cell 6 _ rfl
  have cl := B1.out.lt
  go_wp2_with fail
  refine (C2.out _).mono ?_
  rintro e w2 ⟨rfl, hb⟩
  have W2 := Lib.hid (blw_trans W1.out hb)
  have B2 := Lib.hid (B1.out.below hb)
  clear hb W1 B1 c0 c1 c2 c3 c4 c5 c6 cl
  have c0 := B2.out.cell 0 _ rfl
  have c1 := B2.out.cell 1 _ rfl
  have c2 := B2.out.cell 2 _ rfl
  have c3 := B2.out.cell 3 _ rfl
  have c4 := B2.out.cell 4 _ rfl
  have c5 := B2.out.cell 5 _ rfl
  have c6 := B2.out.cell 6 _ rfl
  have cl := B2.out.lt
  go_wp2_with fail
  go_ret
  exact ⟨rfl, W2.out⟩
set_option maxRecDepth 100000 in
set_option maxHeartbeats 2000000 in
theorem pfl_s4 (pre suf : List UInt8) (mi nf mf g g2 : Int) (w : World) (C1 : Hid (∀ w : World, Calls Tryd.prog 19 #[.string ⟨pre.toArray⟩, .string ⟨#[97, 98, 99, 100, 101, 102, 103, 104, 105, 106, 107, 108, 109, 110, 111, 112, 113, 114, 115, 116, 117, 118, 119, 120, 121, 122, 65, 66, 67, 68, 69, 70, 71, 72, 73, 74, 75, 76, 77, 78, 79, 80, 81, 82, 83, 84, 85, 86, 87, 88, 89, 90, 32, 36, 37]⟩, .int .i64 0, .int .i64 5] w fun e w' => e = .returned (.bool true) ∧ Below w.heap.size w w')) (C2 : Hid (∀ w : World, Calls Tryd.prog 19 #[.string ⟨suf.toArray⟩, .string ⟨#[97, 98, 99, 100, 101, 102, 103, 104, 105, 106, 107, 108, 109, 110, 111, 112, 113, 114, 115, 116, 117, 118, 119, 120, 121, 122, 65, 66, 67, 68, 69, 70, 71, 72, 73, 74, 75, 76, 77, 78, 79, 80, 81, 82, 83, 84, 85, 86, 87, 88, 89, 90, 32, 36, 37]⟩, .int .i64 0, .int .i64 5] w fun e w' => e = .returned (.bool true) ∧ Below w.heap.size w w')) (h0 : ¬ mi < 1) (h1 : ¬ 9 < mi) (h2 : ¬ mf < 0) (h3 : ¬ 6 < mf) (h4 : nf < 0) :
    Calls Tryd.prog 8 #[.agg #[.string ⟨pre.toArray⟩, .string ⟨suf.toArray⟩, .int .i64 mi, .int .i64 nf, .int .i64 mf, .int .i64 g, .int .i64 g2]] w fun e w' => e = .returned (.int .i64 1) ∧ Below w.heap.size w w' := by
  have d0 : decide (mi < 1) = false := dec_no (by omega)
  have d1 : decide (9 < mi) = false := dec_no (by omega)
  have d2 : decide (mf < 0) = false := dec_no (by omega)
  have d3 : decide (6 < mf) = false := dec_no (by omega)
  have d4 : decide (nf < 0) = true := dec_yes (by omega)
  have W0 := Lib.hid (blw_alloc w (.cells #[.string ⟨pre.toArray⟩, .string ⟨suf.toArray⟩, .int .i64 mi, .int .i64 nf, .int .i64 mf, .int .i64 g, .int .i64 g2] 23))
  have B0 := Lib.hid (Boxed.made w #[.string ⟨pre.toArray⟩, .string ⟨suf.toArray⟩, .int .i64 mi, .int .i64 nf, .int .i64 mf, .int .i64 g, .int .i64 g2] 23)
  go_enter Tryd.func8, Tryd.ntmps8
  go_wp2_with fail
  refine (C1.out _).mono ?_
  rintro e w1 ⟨rfl, hb⟩
  have W1 := Lib.hid (blw_trans W0.out hb)
  have B1 := Lib.hid (B0.out.below hb)
  clear hb W0 B0
  have c0 := B1.out.cell 0 _ rfl
  have c1 := B1.out.cell 1 _ rfl
  have c2 := B1.out.cell 2 _ rfl
  have c3 := B1.out.cell 3 _ rfl
  have c4 := B1.out.cell 4 _ rfl
  have c5 := B1.out.cell 5 _ rfl
  have c6 := B1.out.cell 6 _ rfl
  have cl := B1.out.lt
  go_wp2_with fail
  refine (C2.out _).mono ?_
  rintro e w2 ⟨rfl, hb⟩
  have W2 := Lib.hid (blw_trans W1.out hb)
  have B2 := Lib.hid (B1.out.below hb)
  clear hb W1 B1 c0 c1 c2 c3 c4 c5 c6 cl
  have c0 := B2.out.cell 0 _ rfl
  have c1 := B2.out.cell 1 _ rfl
  have c2 := B2.out.cell 2 _ rfl
  have c3 := B2.out.cell 3 _ rfl
  have c4 := B2.out.cell 4 _ rfl
  have c5 := B2.out.cell 5 _ rfl
  have c6 := B2.out.cell 6 _ rfl
  have cl := B2.out.lt
  go_wp2_with fail
  go_ret
  exact ⟨rfl, W2.out⟩
set_option maxRecDepth 100000 in
set_option maxHeartbeats 2000000 in
theorem pfl_s5 (pre suf : List UInt8) (mi nf mf g g2 : Int) (w : World) (C1 : Hid (∀ w : World, Calls Tryd.prog 19 #[.string ⟨pre.toArray⟩, .string ⟨#[97, 98, 99, 100, 101, 102, 103, 104, 105, 106, 107, 108, 109, 110, 111, 112, 113, 114, 115, 116, 117, 118, 119, 120, 121, 122, 65, 66, 67, 68, 69, 70, 71, 72, 73, 74, 75, 76, 77, 78, 79, 80, 81, 82, 83, 84, 85, 86, 87, 88, 89, 90, 32, 36, 37]⟩, .int .i64 0, .int .i64 5] w fun e w' => e = .returned (.bool true) ∧ Below w.heap.size w w')) (C2 : Hid (∀ w : World, Calls Tryd.prog 19 #[.string ⟨suf.toArray⟩, .string ⟨#[97, 98, 99, 100, 101, 102, 103, 104, 105, 106, 107, 108, 109, 110, 111, 112, 113, 114, 115, 116, 117, 118, 119, 120, 121, 122, 65, 66, 67, 68, 69, 70, 71, 72, 73, 74, 75, 76, 77, 78, 79, 80, 81, 82, 83, 84, 85, 86, 87, 88, 89, 90, 32, 36, 37]⟩, .int .i64 0, .int .i64 5] w fun e w' => e = .returned (.bool true) ∧ Below w.heap.size w w')) (h0 : ¬ mi < 1) (h1 : ¬ 9 < mi) (h2 : ¬ mf < 0) (h3 : ¬ 6 < mf) (h4 : ¬ nf < 0) (h5 : mf < nf) :
    Calls Tryd.prog 8 #[.agg #[.string ⟨pre.toArray⟩, .string ⟨suf.toArray⟩, .int .i64 mi, .int .i64 nf, .int .i64 mf, .int .i64 g, .int .i64 g2]] w fun e w' => e = .returned (.int .i64 1) ∧ Below w.heap.size w w' := by
  have d0 : decide (mi < 1) = false := dec_no (by omega)
  have d1 : decide (9 < mi) = false := dec_no (by omega)
  have d2 : decide (mf < 0) = false := dec_no (by omega)
  have d3 : decide (6 < mf) = false := dec_no (by omega)
  have d4 : decide (nf < 0) = false := dec_no (by omega)
  have d5 : decide (mf < nf) = true := dec_yes (by omega)
  have W0 := Lib.hid (blw_alloc w (.cells #[.string ⟨pre.toArray⟩, .string ⟨suf.toArray⟩, .int .i64 mi, .int .i64 nf, .int .i64 mf, .int .i64 g, .int .i64 g2] 23))
  have B0 := Lib.hid (Boxed.made w #[.string ⟨pre.toArray⟩, .string ⟨suf.toArray⟩, .int .i64 mi, .int .i64 nf, .int .i64 mf, .int .i64 g, .int .i64 g2] 23)
  go_enter Tryd.func8, Tryd.ntmps8
  go_wp2_with fail
  refine (C1.out _).mono ?_
  rintro e w1 ⟨rfl, hb⟩
  have W1 := Lib.hid (blw_trans W0.out hb)
  have B1 := Lib.hid (B0.out.below hb)
  clear hb W0 B0
  have c0 := B1.out.cell 0 _ rfl
  have c1 := B1.out.cell 1 _ rfl
  have c2 := B1.out.cell 2 _ rfl
  have c3 := B1.out.cell 3 _ rfl
  have c4 := B1.out.cell 4 _ rfl
  have c5 := B1.out.cell 5 _ rfl
  have c6 := B1.out.cell 6 _ rfl
  have cl := B1.out.lt
  go_wp2_with fail
  refine (C2.out _).mono ?_
  rintro e w2 ⟨rfl, hb⟩
  have W2 := Lib.hid (blw_trans W1.out hb)
  have B2 := Lib.hid (B1.out.below hb)
  clear hb W1 B1 c0 c1 c2 c3 c4 c5 c6 cl
  have c0 := B2.out.cell 0 _ rfl
  have c1 := B2.out.cell 1 _ rfl
  have c2 := B2.out.cell 2 _ rfl
  have c3 := B2.out.cell 3 _ rfl
  have c4 := B2.out.cell 4 _ rfl
  have c5 := B2.out.cell 5 _ rfl
  have c6 := B2.out.cell 6 _ rfl
  have cl := B2.out.lt
  go_wp2_with fail
  go_ret
  exact ⟨rfl, W2.out⟩
set_option maxRecDepth 100000 in
set_option maxHeartbeats 2000000 in
theorem pfl_s6 (pre suf : List UInt8) (mi nf mf g g2 : Int) (w : World) (C1 : Hid (∀ w : World, Calls Tryd.prog 19 #[.string ⟨pre.toArray⟩, .string ⟨#[97, 98, 99, 100, 101, 102, 103, 104, 105, 106, 107, 108, 109, 110, 111, 112, 113, 114, 115, 116, 117, 118, 119, 120, 121, 122, 65, 66, 67, 68, 69, 70, 71, 72, 73, 74, 75, 76, 77, 78, 79, 80, 81, 82, 83, 84, 85, 86, 87, 88, 89, 90, 32, 36, 37]⟩, .int .i64 0, .int .i64 5] w fun e w' => e = .returned (.bool true) ∧ Below w.heap.size w w')) (C2 : Hid (∀ w : World, Calls Tryd.prog 19 #[.string ⟨suf.toArray⟩, .string ⟨#[97, 98, 99, 100, 101, 102, 103, 104, 105, 106, 107, 108, 109, 110, 111, 112, 113, 114, 115, 116, 117, 118, 119, 120, 121, 122, 65, 66, 67, 68, 69, 70, 71, 72, 73, 74, 75, 76, 77, 78, 79, 80, 81, 82, 83, 84, 85, 86, 87, 88, 89, 90, 32, 36, 37]⟩, .int .i64 0, .int .i64 5] w fun e w' => e = .returned (.bool true) ∧ Below w.heap.size w w')) (h0 : ¬ mi < 1) (h1 : ¬ 9 < mi) (h2 : ¬ mf < 0) (h3 : ¬ 6 < mf) (h4 : ¬ nf < 0) (h5 : ¬ mf < nf) (h6 : g < 0) :
    Calls Tryd.prog 8 #[.agg #[.string ⟨pre.toArray⟩, .string ⟨suf.toArray⟩, .int .i64 mi, .int .i64 nf, .int .i64 mf, .int .i64 g, .int .i64 g2]] w fun e w' => e = .returned (.int .i64 1) ∧ Below w.heap.size w w' := by
  have d0 : decide (mi < 1) = false := dec_no (by omega)
  have d1 : decide (9 < mi) = false := dec_no (by omega)
  have d2 : decide (mf < 0) = false := dec_no (by omega)
  have d3 : decide (6 < mf) = false := dec_no (by omega)
  have d4 : decide (nf < 0) = false := dec_no (by omega)
  have d5 : decide (mf < nf) = false := dec_no (by omega)
  have d6 : decide (g < 0) = true := dec_yes (by omega)
  have W0 := Lib.hid (blw_alloc w (.cells #[.string ⟨pre.toArray⟩, .string ⟨suf.toArray⟩, .int .i64 mi, .int .i64 nf, .int .i64 mf, .int .i64 g, .int .i64 g2] 23))
  have B0 := Lib.hid (Boxed.made w #[.string ⟨pre.toArray⟩, .string ⟨suf.toArray⟩, .int .i64 mi, .int .i64 nf, .int .i64 mf, .int .i64 g, .int .i64 g2] 23)
  go_enter Tryd.func8, Tryd.ntmps8
  go_wp2_with fail
  refine (C1.out _).mono ?_
  rintro e w1 ⟨rfl, hb⟩
  have W1 := Lib.hid (blw_trans W0.out hb)
  have B1 := Lib.hid (B0.out.below hb)
  clear hb W0 B0
  have c0 := B1.out.cell 0 _ rfl
  have c1 := B1.out.cell 1 _ rfl
  have c2 := B1.out.cell 2 _ rfl
  have c3 := B1.out.cell 3 _ rfl
  have c4 := B1.out.cell 4 _ rfl
  have c5 := B1.out.cell 5 _ rfl
  have c6 := B1.out.cell 6 _ rfl
  have cl := B1.out.lt
  go_wp2_with fail
  refine (C2.out _).mono ?_
  rintro e w2 ⟨rfl, hb⟩
  have W2 := Lib.hid (blw_trans W1.out hb)
  have B2 := Lib.hid (B1.out.below hb)
  clear hb W1 B1 c0 c1 c2 c3 c4 c5 c6 cl
  have c0 := B2.out.cell 0 _ rfl
  have c1 := B2.out.cell 1 _ rfl
  have c2 := B2.out.cell 2 _ rfl
  have c3 := B2.out.cell 3 _ rfl
  have c4 := B2.out.cell 4 _ rfl
  have c5 := B2.out.cell 5 _ rfl
  have c6 := B2.out.cell 6 _ rfl
  have cl := B2.out.lt
  go_wp2_with fail
  go_ret
  exact ⟨rfl, W2.out⟩
set_option maxRecDepth 100000 in
set_option maxHeartbeats 2000000 in
theorem pfl_s7 (pre suf : List UInt8) (mi nf mf g g2 : Int) (w : World) (C1 : Hid (∀ w : World, Calls Tryd.prog 19 #[.string ⟨pre.toArray⟩, .string ⟨#[97, 98, 99, 100, 101, 102, 103, 104, 105, 106, 107, 108, 109, 110, 111, 112, 113, 114, 115, 116, 117, 118, 119, 120, 121, 122, 65, 66, 67, 68, 69, 70, 71, 72, 73, 74, 75, 76, 77, 78, 79, 80, 81, 82, 83, 84, 85, 86, 87, 88, 89, 90, 32, 36, 37]⟩, .int .i64 0, .int .i64 5] w fun e w' => e = .returned (.bool true) ∧ Below w.heap.size w w')) (C2 : Hid (∀ w : World, Calls Tryd.prog 19 #[.string ⟨suf.toArray⟩, .string ⟨#[97, 98, 99, 100, 101, 102, 103, 104, 105, 106, 107, 108, 109, 110, 111, 112, 113, 114, 115, 116, 117, 118, 119, 120, 121, 122, 65, 66, 67, 68, 69, 70, 71, 72, 73, 74, 75, 76, 77, 78, 79, 80, 81, 82, 83, 84, 85, 86, 87, 88, 89, 90, 32, 36, 37]⟩, .int .i64 0, .int .i64 5] w fun e w' => e = .returned (.bool true) ∧ Below w.heap.size w w')) (h0 : ¬ mi < 1) (h1 : ¬ 9 < mi) (h2 : ¬ mf < 0) (h3 : ¬ 6 < mf) (h4 : ¬ nf < 0) (h5 : ¬ mf < nf) (h6 : ¬ g < 0) (h7 : 4 < g) :
    Calls Tryd.prog 8 #[.agg #[.string ⟨pre.toArray⟩, .string ⟨suf.toArray⟩, .int .i64 mi, .int .i64 nf, .int .i64 mf, .int .i64 g, .int .i64 g2]] w fun e w' => e = .returned (.int .i64 1) ∧ Below w.heap.size w w' := by
  have d0 : decide (mi < 1) = false := dec_no (by omega)
  have d1 : decide (9 < mi) = false := dec_no (by omega)
  have d2 : decide (mf < 0) = false := dec_no (by omega)
  have d3 : decide (6 < mf) = false := dec_no (by omega)
  have d4 : decide (nf < 0) = false := dec_no (by omega)
  have d5 : decide (mf < nf) = false := dec_no (by omega)
  have d6 : decide (g < 0) = false := dec_no (by omega)
  have d7 : decide (4 < g) = true := dec_yes (by omega)
  have W0 := Lib.hid (blw_alloc w (.cells #[.string ⟨pre.toArray⟩, .string ⟨suf.toArray⟩, .int .i64 mi, .int .i64 nf, .int .i64 mf, .int .i64 g, .int .i64 g2] 23))
  have B0 := Lib.hid (Boxed.made w #[.string ⟨pre.toArray⟩, .string ⟨suf.toArray⟩, .int .i64 mi, .int .i64 nf, .int .i64 mf, .int .i64 g, .int .i64 g2] 23)
  go_enter Tryd.func8, Tryd.ntmps8
  go_wp2_with fail
  refine (C1.out _).mono ?_
  rintro e w1 ⟨rfl, hb⟩
  have W1 := Lib.hid (blw_trans W0.out hb)
  have B1 := Lib.hid (B0.out.below hb)
  clear hb W0 B0
  have c0 := B1.out.cell 0 _ rfl
  have c1 := B1.out.cell 1 _ rfl
  have c2 := B1.out.cell 2 _ rfl
  have c3 := B1.out.cell 3 _ rfl
  have c4 := B1.out.cell 4 _ rfl
  have c5 := B1.out.cell 5 _ rfl
  have c6 := B1.out.cell 6 _ rfl
  have cl := B1.out.lt
  go_wp2_with fail
  refine (C2.out _).mono ?_
  rintro e w2 ⟨rfl, hb⟩
  have W2 := Lib.hid (blw_trans W1.out hb)
  have B2 := Lib.hid (B1.out.below hb)
  clear hb W1 B1 c0 c1 c2 c3 c4 c5 c6 cl
  have c0 := B2.out.cell 0 _ rfl
  have c1 := B2.out.cell 1 _ rfl
  have c2 := B2.out.cell 2 _ rfl
  have c3 := B2.out.cell 3 _ rfl
  have c4 := B2.out.cell 4 _ rfl
  have c5 := B2.out.cell 5 _ rfl
  have c6 := B2.out.cell 6 _ rfl
  have cl := B2.out.lt
  go_wp2_with fail
  go_ret
  exact ⟨rfl, W2.out⟩
set_option maxRecDepth 100000 in
set_option maxHeartbeats 2000000 in
theorem pfl_s8 (pre suf : List UInt8) (mi nf mf g g2 : Int) (w : World) (C1 : Hid (∀ w : World, Calls Tryd.prog 19 #[.string ⟨pre.toArray⟩, .string ⟨#[97, 98, 99, 100, 101, 102, 103, 104, 105, 106, 107, 108, 109, 110, 111, 112, 113, 114, 115, 116, 117, 118, 119, 120, 121, 122, 65, 66, 67, 68, 69, 70, 71, 72, 73, 74, 75, 76, 77, 78, 79, 80, 81, 82, 83, 84, 85, 86, 87, 88, 89, 90, 32, 36, 37]⟩, .int .i64 0, .int .i64 5] w fun e w' => e = .returned (.bool true) ∧ Below w.heap.size w w')) (C2 : Hid (∀ w : World, Calls Tryd.prog 19 #[.string ⟨suf.toArray⟩, .string ⟨#[97, 98, 99, 100, 101, 102, 103, 104, 105, 106, 107, 108, 109, 110, 111, 112, 113, 114, 115, 116, 117, 118, 119, 120, 121, 122, 65, 66, 67, 68, 69, 70, 71, 72, 73, 74, 75, 76, 77, 78, 79, 80, 81, 82, 83, 84, 85, 86, 87, 88, 89, 90, 32, 36, 37]⟩, .int .i64 0, .int .i64 5] w fun e w' => e = .returned (.bool true) ∧ Below w.heap.size w w')) (h0 : ¬ mi < 1) (h1 : ¬ 9 < mi) (h2 : ¬ mf < 0) (h3 : ¬ 6 < mf) (h4 : ¬ nf < 0) (h5 : ¬ mf < nf) (h6 : ¬ g < 0) (h7 : ¬ 4 < g) (h8 : g2 < 0) :
    Calls Tryd.prog 8 #[.agg #[.string ⟨pre.toArray⟩, .string ⟨suf.toArray⟩, .int .i64 mi, .int .i64 nf, .int .i64 mf, .int .i64 g, .int .i64 g2]] w fun e w' => e = .returned (.int .i64 1) ∧ Below w.heap.size w w' := by
  have d0 : decide (mi < 1) = false := dec_no (by omega)
  have d1 : decide (9 < mi) = false := dec_no (by omega)
  have d2 : decide (mf < 0) = false := dec_no (by omega)
  have d3 : decide (6 < mf) = false := dec_no (by omega)
  have d4 : decide (nf < 0) = false := dec_no (by omega)
  have d5 : decide (mf < nf) = false := dec_no (by omega)
  have d6 : decide (g < 0) = false := dec_no (by omega)
  have d7 : decide (4 < g) = false := dec_no (by omega)
  have d8 : decide (g2 < 0) = true := dec_yes (by omega)
  have W0 := Lib.hid (blw_alloc w (.cells #[.string ⟨pre.toArray⟩, .string ⟨suf.toArray⟩, .int .i64 mi, .int .i64 nf, .int .i64 mf, .int .i64 g, .int .i64 g2] 23))
  have B0 := Lib.hid (Boxed.made w #[.string ⟨pre.toArray⟩, .string ⟨suf.toArray⟩, .int .i64 mi, .int .i64 nf, .int .i64 mf, .int .i64 g, .int .i64 g2] 23)
  go_enter Tryd.func8, Tryd.ntmps8
  go_wp2_with fail
  refine (C1.out _).mono ?_
  rintro e w1 ⟨rfl, hb⟩
  have W1 := Lib.hid (blw_trans W0.out hb)
  have B1 := Lib.hid (B0.out.below hb)
  clear hb W0 B0
  have c0 := B1.out.cell 0 _ rfl
  have c1 := B1.out.cell 1 _ rfl
  have c2 := B1.out.cell 2 _ rfl
  have c3 := B1.out.cell 3 _ rfl
  have c4 := B1.out.cell 4 _ rfl
  have c5 := B1.out.cell 5 _ rfl
  have c6 := B1.out.cell 6 _ rfl
  have cl := B1.out.lt
  go_wp2_with fail
  refine (C2.out _).mono ?_
  rintro e w2 ⟨rfl, hb⟩
  have W2 := Lib.hid (blw_trans W1.out hb)
  have B2 := Lib.hid (B1.out.below hb)
  clear hb W1 B1 c0 c1 c2 c3 c4 c5 c6 cl
  have c0 := B2.out.cell 0 _ rfl
  have c1 := B2.out.cell 1 _ rfl
  have c2 := B2.out.cell 2 _ rfl
  have c3 := B2.out.cell 3 _ rfl
  have c4 := B2.out.cell 4 _ rfl
  have c5 := B2.out.cell 5 _ rfl
  have c6 := B2.out.cell 6 _ rfl
  have cl := B2.out.lt
  go_wp2_with fail
  go_ret
  exact ⟨rfl, W2.out⟩
set_option maxRecDepth 100000 in
set_option maxHeartbeats 2000000 in
theorem pfl_s9 (pre suf : List UInt8) (mi nf mf g g2 : Int) (w : World) (C1 : Hid (∀ w : World, Calls Tryd.prog 19 #[.string ⟨pre.toArray⟩, .string ⟨#[97, 98, 99, 100, 101, 102, 103, 104, 105, 106, 107, 108, 109, 110, 111, 112, 113, 114, 115, 116, 117, 118, 119, 120, 121, 122, 65, 66, 67, 68, 69, 70, 71, 72, 73, 74, 75, 76, 77, 78, 79, 80, 81, 82, 83, 84, 85, 86, 87, 88, 89, 90, 32, 36, 37]⟩, .int .i64 0, .int .i64 5] w fun e w' => e = .returned (.bool true) ∧ Below w.heap.size w w')) (C2 : Hid (∀ w : World, Calls Tryd.prog 19 #[.string ⟨suf.toArray⟩, .string ⟨#[97, 98, 99, 100, 101, 102, 103, 104, 105, 106, 107, 108, 109, 110, 111, 112, 113, 114, 115, 116, 117, 118, 119, 120, 121, 122, 65, 66, 67, 68, 69, 70, 71, 72, 73, 74, 75, 76, 77, 78, 79, 80, 81, 82, 83, 84, 85, 86, 87, 88, 89, 90, 32, 36, 37]⟩, .int .i64 0, .int .i64 5] w fun e w' => e = .returned (.bool true) ∧ Below w.heap.size w w')) (h0 : ¬ mi < 1) (h1 : ¬ 9 < mi) (h2 : ¬ mf < 0) (h3 : ¬ 6 < mf) (h4 : ¬ nf < 0) (h5 : ¬ mf < nf) (h6 : ¬ g < 0) (h7 : ¬ 4 < g) (h8 : ¬ g2 < 0) (h9 : 4 < g2) :
    Calls Tryd.prog 8 #[.agg #[.string ⟨pre.toArray⟩, .string ⟨suf.toArray⟩, .int .i64 mi, .int .i64 nf, .int .i64 mf, .int .i64 g, .int .i64 g2]] w fun e w' => e = .returned (.int .i64 1) ∧ Below w.heap.size w w' := by
  have d0 : decide (mi < 1) = false := dec_no (by omega)
  have d1 : decide (9 < mi) = false := dec_no (by omega)
  have d2 : decide (mf < 0) = false := dec_no (by omega)
  have d3 : decide (6 < mf) = false := dec_no (by omega)
  have d4 : decide (nf < 0) = false := dec_no (by omega)
  have d5 : decide (mf < nf) = false := dec_no (by omega)
  have d6 : decide (g < 0) = false := dec_no (by omega)
  have d7 : decide (4 < g) = false := dec_no (by omega)
  have d8 : decide (g2 < 0) = false := dec_no (by omega)
  have d9 : decide (4 < g2) = true := dec_yes (by omega)
  have W0 := Lib.hid (blw_alloc w (.cells #[.string ⟨pre.toArray⟩, .string ⟨suf.toArray⟩, .int .i64 mi, .int .i64 nf, .int .i64 mf, .int .i64 g, .int .i64 g2] 23))
  have B0 := Lib.hid (Boxed.made w #[.string ⟨pre.toArray⟩, .string ⟨suf.toArray⟩, .int .i64 mi, .int .i64 nf, .int .i64 mf, .int .i64 g, .int .i64 g2] 23)
  go_enter Tryd.func8, Tryd.ntmps8
  go_wp2_with fail
  refine (C1.out _).mono ?_
  rintro e w1 ⟨rfl, hb⟩
  have W1 := Lib.hid (blw_trans W0.out hb)
  have B1 := Lib.hid (B0.out.below hb)
  clear hb W0 B0
  have c0 := B1.out.cell 0 _ rfl
  have c1 := B1.out.cell 1 _ rfl
  have c2 := B1.out.cell 2 _ rfl
  have c3 := B1.out.cell 3 _ rfl
  have c4 := B1.out.cell 4 _ rfl
  have c5 := B1.out.cell 5 _ rfl
  have c6 := B1.out.cell 6 _ rfl
  have cl := B1.out.lt
  go_wp2_with fail
  refine (C2.out _).mono ?_
  rintro e w2 ⟨rfl, hb⟩
  have W2 := Lib.hid (blw_trans W1.out hb)
  have B2 := Lib.hid (B1.out.below hb)
  clear hb W1 B1 c0 c1 c2 c3 c4 c5 c6 cl
  have c0 := B2.out.cell 0 _ rfl
  have c1 := B2.out.cell 1 _ rfl
  have c2 := B2.out.cell 2 _ rfl
  have c3 := B2.out.cell 3 _ rfl
  have c4 := B2.out.cell 4 _ rfl
  have c5 := B2.out.cell 5 _ rfl
  have c6 := B2.out.cell 6 _ rfl
  have cl := B2.out.lt
  go_wp2_with fail
  go_ret
  exact ⟨rfl, W2.out⟩
set_option maxRecDepth 100000 in
set_option maxHeartbeats 2000000 in
theorem pfl_g (pre suf : List UInt8) (mi nf mf g2 : Int) (w : World) (C1 : Hid (∀ w : World, Calls Tryd.prog 19 #[.string ⟨pre.toArray⟩, .string ⟨#[97, 98, 99, 100, 101, 102, 103, 104, 105, 106, 107, 108, 109, 110, 111, 112, 113, 114, 115, 116, 117, 118, 119, 120, 121, 122, 65, 66, 67, 68, 69, 70, 71, 72, 73, 74, 75, 76, 77, 78, 79, 80, 81, 82, 83, 84, 85, 86, 87, 88, 89, 90, 32, 36, 37]⟩, .int .i64 0, .int .i64 5] w fun e w' => e = .returned (.bool true) ∧ Below w.heap.size w w')) (C2 : Hid (∀ w : World, Calls Tryd.prog 19 #[.string ⟨suf.toArray⟩, .string ⟨#[97, 98, 99, 100, 101, 102, 103, 104, 105, 106, 107, 108, 109, 110, 111, 112, 113, 114, 115, 116, 117, 118, 119, 120, 121, 122, 65, 66, 67, 68, 69, 70, 71, 72, 73, 74, 75, 76, 77, 78, 79, 80, 81, 82, 83, 84, 85, 86, 87, 88, 89, 90, 32, 36, 37]⟩, .int .i64 0, .int .i64 5] w fun e w' => e = .returned (.bool true) ∧ Below w.heap.size w w')) (h0 : ¬ mi < 1) (h1 : ¬ 9 < mi) (h2 : ¬ mf < 0) (h3 : ¬ 6 < mf) (h4 : ¬ nf < 0) (h5 : ¬ mf < nf) (h6 : ¬ g2 < 0) (h7 : ¬ 4 < g2) (h8 : ¬ g2 = 0) :
    Calls Tryd.prog 8 #[.agg #[.string ⟨pre.toArray⟩, .string ⟨suf.toArray⟩, .int .i64 mi, .int .i64 nf, .int .i64 mf, .int .i64 0, .int .i64 g2]] w fun e w' => e = .returned (.int .i64 3) ∧ Below w.heap.size w w' := by
  have d0 : decide (mi < 1) = false := dec_no (by omega)
  have d1 : decide (9 < mi) = false := dec_no (by omega)
  have d2 : decide (mf < 0) = false := dec_no (by omega)
  have d3 : decide (6 < mf) = false := dec_no (by omega)
  have d4 : decide (nf < 0) = false := dec_no (by omega)
  have d5 : decide (mf < nf) = false := dec_no (by omega)
  have d6 : decide (g2 < 0) = false := dec_no (by omega)
  have d7 : decide (4 < g2) = false := dec_no (by omega)
  have q0 : (g2 == 0) = false := beq_no (by omega)
  have q1 : (g2 != 0) = true := by rw [bne, beq_no (by omega)]; rfl
  have W0 := Lib.hid (blw_alloc w (.cells #[.string ⟨pre.toArray⟩, .string ⟨suf.toArray⟩, .int .i64 mi, .int .i64 nf, .int .i64 mf, .int .i64 0, .int .i64 g2] 23))
  have B0 := Lib.hid (Boxed.made w #[.string ⟨pre.toArray⟩, .string ⟨suf.toArray⟩, .int .i64 mi, .int .i64 nf, .int .i64 mf, .int .i64 0, .int .i64 g2] 23)
  go_enter Tryd.func8, Tryd.ntmps8
  go_wp2_with fail
  refine (C1.out _).mono ?_
  rintro e w1 ⟨rfl, hb⟩
  have W1 := Lib.hid (blw_trans W0.out hb)
  have B1 := Lib.hid (B0.out.below hb)
  clear hb W0 B0
  have c0 := B1.out.cell 0 _ rfl
  have c1 := B1.out.cell 1 _ rfl
  have c2 := B1.out.cell 2 _ rfl
  have c3 := B1.out.cell 3 _ rfl
  have c4 := B1.out.cell 4 _ rfl
  have c5 := B1.out.cell 5 _ rfl
  have c6 := B1.out.cell 6 _ rfl
  have cl := B1.out.lt
  go_wp2_with fail
  refine (C2.out _).mono ?_
  rintro e w2 ⟨rfl, hb⟩
  have W2 := Lib.hid (blw_trans W1.out hb)
  have B2 := Lib.hid (B1.out.below hb)
  clear hb W1 B1 c0 c1 c2 c3 c4 c5 c6 cl
  have c0 := B2.out.cell 0 _ rfl
  have c1 := B2.out.cell 1 _ rfl
  have c2 := B2.out.cell 2 _ rfl
  have c3 := B2.out.cell 3 _ rfl
  have c4 := B2.out.cell 4 _ rfl
  have c5 := B2.out.cell 5 _ rfl
  have c6 := B2.out.cell 6 _ rfl
  have cl := B2.out.lt
  go_wp2_with fail
  go_ret
  exact ⟨rfl, W2.out⟩
set_option maxRecDepth 100000 in
set_option maxHeartbeats 2000000 in
theorem pfl_h (pre suf : List UInt8) (mi nf mf g g2 : Int) (w : World) (C1 : Hid (∀ w : World, Calls Tryd.prog 19 #[.string ⟨pre.toArray⟩, .string ⟨#[97, 98, 99, 100, 101, 102, 103, 104, 105, 106, 107, 108, 109, 110, 111, 112, 113, 114, 115, 116, 117, 118, 119, 120, 121, 122, 65, 66, 67, 68, 69, 70, 71, 72, 73, 74, 75, 76, 77, 78, 79, 80, 81, 82, 83, 84, 85, 86, 87, 88, 89, 90, 32, 36, 37]⟩, .int .i64 0, .int .i64 5] w fun e w' => e = .returned (.bool true) ∧ Below w.heap.size w w')) (C2 : Hid (∀ w : World, Calls Tryd.prog 19 #[.string ⟨suf.toArray⟩, .string ⟨#[97, 98, 99, 100, 101, 102, 103, 104, 105, 106, 107, 108, 109, 110, 111, 112, 113, 114, 115, 116, 117, 118, 119, 120, 121, 122, 65, 66, 67, 68, 69, 70, 71, 72, 73, 74, 75, 76, 77, 78, 79, 80, 81, 82, 83, 84, 85, 86, 87, 88, 89, 90, 32, 36, 37]⟩, .int .i64 0, .int .i64 5] w fun e w' => e = .returned (.bool true) ∧ Below w.heap.size w w')) (h0 : ¬ mi < 1) (h1 : ¬ 9 < mi) (h2 : ¬ mf < 0) (h3 : ¬ 6 < mf) (h4 : ¬ nf < 0) (h5 : ¬ mf < nf) (h6 : ¬ g < 0) (h7 : ¬ 4 < g) (h8 : ¬ g2 < 0) (h9 : ¬ 4 < g2) (h10 : ¬ g2 = 0) (h11 : ¬ g = 0) :
    Calls Tryd.prog 8 #[.agg #[.string ⟨pre.toArray⟩, .string ⟨suf.toArray⟩, .int .i64 mi, .int .i64 nf, .int .i64 mf, .int .i64 g, .int .i64 g2]] w fun e w' => e = .returned (.int .i64 0) ∧ Below w.heap.size w w' := by
  have d0 : decide (mi < 1) = false := dec_no (by omega)
  have d1 : decide (9 < mi) = false := dec_no (by omega)
  have d2 : decide (mf < 0) = false := dec_no (by omega)
  have d3 : decide (6 < mf) = false := dec_no (by omega)
  have d4 : decide (nf < 0) = false := dec_no (by omega)
  have d5 : decide (mf < nf) = false := dec_no (by omega)
  have d6 : decide (g < 0) = false := dec_no (by omega)
  have d7 : decide (4 < g) = false := dec_no (by omega)
  have d8 : decide (g2 < 0) = false := dec_no (by omega)
  have d9 : decide (4 < g2) = false := dec_no (by omega)
  have q0 : (g2 == 0) = false := beq_no (by omega)
  have q1 : (g2 != 0) = true := by rw [bne, beq_no (by omega)]; rfl
  have q2 : (g == 0) = false := beq_no (by omega)
  have W0 := Lib.hid (blw_alloc w (.cells #[.string ⟨pre.toArray⟩, .string ⟨suf.toArray⟩, .int .i64 mi, .int .i64 nf, .int .i64 mf, .int .i64 g, .int .i64 g2] 23))
  have B0 := Lib.hid (Boxed.made w #[.string ⟨pre.toArray⟩, .string ⟨suf.toArray⟩, .int .i64 mi, .int .i64 nf, .int .i64 mf, .int .i64 g, .int .i64 g2] 23)
  go_enter Tryd.func8, Tryd.ntmps8
  go_wp2_with fail
  refine (C1.out _).mono ?_
  rintro e w1 ⟨rfl, hb⟩
  have W1 := Lib.hid (blw_trans W0.out hb)
  have B1 := Lib.hid (B0.out.below hb)
  clear hb W0 B0
  have c0 := B1.out.cell 0 _ rfl
  have c1 := B1.out.cell 1 _ rfl
  have c2 := B1.out.cell 2 _ rfl
  have c3 := B1.out.cell 3 _ rfl
  have c4 := B1.out.cell 4 _ rfl
  have c5 := B1.out.cell 5 _ rfl
  have c6 := B1.out.cell 6 _ rfl
  have cl := B1.out.lt
  go_wp2_with fail
  refine (C2.out _).mono ?_
  rintro e w2 ⟨rfl, hb⟩
  have W2 := Lib.hid (blw_trans W1.out hb)
  have B2 := Lib.hid (B1.out.below hb)
  clear hb W1 B1 c0 c1 c2 c3 c4 c5 c6 cl
  have c0 := B2.out.cell 0 _ rfl
  have c1 := B2.out.cell 1 _ rfl
  have c2 := B2.out.cell 2 _ rfl
  have c3 := B2.out.cell 3 _ rfl
  have c4 := B2.out.cell 4 _ rfl
  have c5 := B2.out.cell 5 _ rfl
  have c6 := B2.out.cell 6 _ rfl
  have cl := B2.out.lt
  go_wp2_with fail
  go_ret
  exact ⟨rfl, W2.out⟩
set_option maxRecDepth 100000 in
set_option maxHeartbeats 2000000 in
theorem pfl_z (pre suf : List UInt8) (mi nf mf g : Int) (w : World) (C1 : Hid (∀ w : World, Calls Tryd.prog 19 #[.string ⟨pre.toArray⟩, .string ⟨#[97, 98, 99, 100, 101, 102, 103, 104, 105, 106, 107, 108, 109, 110, 111, 112, 113, 114, 115, 116, 117, 118, 119, 120, 121, 122, 65, 66, 67, 68, 69, 70, 71, 72, 73, 74, 75, 76, 77, 78, 79, 80, 81, 82, 83, 84, 85, 86, 87, 88, 89, 90, 32, 36, 37]⟩, .int .i64 0, .int .i64 5] w fun e w' => e = .returned (.bool true) ∧ Below w.heap.size w w')) (C2 : Hid (∀ w : World, Calls Tryd.prog 19 #[.string ⟨suf.toArray⟩, .string ⟨#[97, 98, 99, 100, 101, 102, 103, 104, 105, 106, 107, 108, 109, 110, 111, 112, 113, 114, 115, 116, 117, 118, 119, 120, 121, 122, 65, 66, 67, 68, 69, 70, 71, 72, 73, 74, 75, 76, 77, 78, 79, 80, 81, 82, 83, 84, 85, 86, 87, 88, 89, 90, 32, 36, 37]⟩, .int .i64 0, .int .i64 5] w fun e w' => e = .returned (.bool true) ∧ Below w.heap.size w w')) (h0 : ¬ mi < 1) (h1 : ¬ 9 < mi) (h2 : ¬ mf < 0) (h3 : ¬ 6 < mf) (h4 : ¬ nf < 0) (h5 : ¬ mf < nf) (h6 : ¬ g < 0) (h7 : ¬ 4 < g) :
    Calls Tryd.prog 8 #[.agg #[.string ⟨pre.toArray⟩, .string ⟨suf.toArray⟩, .int .i64 mi, .int .i64 nf, .int .i64 mf, .int .i64 g, .int .i64 0]] w fun e w' => e = .returned (.int .i64 0) ∧ Below w.heap.size w w' := by
  have d0 : decide (mi < 1) = false := dec_no (by omega)
  have d1 : decide (9 < mi) = false := dec_no (by omega)
  have d2 : decide (mf < 0) = false := dec_no (by omega)
  have d3 : decide (6 < mf) = false := dec_no (by omega)
  have d4 : decide (nf < 0) = false := dec_no (by omega)
  have d5 : decide (mf < nf) = false := dec_no (by omega)
  have d6 : decide (g < 0) = false := dec_no (by omega)
  have d7 : decide (4 < g) = false := dec_no (by omega)
  have W0 := Lib.hid (blw_alloc w (.cells #[.string ⟨pre.toArray⟩, .string ⟨suf.toArray⟩, .int .i64 mi, .int .i64 nf, .int .i64 mf, .int .i64 g, .int .i64 0] 23))
  have B0 := Lib.hid (Boxed.made w #[.string ⟨pre.toArray⟩, .string ⟨suf.toArray⟩, .int .i64 mi, .int .i64 nf, .int .i64 mf, .int .i64 g, .int .i64 0] 23)
  go_enter Tryd.func8, Tryd.ntmps8
  go_wp2_with fail
  refine (C1.out _).mono ?_
  rintro e w1 ⟨rfl, hb⟩
  have W1 := Lib.hid (blw_trans W0.out hb)
  have B1 := Lib.hid (B0.out.below hb)
  clear hb W0 B0
  have c0 := B1.out.cell 0 _ rfl
  have c1 := B1.out.cell 1 _ rfl
  have c2 := B1.out.cell 2 _ rfl
  have c3 := B1.out.cell 3 _ rfl
  have c4 := B1.out.cell 4 _ rfl
  have c5 := B1.out.cell 5 _ rfl
  have c6 := B1.out.cell 6 _ rfl
  have cl := B1.out.lt
  go_wp2_with fail
  refine (C2.out _).mono ?_
  rintro e w2 ⟨rfl, hb⟩
  have W2 := Lib.hid (blw_trans W1.out hb)
  have B2 := Lib.hid (B1.out.below hb)
  clear hb W1 B1 c0 c1 c2 c3 c4 c5 c6 cl
  have c0 := B2.out.cell 0 _ rfl
  have c1 := B2.out.cell 1 _ rfl
  have c2 := B2.out.cell 2 _ rfl
  have c3 := B2.out.cell 3 _ rfl
  have c4 := B2.out.cell 4 _ rfl
  have c5 := B2.out.cell 5 _ rfl
  have c6 := B2.out.cell 6 _ rfl
  have cl := B2.out.lt
  go_wp2_with fail
  go_ret
  exact ⟨rfl, W2.out⟩
theorem only_aff (s : List UInt8) : onlyB s [97, 98, 99, 100, 101, 102, 103, 104, 105, 106, 107, 108, 109, 110, 111, 112, 113, 114, 115, 116, 117, 118, 119, 120, 121, 122, 65, 66, 67, 68, 69, 70, 71, 72, 73, 74, 75, 76, 77, 78, 79, 80, 81, 82, 83, 84, 85, 86, 87, 88, 89, 90, 32, 36, 37] 0 5 = Nt.affB s := by
  unfold onlyB Nt.affB
  have : (decide ((0 : Int) ≤ (s.length : Int)) && decide ((s.length : Int) ≤ 5)) = decide (s.length ≤ 5) := by
    rw [Bool.eq_iff_iff]; simp only [Bool.and_eq_true, decide_eq_true_eq]; omega
  rw [this]; rfl
theorem drew_below {w w' : World} (h : Drew w w') : Below w.heap.size w w' := by
  obtain ⟨n, rfl⟩ := h
  exact blw_drewN (Below.refl _ _) n
theorem onlyA_any (s : List UInt8) (w : World) (hs : s.length ≤ 4000000000) :
    Calls Tryd.prog 19 #[.string ⟨s.toArray⟩, .string ⟨#[97, 98, 99, 100, 101, 102, 103, 104, 105, 106, 107, 108, 109, 110, 111, 112, 113, 114, 115, 116, 117, 118, 119, 120, 121, 122, 65, 66, 67, 68, 69, 70, 71, 72, 73, 74, 75, 76, 77, 78, 79, 80, 81, 82, 83, 84, 85, 86, 87, 88, 89, 90, 32, 36, 37]⟩, .int .i64 0, .int .i64 5] w fun e w' => e = .returned (.bool (Nt.affB s)) ∧ Below w.heap.size w w' := by
  refine (only_any s [97, 98, 99, 100, 101, 102, 103, 104, 105, 106, 107, 108, 109, 110, 111, 112, 113, 114, 115, 116, 117, 118, 119, 120, 121, 122, 65, 66, 67, 68, 69, 70, 71, 72, 73, 74, 75, 76, 77, 78, 79, 80, 81, 82, 83, 84, 85, 86, 87, 88, 89, 90, 32, 36, 37] 0 5 w hs (by decide)).mono ?_
  rintro e w' ⟨rfl, hd⟩
  exact ⟨by rw [only_aff], drew_below hd⟩
theorem pfl_any (p : Nt.Pt) (w : World) (h1 : p.pre.length ≤ 1000000000) (h2 : p.suf.length ≤ 1000000000) :
    Calls Tryd.prog 8 #[.agg #[.string ⟨p.pre.toArray⟩, .string ⟨p.suf.toArray⟩, .int .i64 p.mi, .int .i64 p.nf, .int .i64 p.mf, .int .i64 p.g, .int .i64 p.g2]] w fun e w' => e = .returned (.int .i64 (Nt.patE p)) ∧ Below w.heap.size w w' := by
  have A1 : ∀ (b : Bool), Nt.affB p.pre = b → Hid (∀ w : World, Calls Tryd.prog 19 #[.string ⟨p.pre.toArray⟩, .string ⟨#[97, 98, 99, 100, 101, 102, 103, 104, 105, 106, 107, 108, 109, 110, 111, 112, 113, 114, 115, 116, 117, 118, 119, 120, 121, 122, 65, 66, 67, 68, 69, 70, 71, 72, 73, 74, 75, 76, 77, 78, 79, 80, 81, 82, 83, 84, 85, 86, 87, 88, 89, 90, 32, 36, 37]⟩, .int .i64 0, .int .i64 5] w fun e w' => e = .returned (.bool b) ∧ Below w.heap.size w w') := fun b hb => Lib.hid fun w => hb ▸ onlyA_any p.pre w (by omega)
  have A2 : ∀ (b : Bool), Nt.affB p.suf = b → Hid (∀ w : World, Calls Tryd.prog 19 #[.string ⟨p.suf.toArray⟩, .string ⟨#[97, 98, 99, 100, 101, 102, 103, 104, 105, 106, 107, 108, 109, 110, 111, 112, 113, 114, 115, 116, 117, 118, 119, 120, 121, 122, 65, 66, 67, 68, 69, 70, 71, 72, 73, 74, 75, 76, 77, 78, 79, 80, 81, 82, 83, 84, 85, 86, 87, 88, 89, 90, 32, 36, 37]⟩, .int .i64 0, .int .i64 5] w fun e w' => e = .returned (.bool b) ∧ Below w.heap.size w w') := fun b hb => Lib.hid fun w => hb ▸ onlyA_any p.suf w (by omega)
  obtain ⟨pre, suf, mi, nf, mf, g, g2⟩ := p
  simp only at *
  by_cases ha' : Nt.affB pre = false
  · skip
    have e : Nt.patE ⟨pre, suf, mi, nf, mf, g, g2⟩ = 3 := by unfold Nt.patE; simp only [ha', Bool.false_and, Bool.false_eq_true, if_false]
    rw [e]
    exact pfl_a pre suf mi nf mf g g2 w (A1 _ ha')
  have ha : Nt.affB pre = true := by simpa using ha'
  by_cases hs' : Nt.affB suf = false
  · skip
    have e : Nt.patE ⟨pre, suf, mi, nf, mf, g, g2⟩ = 3 := by unfold Nt.patE; simp only [ha, hs', Bool.and_false, Bool.false_eq_true, if_false]
    rw [e]
    exact pfl_b pre suf mi nf mf g g2 w (A1 _ ha) (A2 _ hs')
  have hs : Nt.affB suf = true := by simpa using hs'
  have en : ∀ b, Nt.sizeB ⟨pre, suf, mi, nf, mf, g, g2⟩ = b → Nt.patE ⟨pre, suf, mi, nf, mf, g, g2⟩ = if b then (if g2 ≠ 0 ∧ g = 0 then 3 else 0) else 1 := fun b hb => by unfold Nt.patE; simp only [ha, hs, hb, Bool.and_self, if_true]
  by_cases r0 : mi < 1
  · have z : Nt.sizeB ⟨pre, suf, mi, nf, mf, g, g2⟩ = false := by rw [Bool.eq_false_iff]; intro z; have := Nt.size_ok z; simp only at this; omega
    have e : Nt.patE ⟨pre, suf, mi, nf, mf, g, g2⟩ = 1 := by rw [en _ z]; rfl
    rw [e]
    exact pfl_s0 pre suf mi nf mf g g2 w (A1 _ ha) (A2 _ hs) r0
  by_cases r1 : 9 < mi
  · have z : Nt.sizeB ⟨pre, suf, mi, nf, mf, g, g2⟩ = false := by rw [Bool.eq_false_iff]; intro z; have := Nt.size_ok z; simp only at this; omega
    have e : Nt.patE ⟨pre, suf, mi, nf, mf, g, g2⟩ = 1 := by rw [en _ z]; rfl
    rw [e]
    exact pfl_s1 pre suf mi nf mf g g2 w (A1 _ ha) (A2 _ hs) r0 r1
  by_cases r2 : mf < 0
  · have z : Nt.sizeB ⟨pre, suf, mi, nf, mf, g, g2⟩ = false := by rw [Bool.eq_false_iff]; intro z; have := Nt.size_ok z; simp only at this; omega
    have e : Nt.patE ⟨pre, suf, mi, nf, mf, g, g2⟩ = 1 := by rw [en _ z]; rfl
    rw [e]
    exact pfl_s2 pre suf mi nf mf g g2 w (A1 _ ha) (A2 _ hs) r0 r1 r2
  by_cases r3 : 6 < mf
  · have z : Nt.sizeB ⟨pre, suf, mi, nf, mf, g, g2⟩ = false := by rw [Bool.eq_false_iff]; intro z; have := Nt.size_ok z; simp only at this; omega
    have e : Nt.patE ⟨pre, suf, mi, nf, mf, g, g2⟩ = 1 := by rw [en _ z]; rfl
    rw [e]
    exact pfl_s3 pre suf mi nf mf g g2 w (A1 _ ha) (A2 _ hs) r0 r1 r2 r3
  by_cases r4 : nf < 0
  · have z : Nt.sizeB ⟨pre, suf, mi, nf, mf, g, g2⟩ = false := by rw [Bool.eq_false_iff]; intro z; have := Nt.size_ok z; simp only at this; omega
    have e : Nt.patE ⟨pre, suf, mi, nf, mf, g, g2⟩ = 1 := by rw [en _ z]; rfl
    rw [e]
    exact pfl_s4 pre suf mi nf mf g g2 w (A1 _ ha) (A2 _ hs) r0 r1 r2 r3 r4
  by_cases r5 : mf < nf
  · have z : Nt.sizeB ⟨pre, suf, mi, nf, mf, g, g2⟩ = false := by rw [Bool.eq_false_iff]; intro z; have := Nt.size_ok z; simp only at this; omega
    have e : Nt.patE ⟨pre, suf, mi, nf, mf, g, g2⟩ = 1 := by rw [en _ z]; rfl
    rw [e]
    exact pfl_s5 pre suf mi nf mf g g2 w (A1 _ ha) (A2 _ hs) r0 r1 r2 r3 r4 r5
  by_cases r6 : g < 0
  · have z : Nt.sizeB ⟨pre, suf, mi, nf, mf, g, g2⟩ = false := by rw [Bool.eq_false_iff]; intro z; have := Nt.size_ok z; simp only at this; omega
    have e : Nt.patE ⟨pre, suf, mi, nf, mf, g, g2⟩ = 1 := by rw [en _ z]; rfl
    rw [e]
    exact pfl_s6 pre suf mi nf mf g g2 w (A1 _ ha) (A2 _ hs) r0 r1 r2 r3 r4 r5 r6
  by_cases r7 : 4 < g
  · have z : Nt.sizeB ⟨pre, suf, mi, nf, mf, g, g2⟩ = false := by rw [Bool.eq_false_iff]; intro z; have := Nt.size_ok z; simp only at this; omega
    have e : Nt.patE ⟨pre, suf, mi, nf, mf, g, g2⟩ = 1 := by rw [en _ z]; rfl
    rw [e]
    exact pfl_s7 pre suf mi nf mf g g2 w (A1 _ ha) (A2 _ hs) r0 r1 r2 r3 r4 r5 r6 r7
  by_cases r8 : g2 < 0
  · have z : Nt.sizeB ⟨pre, suf, mi, nf, mf, g, g2⟩ = false := by rw [Bool.eq_false_iff]; intro z; have := Nt.size_ok z; simp only at this; omega
    have e : Nt.patE ⟨pre, suf, mi, nf, mf, g, g2⟩ = 1 := by rw [en _ z]; rfl
    rw [e]
    exact pfl_s8 pre suf mi nf mf g g2 w (A1 _ ha) (A2 _ hs) r0 r1 r2 r3 r4 r5 r6 r7 r8
  by_cases r9 : 4 < g2
  · have z : Nt.sizeB ⟨pre, suf, mi, nf, mf, g, g2⟩ = false := by rw [Bool.eq_false_iff]; intro z; have := Nt.size_ok z; simp only at this; omega
    have e : Nt.patE ⟨pre, suf, mi, nf, mf, g, g2⟩ = 1 := by rw [en _ z]; rfl
    rw [e]
    exact pfl_s9 pre suf mi nf mf g g2 w (A1 _ ha) (A2 _ hs) r0 r1 r2 r3 r4 r5 r6 r7 r8 r9
  have z : Nt.sizeB ⟨pre, suf, mi, nf, mf, g, g2⟩ = true := by unfold Nt.sizeB; simp only [Bool.and_eq_true, decide_eq_true_eq]; omega
  by_cases z2 : g2 = 0
  · have e : Nt.patE ⟨pre, suf, mi, nf, mf, g, g2⟩ = 0 := by rw [en _ z, if_pos rfl, if_neg (by omega)]
    rw [e]
    subst z2
    exact pfl_z pre suf mi nf mf g w (A1 _ ha) (A2 _ hs) r0 r1 r2 r3 r4 r5 r6 r7
  by_cases z1 : g = 0
  · have e : Nt.patE ⟨pre, suf, mi, nf, mf, g, g2⟩ = 3 := by rw [en _ z, if_pos rfl, if_pos ⟨z2, z1⟩]
    rw [e]
    subst z1
    exact pfl_g pre suf mi nf mf g2 w (A1 _ ha) (A2 _ hs) r0 r1 r2 r3 r4 r5 r8 r9 z2
  · have e : Nt.patE ⟨pre, suf, mi, nf, mf, g, g2⟩ = 0 := by rw [en _ z, if_pos rfl, if_neg (by omega)]
    rw [e]
    exact pfl_h pre suf mi nf mf g g2 w (A1 _ ha) (A2 _ hs) r0 r1 r2 r3 r4 r5 r6 r7 r8 r9 z2 z1
end Go.Proofs.YtjakpdfonnpchaaDoor
