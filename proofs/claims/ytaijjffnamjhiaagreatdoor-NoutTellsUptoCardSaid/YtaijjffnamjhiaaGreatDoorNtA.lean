/- The walk of the reference's Shown. Conditions: the pattern, the signs and the number are right; the pattern's texts are short. -/
import Derived.Test.YtaijjffnamjhiaaGreatDoorRgrp
import Derived.Test.YtaijjffnamjhiaaGreatDoorBys
import Derived.Test.YtaijjffnamjhiaaGreatDoorMax
import Derived.Test.YtaijjffnamjhiaaGreatDoorNAff
import Derived.Test.YtaijjffnamjhiaaGreatDoorOnly
import Derived.Test.YtaijjffnamjhiaaGreatDoorNoutS
import Derived.Lib.TrimByte
import Derived.Test.YtaijjffnamjhiaaGreatDoorNBx
import Derived.Test.YtaijjffnamjhiaaGreatDoorNFmt
import Derived.Test.YtaijjffnamjhiaaGreatDoorDecParse
import Derived.Test.YtaijjffnamjhiaaGreatDoorNChk
import Derived.Test.YtaijjffnamjhiaaGreatDoorNTrim
import Derived.Test.YtaijjffnamjhiaaGreatDoorRfM
namespace Go.Proofs.YtaijjffnamjhiaaGreatDoor
open Go.RowKit

/-- a text without a sign -/
def without (c : UInt8) (s : List UInt8) : List UInt8 := s.filter (· != c)
theorem without_len (c : UInt8) (s : List UInt8) : (without c s).length ≤ s.length := List.length_filter_le _ _
theorem strike_any (s : List UInt8) (c : UInt8) (w : World) (hM : MaxW w) (hs : s.length ≤ 1000000000) :
    Calls Tryz.prog 84 #[.string ⟨s.toArray⟩, .string ⟨[c].toArray⟩, .string ⟨#[]⟩] w fun e w' => e = .returned (.string ⟨(without c s).toArray⟩) ∧ Below w.heap.size w w' := by
  obtain ⟨m, hm⟩ := hM
  have r := Tryz.strings_ReplaceAll ⟨s.toArray⟩ ⟨[c].toArray⟩ ⟨#[]⟩ m w (by rw [size_mkl]; omega) hm (by show 1 ≤ 1; omega) (by rw [size_mkl]; show _ + _ * 0 ≤ _; omega)
  have e : Lib.replaceAll s [c] [] = without c s := Byt.replaceAll_one c s
  rw [← e]
  exact r
theorem not_in {s : List UInt8} {c : UInt8} (h : digB s = true) (hc : ¬ (48 ≤ (c.toNat : Int) ∧ (c.toNat : Int) ≤ 57)) : c ∉ s := fun hm => by
  unfold digB at h
  have ha := List.all_eq_true.1 (Bool.and_eq_true_iff.1 h).1 c hm
  simp at ha
  rcases ha with rfl | rfl | rfl | rfl | rfl | rfl | rfl | rfl | rfl | rfl <;> exact hc (by decide)
theorem without_gout {s : List UInt8} {g g2 : Int} {c : UInt8} (h : c ∉ s) : without c (gout s g g2 c) = s := by
  unfold gout without
  split
  · exact List.filter_eq_self.2 fun x hx => by simp; exact fun e => h (e ▸ hx)
  · exact Grp.filter_grouped h
end Go.Proofs.YtaijjffnamjhiaaGreatDoor
namespace Go.Proofs.YtaijjffnamjhiaaGreatDoor
open Go.RowKit
set_option maxRecDepth 100000 in
set_option maxHeartbeats 2000000 in
theorem pfl_a (pre suf : List UInt8) (mi nf mf g g2 : Int) (w : World) (C1 : Hid (∀ w : World, Calls Tryz.prog 92 #[.string ⟨pre.toArray⟩, .string ⟨#[97, 98, 99, 100, 101, 102, 103, 104, 105, 106, 107, 108, 109, 110, 111, 112, 113, 114, 115, 116, 117, 118, 119, 120, 121, 122, 65, 66, 67, 68, 69, 70, 71, 72, 73, 74, 75, 76, 77, 78, 79, 80, 81, 82, 83, 84, 85, 86, 87, 88, 89, 90, 32, 36, 37]⟩, .int .i64 0, .int .i64 5] w fun e w' => e = .returned (.bool false) ∧ Below w.heap.size w w')) :
    Calls Tryz.prog 37 #[.agg #[.string ⟨pre.toArray⟩, .string ⟨suf.toArray⟩, .int .i64 mi, .int .i64 nf, .int .i64 mf, .int .i64 g, .int .i64 g2]] w fun e w' => e = .returned (.int .i64 3) ∧ Below w.heap.size w w' := by
  have W0 := Lib.hid (blw_alloc w (.cells #[.string ⟨pre.toArray⟩, .string ⟨suf.toArray⟩, .int .i64 mi, .int .i64 nf, .int .i64 mf, .int .i64 g, .int .i64 g2] 69))
  have B0 := Lib.hid (Boxed.made w #[.string ⟨pre.toArray⟩, .string ⟨suf.toArray⟩, .int .i64 mi, .int .i64 nf, .int .i64 mf, .int .i64 g, .int .i64 g2] 69)
  go_enter Tryz.func37, Tryz.ntmps37
  go_wp2_with fail
  refine (C1.out _).mono ?_
  rintro e w1 ⟨rfl, hb⟩
  have W1 := Lib.hid (blw_trans W0.out hb)
  have B1 := Lib.hid (B0.out.below hb)
  clear hb W0 B0
  have c0 := B1.out.cell 0 _ rfl
  have c1 := B1.out.cell 1 _ rfl
  have c2 := B1.out.cell 2 _ rfl
  have c3 := B1.out.cell 3 _ rfl
  have c4 := B1.out.cell 4 _ rfl
  have c5 := B1.out.cell 5 _ rfl
  have c6 := B1.out.cell 6 _ rfl
  have cl := B1.out.lt
  go_wp2_with fail
  go_ret
  exact ⟨rfl, W1.out⟩
set_option maxRecDepth 100000 in
set_option maxHeartbeats 2000000 in
theorem pfl_b (pre suf : List UInt8) (mi nf mf g g2 : Int) (w : World) (C1 : Hid (∀ w : World, Calls Tryz.prog 92 #[.string ⟨pre.toArray⟩, .string ⟨#[97, 98, 99, 100, 101, 102, 103, 104, 105, 106, 107, 108, 109, 110, 111, 112, 113, 114, 115, 116, 117, 118, 119, 120, 121, 122, 65, 66, 67, 68, 69, 70, 71, 72, 73, 74, 75, 76, 77, 78, 79, 80, 81, 82, 83, 84, 85, 86, 87, 88, 89, 90, 32, 36, 37]⟩, .int .i64 0, .int .i64 5] w fun e w' => e = .returned (.bool true) ∧ Below w.heap.size w w')) (C2 : Hid (∀ w : World, Calls Tryz.prog 92 #[.string ⟨suf.toArray⟩, .string ⟨#[97, 98, 99, 100, 101, 102, 103, 104, 105, 106, 107, 108, 109, 110, 111, 112, 113, 114, 115, 116, 117, 118, 119, 120, 121, 122, 65, 66, 67, 68, 69, 70, 71, 72, 73, 74, 75, 76, 77, 78, 79, 80, 81, 82, 83, 84, 85, 86, 87, 88, 89, 90, 32, 36, 37]⟩, .int .i64 0, .int .i64 5] w fun e w' => e = .returned (.bool false) ∧ Below w.heap.size w w')) :
    Calls Tryz.prog 37 #[.agg #[.string ⟨pre.toArray⟩, .string ⟨suf.toArray⟩, .int .i64 mi, .int .i64 nf, .int .i64 mf, .int .i64 g, .int .i64 g2]] w fun e w' => e = .returned (.int .i64 3) ∧ Below w.heap.size w w' := by
  have W0 := Lib.hid (blw_alloc w (.cells #[.string ⟨pre.toArray⟩, .string ⟨suf.toArray⟩, .int .i64 mi, .int .i64 nf, .int .i64 mf, .int .i64 g, .int .i64 g2] 69))
  have B0 := Lib.hid (Boxed.made w #[.string ⟨pre.toArray⟩, .string ⟨suf.toArray⟩, .int .i64 mi, .int .i64 nf, .int .i64 mf, .int .i64 g, .int .i64 g2] 69)
  go_enter Tryz.func37, Tryz.ntmps37
  go_wp2_with fail
  refine (C1.out _).mono ?_
  rintro e w1 ⟨rfl, hb⟩
  have W1 := Lib.hid (blw_trans W0.out hb)
  have B1 := Lib.hid (B0.out.below hb)
  clear hb W0 B0
  have c0 := B1.out.cell 0 _ rfl
  have c1 := B1.out.cell 1 _ rfl
  have c2 := B1.out.cell 2 _ rfl
  have c3 := B1.out.cell 3 _ rfl
  have c4 := B1.out.cell 4 _ rfl
  have c5 := B1.out.cell 5 _ rfl
  have c6 := B1.out.cell 6 _ rfl
  have cl := B1.out.lt
  go_wp2_with fail
  refine (C2.out _).mono ?_
  rintro e w2 ⟨rfl, hb⟩
  have W2 := Lib.hid (blw_trans W1.out hb)
  have B2 := Lib.hid (B1.out.below hb)
  clear hb W1 B1 c0 c1 c2 c3 c4 c5 c6 cl
  have c0 := B2.out.cell 0 _ rfl
  have c1 := B2.out.cell 1 _ rfl
  have c2 := B2.out.cell 2 _ rfl
  have c3 := B2.out.cell 3 _ rfl
  have c4 := B2.out.cell 4 _ rfl
  have c5 := B2.out.cell 5 _ rfl
  have c6 := B2.out.cell 6 _ rfl
  have cl := B2.out.lt
  go_wp2_with fail
  go_ret
  exact ⟨rfl, W2.out⟩
set_option maxRecDepth 100000 in
set_option maxHeartbeats 2000000 in
theorem pfl_s0 (pre suf : List UInt8) (mi nf mf g g2 : Int) (w : World) (C1 : Hid (∀ w : World, Calls Tryz.prog 92 #[.string ⟨pre.toArray⟩, .string ⟨#[97, 98, 99, 100, 101, 102, 103, 104, 105, 106, 107, 108, 109, 110, 111, 112, 113, 114, 115, 116, 117, 118, 119, 120, 121, 122, 65, 66, 67, 68, 69, 70, 71, 72, 73, 74, 75, 76, 77, 78, 79, 80, 81, 82, 83, 84, 85, 86, 87, 88, 89, 90, 32, 36, 37]⟩, .int .i64 0, .int .i64 5] w fun e w' => e = .returned (.bool true) ∧ Below w.heap.size w w')) (C2 : Hid (∀ w : World, Calls Tryz.prog 92 #[.string ⟨suf.toArray⟩, .string ⟨#[97, 98, 99, 100, 101, 102, 103, 104, 105, 106, 107, 108, 109, 110, 111, 112, 113, 114, 115, 116, 117, 118, 119, 120, 121, 122, 65, 66, 67, 68, 69, 70, 71, 72, 73, 74, 75, 76, 77, 78, 79, 80, 81, 82, 83, 84, 85, 86, 87, 88, 89, 90, 32, 36, 37]⟩, .int .i64 0, .int .i64 5] w fun e w' => e = .returned (.bool true) ∧ Below w.heap.size w w')) (h0 : mi < 1) :
    Calls Tryz.prog 37 #[.agg #[.string ⟨pre.toArray⟩, .string ⟨suf.toArray⟩, .int .i64 mi, .int .i64 nf, .int .i64 mf, .int .i64 g, .int .i64 g2]] w fun e w' => e = .returned (.int .i64 1) ∧ Below w.heap.size w w' := by
  have d0 : decide (mi < 1) = true := dec_yes (by omega)
  have W0 := Lib.hid (blw_alloc w (.cells #[.string ⟨pre.toArray⟩, .string ⟨suf.toArray⟩, .int .i64 mi, .int .i64 nf, .int .i64 mf, .int .i64 g, .int .i64 g2] 69))
  have B0 := Lib.hid (Boxed.made w #[.string ⟨pre.toArray⟩, .string ⟨suf.toArray⟩, .int .i64 mi, .int .i64 nf, .int .i64 mf, .int .i64 g, .int .i64 g2] 69)
  go_enter Tryz.func37, Tryz.ntmps37
  go_wp2_with fail
  refine (C1.out _).mono ?_
  rintro e w1 ⟨rfl, hb⟩
  have W1 := Lib.hid (blw_trans W0.out hb)
  have B1 := Lib.hid (B0.out.below hb)
  clear hb W0 B0
  have c0 := B1.out.cell 0 _ rfl
  have c1 := B1.out.cell 1 _ rfl
  have c2 := B1.out.cell 2 _ rfl
  have c3 := B1.out.cell 3 _ rfl
  have c4 := B1.out.cell 4 _ rfl
  have c5 := B1.out.cell 5 _ rfl
  have c6 := B1.out.cell 6 _ rfl
  have cl := B1.out.lt
  go_wp2_with fail
  refine (C2.out _).mono ?_
  rintro e w2 ⟨rfl, hb⟩
  have W2 := Lib.hid (blw_trans W1.out hb)
  have B2 := Lib.hid (B1.out.below hb)
  clear hb W1 B1 c0 c1 c2 c3 c4 c5 c6 cl
  have c0 := B2.out.cell 0 _ rfl
  have c1 := B2.out.cell 1 _ rfl
  have c2 := B2.out.cell 2 _ rfl
  have c3 := B2.out.cell 3 _ rfl
  have c4 := B2.out.cell 4 _ rfl
  have c5 := B2.out.cell 5 _ rfl
  have c6 := B2.out.cell 6 _ rfl
  have cl := B2.out.lt
  go_wp2_with fail
  go_ret
  exact ⟨rfl, W2.out⟩
set_option maxRecDepth 100000 in
set_option maxHeartbeats 2000000 in
theorem pfl_s1 (pre suf : List UInt8) (mi nf mf g g2 : Int) (w : World) (C1 : Hid (∀ w : World, Calls Tryz.prog 92 #[.string ⟨pre.toArray⟩, .string ⟨#[97, 98, 99, 100, 101, 102, 103, 104, 105, 106, 107, 108, 109, 110, 111, 112, 113, 114, 115, 116, 117, 118, 119, 120, 121, 122, 65, 66, 67, 68, 69, 70, 71, 72, 73, 74, 75, 76, 77, 78, 79, 80, 81, 82, 83, 84, 85, 86, 87, 88, 89, 90, 32, 36, 37]⟩, .int .i64 0, .int .i64 5] w fun e w' => e = .returned (.bool true) ∧ Below w.heap.size w w')) (C2 : Hid (∀ w : World, Calls Tryz.prog 92 #[.string ⟨suf.toArray⟩, .string ⟨#[97, 98, 99, 100, 101, 102, 103, 104, 105, 106, 107, 108, 109, 110, 111, 112, 113, 114, 115, 116, 117, 118, 119, 120, 121, 122, 65, 66, 67, 68, 69, 70, 71, 72, 73, 74, 75, 76, 77, 78, 79, 80, 81, 82, 83, 84, 85, 86, 87, 88, 89, 90, 32, 36, 37]⟩, .int .i64 0, .int .i64 5] w fun e w' => e = .returned (.bool true) ∧ Below w.heap.size w w')) (h0 : ¬ mi < 1) (h1 : 9 < mi) :
    Calls Tryz.prog 37 #[.agg #[.string ⟨pre.toArray⟩, .string ⟨suf.toArray⟩, .int .i64 mi, .int .i64 nf, .int .i64 mf, .int .i64 g, .int .i64 g2]] w fun e w' => e = .returned (.int .i64 1) ∧ Below w.heap.size w w' := by
  have d0 : decide (mi < 1) = false := dec_no (by omega)
  have d1 : decide (9 < mi) = true := dec_yes (by omega)
  have W0 := Lib.hid (blw_alloc w (.cells #[.string ⟨pre.toArray⟩, .string ⟨suf.toArray⟩, .int .i64 mi, .int .i64 nf, .int .i64 mf, .int .i64 g, .int .i64 g2] 69))
  have B0 := Lib.hid (Boxed.made w #[.string ⟨pre.toArray⟩, .string ⟨suf.toArray⟩, .int .i64 mi, .int .i64 nf, .int .i64 mf, .int .i64 g, .int .i64 g2] 69)
  go_enter Tryz.func37, Tryz.ntmps37
  go_wp2_with fail
  refine (C1.out _).mono ?_
  rintro e w1 ⟨rfl, hb⟩
  have W1 := Lib.hid (blw_trans W0.out hb)
  have B1 := Lib.hid (B0.out.below hb)
  clear hb W0 B0
  have c0 := B1.out.cell 0 _ rfl
  have c1 := B1.out.cell 1 _ rfl
  have c2 := B1.out.cell 2 _ rfl
  have c3 := B1.out.cell 3 _ rfl
  have c4 := B1.out.cell 4 _ rfl
  have c5 := B1.out.cell 5 _ rfl
  have c6 := B1.out.cell 6 _ rfl
  have cl := B1.out.lt
  go_wp2_with fail
  refine (C2.out _).mono ?_
  rintro e w2 ⟨rfl, hb⟩
  have W2 := Lib.hid (blw_trans W1.out hb)
  have B2 := Lib.hid (B1.out.below hb)
  clear hb W1 B1 c0 c1 c2 c3 c4 c5 c6 cl
  have c0 := B2.out.cell 0 _ rfl
  have c1 := B2.out.cell 1 _ rfl
  have c2 := B2.out.cell 2 _ rfl
  have c3 := B2.out.cell 3 _ rfl
  have c4 := B2.out.cell 4 _ rfl
  have c5 := B2.out.cell 5 _ rfl
  have c6 := B2.out.cell 6 _ rfl
  have cl := B2.out.lt
  go_wp2_with fail
  go_ret
  exact ⟨rfl, W2.out⟩
set_option maxRecDepth 100000 in
set_option maxHeartbeats 2000000 in
theorem pfl_s2 (pre suf : List UInt8) (mi nf mf g g2 : Int) (w : World) (C1 : Hid (∀ w : World, Calls Tryz.prog 92 #[.string ⟨pre.toArray⟩, .string ⟨#[97, 98, 99, 100, 101, 102, 103, 104, 105, 106, 107, 108, 109, 110, 111, 112, 113, 114, 115, 116, 117, 118, 119, 120, 121, 122, 65, 66, 67, 68, 69, 70, 71, 72, 73, 74, 75, 76, 77, 78, 79, 80, 81, 82, 83, 84, 85, 86, 87, 88, 89, 90, 32, 36, 37]⟩, .int .i64 0, .int .i64 5] w fun e w' => e = .returned (.bool true) ∧ Below w.heap.size w w')) (C2 : Hid (∀ w : World, Calls Tryz.prog 92 #[.string ⟨suf.toArray⟩, .string ⟨#[97, 98, 99, 100, 101, 102, 103, 104, 105, 106, 107, 108, 109, 110, 111, 112, 113, 114, 115, 116, 117, 118, 119, 120, 121, 122, 65, 66, 67, 68, 69, 70, 71, 72, 73, 74, 75, 76, 77, 78, 79, 80, 81, 82, 83, 84, 85, 86, 87, 88, 89, 90, 32, 36, 37]⟩, .int .i64 0, .int .i64 5] w fun e w' => e = .returned (.bool true) ∧ Below w.heap.size w w')) (h0 : ¬ mi < 1) (h1 : ¬ 9 < mi) (h2 : mf < 0) :
    Calls Tryz.prog 37 #[.agg #[.string ⟨pre.toArray⟩, .string ⟨suf.toArray⟩, .int .i64 mi, .int .i64 nf, .int .i64 mf, .int .i64 g, .int .i64 g2]] w fun e w' => e = .returned (.int .i64 1) ∧ Below w.heap.size w w' := by
  have d0 : decide (mi < 1) = false := dec_no (by omega)
  have d1 : decide (9 < mi) = false := dec_no (by omega)
  have d2 : decide (mf < 0) = true := dec_yes (by omega)
  have W0 := Lib.hid (blw_alloc w (.cells #[.string ⟨pre.toArray⟩, .string ⟨suf.toArray⟩, .int .i64 mi, .int .i64 nf, .int .i64 mf, .int .i64 g, .int .i64 g2] 69))
  have B0 := Lib.hid (Boxed.made w #[.string ⟨pre.toArray⟩, .string ⟨suf.toArray⟩, .int .i64 mi, .int .i64 nf, .int .i64 mf, .int .i64 g, .int .i64 g2] 69)
  go_enter Tryz.func37, Tryz.ntmps37
  go_wp2_with fail
  refine (C1.out _).mono ?_
  rintro e w1 ⟨rfl, hb⟩
  have W1 := Lib.hid (blw_trans W0.out hb)
  have B1 := Lib.hid (B0.out.below hb)
  clear hb W0 B0
  have c0 := B1.out.cell 0 _ rfl
  have c1 := B1.out.cell 1 _ rfl
  have c2 := B1.out.cell 2 _ rfl
  have c3 := B1.out.cell 3 _ rfl
  have c4 := B1.out.cell 4 _ rfl
  have c5 := B1.out.cell 5 _ rfl
  have c6 := B1.out.cell 6 _ rfl
  have cl := B1.out.lt
  go_wp2_with fail
  refine (C2.out _).mono ?_
  rintro e w2 ⟨rfl, hb⟩
  have W2 := Lib.hid (blw_trans W1.out hb)
  have B2 := Lib.hid (B1.out.below hb)
  clear hb W1 B1 c0 c1 c2 c3 c4 c5 c6 cl
  have c0 := B2.out.cell 0 _ rfl
  have c1 := B2.out.cell 1 _ rfl
  have c2 := B2.out.cell 2 _ rfl
  have c3 := B2.out.cell 3 _ rfl
  have c4 := B2.out.cell 4 _ rfl
  have c5 := B2.out.cell 5 _ rfl
  have c6 := B2.out.cell 6 _ rfl
  have cl := B2.out.lt
  go_wp2_with fail
  go_ret
  exact ⟨rfl, W2.out⟩
set_option maxRecDepth 100000 in
set_option maxHeartbeats 2000000 in
theorem pfl_s3 (pre suf : List UInt8) (mi nf mf g g2 : Int) (w : World) (C1 : Hid (∀ w : World, Calls Tryz.prog 92 #[.string ⟨pre.toArray⟩, .string ⟨#[97, 98, 99, 100, 101, 102, 103, 104, 105, 106, 107, 108, 109, 110, 111, 112, 113, 114, 115, 116, 117, 118, 119, 120, 121, 122, 65, 66, 67, 68, 69, 70, 71, 72, 73, 74, 75, 76, 77, 78, 79, 80, 81, 82, 83, 84, 85, 86, 87, 88, 89, 90, 32, 36, 37]⟩, .int .i64 0, .int .i64 5] w fun e w' => e = .returned (.bool true) ∧ Below w.heap.size w w')) (C2 : Hid (∀ w : World, Calls Tryz.prog 92 #[.string ⟨suf.toArray⟩, .string ⟨#[97, 98, 99, 100, 101, 102, 103, 104, 105, 106, 107, 108, 109, 110, 111, 112, 113, 114, 115, 116, 117, 118, 119, 120, 121, 122, 65, 66, 67, 68, 69, 70, 71, 72, 73, 74, 75, 76, 77, 78, 79, 80, 81, 82, 83, 84, 85, 86, 87, 88, 89, 90, 32, 36, 37]⟩, .int .i64 0, .int .i64 5] w fun e w' => e = .returned (.bool true) ∧ Below w.heap.size w w')) (h0 : ¬ mi < 1) (h1 : ¬ 9 < mi) (h2 : ¬ mf < 0) (h3 : 6 < mf) :
    Calls Tryz.prog 37 #[.agg #[.string ⟨pre.toArray⟩, .string ⟨suf.toArray⟩, .int .i64 mi, .int .i64 nf, .int .i64 mf, .int .i64 g, .int .i64 g2]] w fun e w' => e = .returned (.int .i64 1) ∧ Below w.heap.size w w' := by
  have d0 : decide (mi < 1) = false := dec_no (by omega)
  have d1 : decide (9 < mi) = false := dec_no (by omega)
  have d2 : decide (mf < 0) = false := dec_no (by omega)
  have d3 : decide (6 < mf) = true := dec_yes (by omega)
  have W0 := Lib.hid (blw_alloc w (.cells #[.string ⟨pre.toArray⟩, .string ⟨suf.toArray⟩, .int .i64 mi, .int .i64 nf, .int .i64 mf, .int .i64 g, .int .i64 g2] 69))
  have B0 := Lib.hid (Boxed.made w #[.string ⟨pre.toArray⟩, .string ⟨suf.toArray⟩, .int .i64 mi, .int .i64 nf, .int .i64 mf, .int .i64 g, .int .i64 g2] 69)
  go_enter Tryz.func37, Tryz.ntmps37
  go_wp2_with fail
  refine (C1.out _).mono ?_
  rintro e w1 ⟨rfl, hb⟩
  have W1 := Lib.hid (blw_trans W0.out hb)
  have B1 := Lib.hid (B0.out.below hb)
  clear hb W0 B0
  have c0 := B1.out.cell 0 _ rfl
  have c1 := B1.out.cell 1 _ rfl
  have c2 := B1.out.cell 2 _ rfl
  have c3 := B1.out.cell 3 _ rfl
  have c4 := B1.out.cell 4 _ rfl
  have c5 := B1.out.cell 5 _ rfl
  have c6 := B1.out.cell 6 _ rfl
  have cl := B1.out.lt
  go_wp2_with fail
  refine (C2.out _).mono ?_
  rintro e w2 ⟨rfl, hb⟩
  have W2 := Lib.hid (blw_trans W1.out hb)
  have B2 := Lib.hid (B1.out.below hb)
  clear hb W1 B1 c0 c1 c2 c3 c4 c5 c6 cl
  have c0 := B2.out.cell 0 _ rfl
  have c1 := B2.out.cell 1 _ rfl
  have c2 := B2.out.cell 2 _ rfl
  have c3 := B2.out.cell 3 _ rfl
  have c4 := B2.out.cell 4 _ rfl
  have c5 := B2.out.cell 5 _ rfl
  have c6 := B2.out.cell 6 _ rfl
  have cl := B2.out.lt
  go_wp2_with fail
  go_ret
  exact ⟨rfl, W2.out⟩
set_option maxRecDepth 100000 in
set_option maxHeartbeats 2000000 in
theorem pfl_s4 (pre suf : List UInt8) (mi nf mf g g2 : Int) (w : World) (C1 : Hid (∀ w : World, Calls Tryz.prog 92 #[.string ⟨pre.toArray⟩, .string ⟨#[97, 98, 99, 100, 101, 102, 103, 104, 105, 106, 107, 108, 109, 110, 111, 112, 113, 114, 115, 116, 117, 118, 119, 120, 121, 122, 65, 66, 67, 68, 69, 70, 71, 72, 73, 74, 75, 76, 77, 78, 79, 80, 81, 82, 83, 84, 85, 86, 87, 88, 89, 90, 32, 36, 37]⟩, .int .i64 0, .int .i64 5] w fun e w' => e = .returned (.bool true) ∧ Below w.heap.size w w')) (C2 : Hid (∀ w : World, Calls Tryz.prog 92 #[.string ⟨suf.toArray⟩, .string ⟨#[97, 98, 99, 100, 101, 102, 103, 104, 105, 106, 107, 108, 109, 110, 111, 112, 113, 114, 115, 116, 117, 118, 119, 120, 121, 122, 65, 66, 67, 68, 69, 70, 71, 72, 73, 74, 75, 76, 77, 78, 79, 80, 81, 82, 83, 84, 85, 86, 87, 88, 89, 90, 32, 36, 37]⟩, .int .i64 0, .int .i64 5] w fun e w' => e = .returned (.bool true) ∧ Below w.heap.size w w')) (h0 : ¬ mi < 1) (h1 : ¬ 9 < mi) (h2 : ¬ mf < 0) (h3 : ¬ 6 < mf) (h4 : nf < 0) :
    Calls Tryz.prog 37 #[.agg #[.string ⟨pre.toArray⟩, .string ⟨suf.toArray⟩, .int .i64 mi, .int .i64 nf, .int .i64 mf, .int .i64 g, .int .i64 g2]] w fun e w' => e = .returned (.int .i64 1) ∧ Below w.heap.size w w' := by
  have d0 : decide (mi < 1) = false := dec_no (by omega)
  have d1 : decide (9 < mi) = false := dec_no (by omega)
  have d2 : decide (mf < 0) = false := dec_no (by omega)
  have d3 : decide (6 < mf) = false := dec_no (by omega)
  have d4 : decide (nf < 0) = true := dec_yes (by omega)
  have W0 := Lib.hid (blw_alloc w (.cells #[.string ⟨pre.toArray⟩, .string ⟨suf.toArray⟩, .int .i64 mi, .int .i64 nf, .int .i64 mf, .int .i64 g, .int .i64 g2] 69))
  have B0 := Lib.hid (Boxed.made w #[.string ⟨pre.toArray⟩, .string ⟨suf.toArray⟩, .int .i64 mi, .int .i64 nf, .int .i64 mf, .int .i64 g, .int .i64 g2] 69)
  go_enter Tryz.func37, Tryz.ntmps37
  go_wp2_with fail
  refine (C1.out _).mono ?_
  rintro e w1 ⟨rfl, hb⟩
  have W1 := Lib.hid (blw_trans W0.out hb)
  have B1 := Lib.hid (B0.out.below hb)
  clear hb W0 B0
  have c0 := B1.out.cell 0 _ rfl
  have c1 := B1.out.cell 1 _ rfl
  have c2 := B1.out.cell 2 _ rfl
  have c3 := B1.out.cell 3 _ rfl
  have c4 := B1.out.cell 4 _ rfl
  have c5 := B1.out.cell 5 _ rfl
  have c6 := B1.out.cell 6 _ rfl
  have cl := B1.out.lt
  go_wp2_with fail
  refine (C2.out _).mono ?_
  rintro e w2 ⟨rfl, hb⟩
  have W2 := Lib.hid (blw_trans W1.out hb)
  have B2 := Lib.hid (B1.out.below hb)
  clear hb W1 B1 c0 c1 c2 c3 c4 c5 c6 cl
  have c0 := B2.out.cell 0 _ rfl
  have c1 := B2.out.cell 1 _ rfl
  have c2 := B2.out.cell 2 _ rfl
  have c3 := B2.out.cell 3 _ rfl
  have c4 := B2.out.cell 4 _ rfl
  have c5 := B2.out.cell 5 _ rfl
  have c6 := B2.out.cell 6 _ rfl
  have cl := B2.out.lt
  go_wp2_with fail
  go_ret
  exact ⟨rfl, W2.out⟩
set_option maxRecDepth 100000 in
set_option maxHeartbeats 2000000 in
theorem pfl_s5 (pre suf : List UInt8) (mi nf mf g g2 : Int) (w : World) (C1 : Hid (∀ w : World, Calls Tryz.prog 92 #[.string ⟨pre.toArray⟩, .string ⟨#[97, 98, 99, 100, 101, 102, 103, 104, 105, 106, 107, 108, 109, 110, 111, 112, 113, 114, 115, 116, 117, 118, 119, 120, 121, 122, 65, 66, 67, 68, 69, 70, 71, 72, 73, 74, 75, 76, 77, 78, 79, 80, 81, 82, 83, 84, 85, 86, 87, 88, 89, 90, 32, 36, 37]⟩, .int .i64 0, .int .i64 5] w fun e w' => e = .returned (.bool true) ∧ Below w.heap.size w w')) (C2 : Hid (∀ w : World, Calls Tryz.prog 92 #[.string ⟨suf.toArray⟩, .string ⟨#[97, 98, 99, 100, 101, 102, 103, 104, 105, 106, 107, 108, 109, 110, 111, 112, 113, 114, 115, 116, 117, 118, 119, 120, 121, 122, 65, 66, 67, 68, 69, 70, 71, 72, 73, 74, 75, 76, 77, 78, 79, 80, 81, 82, 83, 84, 85, 86, 87, 88, 89, 90, 32, 36, 37]⟩, .int .i64 0, .int .i64 5] w fun e w' => e = .returned (.bool true) ∧ Below w.heap.size w w')) (h0 : ¬ mi < 1) (h1 : ¬ 9 < mi) (h2 : ¬ mf < 0) (h3 : ¬ 6 < mf) (h4 : ¬ nf < 0) (h5 : mf < nf) :
    Calls Tryz.prog 37 #[.agg #[.string ⟨pre.toArray⟩, .string ⟨suf.toArray⟩, .int .i64 mi, .int .i64 nf, .int .i64 mf, .int .i64 g, .int .i64 g2]] w fun e w' => e = .returned (.int .i64 1) ∧ Below w.heap.size w w' := by
  have d0 : decide (mi < 1) = false := dec_no (by omega)
  have d1 : decide (9 < mi) = false := dec_no (by omega)
  have d2 : decide (mf < 0) = false := dec_no (by omega)
  have d3 : decide (6 < mf) = false := dec_no (by omega)
  have d4 : decide (nf < 0) = false := dec_no (by omega)
  have d5 : decide (mf < nf) = true := dec_yes (by omega)
  have W0 := Lib.hid (blw_alloc w (.cells #[.string ⟨pre.toArray⟩, .string ⟨suf.toArray⟩, .int .i64 mi, .int .i64 nf, .int .i64 mf, .int .i64 g, .int .i64 g2] 69))
  have B0 := Lib.hid (Boxed.made w #[.string ⟨pre.toArray⟩, .string ⟨suf.toArray⟩, .int .i64 mi, .int .i64 nf, .int .i64 mf, .int .i64 g, .int .i64 g2] 69)
  go_enter Tryz.func37, Tryz.ntmps37
  go_wp2_with fail
  refine (C1.out _).mono ?_
  rintro e w1 ⟨rfl, hb⟩
  have W1 := Lib.hid (blw_trans W0.out hb)
  have B1 := Lib.hid (B0.out.below hb)
  clear hb W0 B0
  have c0 := B1.out.cell 0 _ rfl
  have c1 := B1.out.cell 1 _ rfl
  have c2 := B1.out.cell 2 _ rfl
  have c3 := B1.out.cell 3 _ rfl
  have c4 := B1.out.cell 4 _ rfl
  have c5 := B1.out.cell 5 _ rfl
  have c6 := B1.out.cell 6 _ rfl
  have cl := B1.out.lt
  go_wp2_with fail
  refine (C2.out _).mono ?_
  rintro e w2 ⟨rfl, hb⟩
  have W2 := Lib.hid (blw_trans W1.out hb)
  have B2 := Lib.hid (B1.out.below hb)
  clear hb W1 B1 c0 c1 c2 c3 c4 c5 c6 cl
  have c0 := B2.out.cell 0 _ rfl
  have c1 := B2.out.cell 1 _ rfl
  have c2 := B2.out.cell 2 _ rfl
  have c3 := B2.out.cell 3 _ rfl
  have c4 := B2.out.cell 4 _ rfl
  have c5 := B2.out.cell 5 _ rfl
  have c6 := B2.out.cell 6 _ rfl
  have cl := B2.out.lt
  go_wp2_with fail
  go_ret
  exact ⟨rfl, W2.out⟩
set_option maxRecDepth 100000 in
set_option maxHeartbeats 2000000 in
theorem pfl_s6 (pre suf : List UInt8) (mi nf mf g g2 : Int) (w : World) (C1 : Hid (∀ w : World, Calls Tryz.prog 92 #[.string ⟨pre.toArray⟩, .string ⟨#[97, 98, 99, 100, 101, 102, 103, 104, 105, 106, 107, 108, 109, 110, 111, 112, 113, 114, 115, 116, 117, 118, 119, 120, 121, 122, 65, 66, 67, 68, 69, 70, 71, 72, 73, 74, 75, 76, 77, 78, 79, 80, 81, 82, 83, 84, 85, 86, 87, 88, 89, 90, 32, 36, 37]⟩, .int .i64 0, .int .i64 5] w fun e w' => e = .returned (.bool true) ∧ Below w.heap.size w w')) (C2 : Hid (∀ w : World, Calls Tryz.prog 92 #[.string ⟨suf.toArray⟩, .string ⟨#[97, 98, 99, 100, 101, 102, 103, 104, 105, 106, 107, 108, 109, 110, 111, 112, 113, 114, 115, 116, 117, 118, 119, 120, 121, 122, 65, 66, 67, 68, 69, 70, 71, 72, 73, 74, 75, 76, 77, 78, 79, 80, 81, 82, 83, 84, 85, 86, 87, 88, 89, 90, 32, 36, 37]⟩, .int .i64 0, .int .i64 5] w fun e w' => e = .returned (.bool true) ∧ Below w.heap.size w w')) (h0 : ¬ mi < 1) (h1 : ¬ 9 < mi) (h2 : ¬ mf < 0) (h3 : ¬ 6 < mf) (h4 : ¬ nf < 0) (h5 : ¬ mf < nf) (h6 : g < 0) :
    Calls Tryz.prog 37 #[.agg #[.string ⟨pre.toArray⟩, .string ⟨suf.toArray⟩, .int .i64 mi, .int .i64 nf, .int .i64 mf, .int .i64 g, .int .i64 g2]] w fun e w' => e = .returned (.int .i64 1) ∧ Below w.heap.size w w' := by
  have d0 : decide (mi < 1) = false := dec_no (by omega)
  have d1 : decide (9 < mi) = false := dec_no (by omega)
  have d2 : decide (mf < 0) = false := dec_no (by omega)
  have d3 : decide (6 < mf) = false := dec_no (by omega)
  have d4 : decide (nf < 0) = false := dec_no (by omega)
  have d5 : decide (mf < nf) = false := dec_no (by omega)
  have d6 : decide (g < 0) = true := dec_yes (by omega)
  have W0 := Lib.hid (blw_alloc w (.cells #[.string ⟨pre.toArray⟩, .string ⟨suf.toArray⟩, .int .i64 mi, .int .i64 nf, .int .i64 mf, .int .i64 g, .int .i64 g2] 69))
  have B0 := Lib.hid (Boxed.made w #[.string ⟨pre.toArray⟩, .string ⟨suf.toArray⟩, .int .i64 mi, .int .i64 nf, .int .i64 mf, .int .i64 g, .int .i64 g2] 69)
  go_enter Tryz.func37, Tryz.ntmps37
  go_wp2_with fail
  refine (C1.out _).mono ?_
  rintro e w1 ⟨rfl, hb⟩
  have W1 := Lib.hid (blw_trans W0.out hb)
  have B1 := Lib.hid (B0.out.below hb)
  clear hb W0 B0
  have c0 := B1.out.cell 0 _ rfl
  have c1 := B1.out.cell 1 _ rfl
  have c2 := B1.out.cell 2 _ rfl
  have c3 := B1.out.cell 3 _ rfl
  have c4 := B1.out.cell 4 _ rfl
  have c5 := B1.out.cell 5 _ rfl
  have c6 := B1.out.cell 6 _ rfl
  have cl := B1.out.lt
  go_wp2_with fail
  refine (C2.out _).mono ?_
  rintro e w2 ⟨rfl, hb⟩
  have W2 := Lib.hid (blw_trans W1.out hb)
  have B2 := Lib.hid (B1.out.below hb)
  clear hb W1 B1 c0 c1 c2 c3 c4 c5 c6 cl
  have c0 := B2.out.cell 0 _ rfl
  have c1 := B2.out.cell 1 _ rfl
  have c2 := B2.out.cell 2 _ rfl
  have c3 := B2.out.cell 3 _ rfl
  have c4 := B2.out.cell 4 _ rfl
  have c5 := B2.out.cell 5 _ rfl
  have c6 := B2.out.cell 6 _ rfl
  have cl := B2.out.lt
  go_wp2_with fail
  go_ret
  exact ⟨rfl, W2.out⟩
set_option maxRecDepth 100000 in
set_option maxHeartbeats 2000000 in
theorem pfl_s7 (pre suf : List UInt8) (mi nf mf g g2 : Int) (w : World) (C1 : Hid (∀ w : World, Calls Tryz.prog 92 #[.string ⟨pre.toArray⟩, .string ⟨#[97, 98, 99, 100, 101, 102, 103, 104, 105, 106, 107, 108, 109, 110, 111, 112, 113, 114, 115, 116, 117, 118, 119, 120, 121, 122, 65, 66, 67, 68, 69, 70, 71, 72, 73, 74, 75, 76, 77, 78, 79, 80, 81, 82, 83, 84, 85, 86, 87, 88, 89, 90, 32, 36, 37]⟩, .int .i64 0, .int .i64 5] w fun e w' => e = .returned (.bool true) ∧ Below w.heap.size w w')) (C2 : Hid (∀ w : World, Calls Tryz.prog 92 #[.string ⟨suf.toArray⟩, .string ⟨#[97, 98, 99, 100, 101, 102, 103, 104, 105, 106, 107, 108, 109, 110, 111, 112, 113, 114, 115, 116, 117, 118, 119, 120, 121, 122, 65, 66, 67, 68, 69, 70, 71, 72, 73, 74, 75, 76, 77, 78, 79, 80, 81, 82, 83, 84, 85, 86, 87, 88, 89, 90, 32, 36, 37]⟩, .int .i64 0, .int .i64 5] w fun e w' => e = .returned (.bool true) ∧ Below w.heap.size w w')) (h0 : ¬ mi < 1) (h1 : ¬ 9 < mi) (h2 : ¬ mf < 0) (h3 : ¬ 6 < mf) (h4 : ¬ nf < 0) (h5 : ¬ mf < nf) (h6 : ¬ g < 0) (h7 : 4 < g) :
    Calls Tryz.prog 37 #[.agg #[.string ⟨pre.toArray⟩, .string ⟨suf.toArray⟩, .int .i64 mi, .int .i64 nf, .int .i64 mf, .int .i64 g, .int .i64 g2]] w fun e w' => e = .returned (.int .i64 1) ∧ Below w.heap.size w w' := by
  have d0 : decide (mi < 1) = false := dec_no (by omega)
  have d1 : decide (9 < mi) = false := dec_no (by omega)
  have d2 : decide (mf < 0) = false := dec_no (by omega)
  have d3 : decide (6 < mf) = false := dec_no (by omega)
  have d4 : decide (nf < 0) = false := dec_no (by omega)
  have d5 : decide (mf < nf) = false := dec_no (by omega)
  have d6 : decide (g < 0) = false := dec_no (by omega)
  have d7 : decide (4 < g) = true := dec_yes (by omega)
  have W0 := Lib.hid (blw_alloc w (.cells #[.string ⟨pre.toArray⟩, .string ⟨suf.toArray⟩, .int .i64 mi, .int .i64 nf, .int .i64 mf, .int .i64 g, .int .i64 g2] 69))
  have B0 := Lib.hid (Boxed.made w #[.string ⟨pre.toArray⟩, .string ⟨suf.toArray⟩, .int .i64 mi, .int .i64 nf, .int .i64 mf, .int .i64 g, .int .i64 g2] 69)
  go_enter Tryz.func37, Tryz.ntmps37
  go_wp2_with fail
  refine (C1.out _).mono ?_
  rintro e w1 ⟨rfl, hb⟩
  have W1 := Lib.hid (blw_trans W0.out hb)
  have B1 := Lib.hid (B0.out.below hb)
  clear hb W0 B0
  have c0 := B1.out.cell 0 _ rfl
  have c1 := B1.out.cell 1 _ rfl
  have c2 := B1.out.cell 2 _ rfl
  have c3 := B1.out.cell 3 _ rfl
  have c4 := B1.out.cell 4 _ rfl
  have c5 := B1.out.cell 5 _ rfl
  have c6 := B1.out.cell 6 _ rfl
  have cl := B1.out.lt
  go_wp2_with fail
  refine (C2.out _).mono ?_
  rintro e w2 ⟨rfl, hb⟩
  have W2 := Lib.hid (blw_trans W1.out hb)
  have B2 := Lib.hid (B1.out.below hb)
  clear hb W1 B1 c0 c1 c2 c3 c4 c5 c6 cl
  have c0 := B2.out.cell 0 _ rfl
  have c1 := B2.out.cell 1 _ rfl
  have c2 := B2.out.cell 2 _ rfl
  have c3 := B2.out.cell 3 _ rfl
  have c4 := B2.out.cell 4 _ rfl
  have c5 := B2.out.cell 5 _ rfl
  have c6 := B2.out.cell 6 _ rfl
  have cl := B2.out.lt
  go_wp2_with fail
  go_ret
  exact ⟨rfl, W2.out⟩
set_option maxRecDepth 100000 in
set_option maxHeartbeats 2000000 in
theorem pfl_s8 (pre suf : List UInt8) (mi nf mf g g2 : Int) (w : World) (C1 : Hid (∀ w : World, Calls Tryz.prog 92 #[.string ⟨pre.toArray⟩, .string ⟨#[97, 98, 99, 100, 101, 102, 103, 104, 105, 106, 107, 108, 109, 110, 111, 112, 113, 114, 115, 116, 117, 118, 119, 120, 121, 122, 65, 66, 67, 68, 69, 70, 71, 72, 73, 74, 75, 76, 77, 78, 79, 80, 81, 82, 83, 84, 85, 86, 87, 88, 89, 90, 32, 36, 37]⟩, .int .i64 0, .int .i64 5] w fun e w' => e = .returned (.bool true) ∧ Below w.heap.size w w')) (C2 : Hid (∀ w : World, Calls Tryz.prog 92 #[.string ⟨suf.toArray⟩, .string ⟨#[97, 98, 99, 100, 101, 102, 103, 104, 105, 106, 107, 108, 109, 110, 111, 112, 113, 114, 115, 116, 117, 118, 119, 120, 121, 122, 65, 66, 67, 68, 69, 70, 71, 72, 73, 74, 75, 76, 77, 78, 79, 80, 81, 82, 83, 84, 85, 86, 87, 88, 89, 90, 32, 36, 37]⟩, .int .i64 0, .int .i64 5] w fun e w' => e = .returned (.bool true) ∧ Below w.heap.size w w')) (h0 : ¬ mi < 1) (h1 : ¬ 9 < mi) (h2 : ¬ mf < 0) (h3 : ¬ 6 < mf) (h4 : ¬ nf < 0) (h5 : ¬ mf < nf) (h6 : ¬ g < 0) (h7 : ¬ 4 < g) (h8 : g2 < 0) :
    Calls Tryz.prog 37 #[.agg #[.string ⟨pre.toArray⟩, .string ⟨suf.toArray⟩, .int .i64 mi, .int .i64 nf, .int .i64 mf, .int .i64 g, .int .i64 g2]] w fun e w' => e = .returned (.int .i64 1) ∧ Below w.heap.size w w' := by
  have d0 : decide (mi < 1) = false := dec_no (by omega)
  have d1 : decide (9 < mi) = false := dec_no (by omega)
  have d2 : decide (mf < 0) = false := dec_no (by omega)
  have d3 : decide (6 < mf) = false := dec_no (by omega)
  have d4 : decide (nf < 0) = false := dec_no (by omega)
  have d5 : decide (mf < nf) = false := dec_no (by omega)
  have d6 : decide (g < 0) = false := dec_no (by omega)
  have d7 : decide (4 < g) = false := dec_no (by omega)
  have d8 : decide (g2 < 0) = true := dec_yes (by omega)
  have W0 := Lib.hid (blw_alloc w (.cells #[.string ⟨pre.toArray⟩, .string ⟨suf.toArray⟩, .int .i64 mi, .int .i64 nf, .int .i64 mf, .int .i64 g, .int .i64 g2] 69))
  have B0 := Lib.hid (Boxed.made w #[.string ⟨pre.toArray⟩, .string ⟨suf.toArray⟩, .int .i64 mi, .int .i64 nf, .int .i64 mf, .int .i64 g, .int .i64 g2] 69)
  go_enter Tryz.func37, Tryz.ntmps37
  go_wp2_with fail
  refine (C1.out _).mono ?_
  rintro e w1 ⟨rfl, hb⟩
  have W1 := Lib.hid (blw_trans W0.out hb)
  have B1 := Lib.hid (B0.out.below hb)
  clear hb W0 B0
  have c0 := B1.out.cell 0 _ rfl
  have c1 := B1.out.cell 1 _ rfl
  have c2 := B1.out.cell 2 _ rfl
  have c3 := B1.out.cell 3 _ rfl
  have c4 := B1.out.cell 4 _ rfl
  have c5 := B1.out.cell 5 _ rfl
  have c6 := B1.out.cell 6 _ rfl
  have cl := B1.out.lt
  go_wp2_with fail
  refine (C2.out _).mono ?_
  rintro e w2 ⟨rfl, hb⟩
  have W2 := Lib.hid (blw_trans W1.out hb)
  have B2 := Lib.hid (B1.out.below hb)
  clear hb W1 B1 c0 c1 c2 c3 c4 c5 c6 cl
  have c0 := B2.out.cell 0 _ rfl
  have c1 := B2.out.cell 1 _ rfl
  have c2 := B2.out.cell 2 _ rfl
  have c3 := B2.out.cell 3 _ rfl
  have c4 := B2.out.cell 4 _ rfl
  have c5 := B2.out.cell 5 _ rfl
  have c6 := B2.out.cell 6 _ rfl
  have cl := B2.out.lt
  go_wp2_with fail
  go_ret
  exact ⟨rfl, W2.out⟩
set_option maxRecDepth 100000 in
set_option maxHeartbeats 2000000 in
theorem pfl_s9 (pre suf : List UInt8) (mi nf mf g g2 : Int) (w : World) (C1 : Hid (∀ w : World, Calls Tryz.prog 92 #[.string ⟨pre.toArray⟩, .string ⟨#[97, 98, 99, 100, 101, 102, 103, 104, 105, 106, 107, 108, 109, 110, 111, 112, 113, 114, 115, 116, 117, 118, 119, 120, 121, 122, 65, 66, 67, 68, 69, 70, 71, 72, 73, 74, 75, 76, 77, 78, 79, 80, 81, 82, 83, 84, 85, 86, 87, 88, 89, 90, 32, 36, 37]⟩, .int .i64 0, .int .i64 5] w fun e w' => e = .returned (.bool true) ∧ Below w.heap.size w w')) (C2 : Hid (∀ w : World, Calls Tryz.prog 92 #[.string ⟨suf.toArray⟩, .string ⟨#[97, 98, 99, 100, 101, 102, 103, 104, 105, 106, 107, 108, 109, 110, 111, 112, 113, 114, 115, 116, 117, 118, 119, 120, 121, 122, 65, 66, 67, 68, 69, 70, 71, 72, 73, 74, 75, 76, 77, 78, 79, 80, 81, 82, 83, 84, 85, 86, 87, 88, 89, 90, 32, 36, 37]⟩, .int .i64 0, .int .i64 5] w fun e w' => e = .returned (.bool true) ∧ Below w.heap.size w w')) (h0 : ¬ mi < 1) (h1 : ¬ 9 < mi) (h2 : ¬ mf < 0) (h3 : ¬ 6 < mf) (h4 : ¬ nf < 0) (h5 : ¬ mf < nf) (h6 : ¬ g < 0) (h7 : ¬ 4 < g) (h8 : ¬ g2 < 0) (h9 : 4 < g2) :
    Calls Tryz.prog 37 #[.agg #[.string ⟨pre.toArray⟩, .string ⟨suf.toArray⟩, .int .i64 mi, .int .i64 nf, .int .i64 mf, .int .i64 g, .int .i64 g2]] w fun e w' => e = .returned (.int .i64 1) ∧ Below w.heap.size w w' := by
  have d0 : decide (mi < 1) = false := dec_no (by omega)
  have d1 : decide (9 < mi) = false := dec_no (by omega)
  have d2 : decide (mf < 0) = false := dec_no (by omega)
  have d3 : decide (6 < mf) = false := dec_no (by omega)
  have d4 : decide (nf < 0) = false := dec_no (by omega)
  have d5 : decide (mf < nf) = false := dec_no (by omega)
  have d6 : decide (g < 0) = false := dec_no (by omega)
  have d7 : decide (4 < g) = false := dec_no (by omega)
  have d8 : decide (g2 < 0) = false := dec_no (by omega)
  have d9 : decide (4 < g2) = true := dec_yes (by omega)
  have W0 := Lib.hid (blw_alloc w (.cells #[.string ⟨pre.toArray⟩, .string ⟨suf.toArray⟩, .int .i64 mi, .int .i64 nf, .int .i64 mf, .int .i64 g, .int .i64 g2] 69))
  have B0 := Lib.hid (Boxed.made w #[.string ⟨pre.toArray⟩, .string ⟨suf.toArray⟩, .int .i64 mi, .int .i64 nf, .int .i64 mf, .int .i64 g, .int .i64 g2] 69)
  go_enter Tryz.func37, Tryz.ntmps37
  go_wp2_with fail
  refine (C1.out _).mono ?_
  rintro e w1 ⟨rfl, hb⟩
  have W1 := Lib.hid (blw_trans W0.out hb)
  have B1 := Lib.hid (B0.out.below hb)
  clear hb W0 B0
  have c0 := B1.out.cell 0 _ rfl
  have c1 := B1.out.cell 1 _ rfl
  have c2 := B1.out.cell 2 _ rfl
  have c3 := B1.out.cell 3 _ rfl
  have c4 := B1.out.cell 4 _ rfl
  have c5 := B1.out.cell 5 _ rfl
  have c6 := B1.out.cell 6 _ rfl
  have cl := B1.out.lt
  go_wp2_with fail
  refine (C2.out _).mono ?_
  rintro e w2 ⟨rfl, hb⟩
  have W2 := Lib.hid (blw_trans W1.out hb)
  have B2 := Lib.hid (B1.out.below hb)
  clear hb W1 B1 c0 c1 c2 c3 c4 c5 c6 cl
  have c0 := B2.out.cell 0 _ rfl
  have c1 := B2.out.cell 1 _ rfl
  have c2 := B2.out.cell 2 _ rfl
  have c3 := B2.out.cell 3 _ rfl
  have c4 := B2.out.cell 4 _ rfl
  have c5 := B2.out.cell 5 _ rfl
  have c6 := B2.out.cell 6 _ rfl
  have cl := B2.out.lt
  go_wp2_with fail
  go_ret
  exact ⟨rfl, W2.out⟩
set_option maxRecDepth 100000 in
set_option maxHeartbeats 2000000 in
theorem pfl_g (pre suf : List UInt8) (mi nf mf g2 : Int) (w : World) (C1 : Hid (∀ w : World, Calls Tryz.prog 92 #[.string ⟨pre.toArray⟩, .string ⟨#[97, 98, 99, 100, 101, 102, 103, 104, 105, 106, 107, 108, 109, 110, 111, 112, 113, 114, 115, 116, 117, 118, 119, 120, 121, 122, 65, 66, 67, 68, 69, 70, 71, 72, 73, 74, 75, 76, 77, 78, 79, 80, 81, 82, 83, 84, 85, 86, 87, 88, 89, 90, 32, 36, 37]⟩, .int .i64 0, .int .i64 5] w fun e w' => e = .returned (.bool true) ∧ Below w.heap.size w w')) (C2 : Hid (∀ w : World, Calls Tryz.prog 92 #[.string ⟨suf.toArray⟩, .string ⟨#[97, 98, 99, 100, 101, 102, 103, 104, 105, 106, 107, 108, 109, 110, 111, 112, 113, 114, 115, 116, 117, 118, 119, 120, 121, 122, 65, 66, 67, 68, 69, 70, 71, 72, 73, 74, 75, 76, 77, 78, 79, 80, 81, 82, 83, 84, 85, 86, 87, 88, 89, 90, 32, 36, 37]⟩, .int .i64 0, .int .i64 5] w fun e w' => e = .returned (.bool true) ∧ Below w.heap.size w w')) (h0 : ¬ mi < 1) (h1 : ¬ 9 < mi) (h2 : ¬ mf < 0) (h3 : ¬ 6 < mf) (h4 : ¬ nf < 0) (h5 : ¬ mf < nf) (h6 : ¬ g2 < 0) (h7 : ¬ 4 < g2) (h8 : ¬ g2 = 0) :
    Calls Tryz.prog 37 #[.agg #[.string ⟨pre.toArray⟩, .string ⟨suf.toArray⟩, .int .i64 mi, .int .i64 nf, .int .i64 mf, .int .i64 0, .int .i64 g2]] w fun e w' => e = .returned (.int .i64 3) ∧ Below w.heap.size w w' := by
  have d0 : decide (mi < 1) = false := dec_no (by omega)
  have d1 : decide (9 < mi) = false := dec_no (by omega)
  have d2 : decide (mf < 0) = false := dec_no (by omega)
  have d3 : decide (6 < mf) = false := dec_no (by omega)
  have d4 : decide (nf < 0) = false := dec_no (by omega)
  have d5 : decide (mf < nf) = false := dec_no (by omega)
  have d6 : decide (g2 < 0) = false := dec_no (by omega)
  have d7 : decide (4 < g2) = false := dec_no (by omega)
  have q0 : (g2 == 0) = false := beq_no (by omega)
  have q1 : (g2 != 0) = true := by rw [bne, beq_no (by omega)]; rfl
  have W0 := Lib.hid (blw_alloc w (.cells #[.string ⟨pre.toArray⟩, .string ⟨suf.toArray⟩, .int .i64 mi, .int .i64 nf, .int .i64 mf, .int .i64 0, .int .i64 g2] 69))
  have B0 := Lib.hid (Boxed.made w #[.string ⟨pre.toArray⟩, .string ⟨suf.toArray⟩, .int .i64 mi, .int .i64 nf, .int .i64 mf, .int .i64 0, .int .i64 g2] 69)
  go_enter Tryz.func37, Tryz.ntmps37
  go_wp2_with fail
  refine (C1.out _).mono ?_
  rintro e w1 ⟨rfl, hb⟩
  have W1 := Lib.hid (blw_trans W0.out hb)
  have B1 := Lib.hid (B0.out.below hb)
  clear hb W0 B0
  have c0 := B1.out.cell 0 _ rfl
  have c1 := B1.out.cell 1 _ rfl
  have c2 := B1.out.cell 2 _ rfl
  have c3 := B1.out.cell 3 _ rfl
  have c4 := B1.out.cell 4 _ rfl
  have c5 := B1.out.cell 5 _ rfl
  have c6 := B1.out.cell 6 _ rfl
  have cl := B1.out.lt
  go_wp2_with fail
  refine (C2.out _).mono ?_
  rintro e w2 ⟨rfl, hb⟩
  have W2 := Lib.hid (blw_trans W1.out hb)
  have B2 := Lib.hid (B1.out.below hb)
  clear hb W1 B1 c0 c1 c2 c3 c4 c5 c6 cl
  have c0 := B2.out.cell 0 _ rfl
  have c1 := B2.out.cell 1 _ rfl
  have c2 := B2.out.cell 2 _ rfl
  have c3 := B2.out.cell 3 _ rfl
  have c4 := B2.out.cell 4 _ rfl
  have c5 := B2.out.cell 5 _ rfl
  have c6 := B2.out.cell 6 _ rfl
  have cl := B2.out.lt
  go_wp2_with fail
  go_ret
  exact ⟨rfl, W2.out⟩
set_option maxRecDepth 100000 in
set_option maxHeartbeats 2000000 in
theorem pfl_h (pre suf : List UInt8) (mi nf mf g g2 : Int) (w : World) (C1 : Hid (∀ w : World, Calls Tryz.prog 92 #[.string ⟨pre.toArray⟩, .string ⟨#[97, 98, 99, 100, 101, 102, 103, 104, 105, 106, 107, 108, 109, 110, 111, 112, 113, 114, 115, 116, 117, 118, 119, 120, 121, 122, 65, 66, 67, 68, 69, 70, 71, 72, 73, 74, 75, 76, 77, 78, 79, 80, 81, 82, 83, 84, 85, 86, 87, 88, 89, 90, 32, 36, 37]⟩, .int .i64 0, .int .i64 5] w fun e w' => e = .returned (.bool true) ∧ Below w.heap.size w w')) (C2 : Hid (∀ w : World, Calls Tryz.prog 92 #[.string ⟨suf.toArray⟩, .string ⟨#[97, 98, 99, 100, 101, 102, 103, 104, 105, 106, 107, 108, 109, 110, 111, 112, 113, 114, 115, 116, 117, 118, 119, 120, 121, 122, 65, 66, 67, 68, 69, 70, 71, 72, 73, 74, 75, 76, 77, 78, 79, 80, 81, 82, 83, 84, 85, 86, 87, 88, 89, 90, 32, 36, 37]⟩, .int .i64 0, .int .i64 5] w fun e w' => e = .returned (.bool true) ∧ Below w.heap.size w w')) (h0 : ¬ mi < 1) (h1 : ¬ 9 < mi) (h2 : ¬ mf < 0) (h3 : ¬ 6 < mf) (h4 : ¬ nf < 0) (h5 : ¬ mf < nf) (h6 : ¬ g < 0) (h7 : ¬ 4 < g) (h8 : ¬ g2 < 0) (h9 : ¬ 4 < g2) (h10 : ¬ g2 = 0) (h11 : ¬ g = 0) :
    Calls Tryz.prog 37 #[.agg #[.string ⟨pre.toArray⟩, .string ⟨suf.toArray⟩, .int .i64 mi, .int .i64 nf, .int .i64 mf, .int .i64 g, .int .i64 g2]] w fun e w' => e = .returned (.int .i64 0) ∧ Below w.heap.size w w' := by
  have d0 : decide (mi < 1) = false := dec_no (by omega)
  have d1 : decide (9 < mi) = false := dec_no (by omega)
  have d2 : decide (mf < 0) = false := dec_no (by omega)
  have d3 : decide (6 < mf) = false := dec_no (by omega)
  have d4 : decide (nf < 0) = false := dec_no (by omega)
  have d5 : decide (mf < nf) = false := dec_no (by omega)
  have d6 : decide (g < 0) = false := dec_no (by omega)
  have d7 : decide (4 < g) = false := dec_no (by omega)
  have d8 : decide (g2 < 0) = false := dec_no (by omega)
  have d9 : decide (4 < g2) = false := dec_no (by omega)
  have q0 : (g2 == 0) = false := beq_no (by omega)
  have q1 : (g2 != 0) = true := by rw [bne, beq_no (by omega)]; rfl
  have q2 : (g == 0) = false := beq_no (by omega)
  have W0 := Lib.hid (blw_alloc w (.cells #[.string ⟨pre.toArray⟩, .string ⟨suf.toArray⟩, .int .i64 mi, .int .i64 nf, .int .i64 mf, .int .i64 g, .int .i64 g2] 69))
  have B0 := Lib.hid (Boxed.made w #[.string ⟨pre.toArray⟩, .string ⟨suf.toArray⟩, .int .i64 mi, .int .i64 nf, .int .i64 mf, .int .i64 g, .int .i64 g2] 69)
  go_enter Tryz.func37, Tryz.ntmps37
  go_wp2_with fail
  refine (C1.out _).mono ?_
  rintro e w1 ⟨rfl, hb⟩
  have W1 := Lib.hid (blw_trans W0.out hb)
  have B1 := Lib.hid (B0.out.below hb)
  clear hb W0 B0
  have c0 := B1.out.cell 0 _ rfl
  have c1 := B1.out.cell 1 _ rfl
  have c2 := B1.out.cell 2 _ rfl
  have c3 := B1.out.cell 3 _ rfl
  have c4 := B1.out.cell 4 _ rfl
  have c5 := B1.out.cell 5 _ rfl
  have c6 := B1.out.cell 6 _ rfl
  have cl := B1.out.lt
  go_wp2_with fail
  refine (C2.out _).mono ?_
  rintro e w2 ⟨rfl, hb⟩
  have W2 := Lib.hid (blw_trans W1.out hb)
  have B2 := Lib.hid (B1.out.below hb)
  clear hb W1 B1 c0 c1 c2 c3 c4 c5 c6 cl
  have c0 := B2.out.cell 0 _ rfl
  have c1 := B2.out.cell 1 _ rfl
  have c2 := B2.out.cell 2 _ rfl
  have c3 := B2.out.cell 3 _ rfl
  have c4 := B2.out.cell 4 _ rfl
  have c5 := B2.out.cell 5 _ rfl
  have c6 := B2.out.cell 6 _ rfl
  have cl := B2.out.lt
  go_wp2_with fail
  go_ret
  exact ⟨rfl, W2.out⟩
set_option maxRecDepth 100000 in
set_option maxHeartbeats 2000000 in
theorem pfl_z (pre suf : List UInt8) (mi nf mf g : Int) (w : World) (C1 : Hid (∀ w : World, Calls Tryz.prog 92 #[.string ⟨pre.toArray⟩, .string ⟨#[97, 98, 99, 100, 101, 102, 103, 104, 105, 106, 107, 108, 109, 110, 111, 112, 113, 114, 115, 116, 117, 118, 119, 120, 121, 122, 65, 66, 67, 68, 69, 70, 71, 72, 73, 74, 75, 76, 77, 78, 79, 80, 81, 82, 83, 84, 85, 86, 87, 88, 89, 90, 32, 36, 37]⟩, .int .i64 0, .int .i64 5] w fun e w' => e = .returned (.bool true) ∧ Below w.heap.size w w')) (C2 : Hid (∀ w : World, Calls Tryz.prog 92 #[.string ⟨suf.toArray⟩, .string ⟨#[97, 98, 99, 100, 101, 102, 103, 104, 105, 106, 107, 108, 109, 110, 111, 112, 113, 114, 115, 116, 117, 118, 119, 120, 121, 122, 65, 66, 67, 68, 69, 70, 71, 72, 73, 74, 75, 76, 77, 78, 79, 80, 81, 82, 83, 84, 85, 86, 87, 88, 89, 90, 32, 36, 37]⟩, .int .i64 0, .int .i64 5] w fun e w' => e = .returned (.bool true) ∧ Below w.heap.size w w')) (h0 : ¬ mi < 1) (h1 : ¬ 9 < mi) (h2 : ¬ mf < 0) (h3 : ¬ 6 < mf) (h4 : ¬ nf < 0) (h5 : ¬ mf < nf) (h6 : ¬ g < 0) (h7 : ¬ 4 < g) :
    Calls Tryz.prog 37 #[.agg #[.string ⟨pre.toArray⟩, .string ⟨suf.toArray⟩, .int .i64 mi, .int .i64 nf, .int .i64 mf, .int .i64 g, .int .i64 0]] w fun e w' => e = .returned (.int .i64 0) ∧ Below w.heap.size w w' := by
  have d0 : decide (mi < 1) = false := dec_no (by omega)
  have d1 : decide (9 < mi) = false := dec_no (by omega)
  have d2 : decide (mf < 0) = false := dec_no (by omega)
  have d3 : decide (6 < mf) = false := dec_no (by omega)
  have d4 : decide (nf < 0) = false := dec_no (by omega)
  have d5 : decide (mf < nf) = false := dec_no (by omega)
  have d6 : decide (g < 0) = false := dec_no (by omega)
  have d7 : decide (4 < g) = false := dec_no (by omega)
  have W0 := Lib.hid (blw_alloc w (.cells #[.string ⟨pre.toArray⟩, .string ⟨suf.toArray⟩, .int .i64 mi, .int .i64 nf, .int .i64 mf, .int .i64 g, .int .i64 0] 69))
  have B0 := Lib.hid (Boxed.made w #[.string ⟨pre.toArray⟩, .string ⟨suf.toArray⟩, .int .i64 mi, .int .i64 nf, .int .i64 mf, .int .i64 g, .int .i64 0] 69)
  go_enter Tryz.func37, Tryz.ntmps37
  go_wp2_with fail
  refine (C1.out _).mono ?_
  rintro e w1 ⟨rfl, hb⟩
  have W1 := Lib.hid (blw_trans W0.out hb)
  have B1 := Lib.hid (B0.out.below hb)
  clear hb W0 B0
  have c0 := B1.out.cell 0 _ rfl
  have c1 := B1.out.cell 1 _ rfl
  have c2 := B1.out.cell 2 _ rfl
  have c3 := B1.out.cell 3 _ rfl
  have c4 := B1.out.cell 4 _ rfl
  have c5 := B1.out.cell 5 _ rfl
  have c6 := B1.out.cell 6 _ rfl
  have cl := B1.out.lt
  go_wp2_with fail
  refine (C2.out _).mono ?_
  rintro e w2 ⟨rfl, hb⟩
  have W2 := Lib.hid (blw_trans W1.out hb)
  have B2 := Lib.hid (B1.out.below hb)
  clear hb W1 B1 c0 c1 c2 c3 c4 c5 c6 cl
  have c0 := B2.out.cell 0 _ rfl
  have c1 := B2.out.cell 1 _ rfl
  have c2 := B2.out.cell 2 _ rfl
  have c3 := B2.out.cell 3 _ rfl
  have c4 := B2.out.cell 4 _ rfl
  have c5 := B2.out.cell 5 _ rfl
  have c6 := B2.out.cell 6 _ rfl
  have cl := B2.out.lt
  go_wp2_with fail
  go_ret
  exact ⟨rfl, W2.out⟩
theorem only_aff (s : List UInt8) : onlyB s [97, 98, 99, 100, 101, 102, 103, 104, 105, 106, 107, 108, 109, 110, 111, 112, 113, 114, 115, 116, 117, 118, 119, 120, 121, 122, 65, 66, 67, 68, 69, 70, 71, 72, 73, 74, 75, 76, 77, 78, 79, 80, 81, 82, 83, 84, 85, 86, 87, 88, 89, 90, 32, 36, 37] 0 5 = Nt.affB s := by
  unfold onlyB Nt.affB
  have : (decide ((0 : Int) ≤ (s.length : Int)) && decide ((s.length : Int) ≤ 5)) = decide (s.length ≤ 5) := by
    rw [Bool.eq_iff_iff]; simp only [Bool.and_eq_true, decide_eq_true_eq]; omega
  rw [this]; rfl
theorem drew_below {w w' : World} (h : Drew w w') : Below w.heap.size w w' := by
  obtain ⟨n, rfl⟩ := h
  exact blw_drewN (Below.refl _ _) n
theorem onlyA_any (s : List UInt8) (w : World) (hs : s.length ≤ 4000000000) :
    Calls Tryz.prog 92 #[.string ⟨s.toArray⟩, .string ⟨#[97, 98, 99, 100, 101, 102, 103, 104, 105, 106, 107, 108, 109, 110, 111, 112, 113, 114, 115, 116, 117, 118, 119, 120, 121, 122, 65, 66, 67, 68, 69, 70, 71, 72, 73, 74, 75, 76, 77, 78, 79, 80, 81, 82, 83, 84, 85, 86, 87, 88, 89, 90, 32, 36, 37]⟩, .int .i64 0, .int .i64 5] w fun e w' => e = .returned (.bool (Nt.affB s)) ∧ Below w.heap.size w w' := by
  refine (only_any s [97, 98, 99, 100, 101, 102, 103, 104, 105, 106, 107, 108, 109, 110, 111, 112, 113, 114, 115, 116, 117, 118, 119, 120, 121, 122, 65, 66, 67, 68, 69, 70, 71, 72, 73, 74, 75, 76, 77, 78, 79, 80, 81, 82, 83, 84, 85, 86, 87, 88, 89, 90, 32, 36, 37] 0 5 w hs (by decide)).mono ?_
  rintro e w' ⟨rfl, hd⟩
  exact ⟨by rw [only_aff], drew_below hd⟩
theorem pfl_any (p : Nt.Pt) (w : World) (h1 : p.pre.length ≤ 1000000000) (h2 : p.suf.length ≤ 1000000000) :
    Calls Tryz.prog 37 #[.agg #[.string ⟨p.pre.toArray⟩, .string ⟨p.suf.toArray⟩, .int .i64 p.mi, .int .i64 p.nf, .int .i64 p.mf, .int .i64 p.g, .int .i64 p.g2]] w fun e w' => e = .returned (.int .i64 (Nt.patE p)) ∧ Below w.heap.size w w' := by
  have A1 : ∀ (b : Bool), Nt.affB p.pre = b → Hid (∀ w : World, Calls Tryz.prog 92 #[.string ⟨p.pre.toArray⟩, .string ⟨#[97, 98, 99, 100, 101, 102, 103, 104, 105, 106, 107, 108, 109, 110, 111, 112, 113, 114, 115, 116, 117, 118, 119, 120, 121, 122, 65, 66, 67, 68, 69, 70, 71, 72, 73, 74, 75, 76, 77, 78, 79, 80, 81, 82, 83, 84, 85, 86, 87, 88, 89, 90, 32, 36, 37]⟩, .int .i64 0, .int .i64 5] w fun e w' => e = .returned (.bool b) ∧ Below w.heap.size w w') := fun b hb => Lib.hid fun w => hb ▸ onlyA_any p.pre w (by omega)
  have A2 : ∀ (b : Bool), Nt.affB p.suf = b → Hid (∀ w : World, Calls Tryz.prog 92 #[.string ⟨p.suf.toArray⟩, .string ⟨#[97, 98, 99, 100, 101, 102, 103, 104, 105, 106, 107, 108, 109, 110, 111, 112, 113, 114, 115, 116, 117, 118, 119, 120, 121, 122, 65, 66, 67, 68, 69, 70, 71, 72, 73, 74, 75, 76, 77, 78, 79, 80, 81, 82, 83, 84, 85, 86, 87, 88, 89, 90, 32, 36, 37]⟩, .int .i64 0, .int .i64 5] w fun e w' => e = .returned (.bool b) ∧ Below w.heap.size w w') := fun b hb => Lib.hid fun w => hb ▸ onlyA_any p.suf w (by omega)
  obtain ⟨pre, suf, mi, nf, mf, g, g2⟩ := p
  simp only at *
  by_cases ha' : Nt.affB pre = false
  · skip
    have e : Nt.patE ⟨pre, suf, mi, nf, mf, g, g2⟩ = 3 := by unfold Nt.patE; simp only [ha', Bool.false_and, Bool.false_eq_true, if_false]
    rw [e]
    exact pfl_a pre suf mi nf mf g g2 w (A1 _ ha')
  have ha : Nt.affB pre = true := by simpa using ha'
  by_cases hs' : Nt.affB suf = false
  · skip
    have e : Nt.patE ⟨pre, suf, mi, nf, mf, g, g2⟩ = 3 := by unfold Nt.patE; simp only [ha, hs', Bool.and_false, Bool.false_eq_true, if_false]
    rw [e]
    exact pfl_b pre suf mi nf mf g g2 w (A1 _ ha) (A2 _ hs')
  have hs : Nt.affB suf = true := by simpa using hs'
  have en : ∀ b, Nt.sizeB ⟨pre, suf, mi, nf, mf, g, g2⟩ = b → Nt.patE ⟨pre, suf, mi, nf, mf, g, g2⟩ = if b then (if g2 ≠ 0 ∧ g = 0 then 3 else 0) else 1 := fun b hb => by unfold Nt.patE; simp only [ha, hs, hb, Bool.and_self, if_true]
  by_cases r0 : mi < 1
  · have z : Nt.sizeB ⟨pre, suf, mi, nf, mf, g, g2⟩ = false := by rw [Bool.eq_false_iff]; intro z; have := Nt.size_ok z; simp only at this; omega
    have e : Nt.patE ⟨pre, suf, mi, nf, mf, g, g2⟩ = 1 := by rw [en _ z]; rfl
    rw [e]
    exact pfl_s0 pre suf mi nf mf g g2 w (A1 _ ha) (A2 _ hs) r0
  by_cases r1 : 9 < mi
  · have z : Nt.sizeB ⟨pre, suf, mi, nf, mf, g, g2⟩ = false := by rw [Bool.eq_false_iff]; intro z; have := Nt.size_ok z; simp only at this; omega
    have e : Nt.patE ⟨pre, suf, mi, nf, mf, g, g2⟩ = 1 := by rw [en _ z]; rfl
    rw [e]
    exact pfl_s1 pre suf mi nf mf g g2 w (A1 _ ha) (A2 _ hs) r0 r1
  by_cases r2 : mf < 0
  · have z : Nt.sizeB ⟨pre, suf, mi, nf, mf, g, g2⟩ = false := by rw [Bool.eq_false_iff]; intro z; have := Nt.size_ok z; simp only at this; omega
    have e : Nt.patE ⟨pre, suf, mi, nf, mf, g, g2⟩ = 1 := by rw [en _ z]; rfl
    rw [e]
    exact pfl_s2 pre suf mi nf mf g g2 w (A1 _ ha) (A2 _ hs) r0 r1 r2
  by_cases r3 : 6 < mf
  · have z : Nt.sizeB ⟨pre, suf, mi, nf, mf, g, g2⟩ = false := by rw [Bool.eq_false_iff]; intro z; have := Nt.size_ok z; simp only at this; omega
    have e : Nt.patE ⟨pre, suf, mi, nf, mf, g, g2⟩ = 1 := by rw [en _ z]; rfl
    rw [e]
    exact pfl_s3 pre suf mi nf mf g g2 w (A1 _ ha) (A2 _ hs) r0 r1 r2 r3
  by_cases r4 : nf < 0
  · have z : Nt.sizeB ⟨pre, suf, mi, nf, mf, g, g2⟩ = false := by rw [Bool.eq_false_iff]; intro z; have := Nt.size_ok z; simp only at this; omega
    have e : Nt.patE ⟨pre, suf, mi, nf, mf, g, g2⟩ = 1 := by rw [en _ z]; rfl
    rw [e]
    exact pfl_s4 pre suf mi nf mf g g2 w (A1 _ ha) (A2 _ hs) r0 r1 r2 r3 r4
  by_cases r5 : mf < nf
  · have z : Nt.sizeB ⟨pre, suf, mi, nf, mf, g, g2⟩ = false := by rw [Bool.eq_false_iff]; intro z; have := Nt.size_ok z; simp only at this; omega
    have e : Nt.patE ⟨pre, suf, mi, nf, mf, g, g2⟩ = 1 := by rw [en _ z]; rfl
    rw [e]
    exact pfl_s5 pre suf mi nf mf g g2 w (A1 _ ha) (A2 _ hs) r0 r1 r2 r3 r4 r5
  by_cases r6 : g < 0
  · have z : Nt.sizeB ⟨pre, suf, mi, nf, mf, g, g2⟩ = false := by rw [Bool.eq_false_iff]; intro z; have := Nt.size_ok z; simp only at this; omega
    have e : Nt.patE ⟨pre, suf, mi, nf, mf, g, g2⟩ = 1 := by rw [en _ z]; rfl
    rw [e]
    exact pfl_s6 pre suf mi nf mf g g2 w (A1 _ ha) (A2 _ hs) r0 r1 r2 r3 r4 r5 r6
  by_cases r7 : 4 < g
  · have z : Nt.sizeB ⟨pre, suf, mi, nf, mf, g, g2⟩ = false := by rw [Bool.eq_false_iff]; intro z; have := Nt.size_ok z; simp only at this; omega
    have e : Nt.patE ⟨pre, suf, mi, nf, mf, g, g2⟩ = 1 := by rw [en _ z]; rfl
    rw [e]
    exact pfl_s7 pre suf mi nf mf g g2 w (A1 _ ha) (A2 _ hs) r0 r1 r2 r3 r4 r5 r6 r7
  by_cases r8 : g2 < 0
  · have z : Nt.sizeB ⟨pre, suf, mi, nf, mf, g, g2⟩ = false := by rw [Bool.eq_false_iff]; intro z; have := Nt.size_ok z; simp only at this; omega
    have e : Nt.patE ⟨pre, suf, mi, nf, mf, g, g2⟩ = 1 := by rw [en _ z]; rfl
    rw [e]
    exact pfl_s8 pre suf mi nf mf g g2 w (A1 _ ha) (A2 _ hs) r0 r1 r2 r3 r4 r5 r6 r7 r8
  by_cases r9 : 4 < g2
  · have z : Nt.sizeB ⟨pre, suf, mi, nf, mf, g, g2⟩ = false := by rw [Bool.eq_false_iff]; intro z; have := Nt.size_ok z; simp only at this; omega
    have e : Nt.patE ⟨pre, suf, mi, nf, mf, g, g2⟩ = 1 := by rw [en _ z]; rfl
    rw [e]
    exact pfl_s9 pre suf mi nf mf g g2 w (A1 _ ha) (A2 _ hs) r0 r1 r2 r3 r4 r5 r6 r7 r8 r9
  have z : Nt.sizeB ⟨pre, suf, mi, nf, mf, g, g2⟩ = true := by unfold Nt.sizeB; simp only [Bool.and_eq_true, decide_eq_true_eq]; omega
  by_cases z2 : g2 = 0
  · have e : Nt.patE ⟨pre, suf, mi, nf, mf, g, g2⟩ = 0 := by rw [en _ z, if_pos rfl, if_neg (by omega)]
    rw [e]
    subst z2
    exact pfl_z pre suf mi nf mf g w (A1 _ ha) (A2 _ hs) r0 r1 r2 r3 r4 r5 r6 r7
  by_cases z1 : g = 0
  · have e : Nt.patE ⟨pre, suf, mi, nf, mf, g, g2⟩ = 3 := by rw [en _ z, if_pos rfl, if_pos ⟨z2, z1⟩]
    rw [e]
    subst z1
    exact pfl_g pre suf mi nf mf g2 w (A1 _ ha) (A2 _ hs) r0 r1 r2 r3 r4 r5 r8 r9 z2
  · have e : Nt.patE ⟨pre, suf, mi, nf, mf, g, g2⟩ = 0 := by rw [en _ z, if_pos rfl, if_neg (by omega)]
    rw [e]
    exact pfl_h pre suf mi nf mf g g2 w (A1 _ ha) (A2 _ hs) r0 r1 r2 r3 r4 r5 r6 r7 r8 r9 z2 z1
end Go.Proofs.YtaijjffnamjhiaaGreatDoor
namespace Go.Proofs.YtaijjffnamjhiaaGreatDoor.Nt
open Go Go.Lib Byt
open Dcm (okD)
/-- the digits' first one -/
theorem digits_head (k : Nat) : ∀ u, u < k → 0 < u → ∃ x r, decDigits u = x :: r ∧ x ≠ 48 := by
  induction k with
  | zero => intro u h; omega
  | succ k ih =>
    intro u h h0
    by_cases h1 : u < 10
    · exact ⟨_, [], Dtx.dd1 h1, fun e => by have := congrArg UInt8.toNat e; rw [dig_byte h1] at this; simp at this; omega⟩
    · obtain ⟨x, r, e, hx⟩ := ih (u / 10) (by omega) (by omega)
      exact ⟨x, r ++ _, by rw [Dtx.dd2 h1, e]; rfl, hx⟩
theorem digits_last (u : Nat) : ∃ l, decDigits u = l ++ [UInt8.ofNat (48 + u % 10)] := by
  by_cases h : u < 10
  · exact ⟨[], by rw [Dtx.dd1 h, Nat.mod_eq_of_lt h]; rfl⟩
  · exact ⟨_, Dtx.dd2 h⟩
theorem left_noughts (n : Nat) (l : List UInt8) : trimLeftB (List.replicate n 48 ++ l) 48 = trimLeftB l 48 := by
  unfold trimLeftB
  induction n with
  | zero => rfl
  | succ n ih => rw [List.replicate_succ, List.cons_append, List.dropWhile_cons_of_pos (by simp), ih]
theorem right_noughts (n : Nat) (l : List UInt8) : trimRightB (l ++ List.replicate n 48) 48 = trimRightB l 48 := by
  unfold trimRightB
  rw [List.reverse_append, List.reverse_replicate]
  have := left_noughts n l.reverse
  unfold trimLeftB at this
  rw [this]
theorem right_stays {l : List UInt8} {x : UInt8} (h : x ≠ 48) : trimRightB (l ++ [x]) 48 = l ++ [x] := by
  unfold trimRightB
  rw [List.reverse_append, List.reverse_singleton, List.singleton_append, List.dropWhile_cons_of_neg (by simpa using h)]
  simp
/-- the digits ahead of the point, without noughts ahead -/
theorem left_wh (c s : Int) : (if trimLeftB (wh c s) 48 = [] then [48] else trimLeftB (wh c s) 48) = wh c s := by
  have hp := List.length_pos_iff.2 (digits_ne c.natAbs)
  by_cases hz : zn c s = 0
  · have e : zdig (zn c s) c.natAbs = decDigits c.natAbs := by rw [hz]; simp [zdig]
    have hl := zdig_len c s
    by_cases hc : c.natAbs = 0
    · have ew : wh c s = [48] := by
        rw [hc, Dtx.dd1 (by omega)] at e
        unfold wh
        rw [hc, e] 
        rw [hc, e] at hl
        rw [show s.toNat = 0 by simpa using hl]; rfl
      rw [ew]; rfl
    · obtain ⟨x, r, h1, h2⟩ := digits_head (c.natAbs + 1) c.natAbs (by omega) (by omega)
      have ew : ∃ r', wh c s = x :: r' := by
        unfold wh
        rw [e, h1] at hl ⊢
        obtain ⟨k, hk⟩ : ∃ k, (x :: r).length - s.toNat = k + 1 := ⟨(x :: r).length - s.toNat - 1, by omega⟩
        rw [hk, List.take_succ_cons]
        exact ⟨_, rfl⟩
      obtain ⟨r', er⟩ := ew
      rw [er]
      have : trimLeftB (x :: r') 48 = x :: r' := by
        unfold trimLeftB
        rw [List.dropWhile_cons_of_neg (by simpa using h2)]
      rw [this, if_neg (by simp)]
  · have ew : wh c s = [48] := by
      unfold wh
      have hl : (zdig (zn c s) c.natAbs).length = s.toNat + 1 := by
        unfold zdig
        rw [List.length_append, List.length_replicate]
        unfold zn at hz ⊢
        omega
      rw [hl, show s.toNat + 1 - s.toNat = 1 by omega]
      unfold zdig
      obtain ⟨k, hk⟩ : ∃ k, zn c s = k + 1 := ⟨zn c s - 1, by omega⟩
      rw [hk, List.replicate_succ]; rfl
    rw [ew]; rfl
/-- the digits behind the point, without noughts behind -/
theorem right_bh (c s : Int) (s0 : 0 ≤ s) (h : s = 0 ∨ c % 10 ≠ 0) : trimRightB (bh c s) 48 = bh c s := by
  by_cases hs : s = 0
  · rw [bh_zero (by omega)]; rfl
  · have hc : c % 10 ≠ 0 := by omega
    obtain ⟨l, hl⟩ := digits_last c.natAbs
    have hne : UInt8.ofNat (48 + c.natAbs % 10) ≠ 48 := fun e => by
      have := congrArg UInt8.toNat e
      rw [dig_byte (by omega)] at this
      simp at this
      omega
    have eb : ∃ l', bh c s = l' ++ [UInt8.ofNat (48 + c.natAbs % 10)] := by
      have hz := zdig_len c s
      unfold bh
      have e : zdig (zn c s) c.natAbs = (List.replicate (zn c s) 48 ++ l) ++ [UInt8.ofNat (48 + c.natAbs % 10)] := by unfold zdig; rw [hl, List.append_assoc]
      rw [e] at hz ⊢
      rw [List.length_append, List.length_singleton] at hz ⊢
      rw [List.drop_append_of_le_length (by omega)]
      exact ⟨_, rfl⟩
    obtain ⟨l', e⟩ := eb
    rw [e]
    exact right_stays hne
/-- what the library makes of a text ahead of reading -/
def candT (p : Pt) (pt cm : UInt8) (s : List UInt8) : List UInt8 :=
  let wb := cut (trimSuffix (trimPrefix (trimPrefix s [45]) p.pre) p.suf) [pt]
  let t1 := trimLeftB (without cm wb.1) 48
  let t2 := if t1 = [] then [48] else t1
  let b := trimRightB wb.2.1 48
  (if hasPrefix s [45] then [45] else []) ++ (t2 ++ if b = [] then [] else 46 :: b)
theorem suf_hit (a b : List UInt8) : trimSuffix (a ++ b) b = a := by
  unfold trimSuffix hasSuffix
  rw [if_pos (List.isSuffixOf_iff_suffix.2 (List.suffix_append a b))]
  simp
theorem cut_one_hit {c : UInt8} {X : List UInt8} (Y : List UInt8) (h : c ∉ X) : cut (X ++ c :: Y) [c] = (X, Y, true) := by
  unfold cut
  rw [idx_hit Y h, if_pos (by omega)]
  simp
theorem cut_one_miss {c : UInt8} {X : List UInt8} (h : c ∉ X) : cut X [c] = (X, [], false) := by
  unfold cut
  rw [idx_miss h, if_neg (by omega)]
theorem mem_grouped {s : List UInt8} {g g2 : Nat} {cm x : UInt8} (n : Nat) (hn : s.length ≤ n) (h : x ∈ Grp.grouped g g2 s cm) : x ∈ s ∨ x = cm := by
  induction n generalizing s g g2 with
  | zero => rw [Grp.grouped_one _ (by omega)] at h; exact .inl h
  | succ n ih =>
    by_cases hg : 0 < g ∧ g < s.length
    · rw [Grp.grouped_cut _ hg.1 hg.2] at h
      rcases List.mem_append.1 h with h | h
      · rcases List.mem_append.1 h with h | h
        · rcases ih (by simp; omega) h with h | h
          · exact .inl (List.mem_of_mem_take h)
          · exact .inr h
        · exact .inr (List.mem_singleton.1 h)
      · exact .inl (List.mem_of_mem_drop h)
    · unfold Grp.grouped at h
      rw [Grp.pieces, dif_neg hg, join_one] at h
      exact .inl h
theorem mem_gout {s : List UInt8} {g g2 : Int} {cm x : UInt8} (h : x ∈ gout s g g2 cm) : x ∈ s ∨ x = cm := by
  unfold gout at h
  split at h
  · exact .inl h
  · exact mem_grouped _ (Nat.le_refl _) h
theorem dig_not {l : List UInt8} {x : UInt8} (h : AllDig l) (hx : x ∈ sgnL ∨ x = 45) : x ∉ l := fun hm => by
  have := h x hm
  rcases hx with hx | rfl
  · simp only [sgnL, List.mem_cons, List.not_mem_nil, or_false] at hx
    rcases hx with rfl | rfl | rfl | rfl <;> revert this <;> decide
  · revert this; decide
theorem aff_minus : ∀ x ∈ affL, x ≠ 45 := by decide
theorem aff_no {l : List UInt8} (h : affB l = true) : (45 : UInt8) ∉ l := fun hm => by
  unfold affB at h
  rw [Bool.and_eq_true, List.all_eq_true] at h
  exact aff_minus _ (List.contains_iff_mem.1 (h.1 _ hm)) rfl
theorem body_minus (p : Pt) (pt cm : UInt8) (a b : Int) (hp : patE p = 0) (hy : symB pt cm = true) : (45 : UInt8) ∉ body p pt cm a b := fun hx => by
  obtain ⟨p1, p2, _, _⟩ := pat_ok hp
  obtain ⟨_, y2, y3⟩ := sym_mem hy
  have nine : ∀ x ∈ sgnL, x ≠ 45 := by decide
  unfold body at hx
  rcases List.mem_append.1 hx with hx | hx
  · rcases List.mem_append.1 hx with hx | hx
    · exact aff_no p1 hx
    · rcases List.mem_append.1 hx with hx | hx
      · rcases mem_gout hx with hx | hx
        · exact dig_not (pad_dig _ _ _) (.inr rfl) hx
        · exact nine _ y3 hx.symm
      · unfold tail at hx
        split at hx
        · simp at hx
        · rcases List.mem_cons.1 hx with hx | hx
          · exact nine _ y2 hx.symm
          · exact dig_not (fr_dig _ _ _) (.inr rfl) hx
  · exact aff_no p2 hx
theorem minus_at (p : Pt) (pt cm : UInt8) (a b : Int) (hp : patE p = 0) (hy : symB pt cm = true) : trimPrefix (sgn a ++ body p pt cm a b) [45] = body p pt cm a b ∧ hasPrefix (sgn a ++ body p pt cm a b) [45] = decide (a < 0) := by
  have mB := body_minus p pt cm a b hp hy
  unfold sgn
  split
  · rename_i h
    exact ⟨pre_hit _ _, by rw [decide_eq_true h]; exact List.isPrefixOf_iff_prefix.2 (List.prefix_append _ _)⟩
  · rename_i h
    rw [List.nil_append]
    exact ⟨by unfold trimPrefix; rw [no_minus mB, if_neg (by simp)], by rw [no_minus mB, decide_eq_false h]⟩
/-- what is made of a number's text: the text of the number, rounded -/
theorem cand_there (p : Pt) (pt cm : UInt8) (c s : Int) (hp : patE p = 0) (hy : symB pt cm = true) (h : okD c s) : candT p pt cm (shown p pt cm c s) = decText (red p.mf c s).1 (red p.mf c s).2 := by
  obtain ⟨p1, p2, p3, _⟩ := pat_ok hp
  have ps := size_ok p3
  obtain ⟨y1, y2, y3⟩ := sym_mem hy
  obtain ⟨r1, r2, r3⟩ := red_fine p.mf c s h (by omega) (by omega)
  unfold shown
  generalize red p.mf c s = q at *
  obtain ⟨a, b⟩ := q
  simp only at *
  have hG : ∀ x ∈ gout (pad p.mi a b) p.g p.g2 cm, (48 ≤ x.toNat ∧ x.toNat ≤ 57) ∨ x = cm := fun x hx => by
    rcases mem_gout hx with hx | hx
    · exact .inl (pad_dig _ _ _ x hx)
    · exact .inr hx
  have ptG : pt ∉ gout (pad p.mi a b) p.g p.g2 cm := fun hx => by
    rcases mem_gout hx with hx | hx
    · exact dig_not (pad_dig _ _ _) (.inl y2) hx
    · exact y1 hx
  obtain ⟨h1, h2⟩ := minus_at p pt cm a b hp hy
  have h3 : (if hasPrefix (sgn a ++ body p pt cm a b) [45] then [45] else []) = sgn a := by
    rw [h2]; unfold sgn
    by_cases h0 : a < 0
    · rw [if_pos h0, decide_eq_true h0]; rfl
    · rw [if_neg h0, decide_eq_false h0]; rfl
  unfold candT
  rw [h1, h3]
  have e1 : trimSuffix (trimPrefix (body p pt cm a b) p.pre) p.suf = gout (pad p.mi a b) p.g p.g2 cm ++ tail pt (fr p.nf a b) := by
    unfold body
    rw [List.append_assoc, pre_hit, suf_hit]
  rw [e1]
  have e2 : (cut (gout (pad p.mi a b) p.g p.g2 cm ++ tail pt (fr p.nf a b)) [pt]).1 = gout (pad p.mi a b) p.g p.g2 cm ∧ (cut (gout (pad p.mi a b) p.g p.g2 cm ++ tail pt (fr p.nf a b)) [pt]).2.1 = fr p.nf a b := by
    unfold tail
    split
    · rename_i hf
      rw [List.append_nil, cut_one_miss ptG]; exact ⟨rfl, hf.symm⟩
    · rw [cut_one_hit _ ptG]; exact ⟨rfl, rfl⟩
  simp only [e2.1, e2.2]
  rw [without_gout (dig_not (pad_dig _ _ _) (.inl y3))]
  have e3 : trimLeftB (pad p.mi a b) 48 = trimLeftB (wh a b) 48 := left_noughts _ _
  have e4 : trimRightB (fr p.nf a b) 48 = bh a b := by
    unfold fr
    rw [right_noughts, right_bh a b r1.1 r3]
  rw [e3, e4, left_wh, text_parts, List.append_assoc]
  congr 2
  by_cases hb : b ≤ 0
  · rw [if_pos hb, if_pos (bh_zero hb)]
  · rw [if_neg hb, if_neg (fun e => by have := bh_len a b; rw [e] at this; simp at this; omega)]
end Go.Proofs.YtaijjffnamjhiaaGreatDoor.Nt
namespace Go.Proofs.YtaijjffnamjhiaaGreatDoor.Nt
open Go Go.Lib Byt Go.RowKit
open Dcm (okD nrm)
/-- a text is the number's, which is as short as may be -/
def Good (p : Pt) (pt cm : UInt8) (t : List UInt8) (c s : Int) : Prop := okD c s ∧ shown p pt cm c s = t ∧ red p.mf c s = (c, s)
theorem dec_inj {a b c d : Int} (h : okD a b) (h' : okD c d) (e : decText a b = decText c d) : a = c ∧ b = d := by
  obtain ⟨h1, h2⟩ := dec_cut a b h
  obtain ⟨h3, h4⟩ := dec_cut c d h'
  rw [e] at h1 h2
  rw [h1] at h3
  exact ⟨by injection h3, h2.symm.trans h4⟩
theorem good_mf {p : Pt} {pt cm : UInt8} {t : List UInt8} {c s : Int} (hp : patE p = 0) (g : Good p pt cm t c s) : s ≤ p.mf := by
  have ps := size_ok (pat_ok hp).2.2.1
  have := (red_fine p.mf c s g.1 (by omega) (by omega)).2.1
  rw [g.2.2] at this
  exact this
theorem good_cand {p : Pt} {pt cm : UInt8} {t : List UInt8} {c s : Int} (hp : patE p = 0) (hy : symB pt cm = true) (g : Good p pt cm t c s) : candT p pt cm t = decText c s := by
  have := cand_there p pt cm c s hp hy g.1
  rw [g.2.1, g.2.2] at this
  exact this
theorem good_of {p : Pt} {pt cm : UInt8} {t : List UInt8} {c s : Int} (hp : patE p = 0) (hy : symB pt cm = true) (hd : okD c s) (hc : decText c s = candT p pt cm t) (hs : shown p pt cm c s = t) : Good p pt cm t c s := by
  have ps := size_ok (pat_ok hp).2.2.1
  have r := (red_fine p.mf c s hd (by omega) (by omega)).1
  have h := cand_there p pt cm c s hp hy hd
  rw [hs, ← hc] at h
  obtain ⟨h1, h2⟩ := dec_inj hd r h
  exact ⟨hd, hs, Prod.ext h1.symm h2.symm⟩
theorem good_only {p : Pt} {pt cm : UInt8} {t : List UInt8} {c s c' s' : Int} (hp : patE p = 0) (hy : symB pt cm = true) (hd : okD c s) (hc : decText c s = candT p pt cm t) (g : Good p pt cm t c' s') : c' = c ∧ s' = s := by
  have h := good_cand hp hy g
  rw [← hc] at h
  obtain ⟨h1, h2⟩ := dec_inj hd g.1 h
  exact ⟨h1.symm, h2.symm⟩
theorem good_uniq {p : Pt} {pt cm : UInt8} {t : List UInt8} {c s c' s' : Int} (hp : patE p = 0) (hy : symB pt cm = true) (g : Good p pt cm t c s) (g' : Good p pt cm t c' s') : c' = c ∧ s' = s :=
  good_only hp hy g.1 (good_cand hp hy g).symm g'
theorem trim_self {c s : Int} (h0 : 0 ≤ s) (h : s = 0 ∨ c % 10 ≠ 0) : trim c s = (c, s) := by
  unfold trim
  obtain ⟨n, rfl⟩ := Int.eq_ofNat_of_zero_le h0
  rw [Int.toNat_natCast]
  cases n with
  | zero => rfl
  | succ n =>
    have hc : c % 10 ≠ 0 := by omega
    have e : Dcm.strip (n + 1) c = (n + 1, c) := by rw [Dcm.strip, if_neg hc]
    rw [e]
theorem red_self {mf c s : Int} (h0 : 0 ≤ s) (h1 : s ≤ mf) (h : s = 0 ∨ c % 10 ≠ 0) : red mf c s = (c, s) := by
  unfold red
  rw [trim_self h0 h, if_neg (by show ¬ mf < s; omega)]
/-- the number of a text that was told -/
theorem good_shown {p : Pt} {pt cm : UInt8} {c s : Int} (hp : patE p = 0) (hd : okD c s) : Good p pt cm (shown p pt cm c s) (red p.mf c s).1 (red p.mf c s).2 := by
  have ps := size_ok (pat_ok hp).2.2.1
  obtain ⟨r1, r2, r3⟩ := red_fine p.mf c s hd (by omega) (by omega)
  have e : red p.mf (red p.mf c s).1 (red p.mf c s).2 = ((red p.mf c s).1, (red p.mf c s).2) := red_self r1.1 r2 r3
  exact ⟨r1, by unfold shown; rw [e], e⟩
theorem trim_nrm {c s : Int} (hd : okD c s) : nrm (trim c s).1 (trim c s).2 = nrm c s := by
  obtain ⟨h1, h2, h3⟩ := red_trim c s hd
  have hm := Dcm.strip_mul s.toNat c (by unfold okD at hd; omega)
  have e : ((s.toNat : Int) - ((Dcm.strip s.toNat c).1 : Int)) = s - (trim c s).2 := by unfold trim; have := hd.1; simp only; omega
  rw [e] at hm
  have hm' : (trim c s).1 * Dcm.P10 (s - (trim c s).2) = c := hm
  have := Dcm.nrm_up (trim c s).1 (trim c s).2 s h3 h2 hd.2.1
  rw [hm'] at this
  exact this.symm
theorem red_nrm {mf c s : Int} (hd : okD c s) (m0 : 0 ≤ mf) (m6 : mf ≤ 6) : nrm (red mf c s).1 (red mf c s).2 = nrm (Dcm.rndC c s (min mf s) 5) (min mf s) := by
  obtain ⟨h1, h2, h3⟩ := red_trim c s hd
  have hn := trim_nrm hd
  have hs := hd.2.1
  have hs0 := hd.1
  have eq : ∀ t, 0 ≤ t → t ≤ 9 → Dcm.rndC c s t 5 = Dcm.rndC (trim c s).1 (trim c s).2 t 5 := fun t t0 t9 => by
    rw [Dcm.rndC_RR c s t 5 hs0 hs t0 t9, Dcm.rndC_RR _ _ t 5 h1.1 h1.2.1 t0 t9, hn]
  unfold red
  by_cases hlt : mf < (trim c s).2
  · rw [if_pos hlt, show min mf s = mf by omega, eq mf m0 (by omega)]
    have hr : okD (Dcm.rndC (trim c s).1 (trim c s).2 mf 5) mf := by
      have := Dcm.near_facts (trim c s).1 (trim c s).2 mf 5 h1.2.2 h1.2.1 m0 hlt (by omega) (by omega)
      exact ⟨m0, by omega, by omega, by omega⟩
    exact trim_nrm hr
  · rw [if_neg hlt, eq _ (by omega) (by omega)]
    have e : Dcm.rndC (trim c s).1 (trim c s).2 (min mf s) 5 = (trim c s).1 * Dcm.P10 (min mf s - (trim c s).2) := by unfold Dcm.rndC; rw [if_pos (by omega)]
    rw [e, Dcm.nrm_up _ _ _ h3 (by omega) (by omega)]
/-- what is told of reading a text -/
def ReadPost (p : Pt) (pt cm : UInt8) (t : List UInt8) (bad : Value) (good : Value) (w : World) (e : Ending) (w' : World) : Prop :=
  (∃ c s, Good p pt cm t c s ∧ e = .returned (.tuple #[.agg #[.int .i64 c, .int .i64 s], good]) ∧ Below w.heap.size w w') ∨
  ((∀ c s, ¬ Good p pt cm t c s) ∧ e = .returned (.tuple #[.agg #[.int .i64 0, .int .i64 0], bad]) ∧ Below w.heap.size w w')
end Go.Proofs.YtaijjffnamjhiaaGreatDoor.Nt
namespace Go.Proofs.YtaijjffnamjhiaaGreatDoor.Nt
open Go Go.Lib Byt
open Dcm (okD)
def isDig (x : UInt8) : Bool := decide (48 ≤ x.toNat) && decide (x.toNat ≤ 57)
/-- one sign more: is it behind the point; the digits so far; how many of them are behind it -/
def step (pt : UInt8) (a : Bool × List UInt8 × Nat) (x : UInt8) : Bool × List UInt8 × Nat :=
  (a.1 || x == pt, if isDig x then a.2.1 ++ [x] else a.2.1, if isDig x && (a.1 || x == pt) then a.2.2 + 1 else a.2.2)
def scan (pt : UInt8) (l : List UInt8) : Bool × List UInt8 × Nat := l.foldl (step pt) (false, [], 0)
/-- noughts at the end, as many as are behind the point -/
def rzs : Nat → List UInt8 → List UInt8 × Nat
  | 0, l => (l, 0)
  | n + 1, l => if l.getLast? = some 48 then rzs n l.dropLast else (l, n + 1)
/-- the number of digits, if it is not too large -/
def horn : Int → List UInt8 → Option Int
  | n, [] => some n
  | n, x :: r => if 1000000000000000 < 10 * n + ((x.toNat : Int) - 48) then none else horn (10 * n + ((x.toNat : Int) - 48)) r
def midOf (p : Pt) (s : List UInt8) : List UInt8 := ((trimPrefix s [45]).take ((trimPrefix s [45]).length - p.suf.length)).drop p.pre.length
def candR (p : Pt) (pt : UInt8) (s : List UInt8) : Option (Int × Int) :=
  (horn 0 (rzs (scan pt (midOf p s)).2.2 (scan pt (midOf p s)).2.1).1).map fun n => ((if hasPrefix s [45] then -1 else 1) * n, ((rzs (scan pt (midOf p s)).2.2 (scan pt (midOf p s)).2.1).2 : Int))
theorem scan_none {pt : UInt8} : ∀ (l : List UInt8) (D : List UInt8) (k : Nat), pt ∉ l → l.foldl (step pt) (false, D, k) = (false, D ++ l.filter isDig, k)
  | [], D, k, _ => by simp
  | x :: r, D, k, h => by
    have hx : (x == pt) = false := by rw [beq_eq_false_iff_ne]; rintro rfl; exact h (by simp)
    rw [List.foldl_cons]
    have e : step pt (false, D, k) x = (false, if isDig x then D ++ [x] else D, k) := by unfold step; simp [hx]
    rw [e, scan_none r _ _ (fun hm => h (by simp [hm]))]
    by_cases hd : isDig x = true
    · rw [if_pos hd, List.filter_cons_of_pos hd]; simp
    · rw [if_neg hd, List.filter_cons_of_neg hd]
theorem scan_dig {pt : UInt8} : ∀ (l : List UInt8) (D : List UInt8) (k : Nat), AllDig l → l.foldl (step pt) (true, D, k) = (true, D ++ l, k + l.length)
  | [], D, k, _ => by simp
  | x :: r, D, k, h => by
    have hx := h x (by simp)
    have hd : isDig x = true := by unfold isDig; rw [decide_eq_true hx.1, decide_eq_true hx.2]; rfl
    rw [List.foldl_cons]
    have e : step pt (true, D, k) x = (true, D ++ [x], k + 1) := by unfold step; simp [hd]
    rw [e, scan_dig r _ _ (fun y hy => h y (by simp [hy]))]
    simp; omega
theorem sgn_dig {x : UInt8} (h : x ∈ sgnL) : isDig x = false := by
  simp only [sgnL, List.mem_cons, List.not_mem_nil, or_false] at h
  rcases h with rfl | rfl | rfl | rfl <;> decide
theorem filter_dig {l : List UInt8} (h : AllDig l) : l.filter isDig = l := List.filter_eq_self.2 fun x hx => by
  have := h x hx
  unfold isDig; rw [decide_eq_true this.1, decide_eq_true this.2]; rfl
theorem filter_gdig {s : List UInt8} {g g2 : Nat} {cm : UInt8} (hc : cm ∈ sgnL) (n : Nat) (hn : s.length ≤ n) (h : AllDig s) : (Grp.grouped g g2 s cm).filter isDig = s := by
  induction n generalizing s g g2 with
  | zero => rw [Grp.grouped_one _ (by omega)]; exact filter_dig h
  | succ n ih =>
    by_cases hg : 0 < g ∧ g < s.length
    · rw [Grp.grouped_cut _ hg.1 hg.2, List.filter_append, List.filter_append, ih (by simp; omega) (fun x hx => h x (List.mem_of_mem_take hx)), filter_dig (fun x hx => h x (List.mem_of_mem_drop hx)), List.filter_cons_of_neg (by rw [sgn_dig hc]; simp), List.filter_nil, List.append_nil, List.take_append_drop]
    · unfold Grp.grouped
      rw [Grp.pieces, dif_neg hg, join_one]
      exact filter_dig h
theorem filter_gout {s : List UInt8} {g g2 : Int} {cm : UInt8} (hc : cm ∈ sgnL) (h : AllDig s) : (gout s g g2 cm).filter isDig = s := by
  unfold gout
  split
  · exact filter_dig h
  · exact filter_gdig hc _ (Nat.le_refl _) h
theorem rzs_succ (n : Nat) (l : List UInt8) : rzs (n + 1) l = if l.getLast? = some 48 then rzs n l.dropLast else (l, n + 1) := rfl
theorem horn_cons (n : Int) (x : UInt8) (r : List UInt8) : horn n (x :: r) = if 1000000000000000 < 10 * n + ((x.toNat : Int) - 48) then none else horn (10 * n + ((x.toNat : Int) - 48)) r := rfl
theorem rzs_noughts : ∀ (m n : Nat) (l : List UInt8), rzs (n + m) (l ++ List.replicate m 48) = rzs n l
  | 0, n, l => by simp
  | m + 1, n, l => by
    rw [← Nat.add_assoc, List.replicate_succ', ← List.append_assoc]
    rw [rzs_succ, if_pos (by simp), List.dropLast_concat]
    exact rzs_noughts m n l
theorem horn_digits : ∀ (k u : Nat) (Y : List UInt8), u < k → u ≤ 1000000000000000 → horn 0 (decDigits u ++ Y) = horn u Y
  | 0, u, Y, h, _ => by omega
  | k + 1, u, Y, h, hu => by
    by_cases h1 : u < 10
    · rw [Dtx.dd1 h1, List.singleton_append, horn_cons, dig_byte h1, if_neg (by omega)]
      congr 1; omega
    · rw [Dtx.dd2 h1, List.append_assoc, horn_digits k (u / 10) _ (by omega) (by omega), List.singleton_append]
      rw [horn_cons, dig_byte (by omega), if_neg (by omega)]
      congr 1; omega
theorem horn_noughts : ∀ (z : Nat) (Y : List UInt8), horn 0 (List.replicate z 48 ++ Y) = horn 0 Y
  | 0, Y => rfl
  | z + 1, Y => by
    rw [List.replicate_succ, List.cons_append]
    rw [horn_cons, if_neg (by decide)]
    exact horn_noughts z Y
theorem candR_there (p : Pt) (pt cm : UInt8) (c s : Int) (hp : patE p = 0) (hy : symB pt cm = true) (h : okD c s) : candR p pt (shown p pt cm c s) = some (red p.mf c s) := by
  obtain ⟨p1, p2, p3, _⟩ := pat_ok hp
  have ps := size_ok p3
  obtain ⟨y1, y2, y3⟩ := sym_mem hy
  obtain ⟨r1, r2, r3⟩ := red_fine p.mf c s h (by omega) (by omega)
  unfold shown
  generalize red p.mf c s = q at *
  obtain ⟨a, b⟩ := q
  simp only at *
  obtain ⟨hm1, hm2⟩ := minus_at p pt cm a b hp hy
  have ptG : pt ∉ gout (pad p.mi a b) p.g p.g2 cm := fun hx => by
    rcases mem_gout hx with hx | hx
    · exact dig_not (pad_dig _ _ _) (.inl y2) hx
    · exact y1 hx
  have e1 : midOf p (sgn a ++ body p pt cm a b) = gout (pad p.mi a b) p.g p.g2 cm ++ tail pt (fr p.nf a b) := by
    unfold midOf
    rw [hm1]
    unfold body
    rw [List.length_append, Nat.add_sub_cancel, List.take_left', List.drop_left']
    · rfl
    · rfl
  have e2 : scan pt (gout (pad p.mi a b) p.g p.g2 cm ++ tail pt (fr p.nf a b)) = (!(fr p.nf a b).isEmpty, pad p.mi a b ++ fr p.nf a b, (fr p.nf a b).length) := by
    unfold scan
    rw [List.foldl_append, scan_none _ _ _ ptG, filter_gout y3 (pad_dig _ _ _), List.nil_append]
    unfold tail
    split
    · rename_i hf
      rw [hf]; simp
    · rename_i hf
      rw [List.foldl_cons]
      have e : step pt (false, pad p.mi a b, 0) pt = (true, pad p.mi a b, 0) := by
        unfold step; simp [sgn_dig y2]
      rw [e, scan_dig _ _ _ (fr_dig _ _ _)]
      simp [List.isEmpty_eq_false_iff.2 hf]
  have e3 : rzs (fr p.nf a b).length (pad p.mi a b ++ fr p.nf a b) = (pad p.mi a b ++ bh a b, b.toNat) := by
    unfold fr
    rw [← List.append_assoc, List.length_append, List.length_replicate, rzs_noughts, bh_len]
    by_cases hb : b = 0
    · rw [hb]; rfl
    · have hc : a % 10 ≠ 0 := by omega
      have := right_bh a b r1.1 r3
      have hl := bh_len a b
      obtain ⟨k, hk⟩ : ∃ k, b.toNat = k + 1 := ⟨b.toNat - 1, by have := r1.1; omega⟩
      rw [hk, rzs, if_neg ?_]
      intro e
      rw [List.getLast?_append] at e
      cases hbh : (bh a b).reverse with
      | nil => 
        have := congrArg List.length hbh
        rw [List.length_reverse, hl, hk] at this
        simp at this
      | cons x r =>
        have hb2 : bh a b = r.reverse ++ [x] := by
          have := congrArg List.reverse hbh
          simpa using this
        rw [hb2] at e this
        simp at e
        subst e
        have hlen := congrArg List.length this
        unfold trimRightB at hlen
        rw [List.reverse_append, List.reverse_singleton, List.singleton_append, List.dropWhile_cons_of_pos (by simp), List.length_reverse] at hlen
        have : (r.reverse.reverse.dropWhile (· == 48)).length ≤ r.reverse.reverse.length := (List.dropWhile_sublist _).length_le
        simp at hlen this
        omega
  have e4 : horn 0 (pad p.mi a b ++ bh a b) = some (a.natAbs : Int) := by
    unfold pad
    rw [List.append_assoc, horn_noughts, wh_all]
    unfold zdig
    rw [horn_noughts]
    have := horn_digits (a.natAbs + 1) a.natAbs [] (by omega) (by unfold okD at r1; omega)
    rw [List.append_nil] at this
    rw [this, horn]
  unfold candR
  rw [e1, e2]
  simp only [e3, e4, Option.map_some, hm2]
  congr 2
  · by_cases h0 : a < 0
    · rw [decide_eq_true h0]; simp only [if_true]; omega
    · rw [decide_eq_false h0]; simp only [Bool.false_eq_true, if_false]; omega
  · have := r1.1; omega
end Go.Proofs.YtaijjffnamjhiaaGreatDoor.Nt
namespace Go.Proofs.YtaijjffnamjhiaaGreatDoor.Nt
open Go Go.Lib Byt
open Dcm (okD)
theorem rgood_of {p : Pt} {pt cm : UInt8} {t : List UInt8} {c s : Int} (hp : patE p = 0) (hy : symB pt cm = true) (hd : okD c s) (hc : candR p pt t = some (c, s)) (hs : shown p pt cm c s = t) : Good p pt cm t c s := by
  have h := candR_there p pt cm c s hp hy hd
  rw [hs, hc] at h
  exact ⟨hd, hs, (Option.some.inj h).symm⟩
theorem rgood_cand {p : Pt} {pt cm : UInt8} {t : List UInt8} {c s : Int} (hp : patE p = 0) (hy : symB pt cm = true) (g : Good p pt cm t c s) : candR p pt t = some (c, s) := by
  have h := candR_there p pt cm c s hp hy g.1
  rw [g.2.1, g.2.2] at h
  exact h
theorem scan_keeps {pt : UInt8} : ∀ (l : List UInt8) (a : Bool × List UInt8 × Nat), AllDig a.2.1 → a.2.2 ≤ a.2.1.length → AllDig (l.foldl (step pt) a).2.1 ∧ (l.foldl (step pt) a).2.2 ≤ (l.foldl (step pt) a).2.1.length ∧ (l.foldl (step pt) a).2.1.length ≤ a.2.1.length + l.length
  | [], a, h1, h2 => ⟨h1, h2, by simp⟩
  | x :: r, a, h1, h2 => by
    have hs : AllDig (step pt a x).2.1 ∧ (step pt a x).2.2 ≤ (step pt a x).2.1.length ∧ (step pt a x).2.1.length ≤ a.2.1.length + 1 := by
      unfold step
      by_cases hd : isDig x = true
      · have hx : 48 ≤ x.toNat ∧ x.toNat ≤ 57 := by unfold isDig at hd; simpa using hd
        simp only [hd, if_true, Bool.true_and]
        refine ⟨fun y hy => ?_, ?_, by simp⟩
        · rcases List.mem_append.1 hy with hy | hy
          · exact h1 y hy
          · rw [List.mem_singleton.1 hy]; exact hx
        · rw [List.length_append, List.length_singleton]
          split <;> omega
      · have hd' : isDig x = false := by simpa using hd
        simp only [hd', Bool.false_and, Bool.false_eq_true, if_false]
        exact ⟨h1, h2, by omega⟩
    obtain ⟨i1, i2, i3⟩ := scan_keeps r (step pt a x) hs.1 hs.2.1
    exact ⟨i1, i2, by rw [List.foldl_cons, List.length_cons]; omega⟩
theorem rzs_keeps : ∀ (n : Nat) (l : List UInt8), AllDig l → AllDig (rzs n l).1 ∧ (rzs n l).1.length ≤ l.length ∧ (rzs n l).2 ≤ n
  | 0, _, h => ⟨h, Nat.le_refl _, Nat.le_refl _⟩
  | n + 1, l, h => by
    rw [rzs_succ]
    split
    · obtain ⟨i1, i2, i3⟩ := rzs_keeps n l.dropLast (fun x hx => h x (List.dropLast_subset _ hx))
      rw [List.length_dropLast] at i2
      exact ⟨i1, by omega, by omega⟩
    · exact ⟨h, Nat.le_refl _, Nat.le_refl _⟩
theorem take_step {pt : UInt8} {l : List UInt8} {k : Nat} {x : UInt8} (h : l[k]? = some x) (a : Bool × List UInt8 × Nat) : (l.take (k + 1)).foldl (step pt) a = step pt ((l.take k).foldl (step pt) a) x := by
  have hk : k < l.length := (List.getElem?_eq_some_iff.1 h).1
  rw [List.take_add_one, h, Option.toList_some, List.foldl_append]
  rfl
theorem mid_at {p : Pt} {t : List UInt8} {k : Nat} {x : UInt8} (h : (midOf p t)[k]? = some x) : (trimPrefix t [45])[p.pre.length + k]? = some x := by
  unfold midOf at h
  rw [List.getElem?_drop, List.getElem?_take] at h
  split at h
  · exact h
  · simp at h
theorem mid_len (p : Pt) (t : List UInt8) : (midOf p t).length = (trimPrefix t [45]).length - p.suf.length - p.pre.length := by
  unfold midOf
  rw [List.length_drop, List.length_take]; omega
theorem last_at {l : List UInt8} (h : 0 < l.length) : ∃ x, l[l.length - 1]? = some x ∧ l.getLast? = some x := by
  refine ⟨l[l.length - 1], List.getElem?_eq_getElem (by omega), ?_⟩
  rw [List.getLast?_eq_getElem?, List.getElem?_eq_getElem (by omega)]
theorem pre_take (t : List UInt8) : (t.take 1 == [45]) = hasPrefix t [45] := by
  cases t with
  | nil => rfl
  | cons x r => simp [hasPrefix, List.isPrefixOf, Bool.beq_comm]
end Go.Proofs.YtaijjffnamjhiaaGreatDoor.Nt
namespace Go.Proofs.YtaijjffnamjhiaaGreatDoor
open Go.RowKit
open Dcm (okD)
theorem cutc_any (t : List UInt8) (c : UInt8) (w : World) (hM : MaxW w) (ht : t.length ≤ 4000000000) :
    Calls Tryz.prog 76 #[.string ⟨t.toArray⟩, .string ⟨[c].toArray⟩] w fun e w' => e = .returned (.tuple #[.string ⟨(Lib.cut t [c]).1.toArray⟩, .string ⟨(Lib.cut t [c]).2.1.toArray⟩, .bool (Lib.cut t [c]).2.2]) ∧ Below w.heap.size w w' := by
  obtain ⟨m, hm⟩ := hM
  refine (Tryz.strings_Cut ⟨t.toArray⟩ ⟨[c].toArray⟩ m w (by rw [size_mkl]; omega) hm).mono ?_
  rintro e w' ⟨rfl, n, rfl⟩
  exact ⟨rfl, blw_drewN (Below.refl _ _) n⟩
theorem cutc_small (t : List UInt8) (c : UInt8) : (Lib.cut t [c]).1.length ≤ t.length ∧ (Lib.cut t [c]).2.1.length ≤ t.length := by
  unfold Lib.cut
  split
  · simp only [List.length_take, List.length_drop]; omega
  · simp
theorem tpre_any (s p : List UInt8) (w : World) : Calls Tryz.prog 82 #[.string ⟨s.toArray⟩, .string ⟨p.toArray⟩] w fun e w' => e = .returned (.string ⟨(Lib.trimPrefix s p).toArray⟩) ∧ w = w' :=
  (Tryz.strings_TrimPrefix ⟨s.toArray⟩ ⟨p.toArray⟩ w).mono fun _ _ h => ⟨h.1, h.2.symm⟩
theorem tsuf_any (s p : List UInt8) (w : World) (hs : s.length ≤ 4000000000) : Calls Tryz.prog 81 #[.string ⟨s.toArray⟩, .string ⟨p.toArray⟩] w fun e w' => e = .returned (.string ⟨(Lib.trimSuffix s p).toArray⟩) ∧ w = w' :=
  (Tryz.strings_TrimSuffix ⟨s.toArray⟩ ⟨p.toArray⟩ w (by rw [size_mkl]; omega)).mono fun _ _ h => ⟨h.1, h.2.symm⟩
theorem tleft_any (s : List UInt8) (w : World) : Calls Tryz.prog 83 #[.string ⟨s.toArray⟩, .string ⟨#[48]⟩] w fun e w' => e = .returned (.string ⟨(Lib.trimLeftB s 48).toArray⟩) ∧ w = w' :=
  (Tryz.strings_TrimLeft_one ⟨s.toArray⟩ 48 (by decide) w).mono fun _ _ h => ⟨h.1, h.2.symm⟩
theorem tright_any (s : List UInt8) (w : World) (hs : s.length ≤ 4000000000) : Calls Tryz.prog 85 #[.string ⟨s.toArray⟩, .string ⟨#[48]⟩] w fun e w' => e = .returned (.string ⟨(Lib.trimRightB s 48).toArray⟩) ∧ w = w' :=
  (Tryz.strings_TrimRight_one ⟨s.toArray⟩ 48 (by decide) w (by rw [size_mkl]; omega)).mono fun _ _ h => ⟨h.1, h.2.symm⟩
theorem tleft_le (s : List UInt8) (c : UInt8) : (Lib.trimLeftB s c).length ≤ s.length := (List.dropWhile_sublist _).length_le
theorem tright_le (s : List UInt8) (c : UInt8) : (Lib.trimRightB s c).length ≤ s.length := by
  unfold Lib.trimRightB
  rw [List.length_reverse]
  have := (List.dropWhile_sublist (· == c) (l := s.reverse)).length_le
  rw [List.length_reverse] at this
  exact this

set_option maxRecDepth 100000 in
set_option maxHeartbeats 4000000 in
theorem read_bad (p : Nt.Pt) (pt cm : UInt8) (t : List UInt8) (w : World) (h1 : p.pre.length ≤ 1000000000) (h2 : p.suf.length ≤ 1000000000) (hE : Nt.allE p pt cm ≠ 0) :
    Calls Tryz.prog 34 #[pV p, yV pt cm, .string ⟨t.toArray⟩] w fun e w' => e = .returned (.tuple #[.agg #[.int .i64 0, .int .i64 0], errV (Nt.allE p pt cm)]) ∧ Below w.heap.size w w' := by
  have CK := Lib.hid fun w => chk_any p pt cm w h1 h2
  rw [show errN (Nt.allE p pt cm) = errV (Nt.allE p pt cm) from if_neg hE] at CK
  generalize Nt.allE p pt cm = E at *
  unfold pV yV at *
  obtain ⟨pre, suf, mi, nf, mf, g, g2⟩ := p
  simp only at *
  have X0 := Lib.hid (Bx.made w #[.string ⟨pre.toArray⟩, .string ⟨suf.toArray⟩, .int .i64 mi, .int .i64 nf, .int .i64 mf, .int .i64 g, .int .i64 g2] #[.int .u8 (pt.toNat : Int), .int .u8 (cm.toNat : Int)] (.int .i64 0) (.int .i64 0) 69 71 37)
  clear hE h1 h2
  go_enter Tryz.func34, Tryz.ntmps34
  go_wp2_with fail
  refine (CK.out _).mono ?_
  rintro e w1 ⟨rfl, hb⟩
  have X1 := Lib.hid (X0.out.below hb)
  clear hb X0 
  have cp0 := X1.out.p.cell 0 _ rfl
  have cp1 := X1.out.p.cell 1 _ rfl
  have cp2 := X1.out.p.cell 2 _ rfl
  have cp3 := X1.out.p.cell 3 _ rfl
  have cp4 := X1.out.p.cell 4 _ rfl
  have cp5 := X1.out.p.cell 5 _ rfl
  have cp6 := X1.out.p.cell 6 _ rfl
  have cy0 := X1.out.y.cell 0 _ rfl
  have cy1 := X1.out.y.cell 1 _ rfl
  have cd0 := X1.out.d.cell 0 _ rfl
  have cd1 := X1.out.d.cell 1 _ rfl
  have cf0 := X1.out.d.free 0 (by simp)
  have cf1 := X1.out.d.free 1 (by simp)
  have clp := X1.out.p.lt
  have cly := X1.out.y.lt
  have cld := X1.out.d.lt
  go_wp2_with fail
  refine bodyPost_ret (v := .tuple #[.agg #[.int .i64 0, .int .i64 0], errV E]) (by simp [results, Tryz.results34, go_sem, cd0, cd1]; try rfl) rfl ?_
  exact ⟨rfl, by repeat (first | exact X1.out.b | refine blw_drewN ?_ _ | refine Below.setCell ?_ (by first | (simp; done) | omega | (simp; omega)) _ | refine Below.alloc ?_ (by first | (simp; done) | omega | (simp; omega)) _)⟩

set_option maxRecDepth 100000 in
set_option maxHeartbeats 4000000 in
theorem read_fine (p : Nt.Pt) (pt cm : UInt8) (t : List UInt8) (w : World) (hD : DM w) (h1 : p.pre.length ≤ 1000000000) (h2 : p.suf.length ≤ 1000000000) (ht : t.length ≤ 1000000000) (hE : Nt.allE p pt cm = 0) :
    Calls Tryz.prog 34 #[pV p, yV pt cm, .string ⟨t.toArray⟩] w (Nt.ReadPost p pt cm t (errV 3) .nilIface w) := by
  have hp : Nt.patE p = 0 := by unfold Nt.allE at hE; split at hE <;> omega
  have hy : Nt.symB pt cm = true := by
    unfold Nt.allE at hE; rw [if_neg (by omega)] at hE
    split at hE
    · assumption
    · omega
  have CK := Lib.hid fun w => chk_any p pt cm w h1 h2
  rw [hE, show errN 0 = .nilIface from rfl] at CK
  have CF := Lib.hid fun (c s : Int) (hd : okD c s) (wx : World) (hb : Below w.heap.size w wx) => fmt_text p pt cm c s wx (hD.below hb).p (hD.below hb).m h1 h2 (by unfold Nt.fmtE; rw [if_neg (by rw [hE]; simp)]; exact if_pos hd)
  obtain ⟨Q', hQ'⟩ : ∃ Q', Q' = Nt.ReadPost p pt cm t (errV 3) .nilIface w := ⟨_, rfl⟩
  rw [← hQ']
  have HQ1 := Lib.hid fun c s (hd : okD c s) (hc : Byt.decText c s = Nt.candT p pt cm t) (hs : Nt.shown p pt cm c s = t) w' (hb : Below w.heap.size w w') => (show Q' (.returned (.tuple #[.agg #[.int .i64 c, .int .i64 s], .nilIface])) w' by rw [hQ']; exact .inl ⟨c, s, Nt.good_of hp hy hd hc hs, rfl, hb⟩)
  have HQ2 := Lib.hid fun (hn : ∀ c s, okD c s → Byt.decText c s ≠ Nt.candT p pt cm t) w' (hb : Below w.heap.size w w') => (show Q' (.returned (.tuple #[.agg #[.int .i64 0, .int .i64 0], errV 3])) w' by rw [hQ']; exact .inr ⟨fun c s g => hn c s g.1 (Nt.good_cand hp hy g).symm, rfl, hb⟩)
  have HQ3 := Lib.hid fun c s (hd : okD c s) (hc : Byt.decText c s = Nt.candT p pt cm t) (hs : ¬ (Nt.shown p pt cm c s = t ∧ s ≤ p.mf)) w' (hb : Below w.heap.size w w') => (show Q' (.returned (.tuple #[.agg #[.int .i64 0, .int .i64 0], errV 3])) w' by
    rw [hQ']
    refine .inr ⟨fun c' s' g => hs ?_, rfl, hb⟩
    obtain ⟨rfl, rfl⟩ := Nt.good_only hp hy hd hc g
    exact ⟨g.2.1, Nt.good_mf hp g⟩)
  clear hQ' hp hy hE
  obtain ⟨r0, e0⟩ : ∃ r0, r0 = Lib.trimPrefix t [45] := ⟨_, rfl⟩
  obtain ⟨r1, e1⟩ : ∃ r1, r1 = Lib.trimPrefix r0 p.pre := ⟨_, rfl⟩
  obtain ⟨r2, e2⟩ : ∃ r2, r2 = Lib.trimSuffix r1 p.suf := ⟨_, rfl⟩
  obtain ⟨wa, ea⟩ : ∃ wa, wa = (Lib.cut r2 [pt]).1 := ⟨_, rfl⟩
  obtain ⟨bb, eb⟩ : ∃ bb, bb = (Lib.cut r2 [pt]).2.1 := ⟨_, rfl⟩
  obtain ⟨ms, em⟩ : ∃ ms, ms = Lib.hasPrefix t [45] := ⟨_, rfl⟩
  obtain ⟨wo, eo⟩ : ∃ wo, wo = without cm wa := ⟨_, rfl⟩
  obtain ⟨t1, et1⟩ : ∃ t1, t1 = Lib.trimLeftB wo 48 := ⟨_, rfl⟩
  obtain ⟨t2, et2⟩ : ∃ t2 : List UInt8, t2 = if t1 = [] then [48] else t1 := ⟨_, rfl⟩
  obtain ⟨b2, eb2⟩ : ∃ b2, b2 = Lib.trimRightB bb 48 := ⟨_, rfl⟩
  obtain ⟨tl, etl⟩ : ∃ tl : List UInt8, tl = if b2 = [] then [] else 46 :: b2 := ⟨_, rfl⟩
  obtain ⟨t3, et3⟩ : ∃ t3 : List UInt8, t3 = t2 ++ tl := ⟨_, rfl⟩
  obtain ⟨T, eT⟩ : ∃ T, T = Nt.candT p pt cm t := ⟨_, rfl⟩
  have hT : T = (if ms then [45] else []) ++ t3 := by
    rw [eT, et3, etl, eb2, et2, et1, eo, eb, ea, e2, e1, e0, em]; rfl
  rw [← eT] at HQ1 HQ2 HQ3
  clear eT
  have l0 : r0.length ≤ 1000000000 := by rw [e0]; have := Lib.trimPrefix_le t [45]; omega
  have l1 : r1.length ≤ 1000000000 := by rw [e1]; have := Lib.trimPrefix_le r0 p.pre; omega
  have l2 : r2.length ≤ 1000000000 := by rw [e2]; have := Lib.trimSuffix_le r1 p.suf; omega
  have lc := cutc_small r2 pt
  rw [← ea, ← eb] at lc
  have lo : wo.length ≤ 1000000000 := by rw [eo]; have := without_len cm wa; omega
  have lt1 : t1.length ≤ 1000000000 := by rw [et1]; have := tleft_le wo 48; omega
  have lt2 : t2.length ≤ 1000000001 := by
    rw [et2]; split
    · simp
    · omega
  have lb2 : b2.length ≤ 1000000000 := by rw [eb2]; have := tright_le bb 48; omega
  have ltl : tl.length ≤ 1000000001 := by
    rw [etl]; split
    · simp
    · rw [List.length_cons]; omega
  have lt3 : t3.length ≤ 2000000002 := by rw [et3, List.length_append]; omega
  have lT : T.length ≤ 2000000003 := by
    rw [hT, List.length_append]
    split
    · simp; omega
    · simp; omega
  have C1 := Lib.hid fun w => (cutpre_any t w).mono fun e w' h => (⟨h.1, h.2.symm⟩ : _ ∧ w = w')
  have C2 := Lib.hid fun w => tpre_any r0 p.pre w
  have C3 := Lib.hid fun w => tsuf_any r1 p.suf w (by omega)
  have C4 := Lib.hid fun (wx : World) (hb : Below w.heap.size w wx) => cutc_any r2 pt wx (hD.below hb).m (by omega)
  have C5 := Lib.hid fun (wx : World) (hb : Below w.heap.size w wx) => strike_any wa cm wx (hD.below hb).m (by omega)
  have C6 := Lib.hid fun w => tleft_any wo w
  have C7 := Lib.hid fun w => tright_any bb w (by omega)
  have C8 := Lib.hid fun (wx : World) (hb : Below w.heap.size w wx) => dparse_any T wx (hD.below hb) (by omega)
  rw [← em, ← e0] at C1
  rw [← e1] at C2
  rw [← e2] at C3
  rw [← ea, ← eb] at C4
  rw [← eo] at C5
  rw [← et1] at C6
  rw [← eb2] at C7
  have A1 := Lib.hid fun (hb : b2 ≠ []) => (show (∀ w, (Op.stringOp .add ⟨#[46]⟩ ⟨b2.toArray⟩).run Tryz.prog w = .ok (.string ⟨tl.toArray⟩) w) ∧ (∀ w, (Op.stringOp .add ⟨t2.toArray⟩ ⟨tl.toArray⟩).run Tryz.prog w = .ok (.string ⟨t3.toArray⟩) w) from by
    have e : tl = [46] ++ b2 := by rw [etl, if_neg hb]; rfl
    exact ⟨fun w => by rw [e]; exact add_str (P := Tryz.prog) [46] b2 (by simp; omega) w, fun w => by rw [et3]; exact add_str (P := Tryz.prog) t2 tl (by omega) w⟩)
  have A2 := Lib.hid fun (hm : ms = true) => (show ∀ w, (Op.stringOp .add ⟨#[45]⟩ ⟨t3.toArray⟩).run Tryz.prog w = .ok (.string ⟨T.toArray⟩) w from fun w => by
    rw [hT, if_pos hm]; exact add_str (P := Tryz.prog) [45] t3 (by simp; omega) w)
  have N1 := Lib.hid (show b2 = [] → t3 = t2 from fun h => by rw [et3, etl, if_pos h, List.append_nil])
  have N2 := Lib.hid (show ms = false → T = t3 from fun h => by rw [hT, h]; rfl)
  have N3 := Lib.hid (And.intro (show t1 = [] → t2 = [48] from fun h => by rw [et2, if_pos h]) (show t1 ≠ [] → t2 = t1 from fun h => by rw [et2, if_neg h]))
  clear e0 e1 e2 ea eb em eo et1 et2 eb2 etl et3 hT l0 l1 l2 lc lo lt1 lt2 lb2 ltl lt3 lT h1 h2 ht
  generalize (Lib.cut r2 [pt]).2.2 = FF at *
  unfold pV yV at *
  obtain ⟨pre, suf, mi, nf, mf, g, g2⟩ := p
  simp only at *
  have X0 := Lib.hid (Bx.made w #[.string ⟨pre.toArray⟩, .string ⟨suf.toArray⟩, .int .i64 mi, .int .i64 nf, .int .i64 mf, .int .i64 g, .int .i64 g2] #[.int .u8 (pt.toNat : Int), .int .u8 (cm.toNat : Int)] (.int .i64 0) (.int .i64 0) 69 71 37)
  have HDM := Lib.hid hD
  clear hD
  go_enter Tryz.func34, Tryz.ntmps34
  go_wp2_with fail
  refine (CK.out _).mono ?_
  rintro e w1 ⟨rfl, hb⟩
  have X1 := Lib.hid (X0.out.below hb)
  clear hb X0 CK
  have cp0 := X1.out.p.cell 0 _ rfl
  have cp1 := X1.out.p.cell 1 _ rfl
  have cp2 := X1.out.p.cell 2 _ rfl
  have cp3 := X1.out.p.cell 3 _ rfl
  have cp4 := X1.out.p.cell 4 _ rfl
  have cp5 := X1.out.p.cell 5 _ rfl
  have cp6 := X1.out.p.cell 6 _ rfl
  have cy0 := X1.out.y.cell 0 _ rfl
  have cy1 := X1.out.y.cell 1 _ rfl
  have cd0 := X1.out.d.cell 0 _ rfl
  have cd1 := X1.out.d.cell 1 _ rfl
  have clp := X1.out.p.lt
  have cly := X1.out.y.lt
  have cld := X1.out.d.lt
  go_wp2_with fail
  refine (C1.out _).mono ?_
  rintro e w' ⟨rfl, rfl⟩
  clear C1
  go_wp2_with fail
  go_big_quiet ((first | (go_at_call 82; with_reducible exact quiet_left (C2.out _)) | (go_at_call 81; with_reducible exact quiet_left (C3.out _))))
  clear C2 C3
  have X2 := Lib.hid (X1.out.drewN nq)
  clear X1
  clear cp0 cp1 cp2 cp3 cp4 cp5 cp6 cy0 cy1 cd0 cd1 clp cly cld
  have cp0 := X2.out.p.cell 0 _ rfl
  have cp1 := X2.out.p.cell 1 _ rfl
  have cp2 := X2.out.p.cell 2 _ rfl
  have cp3 := X2.out.p.cell 3 _ rfl
  have cp4 := X2.out.p.cell 4 _ rfl
  have cp5 := X2.out.p.cell 5 _ rfl
  have cp6 := X2.out.p.cell 6 _ rfl
  have cy0 := X2.out.y.cell 0 _ rfl
  have cy1 := X2.out.y.cell 1 _ rfl
  have cd0 := X2.out.d.cell 0 _ rfl
  have cd1 := X2.out.d.cell 1 _ rfl
  have clp := X2.out.p.lt
  have cly := X2.out.y.lt
  have cld := X2.out.d.lt
  generalize hw2 : w1.drewN nq = w2 at *
  have V1 := conv_by pt w2
  go_wp2_with fail
  refine (C4.out _ (X2.out.alloc _).b).mono ?_
  rintro e w3 ⟨rfl, hb⟩
  have X3 := Lib.hid ((X2.out.alloc _).below hb)
  clear hb C4 V1 X2 hw2 cp0 cp1 cp2 cp3 cp4 cp5 cp6 cy0 cy1 cd0 cd1 clp cly cld
  have cp0 := X3.out.p.cell 0 _ rfl
  have cp1 := X3.out.p.cell 1 _ rfl
  have cp2 := X3.out.p.cell 2 _ rfl
  have cp3 := X3.out.p.cell 3 _ rfl
  have cp4 := X3.out.p.cell 4 _ rfl
  have cp5 := X3.out.p.cell 5 _ rfl
  have cp6 := X3.out.p.cell 6 _ rfl
  have cy0 := X3.out.y.cell 0 _ rfl
  have cy1 := X3.out.y.cell 1 _ rfl
  have cd0 := X3.out.d.cell 0 _ rfl
  have cd1 := X3.out.d.cell 1 _ rfl
  have clp := X3.out.p.lt
  have cly := X3.out.y.lt
  have cld := X3.out.d.lt
  have V2 := conv_by cm w3
  go_wp2_with fail
  refine (C5.out _ (X3.out.alloc _).b).mono ?_
  rintro e w4 ⟨rfl, hb⟩
  have X4 := Lib.hid ((X3.out.alloc _).below hb)
  clear hb C5 V2 X3 cp0 cp1 cp2 cp3 cp4 cp5 cp6 cy0 cy1 cd0 cd1 clp cly cld
  have cp0 := X4.out.p.cell 0 _ rfl
  have cp1 := X4.out.p.cell 1 _ rfl
  have cp2 := X4.out.p.cell 2 _ rfl
  have cp3 := X4.out.p.cell 3 _ rfl
  have cp4 := X4.out.p.cell 4 _ rfl
  have cp5 := X4.out.p.cell 5 _ rfl
  have cp6 := X4.out.p.cell 6 _ rfl
  have cy0 := X4.out.y.cell 0 _ rfl
  have cy1 := X4.out.y.cell 1 _ rfl
  have cd0 := X4.out.d.cell 0 _ rfl
  have cd1 := X4.out.d.cell 1 _ rfl
  have clp := X4.out.p.lt
  have cly := X4.out.y.lt
  have cld := X4.out.d.lt
  go_wp2_with fail
  refine (C6.out _).mono ?_
  rintro e w' ⟨rfl, rfl⟩
  clear C6
  go_upto_if 56 with fail
  go_cut [14] from 56 (fun sv wx => sv = .string ⟨t2.toArray⟩ ∧ wx = w4)
  case first =>
    obtain ⟨n31, n32⟩ := N3.out
    by_cases h : t1 = []
    · have e := n31 h
      subst h
      subst e
      go_wp2_with fail
      go_meet
      exact ⟨rfl, rfl⟩
    · have e := n32 h
      subst e
      have b0 : t2.isEmpty = false := List.isEmpty_eq_false_iff.2 h
      simp only [b0]
      go_wp2_with fail
      go_meet
      exact ⟨rfl, rfl⟩
  case rest =>
    obtain ⟨rfl, rfl⟩ := hcut
    clear N3
    go_wp2_with fail
    refine (C7.out _).mono ?_
    rintro e w' ⟨rfl, rfl⟩
    clear C7
    go_upto_if 60 with fail
    go_cut [14] from 60 (fun sv wx => sv = .string ⟨t3.toArray⟩ ∧ wx = wc)
    case first =>
      by_cases h : b2 = []
      · have e := N1.out h
        subst h
        subst e
        go_wp2_with fail
        go_meet
        exact ⟨rfl, rfl⟩
      · obtain ⟨a1, a2⟩ := A1.out h
        have b0 : b2.isEmpty = false := List.isEmpty_eq_false_iff.2 h
        simp only [b0, Bool.not_false]
        go_wp2_with fail
        go_meet
        exact ⟨rfl, rfl⟩
    case rest =>
      obtain ⟨rfl, rfl⟩ := hcut
      clear N1 A1
      go_upto_if 65 with fail
      go_cut [14] from 65 (fun sv wx => sv = .string ⟨T.toArray⟩ ∧ wx = wc)
      case first =>
        cases ms with
        | true =>
          have a2 := A2.out rfl
          go_wp2_with fail
          go_meet
          exact ⟨rfl, rfl⟩
        | false =>
          have e := N2.out rfl
          subst e
          go_wp2_with fail
          go_meet
          exact ⟨rfl, rfl⟩
      case rest =>
        obtain ⟨rfl, rfl⟩ := hcut
        clear N2 A2
        go_wp2_with fail
        refine (C8.out _ X4.out.b).mono ?_
        rintro e w5 (⟨c, s, hd, hc, rfl, hb⟩ | ⟨hn, rfl, hb⟩)
        · have X5 := Lib.hid (X4.out.below hb)
          clear hb C8 X4 cp0 cp1 cp2 cp3 cp4 cp5 cp6 cy0 cy1 cd0 cd1 clp cly cld
          have cp0 := X5.out.p.cell 0 _ rfl
          have cp1 := X5.out.p.cell 1 _ rfl
          have cp2 := X5.out.p.cell 2 _ rfl
          have cp3 := X5.out.p.cell 3 _ rfl
          have cp4 := X5.out.p.cell 4 _ rfl
          have cp5 := X5.out.p.cell 5 _ rfl
          have cp6 := X5.out.p.cell 6 _ rfl
          have cy0 := X5.out.y.cell 0 _ rfl
          have cy1 := X5.out.y.cell 1 _ rfl
          have cd0 := X5.out.d.cell 0 _ rfl
          have cd1 := X5.out.d.cell 1 _ rfl
          have cf0 := X5.out.d.free 0 (by simp)
          have cf1 := X5.out.d.free 1 (by simp)
          have clp := X5.out.p.lt
          have cly := X5.out.y.lt
          have cld := X5.out.d.lt
          have X6 := Lib.hid (X5.out.alloc (.cells #[.int .i64 c, .int .i64 s] 37))
          have D6 := Lib.hid (Boxed.made w5 #[.int .i64 c, .int .i64 s] 37)
          have CF1 := Lib.hid fun wx hb => CF.out c s hd wx hb
          clear CF
          have sl : (Nt.shown ⟨pre, suf, mi, nf, mf, g, g2⟩ pt cm c s = t) ∨ ¬ (Nt.shown ⟨pre, suf, mi, nf, mf, g, g2⟩ pt cm c s = t) := Classical.em _
          have HQ1' := Lib.hid fun hs w' hb => HQ1.out c s hd hc hs w' hb
          have HQ3' := Lib.hid fun hs w' hb => HQ3.out c s hd hc hs w' hb
          clear HQ1 HQ2 HQ3
          generalize Nt.shown ⟨pre, suf, mi, nf, mf, g, g2⟩ pt cm c s = SH at *
          go_wp2_with fail
          refine (CF1.out _ X6.out.b).mono ?_
          rintro e w7 ⟨rfl, hb⟩
          have X7 := Lib.hid (X6.out.below hb)
          have D7 := Lib.hid (D6.out.below hb)
          have ne0 : ¬ w5.heap.size = w.heap.size + 2 := by have := X5.out.lt; omega
          have ne1 : ¬ w.heap.size + 2 = w5.heap.size := by have := X5.out.lt; omega
          clear hb X6 X5 D6 CF1 cp0 cp1 cp2 cp3 cp4 cp5 cp6 cy0 cy1 cd0 cd1 cf0 cf1 clp cly cld
          have cp0 := X7.out.p.cell 0 _ rfl
          have cp1 := X7.out.p.cell 1 _ rfl
          have cp2 := X7.out.p.cell 2 _ rfl
          have cp3 := X7.out.p.cell 3 _ rfl
          have cp4 := X7.out.p.cell 4 _ rfl
          have cp5 := X7.out.p.cell 5 _ rfl
          have cp6 := X7.out.p.cell 6 _ rfl
          have cy0 := X7.out.y.cell 0 _ rfl
          have cy1 := X7.out.y.cell 1 _ rfl
          have cd0 := X7.out.d.cell 0 _ rfl
          have cd1 := X7.out.d.cell 1 _ rfl
          have cf0 := X7.out.d.free 0 (by simp)
          have cf1 := X7.out.d.free 1 (by simp)
          have clp := X7.out.p.lt
          have cly := X7.out.y.lt
          have cld := X7.out.d.lt
          have ce0 := D7.out.cell 0 _ rfl
          have ce1 := D7.out.cell 1 _ rfl
          have cel := D7.out.lt
          rcases sl with hs | hs
          · subst hs
            by_cases hm : s ≤ mf
            · have d0 : decide (mf < s) = false := dec_no (by omega)
              have q := HQ1'.out rfl
              clear HQ1' HQ3' hm hd hc
              go_wp2_with fail
              refine bodyPost_ret (v := .tuple #[.agg #[.int .i64 c, .int .i64 s], .nilIface]) (by simp [results, Tryz.results34, go_sem, cd0, cd1]; try rfl) rfl ?_
              refine q _ ?_
              repeat (first | exact X7.out.b | refine blw_drewN ?_ _ | refine Below.setCell ?_ (by first | (simp; done) | omega | (simp; omega)) _ | refine Below.alloc ?_ (by first | (simp; done) | omega | (simp; omega)) _)
            · have d0 : decide (mf < s) = true := dec_yes (by omega)
              have q := HQ3'.out (fun g => hm g.2)
              clear HQ1' HQ3' hm hd hc
              go_wp2_with fail
              refine bodyPost_ret (v := .tuple #[.agg #[.int .i64 0, .int .i64 0], errV 3]) (by simp [results, Tryz.results34, go_sem, cd0, cd1]; try rfl) rfl ?_
              refine q _ ?_
              repeat (first | exact X7.out.b | refine blw_drewN ?_ _ | refine Below.setCell ?_ (by first | (simp; done) | omega | (simp; omega)) _ | refine Below.alloc ?_ (by first | (simp; done) | omega | (simp; omega)) _)
          · have b0 : (SH == t) = false := beq_eq_false_iff_ne.2 hs
            have b1 : (SH != t) = true := by rw [bne, b0]; rfl
            have q := HQ3'.out (fun g => hs g.1)
            clear HQ1' HQ3' hs hd hc
            go_wp2_with fail
            refine bodyPost_ret (v := .tuple #[.agg #[.int .i64 0, .int .i64 0], errV 3]) (by simp [results, Tryz.results34, go_sem, cd0, cd1]; try rfl) rfl ?_
            refine q _ ?_
            repeat (first | exact X7.out.b | refine blw_drewN ?_ _ | refine Below.setCell ?_ (by first | (simp; done) | omega | (simp; omega)) _ | refine Below.alloc ?_ (by first | (simp; done) | omega | (simp; omega)) _)
        · have X5 := Lib.hid (X4.out.below hb)
          clear hb C8 X4 cp0 cp1 cp2 cp3 cp4 cp5 cp6 cy0 cy1 cd0 cd1 clp cly cld
          have cp0 := X5.out.p.cell 0 _ rfl
          have cp1 := X5.out.p.cell 1 _ rfl
          have cp2 := X5.out.p.cell 2 _ rfl
          have cp3 := X5.out.p.cell 3 _ rfl
          have cp4 := X5.out.p.cell 4 _ rfl
          have cp5 := X5.out.p.cell 5 _ rfl
          have cp6 := X5.out.p.cell 6 _ rfl
          have cy0 := X5.out.y.cell 0 _ rfl
          have cy1 := X5.out.y.cell 1 _ rfl
          have cd0 := X5.out.d.cell 0 _ rfl
          have cd1 := X5.out.d.cell 1 _ rfl
          have cf0 := X5.out.d.free 0 (by simp)
          have cf1 := X5.out.d.free 1 (by simp)
          have clp := X5.out.p.lt
          have cly := X5.out.y.lt
          have cld := X5.out.d.lt
          have q := HQ2.out hn
          clear HQ1 HQ2 HQ3 CF hn
          have ne0 : ¬ w5.heap.size = w.heap.size + 2 := by have := X5.out.lt; omega
          have ne1 : ¬ w.heap.size + 2 = w5.heap.size := by have := X5.out.lt; omega
          go_wp2_with fail
          
          refine bodyPost_ret (v := .tuple #[.agg #[.int .i64 0, .int .i64 0], errV 3]) (by simp [results, Tryz.results34, go_sem, cd0, cd1, cld]; try rfl) rfl ?_
          refine q _ ?_
          repeat (first | exact X5.out.b | refine blw_drewN ?_ _ | refine Below.setCell ?_ (by first | (simp; done) | omega | (simp; omega)) _ | refine Below.alloc ?_ (by first | (simp; done) | omega | (simp; omega)) _)
end Go.Proofs.YtaijjffnamjhiaaGreatDoor
namespace Go.Proofs.YtaijjffnamjhiaaGreatDoor
open Go.RowKit
open Go.Lib Byt
theorem shown_dig : decDigits 12345 = [49, 50, 51, 52, 53] := by
  rw [Dtx.dd2 (by omega), Dtx.dd2 (by omega), Dtx.dd2 (by omega), Dtx.dd2 (by omega), Dtx.dd1 (by omega)]; rfl
theorem shown_is : Nt.shown ⟨[], [], 1, 0, 2, 3, 0⟩ 46 44 1234500 3 = [49, 44, 50, 51, 52, 46, 53] := by
  have e1 : Nt.red 2 1234500 3 = (12345, 1) := by decide
  have hD : decDigits (12345 : Int).natAbs = [49, 50, 51, 52, 53] := shown_dig
  have e2 : Nt.wh 12345 1 = [49, 50, 51, 52] := by unfold Nt.wh zdig zn; rw [hD]; rfl
  have e3 : Nt.bh 12345 1 = [53] := by unfold Nt.bh zdig zn; rw [hD]; rfl
  have e4 : gout [49, 50, 51, 52] 3 0 44 = [49, 44, 50, 51, 52] := by
    unfold gout
    rw [if_neg (by decide), if_pos rfl, Grp.grouped_cut _ (by decide) (by decide), Grp.grouped_one _ (by decide)]
    rfl
  unfold Nt.shown
  simp only [e1]
  unfold Nt.body Nt.pad Nt.fr
  simp only [e2, e3]
  have e5 : List.replicate ((1 : Int).toNat - ([49, 50, 51, 52] : List UInt8).length) (48 : UInt8) ++ [49, 50, 51, 52] = [49, 50, 51, 52] := rfl
  rw [e5, e4]
  rfl
theorem shown_fine : Nt.fmtE ⟨[], [], 1, 0, 2, 3, 0⟩ 46 44 1234500 3 = 0 := by decide

set_option maxRecDepth 100000 in
set_option maxHeartbeats 1000000 in
theorem fact_any (w : World) (hT : PowW w) (hM : MaxW w) : Calls Tryz.prog 32 #[] w fun e w' => e = .returned (.bool true) ∧ Below w.heap.size w w' := by
  have c := fmt_text ⟨[], [], 1, 0, 2, 3, 0⟩ 46 44 1234500 3 w hT hM (by simp) (by simp) shown_fine
  rw [shown_is] at c
  have C := Lib.hid c
  clear c
  go_enter Tryz.func32, Tryz.ntmps32
  go_wp2_with fail
  refine (C.out).mono ?_
  rintro e w1 ⟨rfl, hb⟩
  go_wp2
  go_ret
  exact ⟨rfl, hb⟩
end Go.Proofs.YtaijjffnamjhiaaGreatDoor
namespace Go.Proofs.YtaijjffnamjhiaaGreatDoor
open Go.RowKit
theorem onlyY_any (x : UInt8) (w : World) :
    Calls Tryz.prog 92 #[.string ⟨[x].toArray⟩, .string ⟨#[46, 44, 39, 95]⟩, .int .i64 1, .int .i64 1] w fun e w' => e = .returned (.bool (Nt.sgnL.contains x)) ∧ Below w.heap.size w w' := by
  refine (only_any [x] Nt.sgnL 1 1 w (by simp) (by decide)).mono ?_
  rintro e w' ⟨rfl, hd⟩
  exact ⟨by unfold onlyB; simp, drew_below hd⟩

set_option maxRecDepth 100000 in
set_option maxHeartbeats 2000000 in
theorem symf_any (pt cm : UInt8) (w : World) :
    Calls Tryz.prog 38 #[.agg #[.int .u8 (pt.toNat : Int), .int .u8 (cm.toNat : Int)]] w fun e w' => e = .returned (.bool (!Nt.symB pt cm)) ∧ Below w.heap.size w w' := by
  have CP := Lib.hid fun w => onlyY_any pt w
  have CC := Lib.hid fun w => onlyY_any cm w
  have V1 := conv_by pt (w.alloc (.cells #[.int .u8 (pt.toNat : Int), .int .u8 (cm.toNat : Int)] 71))
  rw [World.size_alloc] at V1
  have V2 := fun w => conv_by cm w
  have hb := byteN_eq pt cm
  have hs : Nt.symB pt cm = (!(pt == cm) && Nt.sgnL.contains pt && Nt.sgnL.contains cm) := rfl
  rw [hs]
  clear hs
  generalize (pt == cm) = E at *
  generalize Nt.sgnL.contains pt = A at *
  generalize Nt.sgnL.contains cm = B at *
  have B0 := Lib.hid (Boxed.made w #[.int .u8 (pt.toNat : Int), .int .u8 (cm.toNat : Int)] 71)
  have W0 := Lib.hid (blw_alloc w (.cells #[.int .u8 (pt.toNat : Int), .int .u8 (cm.toNat : Int)] 71))
  cases E
  case true =>
    go_enter Tryz.func38, Tryz.ntmps38
    go_wp2_with fail
    go_ret
    exact ⟨ret_bool (by simp), W0.out⟩
  case false =>
    go_enter Tryz.func38, Tryz.ntmps38
    go_wp2_with fail
    refine (CP.out _).mono ?_
    rintro e w1 ⟨rfl, hb1⟩
    have W1 := Lib.hid (blw_trans W0.out (blw_trans (blw_alloc _ _) hb1))
    have B1 := Lib.hid ((B0.out.alloc _).below hb1)
    clear hb1 CP W0 B0 V1
    have y0 := B1.out.cell 0 _ rfl
    have y1 := B1.out.cell 1 _ rfl
    cases A
    case false =>
      go_wp2_with fail
      go_ret
      exact ⟨ret_bool (by simp), W1.out⟩
    case true =>
      go_wp2_with fail
      refine (CC.out _).mono ?_
      rintro e w2 ⟨rfl, hb2⟩
      have W2 := Lib.hid (blw_trans W1.out (blw_trans (blw_alloc _ _) hb2))
      clear hb2 CC W1 B1 V2 y0 y1
      cases B
      all_goals
        go_wp2_with fail
        go_ret
        exact ⟨ret_bool (by simp), W2.out⟩
end Go.Proofs.YtaijjffnamjhiaaGreatDoor
namespace Go.Proofs.YtaijjffnamjhiaaGreatDoor
open Go.RowKit
open Dcm (okD)

set_option maxRecDepth 100000 in
set_option maxHeartbeats 2000000 in
theorem rtrimmed_any (c s : Int) (w : World) (h : okD c s) :
    Calls Tryz.prog 94 #[.agg #[.int .i64 c, .int .i64 s]] w fun e w' => e = .returned (.agg #[.int .i64 (Nt.trim c s).1, .int .i64 (Nt.trim c s).2]) ∧ Below w.heap.size w w' := by
  obtain ⟨s0, s9, c0, c1⟩ := h
  obtain ⟨m, rfl⟩ : ∃ m : Nat, s = (m : Int) := ⟨s.toNat, by omega⟩
  unfold Nt.trim
  rw [Int.toNat_natCast]
  have D0 := Lib.hid ((Boxed.made w #[.int .i64 c, .int .i64 (m : Int)] 37).alloc (.cells #[.int .i64 0, .int .i64 0] 37))
  have Z0 := Lib.hid (Boxed.at (q := w.heap.size + 1) (Boxed.made (w.alloc (.cells #[.int .i64 c, .int .i64 (m : Int)] 37)) #[.int .i64 0, .int .i64 0] 37) (by simp))
  have W0 := Lib.hid (blw_trans (blw_alloc w (.cells #[.int .i64 c, .int .i64 (m : Int)] 37)) (blw_alloc _ (.cells #[.int .i64 0, .int .i64 0] 37)))
  obtain ⟨T, hT⟩ : ∃ T, T = Dcm.strip m c := ⟨_, rfl⟩
  rw [← hT]
  have HT := Lib.hid hT.symm
  clear hT
  go_enter Tryz.func94, Tryz.ntmps94
  go_wp2_with fail
  generalize (w.alloc (.cells #[.int .i64 c, .int .i64 (m : Int)] 37)).alloc (.cells #[.int .i64 0, .int .i64 0] 37) = w1 at *
  go_loopw [] (fun wr => ∃ (c' : Int) (n : Nat), Hid (Boxed wr w.heap.size #[.int .i64 c', .int .i64 (n : Int)]) ∧ Hid (Boxed wr (w.heap.size + 1) #[.int .i64 0, .int .i64 0]) ∧ Hid (Below w.heap.size w wr) ∧ Hid (Dcm.strip n c' = T) ∧ -1000000000000000 ≤ c' ∧ c' ≤ 1000000000000000 ∧ n ≤ 9) (fun wr => (RowKit.intOf ((wr.cell? ⟨w.heap.size, 1, none⟩).getD .nilIface)).toNat)
  case atStart => exact ⟨c, m, D0, Z0, W0, HT, c0, c1, by omega⟩
  case round =>
    obtain ⟨c', n, D, Z, HB, HS, b0, b1, n9⟩ := hrel
    clear D0 Z0 W0 HT c0 c1 s0 s9
    have d0 := D.out.cell 0 _ rfl
    have d1 := D.out.cell 1 _ rfl
    have df0 := D.out.free 0 (by simp)
    have df1 := D.out.free 1 (by simp)
    have dl := D.out.lt
    have z0 := Z.out.cell 0 _ rfl
    have z1 := Z.out.cell 1 _ rfl
    have zf0 := Z.out.free 0 (by simp)
    have zf1 := Z.out.free 1 (by simp)
    have zl := Z.out.lt
    cases n with
    | zero =>
      have e0 : T = (0, c') := HS.out.symm
      subst e0
      go_wp2_with fail
      refine bodyPost_ret (v := .agg #[.int .i64 c', .int .i64 0]) (by simp [results, Tryz.results94, go_sem, z0, z1]; try rfl) rfl ?_
      exact ⟨rfl, by repeat (first | exact HB.out | refine blw_drewN ?_ _ | refine Below.setCell ?_ (by first | (simp; done) | omega | (simp; omega)) _)⟩
    | succ n =>
      have hn : (0 : Int) < ((n + 1 : Nat) : Int) := by omega
      have w1' : IntKind.i64.wrap (((n + 1 : Nat) : Int) - 1) = (n : Int) := by rw [IntWalk.i64_in _ (by omega)]; omega
      by_cases h0 : c' % 10 = 0
      · have r0 : (c'.tmod 10 == 0) = true := by rw [rem_ten, decide_eq_true h0]
        have q0 : IntKind.i64.wrap (c'.tdiv 10) = c' / 10 := by rw [quo_ten h0, IntWalk.i64_in _ (by omega)]
        have HS' := Lib.hid (show Dcm.strip n (c' / 10) = T by rw [← HS.out, Dcm.strip, if_pos h0])
        have bb0 : -1000000000000000 ≤ c' / 10 := by omega
        have bb1 : c' / 10 ≤ 1000000000000000 := by omega
        have e1 : ((n + 1 : Nat) : Int) - 1 = (n : Int) := by omega
        have D2 := Lib.hid ((D.out.set 0 (.int .i64 (c' / 10)) (by simp)).set 1 (.int .i64 (n : Int)) (by simp))
        have Z2 := Lib.hid ((Z.out.far (q := w.heap.size) (by omega) 0 (.int .i64 (c' / 10))).far (q := w.heap.size) (by omega) 1 (.int .i64 (n : Int)))
        generalize c' / 10 = c2 at *
        generalize hM : ((n + 1 : Nat) : Int) = M at *
        clear h0 HS b0 b1
        go_wp2_with fail
        go_roundw
        case rel => exact ⟨c2, n, Lib.hid D2.out, Lib.hid Z2.out, Lib.hid (by repeat (first | exact HB.out | refine blw_drewN ?_ _ | refine Below.setCell ?_ (by first | (simp; done) | omega | (simp; omega)) _)), HS', bb0, bb1, by omega⟩
        case measure => simp [RowKit.intOf, go_sem, d1]; omega
      · have r0 : (c'.tmod 10 == 0) = false := by rw [rem_ten, decide_eq_false h0]
        have e0 : T = (n + 1, c') := by rw [← HS.out, Dcm.strip, if_neg h0]
        subst e0
        clear h0 HS
        go_wp2_with fail
        refine bodyPost_ret (v := .agg #[.int .i64 c', .int .i64 ((n + 1 : Nat) : Int)]) (by simp [results, Tryz.results94, go_sem, z0, z1]; try rfl) rfl ?_
        exact ⟨rfl, by repeat (first | exact HB.out | refine blw_drewN ?_ _ | refine Below.setCell ?_ (by first | (simp; done) | omega | (simp; omega)) _)⟩
end Go.Proofs.YtaijjffnamjhiaaGreatDoor
namespace Go.Proofs.YtaijjffnamjhiaaGreatDoor
open Go.RowKit
open Dcm (okD)
theorem Bx.drew {w0 w : World} {pv yv : Array Value} {c s : Value} (h : Bx w0 pv yv c s w) : Bx w0 pv yv c s w.drew := ⟨⟨h.b.os, h.b.tape, h.b.output, h.b.size, h.b.block⟩, h.p.drew, h.y.drew, h.d.drew⟩
theorem nstrs_open {w : World} {v : Value} {l : List (List UInt8)} (h : StrsAt w v l) (h0 : 0 < l.length) : ∃ b off cap, v = .slice (some ⟨b, off, none⟩) l.length cap ∧ l.length ≤ cap ∧ cap ≤ maxLen ∧ b < w.heap.size := by
  rcases h with ⟨rfl, _⟩ | ⟨b, off, cap, h1, _, h3, h4, h5⟩
  · exact absurd h0 (by simp)
  · exact ⟨b, off, cap, h1, h3, h4, World.block_lt_of_cell? _ _ (h5 0 _ (List.getElem?_eq_getElem h0))⟩
theorem nstrs_cell {w : World} {b off n cap : Nat} {l : List (List UInt8)} (h : StrsAt w (.slice (some ⟨b, off, none⟩) n cap) l) (j : Nat) (x : List UInt8) (hx : l[j]? = some x) : w.cell? ⟨b, off + j, none⟩ = some (.string ⟨x.toArray⟩) := by
  rcases h with ⟨rfl, _⟩ | ⟨b', off', cap', h1, _, h3, h4, h5⟩
  · simp at hx
  · injection h1 with h1 h2 h6
    injection h1 with h1
    injection h1 with h7 h8
    subst h7 h8
    exact h5 j x hx

theorem size_bel (n : Int) (w : World) (h0 : -9223372036854775807 ≤ n) (h1 : n ≤ 9223372036854775807) : Calls Tryz.prog 97 #[.int .i64 n] w fun e w' => e = .returned (.int .i64 (Dcm.mag n)) ∧ Below w.heap.size w w' :=
  (size_any n w h0 h1).mono fun _ _ h => ⟨h.1, h.2 ▸ Below.refl _ _⟩
theorem rgr_bel (s : List UInt8) (g g2 : Int) (c : UInt8) (w : World) (hs : s.length ≤ 1000000000) (hG : rightG g g2) :
    Calls Tryz.prog 98 #[.string ⟨s.toArray⟩, .int .i64 g, .int .i64 g2, .string ⟨#[c]⟩] w fun e w' => e = .returned (.string ⟨(gout s g g2 c).toArray⟩) ∧ Below w.heap.size w w' :=
  (rgrouped_any s g g2 c w hs hG).mono fun _ _ h => ⟨h.1, by obtain ⟨n, rfl⟩ := h.2; exact blw_drewN (Below.refl _ _) n⟩

set_option maxRecDepth 100000 in
set_option maxHeartbeats 4000000 in
theorem rshown_any (p : Nt.Pt) (pt cm : UInt8) (c s : Int) (w : World) (h1 : p.pre.length ≤ 1000000000) (h2 : p.suf.length ≤ 1000000000) (hp : Nt.patE p = 0) (hd : okD c s) :
    Calls Tryz.prog 40 #[pV p, yV pt cm, .agg #[.int .i64 c, .int .i64 s]] w fun e w' => e = .returned (.string ⟨(Nt.shown p pt cm c s).toArray⟩) ∧ Below w.heap.size w w' := by
  have ps := Nt.size_ok (Nt.pat_ok hp).2.2.1
  obtain ⟨t1, t2, t3⟩ := Nt.red_trim c s hd
  obtain ⟨r1, r2, r3⟩ := Nt.red_fine p.mf c s hd (by omega) (by omega)
  have CT1 := Lib.hid fun w => rtrimmed_any c s w hd
  have CR : Hid (p.mf < (Nt.trim c s).2 → okD (Dcm.rndC (Nt.trim c s).1 (Nt.trim c s).2 p.mf 5) p.mf ∧ ∀ w, Calls Tryz.prog 95 #[.agg #[.int .i64 (Nt.trim c s).1, .int .i64 (Nt.trim c s).2], .int .i64 p.mf, .int .i64 5] w fun e w' => e = .returned (.tuple #[.agg #[.int .i64 (Dcm.rndC (Nt.trim c s).1 (Nt.trim c s).2 p.mf 5), .int .i64 p.mf], .bool true]) ∧ Below w.heap.size w w') := Lib.hid fun hlt => by
    have hz : rndE (Nt.trim c s).1 (Nt.trim c s).2 p.mf 5 = 0 := rndE_zero.2 ⟨t1, by omega, by omega, by omega, by omega, fun h => by omega⟩
    exact ⟨rndC_ok hz, fun w => rof_yes _ _ _ _ w hz⟩
  have HR : Hid (Nt.red p.mf c s = if p.mf < (Nt.trim c s).2 then Nt.trim (Dcm.rndC (Nt.trim c s).1 (Nt.trim c s).2 p.mf 5) p.mf else Nt.trim c s) := Lib.hid rfl
  have hsh : Nt.shown p pt cm c s = Byt.sgn (Nt.red p.mf c s).1 ++ Nt.body p pt cm (Nt.red p.mf c s).1 (Nt.red p.mf c s).2 := rfl
  rw [hsh]
  clear hsh
  generalize Nt.red p.mf c s = q at *
  obtain ⟨a, b⟩ := q
  generalize Nt.trim c s = q at *
  obtain ⟨tc, ts⟩ := q
  unfold pV yV at *
  obtain ⟨pre, suf, mi, nf, mf, g, g2⟩ := p
  unfold Nt.body
  simp only at *
  have okm : okD (Dcm.mag a) b := by
    obtain ⟨x1, x2, x3, x4⟩ := r1
    refine ⟨x1, x2, ?_, ?_⟩ <;> unfold Dcm.mag <;> split <;> omega
  have CS := Lib.hid fun w => size_bel a w (by have := r1.2.2; omega) (by have := r1.2.2; omega)
  have CX := Lib.hid fun w => rdect_any (Dcm.mag a) b w okm
  have CC := Lib.hid fun w => cut_any (Byt.decText (Dcm.mag a) b) [46] w (by simp) (by have := Byt.dec_len (Dcm.mag a) b okm; omega) (by simp)
  have hsp : Lib.split (Byt.decText (Dcm.mag a) b) [46] = if b ≤ 0 then [Nt.wh a b] else [Nt.wh a b, Nt.bh a b] := by
    rw [Nt.split_text, Nt.mag_sgn, List.nil_append, Nt.wh_abs (Nt.mag_abs a), Nt.bh_abs (Nt.mag_abs a)]
  rw [hsp] at CC
  have hb0 : b ≤ 0 → Nt.bh a b = [] := Nt.bh_zero
  have lw := Nt.wh_len a b r1
  have lb := Nt.bh_len a b
  have hPD : List.replicate (mi.toNat - (Nt.wh a b).length) 48 ++ Nt.wh a b = Nt.pad mi a b := rfl
  have hFR : Nt.bh a b ++ List.replicate (nf.toNat - (Nt.bh a b).length) 48 = Nt.fr nf a b := rfl
  have r9 : b ≤ 9 := r1.2.1
  have r0 : 0 ≤ b := r1.1
  have lpd : (Nt.pad mi a b).length ≤ 200 := by rw [← hPD, List.length_append, List.length_replicate]; omega
  have lfr : (Nt.fr nf a b).length ≤ 200 := by rw [← hFR, List.length_append, List.length_replicate]; omega
  have CG := Lib.hid fun w => rgr_bel (Nt.pad mi a b) g g2 cm w (by omega) ⟨by omega, by omega, by omega, by omega⟩
  have lgo := gout_len (Nt.pad mi a b) g g2 cm
  have hm : (a < 0 ∧ Byt.sgn a = [45]) ∨ (¬ a < 0 ∧ Byt.sgn a = []) := by
    by_cases h0 : a < 0
    · exact .inl ⟨h0, if_pos h0⟩
    · exact .inr ⟨h0, if_neg h0⟩
  clear hsp okm hp
  generalize Byt.decText (Dcm.mag a) b = X at *
  generalize Nt.pad mi a b = PD at *
  generalize Nt.fr nf a b = FR at *
  generalize gout PD g g2 cm = GO at *
  generalize Nt.wh a b = WH at *
  generalize Nt.bh a b = BH at *
  obtain ⟨L, hL⟩ : ∃ L : List (List UInt8), L = if b ≤ 0 then [WH] else [WH, BH] := ⟨_, rfl⟩
  rw [← hL] at CC
  have HL0 := Lib.hid (show L[0]? = some WH from by rw [hL]; split <;> rfl)
  have HL1 := Lib.hid (show L.length = 2 ∧ L[1]? = some BH ∨ L.length = 1 ∧ BH = [] from by
    rw [hL]; split
    · rename_i h; exact .inr ⟨rfl, hb0 h⟩
    · exact .inl ⟨rfl, rfl⟩)
  clear hL hb0
  obtain ⟨n1, hn1⟩ : ∃ n, n = nf.toNat - BH.length := ⟨_, rfl⟩
  obtain ⟨n2, hn2⟩ : ∃ n, n = mi.toNat - WH.length := ⟨_, rfl⟩
  rw [← hn1] at hFR
  rw [← hn2] at hPD
  obtain ⟨TL, hTL⟩ : ∃ TL, TL = Nt.tail pt FR := ⟨_, rfl⟩
  rw [← hTL]
  have lTL : TL.length ≤ 201 := by rw [hTL]; unfold Nt.tail; split <;> simp; omega
  obtain ⟨Z0, hZ0⟩ : ∃ Z0, Z0 = pre ++ GO := ⟨_, rfl⟩
  obtain ⟨Z1, hZ1⟩ : ∃ Z1, Z1 = Z0 ++ TL := ⟨_, rfl⟩
  obtain ⟨Z2, hZ2⟩ : ∃ Z2, Z2 = Z1 ++ suf := ⟨_, rfl⟩
  have hall : pre ++ (GO ++ TL) ++ suf = Z2 := by rw [hZ2, hZ1, hZ0]; simp
  rw [hall]
  have lZ0 : Z0.length ≤ 1000000401 := by rw [hZ0, List.length_append]; omega
  have lZ1 : Z1.length ≤ 1000000701 := by rw [hZ1, List.length_append]; omega
  have lZ2 : Z2.length ≤ 2000000801 := by rw [hZ2, List.length_append]; omega
  have A1 := Lib.hid (show ∀ w, (Op.stringOp .add ⟨pre.toArray⟩ ⟨GO.toArray⟩).run Tryz.prog w = .ok (.string ⟨Z0.toArray⟩) w from fun w => by rw [hZ0]; exact add_str (P := Tryz.prog) pre GO (by omega) w)
  have A2 := Lib.hid fun (hf : FR ≠ []) => (show ∃ Zm : List UInt8, (∀ w, (Op.stringOp .add ⟨Z0.toArray⟩ ⟨[pt].toArray⟩).run Tryz.prog w = .ok (.string ⟨Zm.toArray⟩) w) ∧ (∀ w, (Op.stringOp .add ⟨Zm.toArray⟩ ⟨FR.toArray⟩).run Tryz.prog w = .ok (.string ⟨Z1.toArray⟩) w) from by
    have e : Z1 = (Z0 ++ [pt]) ++ FR := by rw [hZ1, hTL]; unfold Nt.tail; rw [if_neg hf]; simp
    exact ⟨Z0 ++ [pt], fun w => add_str (P := Tryz.prog) Z0 [pt] (by simp; omega) w, fun w => by rw [e]; exact add_str (P := Tryz.prog) (Z0 ++ [pt]) FR (by simp; omega) w⟩)
  have N2 := Lib.hid (show FR = [] → Z1 = Z0 from fun h => by rw [hZ1, hTL, h]; unfold Nt.tail; simp)
  have A3 := Lib.hid (And.intro (show ∀ w, (Op.stringOp .add ⟨Z1.toArray⟩ ⟨suf.toArray⟩).run Tryz.prog w = .ok (.string ⟨Z2.toArray⟩) w from fun w => by rw [hZ2]; exact add_str (P := Tryz.prog) Z1 suf (by omega) w) (show ∀ w, (Op.stringOp .add ⟨#[45]⟩ ⟨Z2.toArray⟩).run Tryz.prog w = .ok (.string ⟨([45] ++ Z2).toArray⟩) w from fun w => add_str (P := Tryz.prog) [45] Z2 (by simp; omega) w))
  have B1 := Lib.hid fun (k : Nat) (hk : k ≤ 100) => (show ∀ w, (Op.stringOp .add ⟨#[48]⟩ ⟨(List.replicate k (48 : UInt8) ++ WH).toArray⟩).run Tryz.prog w = .ok (.string ⟨(List.replicate (k + 1) (48 : UInt8) ++ WH).toArray⟩) w from fun w => by
    rw [List.replicate_succ]
    exact add_str (P := Tryz.prog) [48] (List.replicate k 48 ++ WH) (by simp; omega) w)
  have B2 := Lib.hid fun (k : Nat) (hk : k ≤ 100) => (show ∀ w, (Op.stringOp .add ⟨(BH ++ List.replicate k (48 : UInt8)).toArray⟩ ⟨#[48]⟩).run Tryz.prog w = .ok (.string ⟨(BH ++ List.replicate (k + 1) (48 : UInt8)).toArray⟩) w from fun w => by
    rw [List.replicate_succ', ← List.append_assoc]
    exact add_str (P := Tryz.prog) (BH ++ List.replicate k 48) [48] (by simp; omega) w)
  have L1 := Lib.hid fun (k : Nat) => (show (List.replicate k (48 : UInt8) ++ WH).length = k + WH.length by simp)
  have L2 := Lib.hid fun (k : Nat) => (show (BH ++ List.replicate k (48 : UInt8)).length = BH.length + k by simp)
  have Hm := Lib.hid hm
  have HPD := Lib.hid hPD
  have HFR := Lib.hid hFR
  have mi9 : mi ≤ 9 := ps.2.1
  have nf9 : nf ≤ 9 := by omega
  have lbh : BH.length ≤ 9 := by omega
  clear hZ0 hZ1 hZ2 hTL lZ0 lZ1 lZ2 lTL hall hPD hFR hm lpd lfr lgo h1 h2 ps lb
  generalize Byt.sgn a = SG at *
  have X0 := Lib.hid (Bx.made w #[.string ⟨pre.toArray⟩, .string ⟨suf.toArray⟩, .int .i64 mi, .int .i64 nf, .int .i64 mf, .int .i64 g, .int .i64 g2] #[.int .u8 (pt.toNat : Int), .int .u8 (cm.toNat : Int)] (.int .i64 c) (.int .i64 s) 69 71 37)
  clear hd
  go_enter Tryz.func40, Tryz.ntmps40
  go_wp2_with fail
  refine (CT1.out _).mono ?_
  rintro e w1 ⟨rfl, hb⟩
  have X1 := Lib.hid (X0.out.below hb)
  clear hb X0 CT1
  have cp0 := X1.out.p.cell 0 _ rfl
  have cp1 := X1.out.p.cell 1 _ rfl
  have cp2 := X1.out.p.cell 2 _ rfl
  have cp3 := X1.out.p.cell 3 _ rfl
  have cp4 := X1.out.p.cell 4 _ rfl
  have cp5 := X1.out.p.cell 5 _ rfl
  have cp6 := X1.out.p.cell 6 _ rfl
  have cy0 := X1.out.y.cell 0 _ rfl
  have cy1 := X1.out.y.cell 1 _ rfl
  have cd0 := X1.out.d.cell 0 _ rfl
  have cd1 := X1.out.d.cell 1 _ rfl
  have cf0 := X1.out.d.free 0 (by simp)
  have cf1 := X1.out.d.free 1 (by simp)
  have clp := X1.out.p.lt
  have cly := X1.out.y.lt
  have cld := X1.out.d.lt
  have X4 := Lib.hid (X1.out.store (.int .i64 tc) (.int .i64 ts))
  go_upto_if 19 with fail
  go_cut [] from 7 (fun wx => Hid (Bx w #[.string ⟨pre.toArray⟩, .string ⟨suf.toArray⟩, .int .i64 mi, .int .i64 nf, .int .i64 mf, .int .i64 g, .int .i64 g2] #[.int .u8 (pt.toNat : Int), .int .u8 (cm.toNat : Int)] (.int .i64 a) (.int .i64 b) wx))
  case first =>
    generalize (w1.setCell ⟨w.heap.size + 2, 0, none⟩ (.int .i64 tc)).setCell ⟨w.heap.size + 2, 1, none⟩ (.int .i64 ts) = w4 at *
    clear cp0 cp1 cp2 cp3 cp4 cp5 cp6 cy0 cy1 cd0 cd1 cf0 cf1 clp cly cld
    have cp0 := X4.out.p.cell 0 _ rfl
    have cp1 := X4.out.p.cell 1 _ rfl
    have cp2 := X4.out.p.cell 2 _ rfl
    have cp3 := X4.out.p.cell 3 _ rfl
    have cp4 := X4.out.p.cell 4 _ rfl
    have cp5 := X4.out.p.cell 5 _ rfl
    have cp6 := X4.out.p.cell 6 _ rfl
    have cy0 := X4.out.y.cell 0 _ rfl
    have cy1 := X4.out.y.cell 1 _ rfl
    have cd0 := X4.out.d.cell 0 _ rfl
    have cd1 := X4.out.d.cell 1 _ rfl
    have cf0 := X4.out.d.free 0 (by simp)
    have cf1 := X4.out.d.free 1 (by simp)
    have clp := X4.out.p.lt
    have cly := X4.out.y.lt
    have cld := X4.out.d.lt
    clear X1
    by_cases hlt : mf < ts
    · have d0 : decide (mf < ts) = true := dec_yes hlt
      rw [d0]
      have hr := HR.out
      rw [if_pos hlt] at hr
      obtain ⟨ro, CRw⟩ := CR.out hlt
      have CRh := Lib.hid CRw
      have CT2 := Lib.hid fun w => rtrimmed_any _ _ w ro
      rw [← hr] at CT2
      simp only at CT2
      clear hr HR CR CRw ro hlt
      generalize Dcm.rndC tc ts mf 5 = RC at *
      go_wp2_with fail
      refine (CRh.out _).mono ?_
      rintro e w5 ⟨rfl, hb⟩
      have X5 := Lib.hid (X4.out.below hb)
      clear hb X4 CRh
      clear cp0 cp1 cp2 cp3 cp4 cp5 cp6 cy0 cy1 cd0 cd1 cf0 cf1 clp cly cld
      have cp0 := X5.out.p.cell 0 _ rfl
      have cp1 := X5.out.p.cell 1 _ rfl
      have cp2 := X5.out.p.cell 2 _ rfl
      have cp3 := X5.out.p.cell 3 _ rfl
      have cp4 := X5.out.p.cell 4 _ rfl
      have cp5 := X5.out.p.cell 5 _ rfl
      have cp6 := X5.out.p.cell 6 _ rfl
      have cy0 := X5.out.y.cell 0 _ rfl
      have cy1 := X5.out.y.cell 1 _ rfl
      have cd0 := X5.out.d.cell 0 _ rfl
      have cd1 := X5.out.d.cell 1 _ rfl
      have cf0 := X5.out.d.free 0 (by simp)
      have cf1 := X5.out.d.free 1 (by simp)
      have clp := X5.out.p.lt
      have cly := X5.out.y.lt
      have cld := X5.out.d.lt
      have X6 := Lib.hid (X5.out.alloc (.cells #[.int .i64 RC, .int .i64 mf] 37))
      clear X5
      clear cp0 cp1 cp2 cp3 cp4 cp5 cp6 cy0 cy1 cd0 cd1 cf0 cf1 clp cly cld
      have cp0 := X6.out.p.cell 0 _ rfl
      have cp1 := X6.out.p.cell 1 _ rfl
      have cp2 := X6.out.p.cell 2 _ rfl
      have cp3 := X6.out.p.cell 3 _ rfl
      have cp4 := X6.out.p.cell 4 _ rfl
      have cp5 := X6.out.p.cell 5 _ rfl
      have cp6 := X6.out.p.cell 6 _ rfl
      have cy0 := X6.out.y.cell 0 _ rfl
      have cy1 := X6.out.y.cell 1 _ rfl
      have cd0 := X6.out.d.cell 0 _ rfl
      have cd1 := X6.out.d.cell 1 _ rfl
      have cf0 := X6.out.d.free 0 (by simp)
      have cf1 := X6.out.d.free 1 (by simp)
      have clp := X6.out.p.lt
      have cly := X6.out.y.lt
      have cld := X6.out.d.lt
      go_wp2_with fail
      refine (CT2.out _).mono ?_
      rintro e w7 ⟨rfl, hb⟩
      have X7 := Lib.hid (X6.out.below hb)
      clear hb X6 CT2
      clear cp0 cp1 cp2 cp3 cp4 cp5 cp6 cy0 cy1 cd0 cd1 cf0 cf1 clp cly cld
      have cp0 := X7.out.p.cell 0 _ rfl
      have cp1 := X7.out.p.cell 1 _ rfl
      have cp2 := X7.out.p.cell 2 _ rfl
      have cp3 := X7.out.p.cell 3 _ rfl
      have cp4 := X7.out.p.cell 4 _ rfl
      have cp5 := X7.out.p.cell 5 _ rfl
      have cp6 := X7.out.p.cell 6 _ rfl
      have cy0 := X7.out.y.cell 0 _ rfl
      have cy1 := X7.out.y.cell 1 _ rfl
      have cd0 := X7.out.d.cell 0 _ rfl
      have cd1 := X7.out.d.cell 1 _ rfl
      have cf0 := X7.out.d.free 0 (by simp)
      have cf1 := X7.out.d.free 1 (by simp)
      have clp := X7.out.p.lt
      have cly := X7.out.y.lt
      have cld := X7.out.d.lt
      have X8 := Lib.hid (X7.out.store (.int .i64 a) (.int .i64 b))
      go_wp2_with fail
      go_meet
      exact X8
    · have d0 : decide (mf < ts) = false := dec_no hlt
      rw [d0]
      have hr := HR.out
      rw [if_neg hlt] at hr
      obtain ⟨rfl, rfl⟩ := Prod.mk.inj hr
      go_wp2_with fail
      go_meet
      exact X4
  case rest =>
    have X9 := hcut
    clear hcut X4 X1 CR HR t1 t2 t3
    try clear cp0 cp1 cp2 cp3 cp4 cp5 cp6 cy0 cy1 cd0 cd1 cf0 cf1 clp cly cld
    have cd0 := X9.out.d.cell 0 _ rfl
    have cd1 := X9.out.d.cell 1 _ rfl
    have cld := X9.out.d.lt
    go_wp2_with fail
    refine wp_region_held_drew (S := fun w' => w'.cell? ⟨w.heap.size + 2, 0, none⟩ = some (.int .i64 a) ∧ w'.cell? ⟨w.heap.size + 2, 1, none⟩ = some (.int .i64 b) ∧ Hid (Bx w #[.string ⟨pre.toArray⟩, .string ⟨suf.toArray⟩, .int .i64 mi, .int .i64 nf, .int .i64 mf, .int .i64 g, .int .i64 g2] #[.int .u8 (pt.toNat : Int), .int .u8 (cm.toNat : Int)] (.int .i64 a) (.int .i64 b) w') ∧ Hid (Below w.heap.size w w')) (by kernel_rfl) (⟨cd0, cd1, Lib.hid X9.out.drew, Lib.hid X9.out.drew.b⟩) (fun hHeld => ?_)
    refine take_run (d := (some 29)) (v := ?v1) 0 rfl rfl (by kernel_rfl) (by kernel_rfl) (by kernel_rfl) (fun _ _ _ h => h) (by rfl) hHeld ?hy1 ?rs1
    case hy1 => (intro w hSw; (try dsimp only at hSw); go_simp) <;> (try with_reducible rfl)
    (try simp only [Act.put, List.setIfInBounds_toArray, List.set_cons_zero, List.set_cons_succ])
    refine take_run (d := (some 30)) (v := ?v2) 1 rfl rfl (by kernel_rfl) (by kernel_rfl) (by kernel_rfl) (fun _ _ _ h => h) (by rfl) hHeld ?hy2 ?rs2
    case hy2 => (intro w hSw; (try dsimp only at hSw); go_simp) <;> (try with_reducible rfl)
    (try simp only [Act.put, List.setIfInBounds_toArray, List.set_cons_zero, List.set_cons_succ])
    refine take_run (d := (some 32)) (v := ?v3) 3 rfl rfl (by kernel_rfl) (by kernel_rfl) (by kernel_rfl) (fun _ _ _ h => h) (by rfl) hHeld ?hy3 ?rs3
    case hy3 => (intro w hSw; (try dsimp only at hSw); go_simp) <;> (try with_reducible rfl)
    (try simp only [Act.put, List.setIfInBounds_toArray, List.set_cons_zero, List.set_cons_succ])
    refine take_run (d := (some 33)) (v := ?v4) 4 rfl rfl (by kernel_rfl) (by kernel_rfl) (by kernel_rfl) (fun _ _ _ h => h) (by rfl) hHeld ?hy4 ?rs4
    case hy4 => (intro w hSw; (try dsimp only at hSw); go_simp) <;> (try with_reducible rfl)
    (try simp only [Act.put, List.setIfInBounds_toArray, List.set_cons_zero, List.set_cons_succ])
    refine take_call 2 rfl (by kernel_rfl) (by rfl) (fun K hK => ?_)
    go_simp
    refine (CS.out _).mono ?_
    rintro e w' ⟨rfl, hb⟩
    refine hK.out _ _ (by obtain ⟨h0, h1, h2, hw⟩ := hHeld; exact ⟨cell_keep h0 hb, cell_keep h1 hb, Lib.hid (h2.out.below hb), Lib.hid (blw_trans hw.out hb)⟩) (fun hHeld => ?_)
    clear hK K
    (try simp only [Act.put, List.setIfInBounds_toArray, List.set_cons_zero, List.set_cons_succ])
    refine take_run (d := (some 34)) (v := ?v6) 5 rfl rfl (by kernel_rfl) (by kernel_rfl) (by kernel_rfl) (fun _ _ _ h => h) (by rfl) hHeld ?hy6 ?rs6
    case hy6 => (intro w hSw; (try dsimp only at hSw); go_simp) <;> (try with_reducible rfl)
    (try simp only [Act.put, List.setIfInBounds_toArray, List.set_cons_zero, List.set_cons_succ])
    refine take_call 6 rfl (by kernel_rfl) (by rfl) (fun K hK => ?_)
    go_simp
    refine (CX.out _).mono ?_
    rintro e w' ⟨rfl, hb⟩
    refine hK.out _ _ (by obtain ⟨h0, h1, h2, hw⟩ := hHeld; exact ⟨cell_keep h0 hb, cell_keep h1 hb, Lib.hid (h2.out.below hb), Lib.hid (blw_trans hw.out hb)⟩) (fun hHeld => ?_)
    clear hK K
    (try simp only [Act.put, List.setIfInBounds_toArray, List.set_cons_zero, List.set_cons_succ])
    refine take_call 7 rfl (by kernel_rfl) (by rfl) (fun K hK => ?_)
    go_simp
    refine (CC.out _).mono ?_
    rintro e w' ⟨v, rfl, hst, hb⟩
    refine hK.out _ _ (by obtain ⟨h0, h1, h2, hw⟩ := hHeld; exact ⟨cell_keep h0 hb, cell_keep h1 hb, Lib.hid (h2.out.below hb), Lib.hid (blw_trans hw.out hb)⟩) (fun hHeld => ?_)
    clear hK K
    (try simp only [Act.put, List.setIfInBounds_toArray, List.set_cons_zero, List.set_cons_succ])
    refine take_run (d := (some 9)) (v := ?v9) 8 rfl rfl (by kernel_rfl) (by kernel_rfl) (by kernel_rfl) (fun _ _ _ h => h) (by rfl) hHeld ?hy9 ?rs9
    case hy9 => (intro w hSw; (try dsimp only at hSw); go_simp) <;> (try with_reducible rfl)
    (try simp only [Act.put, List.setIfInBounds_toArray, List.set_cons_zero, List.set_cons_succ])
    refine wpAnyH_done (by kernel_rfl) ?_ _
    obtain ⟨z0, z1, z2, zW⟩ := hHeld
    clear X9 cd0 cd1 cld CS CX CC z0 z1 zW hb
    obtain ⟨bb, off, cap, rfl, hc1, hc2, hbb⟩ := nstrs_open hst (by rcases HL1.out with h | h <;> omega)
    unfold maxLen at hc2
    have ca := nstrs_cell hst 0 WH HL0.out
    rw [Nat.add_zero] at ca
    have cb1 := Lib.hid fun h => nstrs_cell hst 1 BH h
    have lL : 0 < L.length := by rcases HL1.out with h | h <;> omega
    clear hst HL0
    have X10 := z2
    clear z2
    have cp0 := X10.out.p.cell 0 _ rfl
    have cp1 := X10.out.p.cell 1 _ rfl
    have cp2 := X10.out.p.cell 2 _ rfl
    have cp3 := X10.out.p.cell 3 _ rfl
    have cp4 := X10.out.p.cell 4 _ rfl
    have cp5 := X10.out.p.cell 5 _ rfl
    have cp6 := X10.out.p.cell 6 _ rfl
    have cy0 := X10.out.y.cell 0 _ rfl
    have cy1 := X10.out.y.cell 1 _ rfl
    have cd0 := X10.out.d.cell 0 _ rfl
    have cd1 := X10.out.d.cell 1 _ rfl
    have clp := X10.out.p.lt
    have cly := X10.out.y.lt
    have cld := X10.out.d.lt
    generalize hwl : w' = wl at *
    clear hwl
    generalize hLn : L.length = Ln at *
    go_wp2_with fail
    go_loopw [10] (fun v wr => ∃ k : Nat, v = .string ⟨(List.replicate k (48 : UInt8) ++ WH).toArray⟩ ∧ k ≤ n2 ∧ wl = wr) (fun v _ => mi.toNat - strLen v)
    case atStart => exact ⟨0, rfl, Nat.zero_le _, rfl⟩
    case round =>
      obtain ⟨k, rfl, hk, rfl⟩ := hrel
      have lk := L1.out k
      have bk := B1.out k (by omega)
      have sk := L1.out (k + 1)
      by_cases hlt : ((k + WH.length : Nat) : Int) < mi
      · generalize List.replicate k (48 : UInt8) ++ WH = V at *
        have hlt' : (V.length : Int) < mi := by omega
        obtain ⟨V', hV'⟩ : ∃ V', V' = List.replicate (k + 1) (48 : UInt8) ++ WH := ⟨_, rfl⟩
        rw [← hV'] at bk sk
        have HV := Lib.hid hV'
        clear hV'
        go_wp2_with fail
        go_roundw
        case rel => exact ⟨k + 1, by rw [HV.out], by omega, by first | rfl | trivial⟩
        case measure => simp only [strLen_mk]; omega
      · have ek : k = n2 := by omega
        subst ek
        rw [HPD.out] at lk ⊢
        clear bk sk
        have hge : ¬ (PD.length : Int) < mi := by omega
        clear hlt
        go_upto_if 49 with fail
        go_cut [11] from 49 (fun sv wx => sv = .string ⟨BH.toArray⟩ ∧ wl = wx)
        case first =>
          rcases HL1.out with ⟨h, h'⟩ | ⟨h, h'⟩
          · have cb := cb1.out h'
            have hln : Ln = 2 := by omega
            subst hln
            go_wp2_with fail
            go_meet
            exact ⟨rfl, rfl⟩
          · have hln : Ln = 1 := by omega
            subst hln
            subst h'
            go_wp2_with fail
            go_meet
            exact ⟨rfl, rfl⟩
        case rest =>
          obtain ⟨rfl, rfl⟩ := hcut
          clear HL1 cb1 ca
          go_wp2_with fail
          go_loopw [11] (fun v wr => ∃ k : Nat, v = .string ⟨(BH ++ List.replicate k (48 : UInt8)).toArray⟩ ∧ k ≤ n1 ∧ wl = wr) (fun v _ => nf.toNat - strLen v)
          case atStart => exact ⟨0, by simp, Nat.zero_le _, rfl⟩
          case round =>
            obtain ⟨k, rfl, hk, rfl⟩ := hrel
            have lk2 := L2.out k
            have bk := B2.out k (by omega)
            have sk := L2.out (k + 1)
            by_cases hlt : ((BH.length + k : Nat) : Int) < nf
            · generalize BH ++ List.replicate k (48 : UInt8) = V at *
              have hlt' : (V.length : Int) < nf := by omega
              obtain ⟨V', hV'⟩ : ∃ V', V' = BH ++ List.replicate (k + 1) (48 : UInt8) := ⟨_, rfl⟩
              rw [← hV'] at bk sk
              have HV := Lib.hid hV'
              clear hV'
              go_wp2_with fail
              go_roundw
              case rel => exact ⟨k + 1, by rw [HV.out], by omega, by first | rfl | trivial⟩
              case measure => simp only [strLen_mk]; omega
            · have ek : k = n1 := by omega
              subst ek
              rw [HFR.out] at lk2 ⊢
              clear bk sk
              have hge2 : ¬ (FR.length : Int) < nf := by omega
              clear hlt
              have a1 := A1.out
              have CV : (convert 140 9 (.slice (some ⟨wl.heap.size, 0, none⟩) 1 1)).run Tryz.prog ((wl.alloc (.cells #[.int .u8 (cm.toNat : Int)] 5)).drew) = .ok (.string ⟨#[cm]⟩) ((wl.alloc (.cells #[.int .u8 (cm.toNat : Int)] 5)).drew) := conv_by cm wl.drew
              go_wp2_with fail
              refine wp_region_held_drew (S := fun w' => w'.cell? ⟨w.heap.size, 0, none⟩ = some (.string ⟨pre.toArray⟩) ∧ w'.cell? ⟨w.heap.size, 5, none⟩ = some (.int .i64 g) ∧ w'.cell? ⟨w.heap.size, 6, none⟩ = some (.int .i64 g2) ∧ w'.cell? ⟨w.heap.size + 1, 1, none⟩ = some (.int .u8 (cm.toNat : Int)) ∧ Hid (Bx w #[.string ⟨pre.toArray⟩, .string ⟨suf.toArray⟩, .int .i64 mi, .int .i64 nf, .int .i64 mf, .int .i64 g, .int .i64 g2] #[.int .u8 (pt.toNat : Int), .int .u8 (cm.toNat : Int)] (.int .i64 a) (.int .i64 b) w') ∧ Hid (Below w.heap.size w w')) (by kernel_rfl) (⟨cp0, cp5, cp6, cy1, Lib.hid X10.out.drew, Lib.hid X10.out.drew.b⟩) (fun hHeld => ?_)
              refine take_run (d := (some 60)) (v := ?v10) 0 rfl rfl (by kernel_rfl) (by kernel_rfl) (by kernel_rfl) (fun _ _ _ h => h) (by rfl) hHeld ?hy10 ?rs10
              case hy10 => (intro w hSw; (try dsimp only at hSw); go_simp) <;> (try with_reducible rfl)
              (try simp only [Act.put, List.setIfInBounds_toArray, List.set_cons_zero, List.set_cons_succ])
              refine take_run (d := (some 61)) (v := ?v11) 1 rfl rfl (by kernel_rfl) (by kernel_rfl) (by kernel_rfl) (fun _ _ _ h => h) (by rfl) hHeld ?hy11 ?rs11
              case hy11 => (intro w hSw; (try dsimp only at hSw); go_simp) <;> (try with_reducible rfl)
              (try simp only [Act.put, List.setIfInBounds_toArray, List.set_cons_zero, List.set_cons_succ])
              refine take_run (d := (some 62)) (v := ?v12) 2 rfl rfl (by kernel_rfl) (by kernel_rfl) (by kernel_rfl) (fun _ _ _ h => h) (by rfl) hHeld ?hy12 ?rs12
              case hy12 => (intro w hSw; (try dsimp only at hSw); go_simp) <;> (try with_reducible rfl)
              (try simp only [Act.put, List.setIfInBounds_toArray, List.set_cons_zero, List.set_cons_succ])
              refine take_run (d := (some 63)) (v := ?v13) 3 rfl rfl (by kernel_rfl) (by kernel_rfl) (by kernel_rfl) (fun _ _ _ h => h) (by rfl) hHeld ?hy13 ?rs13
              case hy13 => (intro w hSw; (try dsimp only at hSw); go_simp) <;> (try with_reducible rfl)
              (try simp only [Act.put, List.setIfInBounds_toArray, List.set_cons_zero, List.set_cons_succ])
              refine take_run (d := (some 64)) (v := ?v14) 4 rfl rfl (by kernel_rfl) (by kernel_rfl) (by kernel_rfl) (fun _ _ _ h => h) (by rfl) hHeld ?hy14 ?rs14
              case hy14 => (intro w hSw; (try dsimp only at hSw); go_simp) <;> (try with_reducible rfl)
              (try simp only [Act.put, List.setIfInBounds_toArray, List.set_cons_zero, List.set_cons_succ])
              refine take_run (d := (some 65)) (v := ?v15) 5 rfl rfl (by kernel_rfl) (by kernel_rfl) (by kernel_rfl) (fun _ _ _ h => h) (by rfl) hHeld ?hy15 ?rs15
              case hy15 => (intro w hSw; (try dsimp only at hSw); go_simp) <;> (try with_reducible rfl)
              (try simp only [Act.put, List.setIfInBounds_toArray, List.set_cons_zero, List.set_cons_succ])
              refine take_run (d := (some 66)) (v := ?v16) 6 rfl rfl (by kernel_rfl) (by kernel_rfl) (by kernel_rfl) (fun _ _ _ h => h) (by rfl) hHeld ?hy16 ?rs16
              case hy16 => (intro w hSw; (try dsimp only at hSw); go_simp) <;> (try with_reducible rfl)
              (try simp only [Act.put, List.setIfInBounds_toArray, List.set_cons_zero, List.set_cons_succ])
              refine take_run (d := (some 67)) (v := ?v17) 7 rfl rfl (by kernel_rfl) (by kernel_rfl) (by kernel_rfl) (fun _ _ _ h => h) (by rfl) hHeld ?hy17 ?rs17
              case hy17 => (intro w hSw; (try dsimp only at hSw); go_simp) <;> (try with_reducible rfl)
              (try simp only [Act.put, List.setIfInBounds_toArray, List.set_cons_zero, List.set_cons_succ])
              refine take_run (d := (some 68)) (v := ?v18) 8 rfl rfl (by kernel_rfl) (by kernel_rfl) (by kernel_rfl) (fun _ _ _ h => h) (by rfl) hHeld ?hy18 ?rs18
              case hy18 => (intro w hSw; (try dsimp only at hSw); go_simp) <;> (try with_reducible rfl)
              (try simp only [Act.put, List.setIfInBounds_toArray, List.set_cons_zero, List.set_cons_succ])
              refine take_call 9 rfl (by kernel_rfl) (by rfl) (fun K hK => ?_)
              go_simp
              have hHeld0 := hHeld
              obtain ⟨h0, h1, h2, h3, h4, hw⟩ := hHeld
              refine hK.out _ _ (by exact ⟨cell_keep h0 (blw_alloc _ _), cell_keep h1 (blw_alloc _ _), cell_keep h2 (blw_alloc _ _), cell_keep h3 (blw_alloc _ _), Lib.hid (h4.out.below (blw_alloc _ _)), Lib.hid (blw_trans hw.out (blw_alloc _ _))⟩) (fun hHeld => ?_)
              clear hK K h0 h1 h2 h3 h4 hw
              (try simp only [Act.put, List.setIfInBounds_toArray, List.set_cons_zero, List.set_cons_succ])
              refine take_call 10 rfl (by kernel_rfl) (by rfl) (fun K hK => ?_)
              go_simp
              refine hK.out _ _ hHeld (fun hHeld => ?_)
              clear hK K
              (try simp only [Act.put, List.setIfInBounds_toArray, List.set_cons_zero, List.set_cons_succ])
              refine take_call 11 rfl (by kernel_rfl) (by rfl) (fun K hK => ?_)
              go_simp
              refine (CG.out _).mono ?_
              rintro e w' ⟨rfl, hb⟩
              refine hK.out _ _ (by obtain ⟨h0, h1, h2, h3, h4, hw⟩ := hHeld; exact ⟨cell_keep h0 hb, cell_keep h1 hb, cell_keep h2 hb, cell_keep h3 hb, Lib.hid (h4.out.below hb), Lib.hid (blw_trans hw.out hb)⟩) (fun hHeld => ?_)
              clear hK K
              (try simp only [Act.put, List.setIfInBounds_toArray, List.set_cons_zero, List.set_cons_succ])
              refine take_run (d := (some 72)) (v := ?v22) 12 rfl rfl (by kernel_rfl) (by kernel_rfl) (by kernel_rfl) (fun _ _ _ h => h) (by rfl) hHeld ?hy22 ?rs22
              case hy22 => (intro w hSw; (try dsimp only at hSw); go_simp) <;> (try with_reducible rfl)
              (try simp only [Act.put, List.setIfInBounds_toArray, List.set_cons_zero, List.set_cons_succ])
              refine take_run (d := (some 12)) (v := ?v23) 13 rfl rfl (by kernel_rfl) (by kernel_rfl) (by kernel_rfl) (fun _ _ _ h => h) (by rfl) hHeld ?hy23 ?rs23
              case hy23 => (intro w hSw; (try dsimp only at hSw); go_simp) <;> (try with_reducible rfl)
              (try simp only [Act.put, List.setIfInBounds_toArray, List.set_cons_zero, List.set_cons_succ])
              refine wpAnyH_done (by kernel_rfl) ?_ _
              obtain ⟨z0, z1, z2, z3, z4, zW⟩ := hHeld
              clear z0 z1 z2 z3 zW CV CG a1 X10 cp0 cp1 cp2 cp3 cp4 cp5 cp6 cy0 cy1 cd0 cd1 clp cly cld
              have X11 := z4
              clear z4
              have cp0 := X11.out.p.cell 0 _ rfl
              have cp1 := X11.out.p.cell 1 _ rfl
              have cp2 := X11.out.p.cell 2 _ rfl
              have cp3 := X11.out.p.cell 3 _ rfl
              have cp4 := X11.out.p.cell 4 _ rfl
              have cp5 := X11.out.p.cell 5 _ rfl
              have cp6 := X11.out.p.cell 6 _ rfl
              have cy0 := X11.out.y.cell 0 _ rfl
              have cy1 := X11.out.y.cell 1 _ rfl
              have cd0 := X11.out.d.cell 0 _ rfl
              have cd1 := X11.out.d.cell 1 _ rfl
              have clp := X11.out.p.lt
              have cly := X11.out.y.lt
              have cld := X11.out.d.lt
              go_upto_if 74 with fail
              go_cut [12] from 74 (fun sv wx => sv = .string ⟨Z1.toArray⟩ ∧ Hid (Bx w #[.string ⟨pre.toArray⟩, .string ⟨suf.toArray⟩, .int .i64 mi, .int .i64 nf, .int .i64 mf, .int .i64 g, .int .i64 g2] #[.int .u8 (pt.toNat : Int), .int .u8 (cm.toNat : Int)] (.int .i64 a) (.int .i64 b) wx))
              case first =>
                by_cases hf : FR = []
                · have e1 := N2.out hf
                  subst hf
                  subst e1
                  go_wp2_with fail
                  go_meet
                  exact ⟨rfl, X11⟩
                · have b0 : FR.isEmpty = false := List.isEmpty_eq_false_iff.2 hf
                  simp only [b0, Bool.not_false]
                  obtain ⟨Zm, a2, a3⟩ := A2.out hf
                  have CV := fun w => conv_by pt w
                  go_wp2_with fail
                  go_meet
                  exact ⟨rfl, Lib.hid (X11.out.alloc _)⟩
              case rest =>
                obtain ⟨rfl, X12⟩ := hcut
                clear X11 cp0 cp1 cp2 cp3 cp4 cp5 cp6 cy0 cy1 cd0 cd1 clp cly cld
                have cp0 := X12.out.p.cell 0 _ rfl
                have cp1 := X12.out.p.cell 1 _ rfl
                have cp2 := X12.out.p.cell 2 _ rfl
                have cp3 := X12.out.p.cell 3 _ rfl
                have cp4 := X12.out.p.cell 4 _ rfl
                have cp5 := X12.out.p.cell 5 _ rfl
                have cp6 := X12.out.p.cell 6 _ rfl
                have cy0 := X12.out.y.cell 0 _ rfl
                have cy1 := X12.out.y.cell 1 _ rfl
                have cd0 := X12.out.d.cell 0 _ rfl
                have cd1 := X12.out.d.cell 1 _ rfl
                have clp := X12.out.p.lt
                have cly := X12.out.y.lt
                have cld := X12.out.d.lt
                obtain ⟨a3, a4⟩ := A3.out
                rcases Hm.out with ⟨hneg, rfl⟩ | ⟨hneg, rfl⟩
                · have d0 : decide (a < 0) = true := dec_yes (by omega)
                  go_wp2_with fail
                  go_ret
                  exact ⟨rfl, X12.out.b⟩
                · have d0 : decide (a < 0) = false := dec_no (by omega)
                  go_wp2_with fail
                  go_ret
                  exact ⟨rfl, X12.out.b⟩
end Go.Proofs.YtaijjffnamjhiaaGreatDoor
