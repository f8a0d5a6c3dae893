/- The walk of the law RelTells: it returns true of whatever times. -/
import Derived.Test.YthanbfimeolidaaDoorRelT
import Derived.Test.YthanbfimeolidaaDoorPH
namespace Go.Proofs.YthanbfimeolidaaDoor
open Go.RowKit

structure RT (w : World) : Prop where
  u : UnitsW w
  p : PowW w
  h : HanW w
theorem RT.below {w w' : World} (h : RT w) (hb : Below w.heap.size w w') : RT w' := ⟨h.u.below hb, h.p.below hb, h.h.below hb⟩
theorem RT.alloc {w : World} (h : RT w) (o : Obj) : RT (w.alloc o) := h.below (blw_alloc w o)

set_option maxRecDepth 100000 in
set_option maxHeartbeats 1000000 in
theorem relTells_yes (a b : Int) (w : World) (hT : RT w) (h : inFar a b) :
    Calls Tryd.prog 5 #[.int .i64 a, .int .i64 b] w fun e w' => e = .returned (.bool true) ∧ Below w.heap.size w w' := by
  have C0 := Lib.hid fun w (hT : RT w) => relText_fact w hT.u hT.p
  have CE := Lib.hid fun w (hT : RT w) => sameErr_yes ErrNo.nil w hT.h
  have CA := Lib.hid fun w => apart_yes a b w h
  have CO := Lib.hid fun w (hT : RT w) => relOf_yes a b w hT.u h
  have CT := Lib.hid fun w (hT : RT w) => relText_yes a b w hT.u hT.p h
  have sb := size_far a b h
  have qb := Rlt.quot_bd (b - a)
  have bb : Rlt.size (Rlt.quot (b - a)) ≤ 2199023255552 := by
    generalize Rlt.quot (b - a) = q at *
    generalize Rlt.size (b - a) = z at *
    unfold Rlt.size; split <;> omega
  have CG := Lib.hid fun w => rago_any (Rlt.unit (b - a)) (Rlt.quot (b - a)) w bb (Rlt.unit_len _)
  clear sb qb bb h
  generalize Rlt.ago (Rlt.unit (b - a)) (Rlt.quot (b - a)) = G at *
  generalize Rlt.quot (b - a) = q at *
  generalize Rlt.unit (b - a) = u at *
  go_enter Tryd.func5, Tryd.ntmps5
  go_wp2_with fail
  refine (C0.out _ (by exact hT)).mono ?_
  rintro e w1 ⟨rfl, hb⟩
  have T1 := hT.below hb
  have W1 := Lib.hid (blw_trans (Below.refl w.heap.size w) hb)
  clear hb 
  go_wp2_with fail
  refine (CA.out _).mono ?_
  rintro e w' ⟨rfl, rfl⟩
  go_wp2_with fail
  refine (CG.out _).mono ?_
  rintro e w2 ⟨rfl, hb⟩
  have T2 := T1.below hb
  have W2 := Lib.hid (blw_trans W1.out hb)
  clear hb T1 W1
  go_wp2_with fail
  refine (CO.out _ (by exact T2)).mono ?_
  rintro e w3 ⟨rfl, hb⟩
  have T3 := T2.below hb
  have W3 := Lib.hid (blw_trans W2.out hb)
  clear hb T2 W2
  go_wp2_with fail
  refine (CE.out _ (by exact T3)).mono ?_
  rintro e w4 ⟨rfl, hb⟩
  have T4 := T3.below hb
  have W4 := Lib.hid (blw_trans W3.out hb)
  clear hb T3 W3
  go_wp2_with fail
  refine (CT.out _ (by exact T4)).mono ?_
  rintro e w5 ⟨rfl, hb⟩
  have T5 := T4.below hb
  have W5 := Lib.hid (blw_trans W4.out hb)
  clear hb T4 W4
  go_wp2_with fail
  refine (CE.out _ (by exact T5)).mono ?_
  rintro e w6 ⟨rfl, hb⟩
  have T6 := T5.below hb
  have W6 := Lib.hid (blw_trans W5.out hb)
  clear hb T5 W5
  clear T6
  go_wp2
  go_ret
  exact ⟨ret_bool (by simp), W6.out⟩

set_option maxRecDepth 100000 in
set_option maxHeartbeats 1000000 in
theorem relTells_no (a b : Int) (w : World) (hT : RT w) (h : ¬ inFar a b) :
    Calls Tryd.prog 5 #[.int .i64 a, .int .i64 b] w fun e w' => e = .returned (.bool true) ∧ Below w.heap.size w w' := by
  have C0 := Lib.hid fun w (hT : RT w) => relText_fact w hT.u hT.p
  have CE := Lib.hid fun w (hT : RT w) => sameErr_yes (ErrNo.no 1) w hT.h
  have CA := Lib.hid fun w => apart_no a b w h
  have CO := Lib.hid fun w => relOf_no a b w h
  have CT := Lib.hid fun w => relText_no a b w h
  clear h
  go_enter Tryd.func5, Tryd.ntmps5
  go_wp2_with fail
  refine (C0.out _ (by exact hT)).mono ?_
  rintro e w1 ⟨rfl, hb⟩
  have T1 := hT.below hb
  have W1 := Lib.hid (blw_trans (Below.refl w.heap.size w) hb)
  clear hb 
  go_wp2_with fail
  refine (CA.out _).mono ?_
  rintro e w' ⟨rfl, rfl⟩
  go_wp2_with fail
  refine (CO.out _).mono ?_
  rintro e w2 ⟨rfl, hb⟩
  have T2 := T1.below hb
  have W2 := Lib.hid (blw_trans W1.out hb)
  clear hb T1 W1
  go_wp2_with fail
  refine (CE.out _ (by exact T2)).mono ?_
  rintro e w3 ⟨rfl, hb⟩
  have T3 := T2.below hb
  have W3 := Lib.hid (blw_trans W2.out hb)
  clear hb T2 W2
  go_wp2_with fail
  refine (CT.out _).mono ?_
  rintro e w4 ⟨rfl, hb⟩
  have T4 := T3.below hb
  have W4 := Lib.hid (blw_trans W3.out hb)
  clear hb T3 W3
  go_wp2_with fail
  refine (CE.out _ (by exact T4)).mono ?_
  rintro e w5 ⟨rfl, hb⟩
  have T5 := T4.below hb
  have W5 := Lib.hid (blw_trans W4.out hb)
  clear hb T4 W4
  clear T5
  go_wp2
  go_ret
  exact ⟨ret_bool (by simp), W5.out⟩

theorem relTells_any (a b : Int) (w : World) (hT : RT w) :
    Calls Tryd.prog 5 #[.int .i64 a, .int .i64 b] w fun e w' => e = .returned (.bool true) ∧ Below w.heap.size w w' := by
  by_cases h : inFar a b
  · exact relTells_yes a b w hT h
  · exact relTells_no a b w hT h
end Go.Proofs.YthanbfimeolidaaDoor
