/- The walk of the law ShortTells: it returns true of whatever numbers. -/
import Derived.Test.YtdannkcacldhmaaDoorShort
import Derived.Test.YtdannkcacldhmaaDoorPH
namespace Go.Proofs.YtdannkcacldhmaaDoor
open Go.RowKit Go.Lib

theorem short_1250 (w : World) (hp : PowW w) : Calls Tryd.prog 14 #[.int .i64 1250] w fun e w' => e = .returned (.tuple #[.string ⟨#[49, 46, 50, 75]⟩, .nilIface]) ∧ Below w.heap.size w w' := by
  have c := short_yes 1250 w hp (by omega) (by omega)
  rw [txt_1250] at c
  exact c

set_option maxRecDepth 100000 in
set_option maxHeartbeats 1000000 in
theorem shortTells_n1 (n u : Int) (w : World) (hT : PH w) (h : n < 0) :
    Calls Tryd.prog 7 #[.int .i64 n, .int .i64 u] w fun e w' => e = .returned (.bool true) ∧ Below w.heap.size w w' := by
  have C0 := Lib.hid fun w (hT : PH w) => short_1250 w hT.p
  have CE0 := Lib.hid fun w (hT : PH w) => sameErr_yes ErrNo.nil w hT.h
  have CE1 := Lib.hid fun w (hT : PH w) => sameErr_yes (ErrNo.no 1) w hT.h
  have C1 := Lib.hid fun w => short_no n w (by omega)
  have C3 := Lib.hid fun w => parts_bad n u w (by omega)
  have t1 : n < 0 := h
  go_enter Tryd.func7, Tryd.ntmps7
  go_wp2_with fail
  refine (C0.out _ (by exact hT)).mono ?_
  rintro e w1 ⟨rfl, hb⟩
  have T1 := hT.below hb
  have W1 := Lib.hid (blw_trans (Below.refl w.heap.size w) hb)
  clear hb 
  go_wp2_with fail
  refine (C1.out _).mono ?_
  rintro e w2 ⟨rfl, hb⟩
  have T2 := T1.below hb
  have W2 := Lib.hid (blw_trans W1.out hb)
  clear hb T1 W1
  go_wp2_with fail
  refine (CE1.out _ (by exact T2)).mono ?_
  rintro e w3 ⟨rfl, hb⟩
  have T3 := T2.below hb
  have W3 := Lib.hid (blw_trans W2.out hb)
  clear hb T2 W2
  go_wp2_with fail
  refine (C3.out _).mono ?_
  rintro e w4 ⟨rfl, hb⟩
  have T4 := T3.below hb
  have W4 := Lib.hid (blw_trans W3.out hb)
  clear hb T3 W3
  go_wp2_with fail
  refine (CE1.out _ (by exact T4)).mono ?_
  rintro e w5 ⟨rfl, hb⟩
  have T5 := T4.below hb
  have W5 := Lib.hid (blw_trans W4.out hb)
  clear hb T4 W4
  clear T5
  go_wp2
  go_ret
  exact ⟨ret_bool (by simp), W5.out⟩

set_option maxRecDepth 100000 in
set_option maxHeartbeats 1000000 in
theorem shortTells_n2 (n u : Int) (w : World) (hT : PH w) (h : 1000000000000000 < n) :
    Calls Tryd.prog 7 #[.int .i64 n, .int .i64 u] w fun e w' => e = .returned (.bool true) ∧ Below w.heap.size w w' := by
  have C0 := Lib.hid fun w (hT : PH w) => short_1250 w hT.p
  have CE0 := Lib.hid fun w (hT : PH w) => sameErr_yes ErrNo.nil w hT.h
  have CE1 := Lib.hid fun w (hT : PH w) => sameErr_yes (ErrNo.no 1) w hT.h
  have C1 := Lib.hid fun w => short_no n w (by omega)
  have C3 := Lib.hid fun w => parts_bad n u w (by omega)
  have t1 : ¬ n < 0 := by omega
  go_enter Tryd.func7, Tryd.ntmps7
  go_wp2_with fail
  refine (C0.out _ (by exact hT)).mono ?_
  rintro e w1 ⟨rfl, hb⟩
  have T1 := hT.below hb
  have W1 := Lib.hid (blw_trans (Below.refl w.heap.size w) hb)
  clear hb 
  go_wp2_with fail
  refine (C1.out _).mono ?_
  rintro e w2 ⟨rfl, hb⟩
  have T2 := T1.below hb
  have W2 := Lib.hid (blw_trans W1.out hb)
  clear hb T1 W1
  go_wp2_with fail
  refine (CE1.out _ (by exact T2)).mono ?_
  rintro e w3 ⟨rfl, hb⟩
  have T3 := T2.below hb
  have W3 := Lib.hid (blw_trans W2.out hb)
  clear hb T2 W2
  go_wp2_with fail
  refine (C3.out _).mono ?_
  rintro e w4 ⟨rfl, hb⟩
  have T4 := T3.below hb
  have W4 := Lib.hid (blw_trans W3.out hb)
  clear hb T3 W3
  go_wp2_with fail
  refine (CE1.out _ (by exact T4)).mono ?_
  rintro e w5 ⟨rfl, hb⟩
  have T5 := T4.below hb
  have W5 := Lib.hid (blw_trans W4.out hb)
  clear hb T4 W4
  clear T5
  go_wp2
  go_ret
  exact ⟨ret_bool (by simp), W5.out⟩

set_option maxRecDepth 100000 in
set_option maxHeartbeats 1000000 in
theorem shortTells_u1 (n u : Int) (w : World) (hT : PH w) (h1 : 0 ≤ n) (h2 : n ≤ 1000000000000000) (h3 : u < 1) :
    Calls Tryd.prog 7 #[.int .i64 n, .int .i64 u] w fun e w' => e = .returned (.bool true) ∧ Below w.heap.size w w' := by
  have C0 := Lib.hid fun w (hT : PH w) => short_1250 w hT.p
  have CE0 := Lib.hid fun w (hT : PH w) => sameErr_yes ErrNo.nil w hT.h
  have CE1 := Lib.hid fun w (hT : PH w) => sameErr_yes (ErrNo.no 1) w hT.h
  have C1 := Lib.hid fun w (hT : PH w) => short_yes n w hT.p (by omega) (by omega)
  have C2 := Lib.hid fun w => shortText_any n w (by omega) (by omega)
  have C3 := Lib.hid fun w => parts_bad n u w (by omega)
  have t1 : ¬ n < 0 := by omega
  have t2 : ¬ 1000000000000000 < n := by omega
  go_enter Tryd.func7, Tryd.ntmps7
  go_wp2_with fail
  refine (C0.out _ (by exact hT)).mono ?_
  rintro e w1 ⟨rfl, hb⟩
  have T1 := hT.below hb
  have W1 := Lib.hid (blw_trans (Below.refl w.heap.size w) hb)
  clear hb 
  go_wp2_with fail
  refine (C2.out _).mono ?_
  rintro e w2 ⟨rfl, hb⟩
  have T2 := T1.below hb
  have W2 := Lib.hid (blw_trans W1.out hb)
  clear hb T1 W1
  go_wp2_with fail
  refine (C1.out _ (by exact T2)).mono ?_
  rintro e w3 ⟨rfl, hb⟩
  have T3 := T2.below hb
  have W3 := Lib.hid (blw_trans W2.out hb)
  clear hb T2 W2
  go_wp2_with fail
  refine (CE0.out _ (by exact T3)).mono ?_
  rintro e w4 ⟨rfl, hb⟩
  have T4 := T3.below hb
  have W4 := Lib.hid (blw_trans W3.out hb)
  clear hb T3 W3
  go_wp2_with fail
  refine (C3.out _).mono ?_
  rintro e w5 ⟨rfl, hb⟩
  have T5 := T4.below hb
  have W5 := Lib.hid (blw_trans W4.out hb)
  clear hb T4 W4
  go_wp2_with fail
  refine (CE1.out _ (by exact T5)).mono ?_
  rintro e w6 ⟨rfl, hb⟩
  have T6 := T5.below hb
  have W6 := Lib.hid (blw_trans W5.out hb)
  clear hb T5 W5
  clear T6
  go_wp2
  go_ret
  exact ⟨ret_bool (by simp), W6.out⟩

set_option maxRecDepth 100000 in
set_option maxHeartbeats 1000000 in
theorem shortTells_u2 (n u : Int) (w : World) (hT : PH w) (h1 : 0 ≤ n) (h2 : n ≤ 1000000000000000) (h3 : 1000000 < u) :
    Calls Tryd.prog 7 #[.int .i64 n, .int .i64 u] w fun e w' => e = .returned (.bool true) ∧ Below w.heap.size w w' := by
  have C0 := Lib.hid fun w (hT : PH w) => short_1250 w hT.p
  have CE0 := Lib.hid fun w (hT : PH w) => sameErr_yes ErrNo.nil w hT.h
  have CE1 := Lib.hid fun w (hT : PH w) => sameErr_yes (ErrNo.no 1) w hT.h
  have C1 := Lib.hid fun w (hT : PH w) => short_yes n w hT.p (by omega) (by omega)
  have C2 := Lib.hid fun w => shortText_any n w (by omega) (by omega)
  have C3 := Lib.hid fun w => parts_bad n u w (by omega)
  have t1 : ¬ n < 0 := by omega
  have t2 : ¬ 1000000000000000 < n := by omega
  have t3 : ¬ u < 1 := by omega
  go_enter Tryd.func7, Tryd.ntmps7
  go_wp2_with fail
  refine (C0.out _ (by exact hT)).mono ?_
  rintro e w1 ⟨rfl, hb⟩
  have T1 := hT.below hb
  have W1 := Lib.hid (blw_trans (Below.refl w.heap.size w) hb)
  clear hb 
  go_wp2_with fail
  refine (C2.out _).mono ?_
  rintro e w2 ⟨rfl, hb⟩
  have T2 := T1.below hb
  have W2 := Lib.hid (blw_trans W1.out hb)
  clear hb T1 W1
  go_wp2_with fail
  refine (C1.out _ (by exact T2)).mono ?_
  rintro e w3 ⟨rfl, hb⟩
  have T3 := T2.below hb
  have W3 := Lib.hid (blw_trans W2.out hb)
  clear hb T2 W2
  go_wp2_with fail
  refine (CE0.out _ (by exact T3)).mono ?_
  rintro e w4 ⟨rfl, hb⟩
  have T4 := T3.below hb
  have W4 := Lib.hid (blw_trans W3.out hb)
  clear hb T3 W3
  go_wp2_with fail
  refine (C3.out _).mono ?_
  rintro e w5 ⟨rfl, hb⟩
  have T5 := T4.below hb
  have W5 := Lib.hid (blw_trans W4.out hb)
  clear hb T4 W4
  go_wp2_with fail
  refine (CE1.out _ (by exact T5)).mono ?_
  rintro e w6 ⟨rfl, hb⟩
  have T6 := T5.below hb
  have W6 := Lib.hid (blw_trans W5.out hb)
  clear hb T5 W5
  clear T6
  go_wp2
  go_ret
  exact ⟨ret_bool (by simp), W6.out⟩

set_option maxRecDepth 100000 in
set_option maxHeartbeats 1000000 in
theorem shortTells_ok (n u : Int) (w : World) (hT : PH w) (h1 : 0 ≤ n) (h2 : n ≤ 1000000000000000) (h3 : 1 ≤ u) (h4 : u ≤ 1000000) :
    Calls Tryd.prog 7 #[.int .i64 n, .int .i64 u] w fun e w' => e = .returned (.bool true) ∧ Below w.heap.size w w' := by
  have C0 := Lib.hid fun w (hT : PH w) => short_1250 w hT.p
  have CE0 := Lib.hid fun w (hT : PH w) => sameErr_yes ErrNo.nil w hT.h
  have CE1 := Lib.hid fun w (hT : PH w) => sameErr_yes (ErrNo.no 1) w hT.h
  have C1 := Lib.hid fun w (hT : PH w) => short_yes n w hT.p (by omega) (by omega)
  have C2 := Lib.hid fun w => shortText_any n w (by omega) (by omega)
  have C3 := Lib.hid fun w => parts_ok n u w (by omega) (by omega) (by omega) (by omega)
  have e0 : (u == 0) = false := beq_no (by omega)
  have e1 : ¬ u = 0 := by omega
  have e2 : IntKind.i64.wrap (n.tdiv u) = n / u := IntWalk.i64_quo _ _ ⟨by omega, by omega, by omega⟩
  have e3 : n.tmod u = n % u := IntWalk.rem_in _ _ (by omega)
  have t1 : ¬ n < 0 := by omega
  have t2 : ¬ 1000000000000000 < n := by omega
  have t3 : ¬ u < 1 := by omega
  have t4 : ¬ 1000000 < u := by omega
  go_enter Tryd.func7, Tryd.ntmps7
  go_wp2_with fail
  refine (C0.out _ (by exact hT)).mono ?_
  rintro e w1 ⟨rfl, hb⟩
  have T1 := hT.below hb
  have W1 := Lib.hid (blw_trans (Below.refl w.heap.size w) hb)
  clear hb 
  go_wp2_with fail
  refine (C2.out _).mono ?_
  rintro e w2 ⟨rfl, hb⟩
  have T2 := T1.below hb
  have W2 := Lib.hid (blw_trans W1.out hb)
  clear hb T1 W1
  go_wp2_with fail
  refine (C1.out _ (by exact T2)).mono ?_
  rintro e w3 ⟨rfl, hb⟩
  have T3 := T2.below hb
  have W3 := Lib.hid (blw_trans W2.out hb)
  clear hb T2 W2
  go_wp2_with fail
  refine (CE0.out _ (by exact T3)).mono ?_
  rintro e w4 ⟨rfl, hb⟩
  have T4 := T3.below hb
  have W4 := Lib.hid (blw_trans W3.out hb)
  clear hb T3 W3
  go_wp2_with fail
  refine (C3.out _).mono ?_
  rintro e w5 ⟨rfl, hb⟩
  have T5 := T4.below hb
  have W5 := Lib.hid (blw_trans W4.out hb)
  clear hb T4 W4
  go_wp2_with fail
  refine (CE0.out _ (by exact T5)).mono ?_
  rintro e w6 ⟨rfl, hb⟩
  have T6 := T5.below hb
  have W6 := Lib.hid (blw_trans W5.out hb)
  clear hb T5 W5
  clear T6
  go_wp2
  go_ret
  exact ⟨ret_bool (by simp), W6.out⟩

theorem shortTells_any (n u : Int) (w : World) (hT : PH w) :
    Calls Tryd.prog 7 #[.int .i64 n, .int .i64 u] w fun e w' => e = .returned (.bool true) ∧ Below w.heap.size w w' := by
  by_cases h1 : n < 0
  · exact shortTells_n1 n u w hT h1
  by_cases h2 : 1000000000000000 < n
  · exact shortTells_n2 n u w hT h2
  by_cases h3 : u < 1
  · exact shortTells_u1 n u w hT (by omega) (by omega) h3
  by_cases h4 : 1000000 < u
  · exact shortTells_u2 n u w hT (by omega) (by omega) h4
  exact shortTells_ok n u w hT (by omega) (by omega) (by omega) (by omega)
end Go.Proofs.YtdannkcacldhmaaDoor
