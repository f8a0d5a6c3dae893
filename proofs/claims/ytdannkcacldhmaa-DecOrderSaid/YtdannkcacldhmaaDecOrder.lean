/- The walk of the law DecOrder: it returns true of whatever three numbers. -/
import Derived.Test.YtdannkcacldhmaaDecRndE
import Derived.Deep.RegionHeld3
namespace Go.Proofs.Ytdannkcacldhmaa
open Go.RowKit
open Dcm (P10 okD nrm)

theorem long_ok {a s : Int} (h : rndE a s 9 1 = 0) : okD (Dcm.rndC a s 9 1) 9 ∧ nrm (Dcm.rndC a s 9 1) 9 = nrm a s := by
  obtain ⟨ha, _, _, _, _, hr⟩ := rndE_zero.1 h
  obtain ⟨s0, s1, a0, a1⟩ := ha
  have hr := hr s1
  have e : Dcm.rndC a s 9 1 = a * P10 (9 - s) := by unfold Dcm.rndC; rw [if_pos s1]
  rw [e]
  refine ⟨⟨by omega, by omega, ?_, ?_⟩, Dcm.nrm_up a s 9 s0 s1 (by omega)⟩
  · unfold Dcm.mag at hr; split at hr
    · rw [Int.neg_mul] at hr; omega
    · have := Int.mul_nonneg (by omega : 0 ≤ a) (by have := Dcm.P10_pos (9 - s); omega : 0 ≤ P10 (9 - s)); omega
  · unfold Dcm.mag at hr; split at hr
    · have := Int.mul_neg_of_neg_of_pos (by omega : a < 0) (Dcm.P10_pos (9 - s)); omega
    · omega

set_option maxRecDepth 100000 in
set_option maxHeartbeats 4000000 in
theorem order_bad1 (a s b t c r : Int) (w : World) (ha : ¬ okD a s) :
    Calls Try.prog 6 #[.agg #[.int .i64 a, .int .i64 s], .agg #[.int .i64 b, .int .i64 t], .agg #[.int .i64 c, .int .i64 r]] w fun e w' => e = .returned (.bool true) ∧ Below w.heap.size w w' := by
  have C0 := Lib.hid fun w => dchk_no a s w ha
  have CL := Lib.hid fun w => less_bad a s b t w (fun g => ha g.1)
  clear ha
  go_enter Try.func6, Try.ntmps6
  go_wp2_with fail
  refine (half_any _).mono ?_
  rintro e w1 ⟨rfl, hb⟩
  have B1_a := Boxed.below (Boxed.alloc (Boxed.alloc (Boxed.made _ #[.int .i64 a, .int .i64 s] 30) _) _) hb
  have B1_b := Boxed.below (Boxed.alloc (Boxed.made _ #[.int .i64 b, .int .i64 t] 30) _) hb
  have B1_c := Boxed.below (Boxed.made _ #[.int .i64 c, .int .i64 r] 30) hb
  have W1 := Lib.hid (blw_trans (blw_trans (blw_trans (blw_trans (Below.refl w.heap.size w) (blw_alloc _ _)) (blw_alloc _ _)) (blw_alloc _ _)) hb)
  clear hb 
  have ka0 := B1_a.cell 0 _ rfl
  have ka1 := B1_a.cell 1 _ rfl
  have kal := B1_a.lt
  try simp at ka0 ka1 kal
  have kb0 := B1_b.cell 0 _ rfl
  have kb1 := B1_b.cell 1 _ rfl
  have kbl := B1_b.lt
  try simp at kb0 kb1 kbl
  have kc0 := B1_c.cell 0 _ rfl
  have kc1 := B1_c.cell 1 _ rfl
  have kcl := B1_c.lt
  try simp at kc0 kc1 kcl
  go_wp2_with fail
  refine (C0.out _).mono ?_
  rintro e w2 ⟨rfl, hb⟩
  clear ka0 ka1 kal kb0 kb1 kbl kc0 kc1 kcl
  have B2_a := B1_a.below hb
  have B2_b := B1_b.below hb
  have B2_c := B1_c.below hb
  have W2 := Lib.hid (blw_trans W1.out hb)
  clear hb B1_a B1_b B1_c W1
  have ka0 := B2_a.cell 0 _ rfl
  have ka1 := B2_a.cell 1 _ rfl
  have kal := B2_a.lt
  try simp at ka0 ka1 kal
  have kb0 := B2_b.cell 0 _ rfl
  have kb1 := B2_b.cell 1 _ rfl
  have kbl := B2_b.lt
  try simp at kb0 kb1 kbl
  have kc0 := B2_c.cell 0 _ rfl
  have kc1 := B2_c.cell 1 _ rfl
  have kcl := B2_c.lt
  try simp at kc0 kc1 kcl
  go_wp2_with fail
  refine (CL.out _).mono ?_
  rintro e w3 ⟨rfl, hb⟩
  clear ka0 ka1 kal kb0 kb1 kbl kc0 kc1 kcl
  have B3_a := B2_a.below hb
  have B3_b := B2_b.below hb
  have B3_c := B2_c.below hb
  have W3 := Lib.hid (blw_trans W2.out hb)
  clear hb B2_a B2_b B2_c W2
  have ka0 := B3_a.cell 0 _ rfl
  have ka1 := B3_a.cell 1 _ rfl
  have kal := B3_a.lt
  try simp at ka0 ka1 kal
  have kb0 := B3_b.cell 0 _ rfl
  have kb1 := B3_b.cell 1 _ rfl
  have kbl := B3_b.lt
  try simp at kb0 kb1 kbl
  have kc0 := B3_c.cell 0 _ rfl
  have kc1 := B3_c.cell 1 _ rfl
  have kcl := B3_c.lt
  try simp at kc0 kc1 kcl
  clear B3_a B3_b B3_c
  go_wp2
  go_ret
  exact ⟨ret_bool (by simp), W3.out⟩

set_option maxRecDepth 100000 in
set_option maxHeartbeats 4000000 in
theorem order_bad2 (a s b t c r : Int) (w : World) (ha : okD a s) (hb' : ¬ okD b t) :
    Calls Try.prog 6 #[.agg #[.int .i64 a, .int .i64 s], .agg #[.int .i64 b, .int .i64 t], .agg #[.int .i64 c, .int .i64 r]] w fun e w' => e = .returned (.bool true) ∧ Below w.heap.size w w' := by
  have C0 := Lib.hid fun w => dchk_yes a s w ha
  have C1 := Lib.hid fun w => dchk_no b t w hb'
  have CL := Lib.hid fun w => less_bad a s b t w (fun g => hb' g.2)
  clear ha hb'
  go_enter Try.func6, Try.ntmps6
  go_wp2_with fail
  refine (half_any _).mono ?_
  rintro e w1 ⟨rfl, hb⟩
  have B1_a := Boxed.below (Boxed.alloc (Boxed.alloc (Boxed.made _ #[.int .i64 a, .int .i64 s] 30) _) _) hb
  have B1_b := Boxed.below (Boxed.alloc (Boxed.made _ #[.int .i64 b, .int .i64 t] 30) _) hb
  have B1_c := Boxed.below (Boxed.made _ #[.int .i64 c, .int .i64 r] 30) hb
  have W1 := Lib.hid (blw_trans (blw_trans (blw_trans (blw_trans (Below.refl w.heap.size w) (blw_alloc _ _)) (blw_alloc _ _)) (blw_alloc _ _)) hb)
  clear hb 
  have ka0 := B1_a.cell 0 _ rfl
  have ka1 := B1_a.cell 1 _ rfl
  have kal := B1_a.lt
  try simp at ka0 ka1 kal
  have kb0 := B1_b.cell 0 _ rfl
  have kb1 := B1_b.cell 1 _ rfl
  have kbl := B1_b.lt
  try simp at kb0 kb1 kbl
  have kc0 := B1_c.cell 0 _ rfl
  have kc1 := B1_c.cell 1 _ rfl
  have kcl := B1_c.lt
  try simp at kc0 kc1 kcl
  go_wp2_with fail
  refine (C0.out _).mono ?_
  rintro e w2 ⟨rfl, hb⟩
  clear ka0 ka1 kal kb0 kb1 kbl kc0 kc1 kcl
  have B2_a := B1_a.below hb
  have B2_b := B1_b.below hb
  have B2_c := B1_c.below hb
  have W2 := Lib.hid (blw_trans W1.out hb)
  clear hb B1_a B1_b B1_c W1
  have ka0 := B2_a.cell 0 _ rfl
  have ka1 := B2_a.cell 1 _ rfl
  have kal := B2_a.lt
  try simp at ka0 ka1 kal
  have kb0 := B2_b.cell 0 _ rfl
  have kb1 := B2_b.cell 1 _ rfl
  have kbl := B2_b.lt
  try simp at kb0 kb1 kbl
  have kc0 := B2_c.cell 0 _ rfl
  have kc1 := B2_c.cell 1 _ rfl
  have kcl := B2_c.lt
  try simp at kc0 kc1 kcl
  go_wp2_with fail
  refine (C1.out _).mono ?_
  rintro e w3 ⟨rfl, hb⟩
  clear ka0 ka1 kal kb0 kb1 kbl kc0 kc1 kcl
  have B3_a := B2_a.below hb
  have B3_b := B2_b.below hb
  have B3_c := B2_c.below hb
  have W3 := Lib.hid (blw_trans W2.out hb)
  clear hb B2_a B2_b B2_c W2
  have ka0 := B3_a.cell 0 _ rfl
  have ka1 := B3_a.cell 1 _ rfl
  have kal := B3_a.lt
  try simp at ka0 ka1 kal
  have kb0 := B3_b.cell 0 _ rfl
  have kb1 := B3_b.cell 1 _ rfl
  have kbl := B3_b.lt
  try simp at kb0 kb1 kbl
  have kc0 := B3_c.cell 0 _ rfl
  have kc1 := B3_c.cell 1 _ rfl
  have kcl := B3_c.lt
  try simp at kc0 kc1 kcl
  go_wp2_with fail
  refine (CL.out _).mono ?_
  rintro e w4 ⟨rfl, hb⟩
  clear ka0 ka1 kal kb0 kb1 kbl kc0 kc1 kcl
  have B4_a := B3_a.below hb
  have B4_b := B3_b.below hb
  have B4_c := B3_c.below hb
  have W4 := Lib.hid (blw_trans W3.out hb)
  clear hb B3_a B3_b B3_c W3
  have ka0 := B4_a.cell 0 _ rfl
  have ka1 := B4_a.cell 1 _ rfl
  have kal := B4_a.lt
  try simp at ka0 ka1 kal
  have kb0 := B4_b.cell 0 _ rfl
  have kb1 := B4_b.cell 1 _ rfl
  have kbl := B4_b.lt
  try simp at kb0 kb1 kbl
  have kc0 := B4_c.cell 0 _ rfl
  have kc1 := B4_c.cell 1 _ rfl
  have kcl := B4_c.lt
  try simp at kc0 kc1 kcl
  clear B4_a B4_b B4_c
  go_wp2
  go_ret
  exact ⟨ret_bool (by simp), W4.out⟩

set_option maxRecDepth 100000 in
set_option maxHeartbeats 4000000 in
theorem order_bad3_y (a s b t c r : Int) (w : World) (ha : okD a s) (hb' : okD b t) (hc : ¬ okD c r) (hl : nrm a s < nrm b t) :
    Calls Try.prog 6 #[.agg #[.int .i64 a, .int .i64 s], .agg #[.int .i64 b, .int .i64 t], .agg #[.int .i64 c, .int .i64 r]] w fun e w' => e = .returned (.bool true) ∧ Below w.heap.size w w' := by
  have C0 := Lib.hid fun w => dchk_yes a s w ha
  have C1 := Lib.hid fun w => dchk_yes b t w hb'
  have C2 := Lib.hid fun w => dchk_no c r w hc
  have CL := Lib.hid fun w => less_yes a s b t w ha hb' hl
  clear ha hb' hc hl
  go_enter Try.func6, Try.ntmps6
  go_wp2_with fail
  refine (half_any _).mono ?_
  rintro e w1 ⟨rfl, hb⟩
  have B1_a := Boxed.below (Boxed.alloc (Boxed.alloc (Boxed.made _ #[.int .i64 a, .int .i64 s] 30) _) _) hb
  have B1_b := Boxed.below (Boxed.alloc (Boxed.made _ #[.int .i64 b, .int .i64 t] 30) _) hb
  have B1_c := Boxed.below (Boxed.made _ #[.int .i64 c, .int .i64 r] 30) hb
  have W1 := Lib.hid (blw_trans (blw_trans (blw_trans (blw_trans (Below.refl w.heap.size w) (blw_alloc _ _)) (blw_alloc _ _)) (blw_alloc _ _)) hb)
  clear hb 
  have ka0 := B1_a.cell 0 _ rfl
  have ka1 := B1_a.cell 1 _ rfl
  have kal := B1_a.lt
  try simp at ka0 ka1 kal
  have kb0 := B1_b.cell 0 _ rfl
  have kb1 := B1_b.cell 1 _ rfl
  have kbl := B1_b.lt
  try simp at kb0 kb1 kbl
  have kc0 := B1_c.cell 0 _ rfl
  have kc1 := B1_c.cell 1 _ rfl
  have kcl := B1_c.lt
  try simp at kc0 kc1 kcl
  go_wp2_with fail
  refine (C0.out _).mono ?_
  rintro e w2 ⟨rfl, hb⟩
  clear ka0 ka1 kal kb0 kb1 kbl kc0 kc1 kcl
  have B2_a := B1_a.below hb
  have B2_b := B1_b.below hb
  have B2_c := B1_c.below hb
  have W2 := Lib.hid (blw_trans W1.out hb)
  clear hb B1_a B1_b B1_c W1
  have ka0 := B2_a.cell 0 _ rfl
  have ka1 := B2_a.cell 1 _ rfl
  have kal := B2_a.lt
  try simp at ka0 ka1 kal
  have kb0 := B2_b.cell 0 _ rfl
  have kb1 := B2_b.cell 1 _ rfl
  have kbl := B2_b.lt
  try simp at kb0 kb1 kbl
  have kc0 := B2_c.cell 0 _ rfl
  have kc1 := B2_c.cell 1 _ rfl
  have kcl := B2_c.lt
  try simp at kc0 kc1 kcl
  go_wp2_with fail
  refine (C1.out _).mono ?_
  rintro e w3 ⟨rfl, hb⟩
  clear ka0 ka1 kal kb0 kb1 kbl kc0 kc1 kcl
  have B3_a := B2_a.below hb
  have B3_b := B2_b.below hb
  have B3_c := B2_c.below hb
  have W3 := Lib.hid (blw_trans W2.out hb)
  clear hb B2_a B2_b B2_c W2
  have ka0 := B3_a.cell 0 _ rfl
  have ka1 := B3_a.cell 1 _ rfl
  have kal := B3_a.lt
  try simp at ka0 ka1 kal
  have kb0 := B3_b.cell 0 _ rfl
  have kb1 := B3_b.cell 1 _ rfl
  have kbl := B3_b.lt
  try simp at kb0 kb1 kbl
  have kc0 := B3_c.cell 0 _ rfl
  have kc1 := B3_c.cell 1 _ rfl
  have kcl := B3_c.lt
  try simp at kc0 kc1 kcl
  go_wp2_with fail
  refine (C2.out _).mono ?_
  rintro e w4 ⟨rfl, hb⟩
  clear ka0 ka1 kal kb0 kb1 kbl kc0 kc1 kcl
  have B4_a := B3_a.below hb
  have B4_b := B3_b.below hb
  have B4_c := B3_c.below hb
  have W4 := Lib.hid (blw_trans W3.out hb)
  clear hb B3_a B3_b B3_c W3
  have ka0 := B4_a.cell 0 _ rfl
  have ka1 := B4_a.cell 1 _ rfl
  have kal := B4_a.lt
  try simp at ka0 ka1 kal
  have kb0 := B4_b.cell 0 _ rfl
  have kb1 := B4_b.cell 1 _ rfl
  have kbl := B4_b.lt
  try simp at kb0 kb1 kbl
  have kc0 := B4_c.cell 0 _ rfl
  have kc1 := B4_c.cell 1 _ rfl
  have kcl := B4_c.lt
  try simp at kc0 kc1 kcl
  go_wp2_with fail
  refine (CL.out _).mono ?_
  rintro e w5 ⟨rfl, hb⟩
  clear ka0 ka1 kal kb0 kb1 kbl kc0 kc1 kcl
  have B5_a := B4_a.below hb
  have B5_b := B4_b.below hb
  have B5_c := B4_c.below hb
  have W5 := Lib.hid (blw_trans W4.out hb)
  clear hb B4_a B4_b B4_c W4
  have ka0 := B5_a.cell 0 _ rfl
  have ka1 := B5_a.cell 1 _ rfl
  have kal := B5_a.lt
  try simp at ka0 ka1 kal
  have kb0 := B5_b.cell 0 _ rfl
  have kb1 := B5_b.cell 1 _ rfl
  have kbl := B5_b.lt
  try simp at kb0 kb1 kbl
  have kc0 := B5_c.cell 0 _ rfl
  have kc1 := B5_c.cell 1 _ rfl
  have kcl := B5_c.lt
  try simp at kc0 kc1 kcl
  go_wp2_with fail
  refine (C2.out _).mono ?_
  rintro e w6 ⟨rfl, hb⟩
  clear ka0 ka1 kal kb0 kb1 kbl kc0 kc1 kcl
  have B6_a := B5_a.below hb
  have B6_b := B5_b.below hb
  have B6_c := B5_c.below hb
  have W6 := Lib.hid (blw_trans W5.out hb)
  clear hb B5_a B5_b B5_c W5
  clear B6_a B6_b B6_c
  go_wp2
  go_ret
  exact ⟨ret_bool (by simp), W6.out⟩

set_option maxRecDepth 100000 in
set_option maxHeartbeats 4000000 in
theorem order_bad3_n (a s b t c r : Int) (w : World) (ha : okD a s) (hb' : okD b t) (hc : ¬ okD c r) (hl : ¬ nrm a s < nrm b t) :
    Calls Try.prog 6 #[.agg #[.int .i64 a, .int .i64 s], .agg #[.int .i64 b, .int .i64 t], .agg #[.int .i64 c, .int .i64 r]] w fun e w' => e = .returned (.bool true) ∧ Below w.heap.size w w' := by
  have C0 := Lib.hid fun w => dchk_yes a s w ha
  have C1 := Lib.hid fun w => dchk_yes b t w hb'
  have C2 := Lib.hid fun w => dchk_no c r w hc
  have CL := Lib.hid fun w => less_no a s b t w ha hb' hl
  clear ha hb' hc hl
  go_enter Try.func6, Try.ntmps6
  go_wp2_with fail
  refine (half_any _).mono ?_
  rintro e w1 ⟨rfl, hb⟩
  have B1_a := Boxed.below (Boxed.alloc (Boxed.alloc (Boxed.made _ #[.int .i64 a, .int .i64 s] 30) _) _) hb
  have B1_b := Boxed.below (Boxed.alloc (Boxed.made _ #[.int .i64 b, .int .i64 t] 30) _) hb
  have B1_c := Boxed.below (Boxed.made _ #[.int .i64 c, .int .i64 r] 30) hb
  have W1 := Lib.hid (blw_trans (blw_trans (blw_trans (blw_trans (Below.refl w.heap.size w) (blw_alloc _ _)) (blw_alloc _ _)) (blw_alloc _ _)) hb)
  clear hb 
  have ka0 := B1_a.cell 0 _ rfl
  have ka1 := B1_a.cell 1 _ rfl
  have kal := B1_a.lt
  try simp at ka0 ka1 kal
  have kb0 := B1_b.cell 0 _ rfl
  have kb1 := B1_b.cell 1 _ rfl
  have kbl := B1_b.lt
  try simp at kb0 kb1 kbl
  have kc0 := B1_c.cell 0 _ rfl
  have kc1 := B1_c.cell 1 _ rfl
  have kcl := B1_c.lt
  try simp at kc0 kc1 kcl
  go_wp2_with fail
  refine (C0.out _).mono ?_
  rintro e w2 ⟨rfl, hb⟩
  clear ka0 ka1 kal kb0 kb1 kbl kc0 kc1 kcl
  have B2_a := B1_a.below hb
  have B2_b := B1_b.below hb
  have B2_c := B1_c.below hb
  have W2 := Lib.hid (blw_trans W1.out hb)
  clear hb B1_a B1_b B1_c W1
  have ka0 := B2_a.cell 0 _ rfl
  have ka1 := B2_a.cell 1 _ rfl
  have kal := B2_a.lt
  try simp at ka0 ka1 kal
  have kb0 := B2_b.cell 0 _ rfl
  have kb1 := B2_b.cell 1 _ rfl
  have kbl := B2_b.lt
  try simp at kb0 kb1 kbl
  have kc0 := B2_c.cell 0 _ rfl
  have kc1 := B2_c.cell 1 _ rfl
  have kcl := B2_c.lt
  try simp at kc0 kc1 kcl
  go_wp2_with fail
  refine (C1.out _).mono ?_
  rintro e w3 ⟨rfl, hb⟩
  clear ka0 ka1 kal kb0 kb1 kbl kc0 kc1 kcl
  have B3_a := B2_a.below hb
  have B3_b := B2_b.below hb
  have B3_c := B2_c.below hb
  have W3 := Lib.hid (blw_trans W2.out hb)
  clear hb B2_a B2_b B2_c W2
  have ka0 := B3_a.cell 0 _ rfl
  have ka1 := B3_a.cell 1 _ rfl
  have kal := B3_a.lt
  try simp at ka0 ka1 kal
  have kb0 := B3_b.cell 0 _ rfl
  have kb1 := B3_b.cell 1 _ rfl
  have kbl := B3_b.lt
  try simp at kb0 kb1 kbl
  have kc0 := B3_c.cell 0 _ rfl
  have kc1 := B3_c.cell 1 _ rfl
  have kcl := B3_c.lt
  try simp at kc0 kc1 kcl
  go_wp2_with fail
  refine (C2.out _).mono ?_
  rintro e w4 ⟨rfl, hb⟩
  clear ka0 ka1 kal kb0 kb1 kbl kc0 kc1 kcl
  have B4_a := B3_a.below hb
  have B4_b := B3_b.below hb
  have B4_c := B3_c.below hb
  have W4 := Lib.hid (blw_trans W3.out hb)
  clear hb B3_a B3_b B3_c W3
  have ka0 := B4_a.cell 0 _ rfl
  have ka1 := B4_a.cell 1 _ rfl
  have kal := B4_a.lt
  try simp at ka0 ka1 kal
  have kb0 := B4_b.cell 0 _ rfl
  have kb1 := B4_b.cell 1 _ rfl
  have kbl := B4_b.lt
  try simp at kb0 kb1 kbl
  have kc0 := B4_c.cell 0 _ rfl
  have kc1 := B4_c.cell 1 _ rfl
  have kcl := B4_c.lt
  try simp at kc0 kc1 kcl
  go_wp2_with fail
  refine (CL.out _).mono ?_
  rintro e w5 ⟨rfl, hb⟩
  clear ka0 ka1 kal kb0 kb1 kbl kc0 kc1 kcl
  have B5_a := B4_a.below hb
  have B5_b := B4_b.below hb
  have B5_c := B4_c.below hb
  have W5 := Lib.hid (blw_trans W4.out hb)
  clear hb B4_a B4_b B4_c W4
  have ka0 := B5_a.cell 0 _ rfl
  have ka1 := B5_a.cell 1 _ rfl
  have kal := B5_a.lt
  try simp at ka0 ka1 kal
  have kb0 := B5_b.cell 0 _ rfl
  have kb1 := B5_b.cell 1 _ rfl
  have kbl := B5_b.lt
  try simp at kb0 kb1 kbl
  have kc0 := B5_c.cell 0 _ rfl
  have kc1 := B5_c.cell 1 _ rfl
  have kcl := B5_c.lt
  try simp at kc0 kc1 kcl
  clear B5_a B5_b B5_c
  go_wp2
  go_ret
  exact ⟨ret_bool (by simp), W5.out⟩

set_option maxRecDepth 100000 in
set_option maxHeartbeats 4000000 in
theorem order_lt_r_y (a s b t c r : Int) (w : World) (ha : okD a s) (hb' : okD b t) (hc : okD c r) (hl : nrm a s < nrm b t) (hr : rndE a s 9 1 = 0) (hbc : nrm b t < nrm c r) :
    Calls Try.prog 6 #[.agg #[.int .i64 a, .int .i64 s], .agg #[.int .i64 b, .int .i64 t], .agg #[.int .i64 c, .int .i64 r]] w fun e w' => e = .returned (.bool true) ∧ Below w.heap.size w w' := by
  have C0 := Lib.hid fun w => dchk_yes a s w ha
  have C1 := Lib.hid fun w => dchk_yes b t w hb'
  have C2 := Lib.hid fun w => dchk_yes c r w hc
  have AB := Lib.hid fun w => less_yes a s b t w ha hb' hl
  have BA := Lib.hid fun w => less_no b t a s w hb' ha (by omega)
  have SM := Lib.hid fun w => same_no a s b t w ha hb' (by omega)
  have BC := Lib.hid fun w => less_yes b t c r w hb' hc hbc
  have AC := Lib.hid fun w => less_yes a s c r w ha hc (by omega)
  have hL := long_ok hr
  have RD := Lib.hid fun w => round_yes a s 9 1 w hr
  have SL := Lib.hid fun w => same_yes (Dcm.rndC a s 9 1) 9 a s w hL.1 ha hL.2
  have LB := Lib.hid fun w => less_yes (Dcm.rndC a s 9 1) 9 b t w hL.1 hb' (by rw [hL.2]; exact hl)
  generalize Dcm.rndC a s 9 1 = L at *
  clear hL
  clear ha hb' hc hl hr hbc
  go_enter Try.func6, Try.ntmps6
  go_wp2_with fail
  refine (half_any _).mono ?_
  rintro e w1 ⟨rfl, hb⟩
  have B1_a := Boxed.below (Boxed.alloc (Boxed.alloc (Boxed.made _ #[.int .i64 a, .int .i64 s] 30) _) _) hb
  have B1_b := Boxed.below (Boxed.alloc (Boxed.made _ #[.int .i64 b, .int .i64 t] 30) _) hb
  have B1_c := Boxed.below (Boxed.made _ #[.int .i64 c, .int .i64 r] 30) hb
  have W1 := Lib.hid (blw_trans (blw_trans (blw_trans (blw_trans (Below.refl w.heap.size w) (blw_alloc _ _)) (blw_alloc _ _)) (blw_alloc _ _)) hb)
  clear hb 
  have ka0 := B1_a.cell 0 _ rfl
  have ka1 := B1_a.cell 1 _ rfl
  have kal := B1_a.lt
  try simp at ka0 ka1 kal
  have kb0 := B1_b.cell 0 _ rfl
  have kb1 := B1_b.cell 1 _ rfl
  have kbl := B1_b.lt
  try simp at kb0 kb1 kbl
  have kc0 := B1_c.cell 0 _ rfl
  have kc1 := B1_c.cell 1 _ rfl
  have kcl := B1_c.lt
  try simp at kc0 kc1 kcl
  go_wp2_with fail
  refine (C0.out _).mono ?_
  rintro e w2 ⟨rfl, hb⟩
  clear ka0 ka1 kal kb0 kb1 kbl kc0 kc1 kcl
  have B2_a := B1_a.below hb
  have B2_b := B1_b.below hb
  have B2_c := B1_c.below hb
  have W2 := Lib.hid (blw_trans W1.out hb)
  clear hb B1_a B1_b B1_c W1
  have ka0 := B2_a.cell 0 _ rfl
  have ka1 := B2_a.cell 1 _ rfl
  have kal := B2_a.lt
  try simp at ka0 ka1 kal
  have kb0 := B2_b.cell 0 _ rfl
  have kb1 := B2_b.cell 1 _ rfl
  have kbl := B2_b.lt
  try simp at kb0 kb1 kbl
  have kc0 := B2_c.cell 0 _ rfl
  have kc1 := B2_c.cell 1 _ rfl
  have kcl := B2_c.lt
  try simp at kc0 kc1 kcl
  go_wp2_with fail
  refine (C1.out _).mono ?_
  rintro e w3 ⟨rfl, hb⟩
  clear ka0 ka1 kal kb0 kb1 kbl kc0 kc1 kcl
  have B3_a := B2_a.below hb
  have B3_b := B2_b.below hb
  have B3_c := B2_c.below hb
  have W3 := Lib.hid (blw_trans W2.out hb)
  clear hb B2_a B2_b B2_c W2
  have ka0 := B3_a.cell 0 _ rfl
  have ka1 := B3_a.cell 1 _ rfl
  have kal := B3_a.lt
  try simp at ka0 ka1 kal
  have kb0 := B3_b.cell 0 _ rfl
  have kb1 := B3_b.cell 1 _ rfl
  have kbl := B3_b.lt
  try simp at kb0 kb1 kbl
  have kc0 := B3_c.cell 0 _ rfl
  have kc1 := B3_c.cell 1 _ rfl
  have kcl := B3_c.lt
  try simp at kc0 kc1 kcl
  go_wp2_with fail
  refine (C2.out _).mono ?_
  rintro e w4 ⟨rfl, hb⟩
  clear ka0 ka1 kal kb0 kb1 kbl kc0 kc1 kcl
  have B4_a := B3_a.below hb
  have B4_b := B3_b.below hb
  have B4_c := B3_c.below hb
  have W4 := Lib.hid (blw_trans W3.out hb)
  clear hb B3_a B3_b B3_c W3
  have ka0 := B4_a.cell 0 _ rfl
  have ka1 := B4_a.cell 1 _ rfl
  have kal := B4_a.lt
  try simp at ka0 ka1 kal
  have kb0 := B4_b.cell 0 _ rfl
  have kb1 := B4_b.cell 1 _ rfl
  have kbl := B4_b.lt
  try simp at kb0 kb1 kbl
  have kc0 := B4_c.cell 0 _ rfl
  have kc1 := B4_c.cell 1 _ rfl
  have kcl := B4_c.lt
  try simp at kc0 kc1 kcl
  go_wp2_with fail
  refine (AB.out _).mono ?_
  rintro e w5 ⟨rfl, hb⟩
  clear ka0 ka1 kal kb0 kb1 kbl kc0 kc1 kcl
  have B5_a := B4_a.below hb
  have B5_b := B4_b.below hb
  have B5_c := B4_c.below hb
  have W5 := Lib.hid (blw_trans W4.out hb)
  clear hb B4_a B4_b B4_c W4
  have ka0 := B5_a.cell 0 _ rfl
  have ka1 := B5_a.cell 1 _ rfl
  have kal := B5_a.lt
  try simp at ka0 ka1 kal
  have kb0 := B5_b.cell 0 _ rfl
  have kb1 := B5_b.cell 1 _ rfl
  have kbl := B5_b.lt
  try simp at kb0 kb1 kbl
  have kc0 := B5_c.cell 0 _ rfl
  have kc1 := B5_c.cell 1 _ rfl
  have kcl := B5_c.lt
  try simp at kc0 kc1 kcl
  go_wp2_with fail
  refine (BA.out _).mono ?_
  rintro e w6 ⟨rfl, hb⟩
  clear ka0 ka1 kal kb0 kb1 kbl kc0 kc1 kcl
  have B6_a := B5_a.below hb
  have B6_b := B5_b.below hb
  have B6_c := B5_c.below hb
  have W6 := Lib.hid (blw_trans W5.out hb)
  clear hb B5_a B5_b B5_c W5
  have ka0 := B6_a.cell 0 _ rfl
  have ka1 := B6_a.cell 1 _ rfl
  have kal := B6_a.lt
  try simp at ka0 ka1 kal
  have kb0 := B6_b.cell 0 _ rfl
  have kb1 := B6_b.cell 1 _ rfl
  have kbl := B6_b.lt
  try simp at kb0 kb1 kbl
  have kc0 := B6_c.cell 0 _ rfl
  have kc1 := B6_c.cell 1 _ rfl
  have kcl := B6_c.lt
  try simp at kc0 kc1 kcl
  go_wp2_with fail
  refine (SM.out _).mono ?_
  rintro e w7 ⟨rfl, hb⟩
  clear ka0 ka1 kal kb0 kb1 kbl kc0 kc1 kcl
  have B7_a := B6_a.below hb
  have B7_b := B6_b.below hb
  have B7_c := B6_c.below hb
  have W7 := Lib.hid (blw_trans W6.out hb)
  clear hb B6_a B6_b B6_c W6
  have ka0 := B7_a.cell 0 _ rfl
  have ka1 := B7_a.cell 1 _ rfl
  have kal := B7_a.lt
  try simp at ka0 ka1 kal
  have kb0 := B7_b.cell 0 _ rfl
  have kb1 := B7_b.cell 1 _ rfl
  have kbl := B7_b.lt
  try simp at kb0 kb1 kbl
  have kc0 := B7_c.cell 0 _ rfl
  have kc1 := B7_c.cell 1 _ rfl
  have kcl := B7_c.lt
  try simp at kc0 kc1 kcl
  go_wp2_with fail
  refine (RD.out _).mono ?_
  rintro e w8 ⟨rfl, hb⟩
  clear ka0 ka1 kal kb0 kb1 kbl kc0 kc1 kcl
  have B8_a := B7_a.below hb
  have B8_b := B7_b.below hb
  have B8_c := B7_c.below hb
  have W8 := Lib.hid (blw_trans W7.out hb)
  clear hb B7_a B7_b B7_c W7
  have ka0 := B8_a.cell 0 _ rfl
  have ka1 := B8_a.cell 1 _ rfl
  have kal := B8_a.lt
  try simp at ka0 ka1 kal
  have kb0 := B8_b.cell 0 _ rfl
  have kb1 := B8_b.cell 1 _ rfl
  have kbl := B8_b.lt
  try simp at kb0 kb1 kbl
  have kc0 := B8_c.cell 0 _ rfl
  have kc1 := B8_c.cell 1 _ rfl
  have kcl := B8_c.lt
  try simp at kc0 kc1 kcl
  go_wp2_with fail
  have HW := Lib.hid (show Below w.heap.size w (w8.alloc (.cells #[.int .i64 L, .int .i64 9] 30)) from (blw_trans W8.out (blw_alloc _ _)))
  go_region_held3 (fun w' => w'.cell? ⟨w8.heap.size, 0, none⟩ = some (.int .i64 L) ∧ w'.cell? ⟨w8.heap.size, 1, none⟩ = some (.int .i64 9) ∧ w'.cell? ⟨w.heap.size, 0, none⟩ = some (.int .i64 a) ∧ w'.cell? ⟨w.heap.size, 1, none⟩ = some (.int .i64 s) ∧ w'.cell? ⟨w.heap.size + 1, 0, none⟩ = some (.int .i64 b) ∧ w'.cell? ⟨w.heap.size + 1, 1, none⟩ = some (.int .i64 t) ∧ w'.cell? ⟨w.heap.size + 1 + 1, 0, none⟩ = some (.int .i64 c) ∧ w'.cell? ⟨w.heap.size + 1 + 1, 1, none⟩ = some (.int .i64 r) ∧ Hid (Below w.heap.size w w'))
    (first | (refine ⟨?_, ?_, ?_, ?_, ?_, ?_, ?_, ?_, Lib.hid (Below.drew HW.out)⟩ <;> go_keep) | (go_split_ands; refine ⟨cell_keep ‹_› hb, cell_keep ‹_› hb, cell_keep ‹_› hb, cell_keep ‹_› hb, cell_keep ‹_› hb, cell_keep ‹_› hb, cell_keep ‹_› hb, cell_keep ‹_› hb, Lib.hid (blw_trans (Hid.out ‹_›) hb)⟩))
    (first | (go_at_call 20; refine (SL.out _).mono ?_; rintro e w' ⟨rfl, hb⟩) | (go_at_call 18; first | (with_reducible refine (LB.out _).mono ?_; rintro e w' ⟨rfl, hb⟩) | (with_reducible refine (AB.out _).mono ?_; rintro e w' ⟨rfl, hb⟩)))
  rename_i hHeld
  obtain ⟨z0, z1, z2, z3, z4, z5, z6, z7, zW⟩ := hHeld
  go_wp2_with fail
  refine (AB.out _).mono ?_
  rintro e wA ⟨rfl, hb⟩
  have qwA0a := cell_keep (a := ⟨w.heap.size, 0, none⟩) (v := .int .i64 a) ‹_› hb
  have qwA1s := cell_keep (a := ⟨w.heap.size, 1, none⟩) (v := .int .i64 s) ‹_› hb
  have qwA0b := cell_keep (a := ⟨w.heap.size + 1, 0, none⟩) (v := .int .i64 b) ‹_› hb
  have qwA1t := cell_keep (a := ⟨w.heap.size + 1, 1, none⟩) (v := .int .i64 t) ‹_› hb
  have qwA0c := cell_keep (a := ⟨w.heap.size + 1 + 1, 0, none⟩) (v := .int .i64 c) ‹_› hb
  have qwA1r := cell_keep (a := ⟨w.heap.size + 1 + 1, 1, none⟩) (v := .int .i64 r) ‹_› hb
  have HwA := Lib.hid (show Below w.heap.size w wA from blw_trans (Hid.out ‹_›) hb)
  clear hb
  go_wp2_with fail
  refine (BC.out _).mono ?_
  rintro e wB ⟨rfl, hb⟩
  have qwB0a := cell_keep (a := ⟨w.heap.size, 0, none⟩) (v := .int .i64 a) ‹_› hb
  have qwB1s := cell_keep (a := ⟨w.heap.size, 1, none⟩) (v := .int .i64 s) ‹_› hb
  have qwB0b := cell_keep (a := ⟨w.heap.size + 1, 0, none⟩) (v := .int .i64 b) ‹_› hb
  have qwB1t := cell_keep (a := ⟨w.heap.size + 1, 1, none⟩) (v := .int .i64 t) ‹_› hb
  have qwB0c := cell_keep (a := ⟨w.heap.size + 1 + 1, 0, none⟩) (v := .int .i64 c) ‹_› hb
  have qwB1r := cell_keep (a := ⟨w.heap.size + 1 + 1, 1, none⟩) (v := .int .i64 r) ‹_› hb
  have HwB := Lib.hid (show Below w.heap.size w wB from blw_trans (Hid.out ‹_›) hb)
  clear hb
  go_wp2_with fail
  refine (AC.out _).mono ?_
  rintro e wC ⟨rfl, hb⟩
  have qwC0a := cell_keep (a := ⟨w.heap.size, 0, none⟩) (v := .int .i64 a) ‹_› hb
  have qwC1s := cell_keep (a := ⟨w.heap.size, 1, none⟩) (v := .int .i64 s) ‹_› hb
  have qwC0b := cell_keep (a := ⟨w.heap.size + 1, 0, none⟩) (v := .int .i64 b) ‹_› hb
  have qwC1t := cell_keep (a := ⟨w.heap.size + 1, 1, none⟩) (v := .int .i64 t) ‹_› hb
  have qwC0c := cell_keep (a := ⟨w.heap.size + 1 + 1, 0, none⟩) (v := .int .i64 c) ‹_› hb
  have qwC1r := cell_keep (a := ⟨w.heap.size + 1 + 1, 1, none⟩) (v := .int .i64 r) ‹_› hb
  have HwC := Lib.hid (show Below w.heap.size w wC from blw_trans (Hid.out ‹_›) hb)
  clear hb
  go_wp2
  go_ret
  exact ⟨ret_bool (by simp), HwC.out⟩

set_option maxRecDepth 100000 in
set_option maxHeartbeats 4000000 in
theorem order_lt_r_n (a s b t c r : Int) (w : World) (ha : okD a s) (hb' : okD b t) (hc : okD c r) (hl : nrm a s < nrm b t) (hr : rndE a s 9 1 = 0) (hbc : ¬ nrm b t < nrm c r) :
    Calls Try.prog 6 #[.agg #[.int .i64 a, .int .i64 s], .agg #[.int .i64 b, .int .i64 t], .agg #[.int .i64 c, .int .i64 r]] w fun e w' => e = .returned (.bool true) ∧ Below w.heap.size w w' := by
  have C0 := Lib.hid fun w => dchk_yes a s w ha
  have C1 := Lib.hid fun w => dchk_yes b t w hb'
  have C2 := Lib.hid fun w => dchk_yes c r w hc
  have AB := Lib.hid fun w => less_yes a s b t w ha hb' hl
  have BA := Lib.hid fun w => less_no b t a s w hb' ha (by omega)
  have SM := Lib.hid fun w => same_no a s b t w ha hb' (by omega)
  have BC := Lib.hid fun w => less_no b t c r w hb' hc hbc
  have hL := long_ok hr
  have RD := Lib.hid fun w => round_yes a s 9 1 w hr
  have SL := Lib.hid fun w => same_yes (Dcm.rndC a s 9 1) 9 a s w hL.1 ha hL.2
  have LB := Lib.hid fun w => less_yes (Dcm.rndC a s 9 1) 9 b t w hL.1 hb' (by rw [hL.2]; exact hl)
  generalize Dcm.rndC a s 9 1 = L at *
  clear hL
  clear ha hb' hc hl hr hbc
  go_enter Try.func6, Try.ntmps6
  go_wp2_with fail
  refine (half_any _).mono ?_
  rintro e w1 ⟨rfl, hb⟩
  have B1_a := Boxed.below (Boxed.alloc (Boxed.alloc (Boxed.made _ #[.int .i64 a, .int .i64 s] 30) _) _) hb
  have B1_b := Boxed.below (Boxed.alloc (Boxed.made _ #[.int .i64 b, .int .i64 t] 30) _) hb
  have B1_c := Boxed.below (Boxed.made _ #[.int .i64 c, .int .i64 r] 30) hb
  have W1 := Lib.hid (blw_trans (blw_trans (blw_trans (blw_trans (Below.refl w.heap.size w) (blw_alloc _ _)) (blw_alloc _ _)) (blw_alloc _ _)) hb)
  clear hb 
  have ka0 := B1_a.cell 0 _ rfl
  have ka1 := B1_a.cell 1 _ rfl
  have kal := B1_a.lt
  try simp at ka0 ka1 kal
  have kb0 := B1_b.cell 0 _ rfl
  have kb1 := B1_b.cell 1 _ rfl
  have kbl := B1_b.lt
  try simp at kb0 kb1 kbl
  have kc0 := B1_c.cell 0 _ rfl
  have kc1 := B1_c.cell 1 _ rfl
  have kcl := B1_c.lt
  try simp at kc0 kc1 kcl
  go_wp2_with fail
  refine (C0.out _).mono ?_
  rintro e w2 ⟨rfl, hb⟩
  clear ka0 ka1 kal kb0 kb1 kbl kc0 kc1 kcl
  have B2_a := B1_a.below hb
  have B2_b := B1_b.below hb
  have B2_c := B1_c.below hb
  have W2 := Lib.hid (blw_trans W1.out hb)
  clear hb B1_a B1_b B1_c W1
  have ka0 := B2_a.cell 0 _ rfl
  have ka1 := B2_a.cell 1 _ rfl
  have kal := B2_a.lt
  try simp at ka0 ka1 kal
  have kb0 := B2_b.cell 0 _ rfl
  have kb1 := B2_b.cell 1 _ rfl
  have kbl := B2_b.lt
  try simp at kb0 kb1 kbl
  have kc0 := B2_c.cell 0 _ rfl
  have kc1 := B2_c.cell 1 _ rfl
  have kcl := B2_c.lt
  try simp at kc0 kc1 kcl
  go_wp2_with fail
  refine (C1.out _).mono ?_
  rintro e w3 ⟨rfl, hb⟩
  clear ka0 ka1 kal kb0 kb1 kbl kc0 kc1 kcl
  have B3_a := B2_a.below hb
  have B3_b := B2_b.below hb
  have B3_c := B2_c.below hb
  have W3 := Lib.hid (blw_trans W2.out hb)
  clear hb B2_a B2_b B2_c W2
  have ka0 := B3_a.cell 0 _ rfl
  have ka1 := B3_a.cell 1 _ rfl
  have kal := B3_a.lt
  try simp at ka0 ka1 kal
  have kb0 := B3_b.cell 0 _ rfl
  have kb1 := B3_b.cell 1 _ rfl
  have kbl := B3_b.lt
  try simp at kb0 kb1 kbl
  have kc0 := B3_c.cell 0 _ rfl
  have kc1 := B3_c.cell 1 _ rfl
  have kcl := B3_c.lt
  try simp at kc0 kc1 kcl
  go_wp2_with fail
  refine (C2.out _).mono ?_
  rintro e w4 ⟨rfl, hb⟩
  clear ka0 ka1 kal kb0 kb1 kbl kc0 kc1 kcl
  have B4_a := B3_a.below hb
  have B4_b := B3_b.below hb
  have B4_c := B3_c.below hb
  have W4 := Lib.hid (blw_trans W3.out hb)
  clear hb B3_a B3_b B3_c W3
  have ka0 := B4_a.cell 0 _ rfl
  have ka1 := B4_a.cell 1 _ rfl
  have kal := B4_a.lt
  try simp at ka0 ka1 kal
  have kb0 := B4_b.cell 0 _ rfl
  have kb1 := B4_b.cell 1 _ rfl
  have kbl := B4_b.lt
  try simp at kb0 kb1 kbl
  have kc0 := B4_c.cell 0 _ rfl
  have kc1 := B4_c.cell 1 _ rfl
  have kcl := B4_c.lt
  try simp at kc0 kc1 kcl
  go_wp2_with fail
  refine (AB.out _).mono ?_
  rintro e w5 ⟨rfl, hb⟩
  clear ka0 ka1 kal kb0 kb1 kbl kc0 kc1 kcl
  have B5_a := B4_a.below hb
  have B5_b := B4_b.below hb
  have B5_c := B4_c.below hb
  have W5 := Lib.hid (blw_trans W4.out hb)
  clear hb B4_a B4_b B4_c W4
  have ka0 := B5_a.cell 0 _ rfl
  have ka1 := B5_a.cell 1 _ rfl
  have kal := B5_a.lt
  try simp at ka0 ka1 kal
  have kb0 := B5_b.cell 0 _ rfl
  have kb1 := B5_b.cell 1 _ rfl
  have kbl := B5_b.lt
  try simp at kb0 kb1 kbl
  have kc0 := B5_c.cell 0 _ rfl
  have kc1 := B5_c.cell 1 _ rfl
  have kcl := B5_c.lt
  try simp at kc0 kc1 kcl
  go_wp2_with fail
  refine (BA.out _).mono ?_
  rintro e w6 ⟨rfl, hb⟩
  clear ka0 ka1 kal kb0 kb1 kbl kc0 kc1 kcl
  have B6_a := B5_a.below hb
  have B6_b := B5_b.below hb
  have B6_c := B5_c.below hb
  have W6 := Lib.hid (blw_trans W5.out hb)
  clear hb B5_a B5_b B5_c W5
  have ka0 := B6_a.cell 0 _ rfl
  have ka1 := B6_a.cell 1 _ rfl
  have kal := B6_a.lt
  try simp at ka0 ka1 kal
  have kb0 := B6_b.cell 0 _ rfl
  have kb1 := B6_b.cell 1 _ rfl
  have kbl := B6_b.lt
  try simp at kb0 kb1 kbl
  have kc0 := B6_c.cell 0 _ rfl
  have kc1 := B6_c.cell 1 _ rfl
  have kcl := B6_c.lt
  try simp at kc0 kc1 kcl
  go_wp2_with fail
  refine (SM.out _).mono ?_
  rintro e w7 ⟨rfl, hb⟩
  clear ka0 ka1 kal kb0 kb1 kbl kc0 kc1 kcl
  have B7_a := B6_a.below hb
  have B7_b := B6_b.below hb
  have B7_c := B6_c.below hb
  have W7 := Lib.hid (blw_trans W6.out hb)
  clear hb B6_a B6_b B6_c W6
  have ka0 := B7_a.cell 0 _ rfl
  have ka1 := B7_a.cell 1 _ rfl
  have kal := B7_a.lt
  try simp at ka0 ka1 kal
  have kb0 := B7_b.cell 0 _ rfl
  have kb1 := B7_b.cell 1 _ rfl
  have kbl := B7_b.lt
  try simp at kb0 kb1 kbl
  have kc0 := B7_c.cell 0 _ rfl
  have kc1 := B7_c.cell 1 _ rfl
  have kcl := B7_c.lt
  try simp at kc0 kc1 kcl
  go_wp2_with fail
  refine (RD.out _).mono ?_
  rintro e w8 ⟨rfl, hb⟩
  clear ka0 ka1 kal kb0 kb1 kbl kc0 kc1 kcl
  have B8_a := B7_a.below hb
  have B8_b := B7_b.below hb
  have B8_c := B7_c.below hb
  have W8 := Lib.hid (blw_trans W7.out hb)
  clear hb B7_a B7_b B7_c W7
  have ka0 := B8_a.cell 0 _ rfl
  have ka1 := B8_a.cell 1 _ rfl
  have kal := B8_a.lt
  try simp at ka0 ka1 kal
  have kb0 := B8_b.cell 0 _ rfl
  have kb1 := B8_b.cell 1 _ rfl
  have kbl := B8_b.lt
  try simp at kb0 kb1 kbl
  have kc0 := B8_c.cell 0 _ rfl
  have kc1 := B8_c.cell 1 _ rfl
  have kcl := B8_c.lt
  try simp at kc0 kc1 kcl
  go_wp2_with fail
  have HW := Lib.hid (show Below w.heap.size w (w8.alloc (.cells #[.int .i64 L, .int .i64 9] 30)) from (blw_trans W8.out (blw_alloc _ _)))
  go_region_held3 (fun w' => w'.cell? ⟨w8.heap.size, 0, none⟩ = some (.int .i64 L) ∧ w'.cell? ⟨w8.heap.size, 1, none⟩ = some (.int .i64 9) ∧ w'.cell? ⟨w.heap.size, 0, none⟩ = some (.int .i64 a) ∧ w'.cell? ⟨w.heap.size, 1, none⟩ = some (.int .i64 s) ∧ w'.cell? ⟨w.heap.size + 1, 0, none⟩ = some (.int .i64 b) ∧ w'.cell? ⟨w.heap.size + 1, 1, none⟩ = some (.int .i64 t) ∧ w'.cell? ⟨w.heap.size + 1 + 1, 0, none⟩ = some (.int .i64 c) ∧ w'.cell? ⟨w.heap.size + 1 + 1, 1, none⟩ = some (.int .i64 r) ∧ Hid (Below w.heap.size w w'))
    (first | (refine ⟨?_, ?_, ?_, ?_, ?_, ?_, ?_, ?_, Lib.hid (Below.drew HW.out)⟩ <;> go_keep) | (go_split_ands; refine ⟨cell_keep ‹_› hb, cell_keep ‹_› hb, cell_keep ‹_› hb, cell_keep ‹_› hb, cell_keep ‹_› hb, cell_keep ‹_› hb, cell_keep ‹_› hb, cell_keep ‹_› hb, Lib.hid (blw_trans (Hid.out ‹_›) hb)⟩))
    (first | (go_at_call 20; refine (SL.out _).mono ?_; rintro e w' ⟨rfl, hb⟩) | (go_at_call 18; first | (with_reducible refine (LB.out _).mono ?_; rintro e w' ⟨rfl, hb⟩) | (with_reducible refine (AB.out _).mono ?_; rintro e w' ⟨rfl, hb⟩)))
  rename_i hHeld
  obtain ⟨z0, z1, z2, z3, z4, z5, z6, z7, zW⟩ := hHeld
  go_wp2_with fail
  refine (AB.out _).mono ?_
  rintro e wA ⟨rfl, hb⟩
  have qwA0a := cell_keep (a := ⟨w.heap.size, 0, none⟩) (v := .int .i64 a) ‹_› hb
  have qwA1s := cell_keep (a := ⟨w.heap.size, 1, none⟩) (v := .int .i64 s) ‹_› hb
  have qwA0b := cell_keep (a := ⟨w.heap.size + 1, 0, none⟩) (v := .int .i64 b) ‹_› hb
  have qwA1t := cell_keep (a := ⟨w.heap.size + 1, 1, none⟩) (v := .int .i64 t) ‹_› hb
  have qwA0c := cell_keep (a := ⟨w.heap.size + 1 + 1, 0, none⟩) (v := .int .i64 c) ‹_› hb
  have qwA1r := cell_keep (a := ⟨w.heap.size + 1 + 1, 1, none⟩) (v := .int .i64 r) ‹_› hb
  have HwA := Lib.hid (show Below w.heap.size w wA from blw_trans (Hid.out ‹_›) hb)
  clear hb
  go_wp2_with fail
  refine (BC.out _).mono ?_
  rintro e wB ⟨rfl, hb⟩
  have qwB0a := cell_keep (a := ⟨w.heap.size, 0, none⟩) (v := .int .i64 a) ‹_› hb
  have qwB1s := cell_keep (a := ⟨w.heap.size, 1, none⟩) (v := .int .i64 s) ‹_› hb
  have qwB0b := cell_keep (a := ⟨w.heap.size + 1, 0, none⟩) (v := .int .i64 b) ‹_› hb
  have qwB1t := cell_keep (a := ⟨w.heap.size + 1, 1, none⟩) (v := .int .i64 t) ‹_› hb
  have qwB0c := cell_keep (a := ⟨w.heap.size + 1 + 1, 0, none⟩) (v := .int .i64 c) ‹_› hb
  have qwB1r := cell_keep (a := ⟨w.heap.size + 1 + 1, 1, none⟩) (v := .int .i64 r) ‹_› hb
  have HwB := Lib.hid (show Below w.heap.size w wB from blw_trans (Hid.out ‹_›) hb)
  clear hb
  go_wp2
  go_ret
  exact ⟨ret_bool (by simp), HwB.out⟩

set_option maxRecDepth 100000 in
set_option maxHeartbeats 4000000 in
theorem order_lt_f_y (a s b t c r : Int) (w : World) (ha : okD a s) (hb' : okD b t) (hc : okD c r) (hl : nrm a s < nrm b t) (hr : rndE a s 9 1 ≠ 0) (hbc : nrm b t < nrm c r) :
    Calls Try.prog 6 #[.agg #[.int .i64 a, .int .i64 s], .agg #[.int .i64 b, .int .i64 t], .agg #[.int .i64 c, .int .i64 r]] w fun e w' => e = .returned (.bool true) ∧ Below w.heap.size w w' := by
  have C0 := Lib.hid fun w => dchk_yes a s w ha
  have C1 := Lib.hid fun w => dchk_yes b t w hb'
  have C2 := Lib.hid fun w => dchk_yes c r w hc
  have AB := Lib.hid fun w => less_yes a s b t w ha hb' hl
  have BA := Lib.hid fun w => less_no b t a s w hb' ha (by omega)
  have SM := Lib.hid fun w => same_no a s b t w ha hb' (by omega)
  have BC := Lib.hid fun w => less_yes b t c r w hb' hc hbc
  have AC := Lib.hid fun w => less_yes a s c r w ha hc (by omega)
  have RD := Lib.hid fun w => round_no a s 9 1 w hr
  clear ha hb' hc hl hr hbc
  go_enter Try.func6, Try.ntmps6
  go_wp2_with fail
  refine (half_any _).mono ?_
  rintro e w1 ⟨rfl, hb⟩
  have B1_a := Boxed.below (Boxed.alloc (Boxed.alloc (Boxed.made _ #[.int .i64 a, .int .i64 s] 30) _) _) hb
  have B1_b := Boxed.below (Boxed.alloc (Boxed.made _ #[.int .i64 b, .int .i64 t] 30) _) hb
  have B1_c := Boxed.below (Boxed.made _ #[.int .i64 c, .int .i64 r] 30) hb
  have W1 := Lib.hid (blw_trans (blw_trans (blw_trans (blw_trans (Below.refl w.heap.size w) (blw_alloc _ _)) (blw_alloc _ _)) (blw_alloc _ _)) hb)
  clear hb 
  have ka0 := B1_a.cell 0 _ rfl
  have ka1 := B1_a.cell 1 _ rfl
  have kal := B1_a.lt
  try simp at ka0 ka1 kal
  have kb0 := B1_b.cell 0 _ rfl
  have kb1 := B1_b.cell 1 _ rfl
  have kbl := B1_b.lt
  try simp at kb0 kb1 kbl
  have kc0 := B1_c.cell 0 _ rfl
  have kc1 := B1_c.cell 1 _ rfl
  have kcl := B1_c.lt
  try simp at kc0 kc1 kcl
  go_wp2_with fail
  refine (C0.out _).mono ?_
  rintro e w2 ⟨rfl, hb⟩
  clear ka0 ka1 kal kb0 kb1 kbl kc0 kc1 kcl
  have B2_a := B1_a.below hb
  have B2_b := B1_b.below hb
  have B2_c := B1_c.below hb
  have W2 := Lib.hid (blw_trans W1.out hb)
  clear hb B1_a B1_b B1_c W1
  have ka0 := B2_a.cell 0 _ rfl
  have ka1 := B2_a.cell 1 _ rfl
  have kal := B2_a.lt
  try simp at ka0 ka1 kal
  have kb0 := B2_b.cell 0 _ rfl
  have kb1 := B2_b.cell 1 _ rfl
  have kbl := B2_b.lt
  try simp at kb0 kb1 kbl
  have kc0 := B2_c.cell 0 _ rfl
  have kc1 := B2_c.cell 1 _ rfl
  have kcl := B2_c.lt
  try simp at kc0 kc1 kcl
  go_wp2_with fail
  refine (C1.out _).mono ?_
  rintro e w3 ⟨rfl, hb⟩
  clear ka0 ka1 kal kb0 kb1 kbl kc0 kc1 kcl
  have B3_a := B2_a.below hb
  have B3_b := B2_b.below hb
  have B3_c := B2_c.below hb
  have W3 := Lib.hid (blw_trans W2.out hb)
  clear hb B2_a B2_b B2_c W2
  have ka0 := B3_a.cell 0 _ rfl
  have ka1 := B3_a.cell 1 _ rfl
  have kal := B3_a.lt
  try simp at ka0 ka1 kal
  have kb0 := B3_b.cell 0 _ rfl
  have kb1 := B3_b.cell 1 _ rfl
  have kbl := B3_b.lt
  try simp at kb0 kb1 kbl
  have kc0 := B3_c.cell 0 _ rfl
  have kc1 := B3_c.cell 1 _ rfl
  have kcl := B3_c.lt
  try simp at kc0 kc1 kcl
  go_wp2_with fail
  refine (C2.out _).mono ?_
  rintro e w4 ⟨rfl, hb⟩
  clear ka0 ka1 kal kb0 kb1 kbl kc0 kc1 kcl
  have B4_a := B3_a.below hb
  have B4_b := B3_b.below hb
  have B4_c := B3_c.below hb
  have W4 := Lib.hid (blw_trans W3.out hb)
  clear hb B3_a B3_b B3_c W3
  have ka0 := B4_a.cell 0 _ rfl
  have ka1 := B4_a.cell 1 _ rfl
  have kal := B4_a.lt
  try simp at ka0 ka1 kal
  have kb0 := B4_b.cell 0 _ rfl
  have kb1 := B4_b.cell 1 _ rfl
  have kbl := B4_b.lt
  try simp at kb0 kb1 kbl
  have kc0 := B4_c.cell 0 _ rfl
  have kc1 := B4_c.cell 1 _ rfl
  have kcl := B4_c.lt
  try simp at kc0 kc1 kcl
  go_wp2_with fail
  refine (AB.out _).mono ?_
  rintro e w5 ⟨rfl, hb⟩
  clear ka0 ka1 kal kb0 kb1 kbl kc0 kc1 kcl
  have B5_a := B4_a.below hb
  have B5_b := B4_b.below hb
  have B5_c := B4_c.below hb
  have W5 := Lib.hid (blw_trans W4.out hb)
  clear hb B4_a B4_b B4_c W4
  have ka0 := B5_a.cell 0 _ rfl
  have ka1 := B5_a.cell 1 _ rfl
  have kal := B5_a.lt
  try simp at ka0 ka1 kal
  have kb0 := B5_b.cell 0 _ rfl
  have kb1 := B5_b.cell 1 _ rfl
  have kbl := B5_b.lt
  try simp at kb0 kb1 kbl
  have kc0 := B5_c.cell 0 _ rfl
  have kc1 := B5_c.cell 1 _ rfl
  have kcl := B5_c.lt
  try simp at kc0 kc1 kcl
  go_wp2_with fail
  refine (BA.out _).mono ?_
  rintro e w6 ⟨rfl, hb⟩
  clear ka0 ka1 kal kb0 kb1 kbl kc0 kc1 kcl
  have B6_a := B5_a.below hb
  have B6_b := B5_b.below hb
  have B6_c := B5_c.below hb
  have W6 := Lib.hid (blw_trans W5.out hb)
  clear hb B5_a B5_b B5_c W5
  have ka0 := B6_a.cell 0 _ rfl
  have ka1 := B6_a.cell 1 _ rfl
  have kal := B6_a.lt
  try simp at ka0 ka1 kal
  have kb0 := B6_b.cell 0 _ rfl
  have kb1 := B6_b.cell 1 _ rfl
  have kbl := B6_b.lt
  try simp at kb0 kb1 kbl
  have kc0 := B6_c.cell 0 _ rfl
  have kc1 := B6_c.cell 1 _ rfl
  have kcl := B6_c.lt
  try simp at kc0 kc1 kcl
  go_wp2_with fail
  refine (SM.out _).mono ?_
  rintro e w7 ⟨rfl, hb⟩
  clear ka0 ka1 kal kb0 kb1 kbl kc0 kc1 kcl
  have B7_a := B6_a.below hb
  have B7_b := B6_b.below hb
  have B7_c := B6_c.below hb
  have W7 := Lib.hid (blw_trans W6.out hb)
  clear hb B6_a B6_b B6_c W6
  have ka0 := B7_a.cell 0 _ rfl
  have ka1 := B7_a.cell 1 _ rfl
  have kal := B7_a.lt
  try simp at ka0 ka1 kal
  have kb0 := B7_b.cell 0 _ rfl
  have kb1 := B7_b.cell 1 _ rfl
  have kbl := B7_b.lt
  try simp at kb0 kb1 kbl
  have kc0 := B7_c.cell 0 _ rfl
  have kc1 := B7_c.cell 1 _ rfl
  have kcl := B7_c.lt
  try simp at kc0 kc1 kcl
  go_wp2_with fail
  refine (RD.out _).mono ?_
  rintro e w8 ⟨rfl, hb⟩
  clear ka0 ka1 kal kb0 kb1 kbl kc0 kc1 kcl
  have B8_a := B7_a.below hb
  have B8_b := B7_b.below hb
  have B8_c := B7_c.below hb
  have W8 := Lib.hid (blw_trans W7.out hb)
  clear hb B7_a B7_b B7_c W7
  have ka0 := B8_a.cell 0 _ rfl
  have ka1 := B8_a.cell 1 _ rfl
  have kal := B8_a.lt
  try simp at ka0 ka1 kal
  have kb0 := B8_b.cell 0 _ rfl
  have kb1 := B8_b.cell 1 _ rfl
  have kbl := B8_b.lt
  try simp at kb0 kb1 kbl
  have kc0 := B8_c.cell 0 _ rfl
  have kc1 := B8_c.cell 1 _ rfl
  have kcl := B8_c.lt
  try simp at kc0 kc1 kcl
  go_wp2_with fail
  go_big_quiet (fail)
  go_wp2_with fail
  refine (AB.out _).mono ?_
  rintro e w9 ⟨rfl, hb⟩
  clear ka0 ka1 kal kb0 kb1 kbl kc0 kc1 kcl
  have B9_a := (Boxed.drewN (B8_a.alloc _) _).below hb
  have B9_b := (Boxed.drewN (B8_b.alloc _) _).below hb
  have B9_c := (Boxed.drewN (B8_c.alloc _) _).below hb
  have B9_l := Boxed.below (Boxed.drewN (Boxed.made _ #[.int .i64 0, .int .i64 0] 30) _) hb
  have W9 := Lib.hid (blw_trans (blw_drewN (blw_trans W8.out (blw_alloc _ _)) _) hb)
  clear hb B8_a B8_b B8_c W8
  have ka0 := B9_a.cell 0 _ rfl
  have ka1 := B9_a.cell 1 _ rfl
  have kal := B9_a.lt
  try simp at ka0 ka1 kal
  have kb0 := B9_b.cell 0 _ rfl
  have kb1 := B9_b.cell 1 _ rfl
  have kbl := B9_b.lt
  try simp at kb0 kb1 kbl
  have kc0 := B9_c.cell 0 _ rfl
  have kc1 := B9_c.cell 1 _ rfl
  have kcl := B9_c.lt
  try simp at kc0 kc1 kcl
  go_wp2_with fail
  refine (BC.out _).mono ?_
  rintro e w10 ⟨rfl, hb⟩
  clear ka0 ka1 kal kb0 kb1 kbl kc0 kc1 kcl
  have B10_a := B9_a.below hb
  have B10_b := B9_b.below hb
  have B10_c := B9_c.below hb
  have B10_l := B9_l.below hb
  have W10 := Lib.hid (blw_trans W9.out hb)
  clear hb B9_a B9_b B9_c B9_l W9
  have ka0 := B10_a.cell 0 _ rfl
  have ka1 := B10_a.cell 1 _ rfl
  have kal := B10_a.lt
  try simp at ka0 ka1 kal
  have kb0 := B10_b.cell 0 _ rfl
  have kb1 := B10_b.cell 1 _ rfl
  have kbl := B10_b.lt
  try simp at kb0 kb1 kbl
  have kc0 := B10_c.cell 0 _ rfl
  have kc1 := B10_c.cell 1 _ rfl
  have kcl := B10_c.lt
  try simp at kc0 kc1 kcl
  go_wp2_with fail
  refine (AC.out _).mono ?_
  rintro e w11 ⟨rfl, hb⟩
  clear ka0 ka1 kal kb0 kb1 kbl kc0 kc1 kcl
  have B11_a := B10_a.below hb
  have B11_b := B10_b.below hb
  have B11_c := B10_c.below hb
  have B11_l := B10_l.below hb
  have W11 := Lib.hid (blw_trans W10.out hb)
  clear hb B10_a B10_b B10_c B10_l W10
  clear B11_a B11_b B11_c B11_l
  go_wp2
  go_ret
  exact ⟨ret_bool (by simp), W11.out⟩

set_option maxRecDepth 100000 in
set_option maxHeartbeats 4000000 in
theorem order_lt_f_n (a s b t c r : Int) (w : World) (ha : okD a s) (hb' : okD b t) (hc : okD c r) (hl : nrm a s < nrm b t) (hr : rndE a s 9 1 ≠ 0) (hbc : ¬ nrm b t < nrm c r) :
    Calls Try.prog 6 #[.agg #[.int .i64 a, .int .i64 s], .agg #[.int .i64 b, .int .i64 t], .agg #[.int .i64 c, .int .i64 r]] w fun e w' => e = .returned (.bool true) ∧ Below w.heap.size w w' := by
  have C0 := Lib.hid fun w => dchk_yes a s w ha
  have C1 := Lib.hid fun w => dchk_yes b t w hb'
  have C2 := Lib.hid fun w => dchk_yes c r w hc
  have AB := Lib.hid fun w => less_yes a s b t w ha hb' hl
  have BA := Lib.hid fun w => less_no b t a s w hb' ha (by omega)
  have SM := Lib.hid fun w => same_no a s b t w ha hb' (by omega)
  have BC := Lib.hid fun w => less_no b t c r w hb' hc hbc
  have RD := Lib.hid fun w => round_no a s 9 1 w hr
  clear ha hb' hc hl hr hbc
  go_enter Try.func6, Try.ntmps6
  go_wp2_with fail
  refine (half_any _).mono ?_
  rintro e w1 ⟨rfl, hb⟩
  have B1_a := Boxed.below (Boxed.alloc (Boxed.alloc (Boxed.made _ #[.int .i64 a, .int .i64 s] 30) _) _) hb
  have B1_b := Boxed.below (Boxed.alloc (Boxed.made _ #[.int .i64 b, .int .i64 t] 30) _) hb
  have B1_c := Boxed.below (Boxed.made _ #[.int .i64 c, .int .i64 r] 30) hb
  have W1 := Lib.hid (blw_trans (blw_trans (blw_trans (blw_trans (Below.refl w.heap.size w) (blw_alloc _ _)) (blw_alloc _ _)) (blw_alloc _ _)) hb)
  clear hb 
  have ka0 := B1_a.cell 0 _ rfl
  have ka1 := B1_a.cell 1 _ rfl
  have kal := B1_a.lt
  try simp at ka0 ka1 kal
  have kb0 := B1_b.cell 0 _ rfl
  have kb1 := B1_b.cell 1 _ rfl
  have kbl := B1_b.lt
  try simp at kb0 kb1 kbl
  have kc0 := B1_c.cell 0 _ rfl
  have kc1 := B1_c.cell 1 _ rfl
  have kcl := B1_c.lt
  try simp at kc0 kc1 kcl
  go_wp2_with fail
  refine (C0.out _).mono ?_
  rintro e w2 ⟨rfl, hb⟩
  clear ka0 ka1 kal kb0 kb1 kbl kc0 kc1 kcl
  have B2_a := B1_a.below hb
  have B2_b := B1_b.below hb
  have B2_c := B1_c.below hb
  have W2 := Lib.hid (blw_trans W1.out hb)
  clear hb B1_a B1_b B1_c W1
  have ka0 := B2_a.cell 0 _ rfl
  have ka1 := B2_a.cell 1 _ rfl
  have kal := B2_a.lt
  try simp at ka0 ka1 kal
  have kb0 := B2_b.cell 0 _ rfl
  have kb1 := B2_b.cell 1 _ rfl
  have kbl := B2_b.lt
  try simp at kb0 kb1 kbl
  have kc0 := B2_c.cell 0 _ rfl
  have kc1 := B2_c.cell 1 _ rfl
  have kcl := B2_c.lt
  try simp at kc0 kc1 kcl
  go_wp2_with fail
  refine (C1.out _).mono ?_
  rintro e w3 ⟨rfl, hb⟩
  clear ka0 ka1 kal kb0 kb1 kbl kc0 kc1 kcl
  have B3_a := B2_a.below hb
  have B3_b := B2_b.below hb
  have B3_c := B2_c.below hb
  have W3 := Lib.hid (blw_trans W2.out hb)
  clear hb B2_a B2_b B2_c W2
  have ka0 := B3_a.cell 0 _ rfl
  have ka1 := B3_a.cell 1 _ rfl
  have kal := B3_a.lt
  try simp at ka0 ka1 kal
  have kb0 := B3_b.cell 0 _ rfl
  have kb1 := B3_b.cell 1 _ rfl
  have kbl := B3_b.lt
  try simp at kb0 kb1 kbl
  have kc0 := B3_c.cell 0 _ rfl
  have kc1 := B3_c.cell 1 _ rfl
  have kcl := B3_c.lt
  try simp at kc0 kc1 kcl
  go_wp2_with fail
  refine (C2.out _).mono ?_
  rintro e w4 ⟨rfl, hb⟩
  clear ka0 ka1 kal kb0 kb1 kbl kc0 kc1 kcl
  have B4_a := B3_a.below hb
  have B4_b := B3_b.below hb
  have B4_c := B3_c.below hb
  have W4 := Lib.hid (blw_trans W3.out hb)
  clear hb B3_a B3_b B3_c W3
  have ka0 := B4_a.cell 0 _ rfl
  have ka1 := B4_a.cell 1 _ rfl
  have kal := B4_a.lt
  try simp at ka0 ka1 kal
  have kb0 := B4_b.cell 0 _ rfl
  have kb1 := B4_b.cell 1 _ rfl
  have kbl := B4_b.lt
  try simp at kb0 kb1 kbl
  have kc0 := B4_c.cell 0 _ rfl
  have kc1 := B4_c.cell 1 _ rfl
  have kcl := B4_c.lt
  try simp at kc0 kc1 kcl
  go_wp2_with fail
  refine (AB.out _).mono ?_
  rintro e w5 ⟨rfl, hb⟩
  clear ka0 ka1 kal kb0 kb1 kbl kc0 kc1 kcl
  have B5_a := B4_a.below hb
  have B5_b := B4_b.below hb
  have B5_c := B4_c.below hb
  have W5 := Lib.hid (blw_trans W4.out hb)
  clear hb B4_a B4_b B4_c W4
  have ka0 := B5_a.cell 0 _ rfl
  have ka1 := B5_a.cell 1 _ rfl
  have kal := B5_a.lt
  try simp at ka0 ka1 kal
  have kb0 := B5_b.cell 0 _ rfl
  have kb1 := B5_b.cell 1 _ rfl
  have kbl := B5_b.lt
  try simp at kb0 kb1 kbl
  have kc0 := B5_c.cell 0 _ rfl
  have kc1 := B5_c.cell 1 _ rfl
  have kcl := B5_c.lt
  try simp at kc0 kc1 kcl
  go_wp2_with fail
  refine (BA.out _).mono ?_
  rintro e w6 ⟨rfl, hb⟩
  clear ka0 ka1 kal kb0 kb1 kbl kc0 kc1 kcl
  have B6_a := B5_a.below hb
  have B6_b := B5_b.below hb
  have B6_c := B5_c.below hb
  have W6 := Lib.hid (blw_trans W5.out hb)
  clear hb B5_a B5_b B5_c W5
  have ka0 := B6_a.cell 0 _ rfl
  have ka1 := B6_a.cell 1 _ rfl
  have kal := B6_a.lt
  try simp at ka0 ka1 kal
  have kb0 := B6_b.cell 0 _ rfl
  have kb1 := B6_b.cell 1 _ rfl
  have kbl := B6_b.lt
  try simp at kb0 kb1 kbl
  have kc0 := B6_c.cell 0 _ rfl
  have kc1 := B6_c.cell 1 _ rfl
  have kcl := B6_c.lt
  try simp at kc0 kc1 kcl
  go_wp2_with fail
  refine (SM.out _).mono ?_
  rintro e w7 ⟨rfl, hb⟩
  clear ka0 ka1 kal kb0 kb1 kbl kc0 kc1 kcl
  have B7_a := B6_a.below hb
  have B7_b := B6_b.below hb
  have B7_c := B6_c.below hb
  have W7 := Lib.hid (blw_trans W6.out hb)
  clear hb B6_a B6_b B6_c W6
  have ka0 := B7_a.cell 0 _ rfl
  have ka1 := B7_a.cell 1 _ rfl
  have kal := B7_a.lt
  try simp at ka0 ka1 kal
  have kb0 := B7_b.cell 0 _ rfl
  have kb1 := B7_b.cell 1 _ rfl
  have kbl := B7_b.lt
  try simp at kb0 kb1 kbl
  have kc0 := B7_c.cell 0 _ rfl
  have kc1 := B7_c.cell 1 _ rfl
  have kcl := B7_c.lt
  try simp at kc0 kc1 kcl
  go_wp2_with fail
  refine (RD.out _).mono ?_
  rintro e w8 ⟨rfl, hb⟩
  clear ka0 ka1 kal kb0 kb1 kbl kc0 kc1 kcl
  have B8_a := B7_a.below hb
  have B8_b := B7_b.below hb
  have B8_c := B7_c.below hb
  have W8 := Lib.hid (blw_trans W7.out hb)
  clear hb B7_a B7_b B7_c W7
  have ka0 := B8_a.cell 0 _ rfl
  have ka1 := B8_a.cell 1 _ rfl
  have kal := B8_a.lt
  try simp at ka0 ka1 kal
  have kb0 := B8_b.cell 0 _ rfl
  have kb1 := B8_b.cell 1 _ rfl
  have kbl := B8_b.lt
  try simp at kb0 kb1 kbl
  have kc0 := B8_c.cell 0 _ rfl
  have kc1 := B8_c.cell 1 _ rfl
  have kcl := B8_c.lt
  try simp at kc0 kc1 kcl
  go_wp2_with fail
  go_big_quiet (fail)
  go_wp2_with fail
  refine (AB.out _).mono ?_
  rintro e w9 ⟨rfl, hb⟩
  clear ka0 ka1 kal kb0 kb1 kbl kc0 kc1 kcl
  have B9_a := (Boxed.drewN (B8_a.alloc _) _).below hb
  have B9_b := (Boxed.drewN (B8_b.alloc _) _).below hb
  have B9_c := (Boxed.drewN (B8_c.alloc _) _).below hb
  have B9_l := Boxed.below (Boxed.drewN (Boxed.made _ #[.int .i64 0, .int .i64 0] 30) _) hb
  have W9 := Lib.hid (blw_trans (blw_drewN (blw_trans W8.out (blw_alloc _ _)) _) hb)
  clear hb B8_a B8_b B8_c W8
  have ka0 := B9_a.cell 0 _ rfl
  have ka1 := B9_a.cell 1 _ rfl
  have kal := B9_a.lt
  try simp at ka0 ka1 kal
  have kb0 := B9_b.cell 0 _ rfl
  have kb1 := B9_b.cell 1 _ rfl
  have kbl := B9_b.lt
  try simp at kb0 kb1 kbl
  have kc0 := B9_c.cell 0 _ rfl
  have kc1 := B9_c.cell 1 _ rfl
  have kcl := B9_c.lt
  try simp at kc0 kc1 kcl
  go_wp2_with fail
  refine (BC.out _).mono ?_
  rintro e w10 ⟨rfl, hb⟩
  clear ka0 ka1 kal kb0 kb1 kbl kc0 kc1 kcl
  have B10_a := B9_a.below hb
  have B10_b := B9_b.below hb
  have B10_c := B9_c.below hb
  have B10_l := B9_l.below hb
  have W10 := Lib.hid (blw_trans W9.out hb)
  clear hb B9_a B9_b B9_c B9_l W9
  have ka0 := B10_a.cell 0 _ rfl
  have ka1 := B10_a.cell 1 _ rfl
  have kal := B10_a.lt
  try simp at ka0 ka1 kal
  have kb0 := B10_b.cell 0 _ rfl
  have kb1 := B10_b.cell 1 _ rfl
  have kbl := B10_b.lt
  try simp at kb0 kb1 kbl
  have kc0 := B10_c.cell 0 _ rfl
  have kc1 := B10_c.cell 1 _ rfl
  have kcl := B10_c.lt
  try simp at kc0 kc1 kcl
  clear B10_a B10_b B10_c B10_l
  go_wp2
  go_ret
  exact ⟨ret_bool (by simp), W10.out⟩

set_option maxRecDepth 100000 in
set_option maxHeartbeats 4000000 in
theorem order_eq_r (a s b t c r : Int) (w : World) (ha : okD a s) (hb' : okD b t) (hc : okD c r) (hl : nrm a s = nrm b t) (hr : rndE a s 9 1 = 0) :
    Calls Try.prog 6 #[.agg #[.int .i64 a, .int .i64 s], .agg #[.int .i64 b, .int .i64 t], .agg #[.int .i64 c, .int .i64 r]] w fun e w' => e = .returned (.bool true) ∧ Below w.heap.size w w' := by
  have C0 := Lib.hid fun w => dchk_yes a s w ha
  have C1 := Lib.hid fun w => dchk_yes b t w hb'
  have C2 := Lib.hid fun w => dchk_yes c r w hc
  have AB := Lib.hid fun w => less_no a s b t w ha hb' (by omega)
  have BA := Lib.hid fun w => less_no b t a s w hb' ha (by omega)
  have SM := Lib.hid fun w => same_yes a s b t w ha hb' hl
  have hL := long_ok hr
  have RD := Lib.hid fun w => round_yes a s 9 1 w hr
  have SL := Lib.hid fun w => same_yes (Dcm.rndC a s 9 1) 9 a s w hL.1 ha hL.2
  have LB := Lib.hid fun w => less_no (Dcm.rndC a s 9 1) 9 b t w hL.1 hb' (by rw [hL.2]; omega)
  generalize Dcm.rndC a s 9 1 = L at *
  clear hL
  clear ha hb' hc hl hr
  go_enter Try.func6, Try.ntmps6
  go_wp2_with fail
  refine (half_any _).mono ?_
  rintro e w1 ⟨rfl, hb⟩
  have B1_a := Boxed.below (Boxed.alloc (Boxed.alloc (Boxed.made _ #[.int .i64 a, .int .i64 s] 30) _) _) hb
  have B1_b := Boxed.below (Boxed.alloc (Boxed.made _ #[.int .i64 b, .int .i64 t] 30) _) hb
  have B1_c := Boxed.below (Boxed.made _ #[.int .i64 c, .int .i64 r] 30) hb
  have W1 := Lib.hid (blw_trans (blw_trans (blw_trans (blw_trans (Below.refl w.heap.size w) (blw_alloc _ _)) (blw_alloc _ _)) (blw_alloc _ _)) hb)
  clear hb 
  have ka0 := B1_a.cell 0 _ rfl
  have ka1 := B1_a.cell 1 _ rfl
  have kal := B1_a.lt
  try simp at ka0 ka1 kal
  have kb0 := B1_b.cell 0 _ rfl
  have kb1 := B1_b.cell 1 _ rfl
  have kbl := B1_b.lt
  try simp at kb0 kb1 kbl
  have kc0 := B1_c.cell 0 _ rfl
  have kc1 := B1_c.cell 1 _ rfl
  have kcl := B1_c.lt
  try simp at kc0 kc1 kcl
  go_wp2_with fail
  refine (C0.out _).mono ?_
  rintro e w2 ⟨rfl, hb⟩
  clear ka0 ka1 kal kb0 kb1 kbl kc0 kc1 kcl
  have B2_a := B1_a.below hb
  have B2_b := B1_b.below hb
  have B2_c := B1_c.below hb
  have W2 := Lib.hid (blw_trans W1.out hb)
  clear hb B1_a B1_b B1_c W1
  have ka0 := B2_a.cell 0 _ rfl
  have ka1 := B2_a.cell 1 _ rfl
  have kal := B2_a.lt
  try simp at ka0 ka1 kal
  have kb0 := B2_b.cell 0 _ rfl
  have kb1 := B2_b.cell 1 _ rfl
  have kbl := B2_b.lt
  try simp at kb0 kb1 kbl
  have kc0 := B2_c.cell 0 _ rfl
  have kc1 := B2_c.cell 1 _ rfl
  have kcl := B2_c.lt
  try simp at kc0 kc1 kcl
  go_wp2_with fail
  refine (C1.out _).mono ?_
  rintro e w3 ⟨rfl, hb⟩
  clear ka0 ka1 kal kb0 kb1 kbl kc0 kc1 kcl
  have B3_a := B2_a.below hb
  have B3_b := B2_b.below hb
  have B3_c := B2_c.below hb
  have W3 := Lib.hid (blw_trans W2.out hb)
  clear hb B2_a B2_b B2_c W2
  have ka0 := B3_a.cell 0 _ rfl
  have ka1 := B3_a.cell 1 _ rfl
  have kal := B3_a.lt
  try simp at ka0 ka1 kal
  have kb0 := B3_b.cell 0 _ rfl
  have kb1 := B3_b.cell 1 _ rfl
  have kbl := B3_b.lt
  try simp at kb0 kb1 kbl
  have kc0 := B3_c.cell 0 _ rfl
  have kc1 := B3_c.cell 1 _ rfl
  have kcl := B3_c.lt
  try simp at kc0 kc1 kcl
  go_wp2_with fail
  refine (C2.out _).mono ?_
  rintro e w4 ⟨rfl, hb⟩
  clear ka0 ka1 kal kb0 kb1 kbl kc0 kc1 kcl
  have B4_a := B3_a.below hb
  have B4_b := B3_b.below hb
  have B4_c := B3_c.below hb
  have W4 := Lib.hid (blw_trans W3.out hb)
  clear hb B3_a B3_b B3_c W3
  have ka0 := B4_a.cell 0 _ rfl
  have ka1 := B4_a.cell 1 _ rfl
  have kal := B4_a.lt
  try simp at ka0 ka1 kal
  have kb0 := B4_b.cell 0 _ rfl
  have kb1 := B4_b.cell 1 _ rfl
  have kbl := B4_b.lt
  try simp at kb0 kb1 kbl
  have kc0 := B4_c.cell 0 _ rfl
  have kc1 := B4_c.cell 1 _ rfl
  have kcl := B4_c.lt
  try simp at kc0 kc1 kcl
  go_wp2_with fail
  refine (AB.out _).mono ?_
  rintro e w5 ⟨rfl, hb⟩
  clear ka0 ka1 kal kb0 kb1 kbl kc0 kc1 kcl
  have B5_a := B4_a.below hb
  have B5_b := B4_b.below hb
  have B5_c := B4_c.below hb
  have W5 := Lib.hid (blw_trans W4.out hb)
  clear hb B4_a B4_b B4_c W4
  have ka0 := B5_a.cell 0 _ rfl
  have ka1 := B5_a.cell 1 _ rfl
  have kal := B5_a.lt
  try simp at ka0 ka1 kal
  have kb0 := B5_b.cell 0 _ rfl
  have kb1 := B5_b.cell 1 _ rfl
  have kbl := B5_b.lt
  try simp at kb0 kb1 kbl
  have kc0 := B5_c.cell 0 _ rfl
  have kc1 := B5_c.cell 1 _ rfl
  have kcl := B5_c.lt
  try simp at kc0 kc1 kcl
  go_wp2_with fail
  refine (BA.out _).mono ?_
  rintro e w6 ⟨rfl, hb⟩
  clear ka0 ka1 kal kb0 kb1 kbl kc0 kc1 kcl
  have B6_a := B5_a.below hb
  have B6_b := B5_b.below hb
  have B6_c := B5_c.below hb
  have W6 := Lib.hid (blw_trans W5.out hb)
  clear hb B5_a B5_b B5_c W5
  have ka0 := B6_a.cell 0 _ rfl
  have ka1 := B6_a.cell 1 _ rfl
  have kal := B6_a.lt
  try simp at ka0 ka1 kal
  have kb0 := B6_b.cell 0 _ rfl
  have kb1 := B6_b.cell 1 _ rfl
  have kbl := B6_b.lt
  try simp at kb0 kb1 kbl
  have kc0 := B6_c.cell 0 _ rfl
  have kc1 := B6_c.cell 1 _ rfl
  have kcl := B6_c.lt
  try simp at kc0 kc1 kcl
  go_wp2_with fail
  refine (SM.out _).mono ?_
  rintro e w7 ⟨rfl, hb⟩
  clear ka0 ka1 kal kb0 kb1 kbl kc0 kc1 kcl
  have B7_a := B6_a.below hb
  have B7_b := B6_b.below hb
  have B7_c := B6_c.below hb
  have W7 := Lib.hid (blw_trans W6.out hb)
  clear hb B6_a B6_b B6_c W6
  have ka0 := B7_a.cell 0 _ rfl
  have ka1 := B7_a.cell 1 _ rfl
  have kal := B7_a.lt
  try simp at ka0 ka1 kal
  have kb0 := B7_b.cell 0 _ rfl
  have kb1 := B7_b.cell 1 _ rfl
  have kbl := B7_b.lt
  try simp at kb0 kb1 kbl
  have kc0 := B7_c.cell 0 _ rfl
  have kc1 := B7_c.cell 1 _ rfl
  have kcl := B7_c.lt
  try simp at kc0 kc1 kcl
  go_wp2_with fail
  refine (RD.out _).mono ?_
  rintro e w8 ⟨rfl, hb⟩
  clear ka0 ka1 kal kb0 kb1 kbl kc0 kc1 kcl
  have B8_a := B7_a.below hb
  have B8_b := B7_b.below hb
  have B8_c := B7_c.below hb
  have W8 := Lib.hid (blw_trans W7.out hb)
  clear hb B7_a B7_b B7_c W7
  have ka0 := B8_a.cell 0 _ rfl
  have ka1 := B8_a.cell 1 _ rfl
  have kal := B8_a.lt
  try simp at ka0 ka1 kal
  have kb0 := B8_b.cell 0 _ rfl
  have kb1 := B8_b.cell 1 _ rfl
  have kbl := B8_b.lt
  try simp at kb0 kb1 kbl
  have kc0 := B8_c.cell 0 _ rfl
  have kc1 := B8_c.cell 1 _ rfl
  have kcl := B8_c.lt
  try simp at kc0 kc1 kcl
  go_wp2_with fail
  have HW := Lib.hid (show Below w.heap.size w (w8.alloc (.cells #[.int .i64 L, .int .i64 9] 30)) from (blw_trans W8.out (blw_alloc _ _)))
  go_region_held3 (fun w' => w'.cell? ⟨w8.heap.size, 0, none⟩ = some (.int .i64 L) ∧ w'.cell? ⟨w8.heap.size, 1, none⟩ = some (.int .i64 9) ∧ w'.cell? ⟨w.heap.size, 0, none⟩ = some (.int .i64 a) ∧ w'.cell? ⟨w.heap.size, 1, none⟩ = some (.int .i64 s) ∧ w'.cell? ⟨w.heap.size + 1, 0, none⟩ = some (.int .i64 b) ∧ w'.cell? ⟨w.heap.size + 1, 1, none⟩ = some (.int .i64 t) ∧ w'.cell? ⟨w.heap.size + 1 + 1, 0, none⟩ = some (.int .i64 c) ∧ w'.cell? ⟨w.heap.size + 1 + 1, 1, none⟩ = some (.int .i64 r) ∧ Hid (Below w.heap.size w w'))
    (first | (refine ⟨?_, ?_, ?_, ?_, ?_, ?_, ?_, ?_, Lib.hid (Below.drew HW.out)⟩ <;> go_keep) | (go_split_ands; refine ⟨cell_keep ‹_› hb, cell_keep ‹_› hb, cell_keep ‹_› hb, cell_keep ‹_› hb, cell_keep ‹_› hb, cell_keep ‹_› hb, cell_keep ‹_› hb, cell_keep ‹_› hb, Lib.hid (blw_trans (Hid.out ‹_›) hb)⟩))
    (first | (go_at_call 20; refine (SL.out _).mono ?_; rintro e w' ⟨rfl, hb⟩) | (go_at_call 18; first | (with_reducible refine (LB.out _).mono ?_; rintro e w' ⟨rfl, hb⟩) | (with_reducible refine (AB.out _).mono ?_; rintro e w' ⟨rfl, hb⟩)))
  rename_i hHeld
  obtain ⟨z0, z1, z2, z3, z4, z5, z6, z7, zW⟩ := hHeld
  go_wp2_with fail
  refine (AB.out _).mono ?_
  rintro e wA ⟨rfl, hb⟩
  have qwA0a := cell_keep (a := ⟨w.heap.size, 0, none⟩) (v := .int .i64 a) ‹_› hb
  have qwA1s := cell_keep (a := ⟨w.heap.size, 1, none⟩) (v := .int .i64 s) ‹_› hb
  have qwA0b := cell_keep (a := ⟨w.heap.size + 1, 0, none⟩) (v := .int .i64 b) ‹_› hb
  have qwA1t := cell_keep (a := ⟨w.heap.size + 1, 1, none⟩) (v := .int .i64 t) ‹_› hb
  have qwA0c := cell_keep (a := ⟨w.heap.size + 1 + 1, 0, none⟩) (v := .int .i64 c) ‹_› hb
  have qwA1r := cell_keep (a := ⟨w.heap.size + 1 + 1, 1, none⟩) (v := .int .i64 r) ‹_› hb
  have HwA := Lib.hid (show Below w.heap.size w wA from blw_trans (Hid.out ‹_›) hb)
  clear hb
  go_wp2
  go_ret
  exact ⟨ret_bool (by simp), HwA.out⟩

set_option maxRecDepth 100000 in
set_option maxHeartbeats 4000000 in
theorem order_eq_f (a s b t c r : Int) (w : World) (ha : okD a s) (hb' : okD b t) (hc : okD c r) (hl : nrm a s = nrm b t) (hr : rndE a s 9 1 ≠ 0) :
    Calls Try.prog 6 #[.agg #[.int .i64 a, .int .i64 s], .agg #[.int .i64 b, .int .i64 t], .agg #[.int .i64 c, .int .i64 r]] w fun e w' => e = .returned (.bool true) ∧ Below w.heap.size w w' := by
  have C0 := Lib.hid fun w => dchk_yes a s w ha
  have C1 := Lib.hid fun w => dchk_yes b t w hb'
  have C2 := Lib.hid fun w => dchk_yes c r w hc
  have AB := Lib.hid fun w => less_no a s b t w ha hb' (by omega)
  have BA := Lib.hid fun w => less_no b t a s w hb' ha (by omega)
  have SM := Lib.hid fun w => same_yes a s b t w ha hb' hl
  have RD := Lib.hid fun w => round_no a s 9 1 w hr
  clear ha hb' hc hl hr
  go_enter Try.func6, Try.ntmps6
  go_wp2_with fail
  refine (half_any _).mono ?_
  rintro e w1 ⟨rfl, hb⟩
  have B1_a := Boxed.below (Boxed.alloc (Boxed.alloc (Boxed.made _ #[.int .i64 a, .int .i64 s] 30) _) _) hb
  have B1_b := Boxed.below (Boxed.alloc (Boxed.made _ #[.int .i64 b, .int .i64 t] 30) _) hb
  have B1_c := Boxed.below (Boxed.made _ #[.int .i64 c, .int .i64 r] 30) hb
  have W1 := Lib.hid (blw_trans (blw_trans (blw_trans (blw_trans (Below.refl w.heap.size w) (blw_alloc _ _)) (blw_alloc _ _)) (blw_alloc _ _)) hb)
  clear hb 
  have ka0 := B1_a.cell 0 _ rfl
  have ka1 := B1_a.cell 1 _ rfl
  have kal := B1_a.lt
  try simp at ka0 ka1 kal
  have kb0 := B1_b.cell 0 _ rfl
  have kb1 := B1_b.cell 1 _ rfl
  have kbl := B1_b.lt
  try simp at kb0 kb1 kbl
  have kc0 := B1_c.cell 0 _ rfl
  have kc1 := B1_c.cell 1 _ rfl
  have kcl := B1_c.lt
  try simp at kc0 kc1 kcl
  go_wp2_with fail
  refine (C0.out _).mono ?_
  rintro e w2 ⟨rfl, hb⟩
  clear ka0 ka1 kal kb0 kb1 kbl kc0 kc1 kcl
  have B2_a := B1_a.below hb
  have B2_b := B1_b.below hb
  have B2_c := B1_c.below hb
  have W2 := Lib.hid (blw_trans W1.out hb)
  clear hb B1_a B1_b B1_c W1
  have ka0 := B2_a.cell 0 _ rfl
  have ka1 := B2_a.cell 1 _ rfl
  have kal := B2_a.lt
  try simp at ka0 ka1 kal
  have kb0 := B2_b.cell 0 _ rfl
  have kb1 := B2_b.cell 1 _ rfl
  have kbl := B2_b.lt
  try simp at kb0 kb1 kbl
  have kc0 := B2_c.cell 0 _ rfl
  have kc1 := B2_c.cell 1 _ rfl
  have kcl := B2_c.lt
  try simp at kc0 kc1 kcl
  go_wp2_with fail
  refine (C1.out _).mono ?_
  rintro e w3 ⟨rfl, hb⟩
  clear ka0 ka1 kal kb0 kb1 kbl kc0 kc1 kcl
  have B3_a := B2_a.below hb
  have B3_b := B2_b.below hb
  have B3_c := B2_c.below hb
  have W3 := Lib.hid (blw_trans W2.out hb)
  clear hb B2_a B2_b B2_c W2
  have ka0 := B3_a.cell 0 _ rfl
  have ka1 := B3_a.cell 1 _ rfl
  have kal := B3_a.lt
  try simp at ka0 ka1 kal
  have kb0 := B3_b.cell 0 _ rfl
  have kb1 := B3_b.cell 1 _ rfl
  have kbl := B3_b.lt
  try simp at kb0 kb1 kbl
  have kc0 := B3_c.cell 0 _ rfl
  have kc1 := B3_c.cell 1 _ rfl
  have kcl := B3_c.lt
  try simp at kc0 kc1 kcl
  go_wp2_with fail
  refine (C2.out _).mono ?_
  rintro e w4 ⟨rfl, hb⟩
  clear ka0 ka1 kal kb0 kb1 kbl kc0 kc1 kcl
  have B4_a := B3_a.below hb
  have B4_b := B3_b.below hb
  have B4_c := B3_c.below hb
  have W4 := Lib.hid (blw_trans W3.out hb)
  clear hb B3_a B3_b B3_c W3
  have ka0 := B4_a.cell 0 _ rfl
  have ka1 := B4_a.cell 1 _ rfl
  have kal := B4_a.lt
  try simp at ka0 ka1 kal
  have kb0 := B4_b.cell 0 _ rfl
  have kb1 := B4_b.cell 1 _ rfl
  have kbl := B4_b.lt
  try simp at kb0 kb1 kbl
  have kc0 := B4_c.cell 0 _ rfl
  have kc1 := B4_c.cell 1 _ rfl
  have kcl := B4_c.lt
  try simp at kc0 kc1 kcl
  go_wp2_with fail
  refine (AB.out _).mono ?_
  rintro e w5 ⟨rfl, hb⟩
  clear ka0 ka1 kal kb0 kb1 kbl kc0 kc1 kcl
  have B5_a := B4_a.below hb
  have B5_b := B4_b.below hb
  have B5_c := B4_c.below hb
  have W5 := Lib.hid (blw_trans W4.out hb)
  clear hb B4_a B4_b B4_c W4
  have ka0 := B5_a.cell 0 _ rfl
  have ka1 := B5_a.cell 1 _ rfl
  have kal := B5_a.lt
  try simp at ka0 ka1 kal
  have kb0 := B5_b.cell 0 _ rfl
  have kb1 := B5_b.cell 1 _ rfl
  have kbl := B5_b.lt
  try simp at kb0 kb1 kbl
  have kc0 := B5_c.cell 0 _ rfl
  have kc1 := B5_c.cell 1 _ rfl
  have kcl := B5_c.lt
  try simp at kc0 kc1 kcl
  go_wp2_with fail
  refine (BA.out _).mono ?_
  rintro e w6 ⟨rfl, hb⟩
  clear ka0 ka1 kal kb0 kb1 kbl kc0 kc1 kcl
  have B6_a := B5_a.below hb
  have B6_b := B5_b.below hb
  have B6_c := B5_c.below hb
  have W6 := Lib.hid (blw_trans W5.out hb)
  clear hb B5_a B5_b B5_c W5
  have ka0 := B6_a.cell 0 _ rfl
  have ka1 := B6_a.cell 1 _ rfl
  have kal := B6_a.lt
  try simp at ka0 ka1 kal
  have kb0 := B6_b.cell 0 _ rfl
  have kb1 := B6_b.cell 1 _ rfl
  have kbl := B6_b.lt
  try simp at kb0 kb1 kbl
  have kc0 := B6_c.cell 0 _ rfl
  have kc1 := B6_c.cell 1 _ rfl
  have kcl := B6_c.lt
  try simp at kc0 kc1 kcl
  go_wp2_with fail
  refine (SM.out _).mono ?_
  rintro e w7 ⟨rfl, hb⟩
  clear ka0 ka1 kal kb0 kb1 kbl kc0 kc1 kcl
  have B7_a := B6_a.below hb
  have B7_b := B6_b.below hb
  have B7_c := B6_c.below hb
  have W7 := Lib.hid (blw_trans W6.out hb)
  clear hb B6_a B6_b B6_c W6
  have ka0 := B7_a.cell 0 _ rfl
  have ka1 := B7_a.cell 1 _ rfl
  have kal := B7_a.lt
  try simp at ka0 ka1 kal
  have kb0 := B7_b.cell 0 _ rfl
  have kb1 := B7_b.cell 1 _ rfl
  have kbl := B7_b.lt
  try simp at kb0 kb1 kbl
  have kc0 := B7_c.cell 0 _ rfl
  have kc1 := B7_c.cell 1 _ rfl
  have kcl := B7_c.lt
  try simp at kc0 kc1 kcl
  go_wp2_with fail
  refine (RD.out _).mono ?_
  rintro e w8 ⟨rfl, hb⟩
  clear ka0 ka1 kal kb0 kb1 kbl kc0 kc1 kcl
  have B8_a := B7_a.below hb
  have B8_b := B7_b.below hb
  have B8_c := B7_c.below hb
  have W8 := Lib.hid (blw_trans W7.out hb)
  clear hb B7_a B7_b B7_c W7
  have ka0 := B8_a.cell 0 _ rfl
  have ka1 := B8_a.cell 1 _ rfl
  have kal := B8_a.lt
  try simp at ka0 ka1 kal
  have kb0 := B8_b.cell 0 _ rfl
  have kb1 := B8_b.cell 1 _ rfl
  have kbl := B8_b.lt
  try simp at kb0 kb1 kbl
  have kc0 := B8_c.cell 0 _ rfl
  have kc1 := B8_c.cell 1 _ rfl
  have kcl := B8_c.lt
  try simp at kc0 kc1 kcl
  go_wp2_with fail
  go_big_quiet (fail)
  go_wp2_with fail
  refine (AB.out _).mono ?_
  rintro e w9 ⟨rfl, hb⟩
  clear ka0 ka1 kal kb0 kb1 kbl kc0 kc1 kcl
  have B9_a := (Boxed.drewN (B8_a.alloc _) _).below hb
  have B9_b := (Boxed.drewN (B8_b.alloc _) _).below hb
  have B9_c := (Boxed.drewN (B8_c.alloc _) _).below hb
  have B9_l := Boxed.below (Boxed.drewN (Boxed.made _ #[.int .i64 0, .int .i64 0] 30) _) hb
  have W9 := Lib.hid (blw_trans (blw_drewN (blw_trans W8.out (blw_alloc _ _)) _) hb)
  clear hb B8_a B8_b B8_c W8
  have ka0 := B9_a.cell 0 _ rfl
  have ka1 := B9_a.cell 1 _ rfl
  have kal := B9_a.lt
  try simp at ka0 ka1 kal
  have kb0 := B9_b.cell 0 _ rfl
  have kb1 := B9_b.cell 1 _ rfl
  have kbl := B9_b.lt
  try simp at kb0 kb1 kbl
  have kc0 := B9_c.cell 0 _ rfl
  have kc1 := B9_c.cell 1 _ rfl
  have kcl := B9_c.lt
  try simp at kc0 kc1 kcl
  clear B9_a B9_b B9_c B9_l
  go_wp2
  go_ret
  exact ⟨ret_bool (by simp), W9.out⟩

set_option maxRecDepth 100000 in
set_option maxHeartbeats 4000000 in
theorem order_gt_r (a s b t c r : Int) (w : World) (ha : okD a s) (hb' : okD b t) (hc : okD c r) (hl : nrm b t < nrm a s) (hr : rndE a s 9 1 = 0) :
    Calls Try.prog 6 #[.agg #[.int .i64 a, .int .i64 s], .agg #[.int .i64 b, .int .i64 t], .agg #[.int .i64 c, .int .i64 r]] w fun e w' => e = .returned (.bool true) ∧ Below w.heap.size w w' := by
  have C0 := Lib.hid fun w => dchk_yes a s w ha
  have C1 := Lib.hid fun w => dchk_yes b t w hb'
  have C2 := Lib.hid fun w => dchk_yes c r w hc
  have AB := Lib.hid fun w => less_no a s b t w ha hb' (by omega)
  have BA := Lib.hid fun w => less_yes b t a s w hb' ha hl
  have SM := Lib.hid fun w => same_no a s b t w ha hb' (by omega)
  have hL := long_ok hr
  have RD := Lib.hid fun w => round_yes a s 9 1 w hr
  have SL := Lib.hid fun w => same_yes (Dcm.rndC a s 9 1) 9 a s w hL.1 ha hL.2
  have LB := Lib.hid fun w => less_no (Dcm.rndC a s 9 1) 9 b t w hL.1 hb' (by rw [hL.2]; omega)
  generalize Dcm.rndC a s 9 1 = L at *
  clear hL
  clear ha hb' hc hl hr
  go_enter Try.func6, Try.ntmps6
  go_wp2_with fail
  refine (half_any _).mono ?_
  rintro e w1 ⟨rfl, hb⟩
  have B1_a := Boxed.below (Boxed.alloc (Boxed.alloc (Boxed.made _ #[.int .i64 a, .int .i64 s] 30) _) _) hb
  have B1_b := Boxed.below (Boxed.alloc (Boxed.made _ #[.int .i64 b, .int .i64 t] 30) _) hb
  have B1_c := Boxed.below (Boxed.made _ #[.int .i64 c, .int .i64 r] 30) hb
  have W1 := Lib.hid (blw_trans (blw_trans (blw_trans (blw_trans (Below.refl w.heap.size w) (blw_alloc _ _)) (blw_alloc _ _)) (blw_alloc _ _)) hb)
  clear hb 
  have ka0 := B1_a.cell 0 _ rfl
  have ka1 := B1_a.cell 1 _ rfl
  have kal := B1_a.lt
  try simp at ka0 ka1 kal
  have kb0 := B1_b.cell 0 _ rfl
  have kb1 := B1_b.cell 1 _ rfl
  have kbl := B1_b.lt
  try simp at kb0 kb1 kbl
  have kc0 := B1_c.cell 0 _ rfl
  have kc1 := B1_c.cell 1 _ rfl
  have kcl := B1_c.lt
  try simp at kc0 kc1 kcl
  go_wp2_with fail
  refine (C0.out _).mono ?_
  rintro e w2 ⟨rfl, hb⟩
  clear ka0 ka1 kal kb0 kb1 kbl kc0 kc1 kcl
  have B2_a := B1_a.below hb
  have B2_b := B1_b.below hb
  have B2_c := B1_c.below hb
  have W2 := Lib.hid (blw_trans W1.out hb)
  clear hb B1_a B1_b B1_c W1
  have ka0 := B2_a.cell 0 _ rfl
  have ka1 := B2_a.cell 1 _ rfl
  have kal := B2_a.lt
  try simp at ka0 ka1 kal
  have kb0 := B2_b.cell 0 _ rfl
  have kb1 := B2_b.cell 1 _ rfl
  have kbl := B2_b.lt
  try simp at kb0 kb1 kbl
  have kc0 := B2_c.cell 0 _ rfl
  have kc1 := B2_c.cell 1 _ rfl
  have kcl := B2_c.lt
  try simp at kc0 kc1 kcl
  go_wp2_with fail
  refine (C1.out _).mono ?_
  rintro e w3 ⟨rfl, hb⟩
  clear ka0 ka1 kal kb0 kb1 kbl kc0 kc1 kcl
  have B3_a := B2_a.below hb
  have B3_b := B2_b.below hb
  have B3_c := B2_c.below hb
  have W3 := Lib.hid (blw_trans W2.out hb)
  clear hb B2_a B2_b B2_c W2
  have ka0 := B3_a.cell 0 _ rfl
  have ka1 := B3_a.cell 1 _ rfl
  have kal := B3_a.lt
  try simp at ka0 ka1 kal
  have kb0 := B3_b.cell 0 _ rfl
  have kb1 := B3_b.cell 1 _ rfl
  have kbl := B3_b.lt
  try simp at kb0 kb1 kbl
  have kc0 := B3_c.cell 0 _ rfl
  have kc1 := B3_c.cell 1 _ rfl
  have kcl := B3_c.lt
  try simp at kc0 kc1 kcl
  go_wp2_with fail
  refine (C2.out _).mono ?_
  rintro e w4 ⟨rfl, hb⟩
  clear ka0 ka1 kal kb0 kb1 kbl kc0 kc1 kcl
  have B4_a := B3_a.below hb
  have B4_b := B3_b.below hb
  have B4_c := B3_c.below hb
  have W4 := Lib.hid (blw_trans W3.out hb)
  clear hb B3_a B3_b B3_c W3
  have ka0 := B4_a.cell 0 _ rfl
  have ka1 := B4_a.cell 1 _ rfl
  have kal := B4_a.lt
  try simp at ka0 ka1 kal
  have kb0 := B4_b.cell 0 _ rfl
  have kb1 := B4_b.cell 1 _ rfl
  have kbl := B4_b.lt
  try simp at kb0 kb1 kbl
  have kc0 := B4_c.cell 0 _ rfl
  have kc1 := B4_c.cell 1 _ rfl
  have kcl := B4_c.lt
  try simp at kc0 kc1 kcl
  go_wp2_with fail
  refine (AB.out _).mono ?_
  rintro e w5 ⟨rfl, hb⟩
  clear ka0 ka1 kal kb0 kb1 kbl kc0 kc1 kcl
  have B5_a := B4_a.below hb
  have B5_b := B4_b.below hb
  have B5_c := B4_c.below hb
  have W5 := Lib.hid (blw_trans W4.out hb)
  clear hb B4_a B4_b B4_c W4
  have ka0 := B5_a.cell 0 _ rfl
  have ka1 := B5_a.cell 1 _ rfl
  have kal := B5_a.lt
  try simp at ka0 ka1 kal
  have kb0 := B5_b.cell 0 _ rfl
  have kb1 := B5_b.cell 1 _ rfl
  have kbl := B5_b.lt
  try simp at kb0 kb1 kbl
  have kc0 := B5_c.cell 0 _ rfl
  have kc1 := B5_c.cell 1 _ rfl
  have kcl := B5_c.lt
  try simp at kc0 kc1 kcl
  go_wp2_with fail
  refine (BA.out _).mono ?_
  rintro e w6 ⟨rfl, hb⟩
  clear ka0 ka1 kal kb0 kb1 kbl kc0 kc1 kcl
  have B6_a := B5_a.below hb
  have B6_b := B5_b.below hb
  have B6_c := B5_c.below hb
  have W6 := Lib.hid (blw_trans W5.out hb)
  clear hb B5_a B5_b B5_c W5
  have ka0 := B6_a.cell 0 _ rfl
  have ka1 := B6_a.cell 1 _ rfl
  have kal := B6_a.lt
  try simp at ka0 ka1 kal
  have kb0 := B6_b.cell 0 _ rfl
  have kb1 := B6_b.cell 1 _ rfl
  have kbl := B6_b.lt
  try simp at kb0 kb1 kbl
  have kc0 := B6_c.cell 0 _ rfl
  have kc1 := B6_c.cell 1 _ rfl
  have kcl := B6_c.lt
  try simp at kc0 kc1 kcl
  go_wp2_with fail
  refine (SM.out _).mono ?_
  rintro e w7 ⟨rfl, hb⟩
  clear ka0 ka1 kal kb0 kb1 kbl kc0 kc1 kcl
  have B7_a := B6_a.below hb
  have B7_b := B6_b.below hb
  have B7_c := B6_c.below hb
  have W7 := Lib.hid (blw_trans W6.out hb)
  clear hb B6_a B6_b B6_c W6
  have ka0 := B7_a.cell 0 _ rfl
  have ka1 := B7_a.cell 1 _ rfl
  have kal := B7_a.lt
  try simp at ka0 ka1 kal
  have kb0 := B7_b.cell 0 _ rfl
  have kb1 := B7_b.cell 1 _ rfl
  have kbl := B7_b.lt
  try simp at kb0 kb1 kbl
  have kc0 := B7_c.cell 0 _ rfl
  have kc1 := B7_c.cell 1 _ rfl
  have kcl := B7_c.lt
  try simp at kc0 kc1 kcl
  go_wp2_with fail
  refine (RD.out _).mono ?_
  rintro e w8 ⟨rfl, hb⟩
  clear ka0 ka1 kal kb0 kb1 kbl kc0 kc1 kcl
  have B8_a := B7_a.below hb
  have B8_b := B7_b.below hb
  have B8_c := B7_c.below hb
  have W8 := Lib.hid (blw_trans W7.out hb)
  clear hb B7_a B7_b B7_c W7
  have ka0 := B8_a.cell 0 _ rfl
  have ka1 := B8_a.cell 1 _ rfl
  have kal := B8_a.lt
  try simp at ka0 ka1 kal
  have kb0 := B8_b.cell 0 _ rfl
  have kb1 := B8_b.cell 1 _ rfl
  have kbl := B8_b.lt
  try simp at kb0 kb1 kbl
  have kc0 := B8_c.cell 0 _ rfl
  have kc1 := B8_c.cell 1 _ rfl
  have kcl := B8_c.lt
  try simp at kc0 kc1 kcl
  go_wp2_with fail
  have HW := Lib.hid (show Below w.heap.size w (w8.alloc (.cells #[.int .i64 L, .int .i64 9] 30)) from (blw_trans W8.out (blw_alloc _ _)))
  go_region_held3 (fun w' => w'.cell? ⟨w8.heap.size, 0, none⟩ = some (.int .i64 L) ∧ w'.cell? ⟨w8.heap.size, 1, none⟩ = some (.int .i64 9) ∧ w'.cell? ⟨w.heap.size, 0, none⟩ = some (.int .i64 a) ∧ w'.cell? ⟨w.heap.size, 1, none⟩ = some (.int .i64 s) ∧ w'.cell? ⟨w.heap.size + 1, 0, none⟩ = some (.int .i64 b) ∧ w'.cell? ⟨w.heap.size + 1, 1, none⟩ = some (.int .i64 t) ∧ w'.cell? ⟨w.heap.size + 1 + 1, 0, none⟩ = some (.int .i64 c) ∧ w'.cell? ⟨w.heap.size + 1 + 1, 1, none⟩ = some (.int .i64 r) ∧ Hid (Below w.heap.size w w'))
    (first | (refine ⟨?_, ?_, ?_, ?_, ?_, ?_, ?_, ?_, Lib.hid (Below.drew HW.out)⟩ <;> go_keep) | (go_split_ands; refine ⟨cell_keep ‹_› hb, cell_keep ‹_› hb, cell_keep ‹_› hb, cell_keep ‹_› hb, cell_keep ‹_› hb, cell_keep ‹_› hb, cell_keep ‹_› hb, cell_keep ‹_› hb, Lib.hid (blw_trans (Hid.out ‹_›) hb)⟩))
    (first | (go_at_call 20; refine (SL.out _).mono ?_; rintro e w' ⟨rfl, hb⟩) | (go_at_call 18; first | (with_reducible refine (LB.out _).mono ?_; rintro e w' ⟨rfl, hb⟩) | (with_reducible refine (AB.out _).mono ?_; rintro e w' ⟨rfl, hb⟩)))
  rename_i hHeld
  obtain ⟨z0, z1, z2, z3, z4, z5, z6, z7, zW⟩ := hHeld
  go_wp2_with fail
  refine (AB.out _).mono ?_
  rintro e wA ⟨rfl, hb⟩
  have qwA0a := cell_keep (a := ⟨w.heap.size, 0, none⟩) (v := .int .i64 a) ‹_› hb
  have qwA1s := cell_keep (a := ⟨w.heap.size, 1, none⟩) (v := .int .i64 s) ‹_› hb
  have qwA0b := cell_keep (a := ⟨w.heap.size + 1, 0, none⟩) (v := .int .i64 b) ‹_› hb
  have qwA1t := cell_keep (a := ⟨w.heap.size + 1, 1, none⟩) (v := .int .i64 t) ‹_› hb
  have qwA0c := cell_keep (a := ⟨w.heap.size + 1 + 1, 0, none⟩) (v := .int .i64 c) ‹_› hb
  have qwA1r := cell_keep (a := ⟨w.heap.size + 1 + 1, 1, none⟩) (v := .int .i64 r) ‹_› hb
  have HwA := Lib.hid (show Below w.heap.size w wA from blw_trans (Hid.out ‹_›) hb)
  clear hb
  go_wp2
  go_ret
  exact ⟨ret_bool (by simp), HwA.out⟩

set_option maxRecDepth 100000 in
set_option maxHeartbeats 4000000 in
theorem order_gt_f (a s b t c r : Int) (w : World) (ha : okD a s) (hb' : okD b t) (hc : okD c r) (hl : nrm b t < nrm a s) (hr : rndE a s 9 1 ≠ 0) :
    Calls Try.prog 6 #[.agg #[.int .i64 a, .int .i64 s], .agg #[.int .i64 b, .int .i64 t], .agg #[.int .i64 c, .int .i64 r]] w fun e w' => e = .returned (.bool true) ∧ Below w.heap.size w w' := by
  have C0 := Lib.hid fun w => dchk_yes a s w ha
  have C1 := Lib.hid fun w => dchk_yes b t w hb'
  have C2 := Lib.hid fun w => dchk_yes c r w hc
  have AB := Lib.hid fun w => less_no a s b t w ha hb' (by omega)
  have BA := Lib.hid fun w => less_yes b t a s w hb' ha hl
  have SM := Lib.hid fun w => same_no a s b t w ha hb' (by omega)
  have RD := Lib.hid fun w => round_no a s 9 1 w hr
  clear ha hb' hc hl hr
  go_enter Try.func6, Try.ntmps6
  go_wp2_with fail
  refine (half_any _).mono ?_
  rintro e w1 ⟨rfl, hb⟩
  have B1_a := Boxed.below (Boxed.alloc (Boxed.alloc (Boxed.made _ #[.int .i64 a, .int .i64 s] 30) _) _) hb
  have B1_b := Boxed.below (Boxed.alloc (Boxed.made _ #[.int .i64 b, .int .i64 t] 30) _) hb
  have B1_c := Boxed.below (Boxed.made _ #[.int .i64 c, .int .i64 r] 30) hb
  have W1 := Lib.hid (blw_trans (blw_trans (blw_trans (blw_trans (Below.refl w.heap.size w) (blw_alloc _ _)) (blw_alloc _ _)) (blw_alloc _ _)) hb)
  clear hb 
  have ka0 := B1_a.cell 0 _ rfl
  have ka1 := B1_a.cell 1 _ rfl
  have kal := B1_a.lt
  try simp at ka0 ka1 kal
  have kb0 := B1_b.cell 0 _ rfl
  have kb1 := B1_b.cell 1 _ rfl
  have kbl := B1_b.lt
  try simp at kb0 kb1 kbl
  have kc0 := B1_c.cell 0 _ rfl
  have kc1 := B1_c.cell 1 _ rfl
  have kcl := B1_c.lt
  try simp at kc0 kc1 kcl
  go_wp2_with fail
  refine (C0.out _).mono ?_
  rintro e w2 ⟨rfl, hb⟩
  clear ka0 ka1 kal kb0 kb1 kbl kc0 kc1 kcl
  have B2_a := B1_a.below hb
  have B2_b := B1_b.below hb
  have B2_c := B1_c.below hb
  have W2 := Lib.hid (blw_trans W1.out hb)
  clear hb B1_a B1_b B1_c W1
  have ka0 := B2_a.cell 0 _ rfl
  have ka1 := B2_a.cell 1 _ rfl
  have kal := B2_a.lt
  try simp at ka0 ka1 kal
  have kb0 := B2_b.cell 0 _ rfl
  have kb1 := B2_b.cell 1 _ rfl
  have kbl := B2_b.lt
  try simp at kb0 kb1 kbl
  have kc0 := B2_c.cell 0 _ rfl
  have kc1 := B2_c.cell 1 _ rfl
  have kcl := B2_c.lt
  try simp at kc0 kc1 kcl
  go_wp2_with fail
  refine (C1.out _).mono ?_
  rintro e w3 ⟨rfl, hb⟩
  clear ka0 ka1 kal kb0 kb1 kbl kc0 kc1 kcl
  have B3_a := B2_a.below hb
  have B3_b := B2_b.below hb
  have B3_c := B2_c.below hb
  have W3 := Lib.hid (blw_trans W2.out hb)
  clear hb B2_a B2_b B2_c W2
  have ka0 := B3_a.cell 0 _ rfl
  have ka1 := B3_a.cell 1 _ rfl
  have kal := B3_a.lt
  try simp at ka0 ka1 kal
  have kb0 := B3_b.cell 0 _ rfl
  have kb1 := B3_b.cell 1 _ rfl
  have kbl := B3_b.lt
  try simp at kb0 kb1 kbl
  have kc0 := B3_c.cell 0 _ rfl
  have kc1 := B3_c.cell 1 _ rfl
  have kcl := B3_c.lt
  try simp at kc0 kc1 kcl
  go_wp2_with fail
  refine (C2.out _).mono ?_
  rintro e w4 ⟨rfl, hb⟩
  clear ka0 ka1 kal kb0 kb1 kbl kc0 kc1 kcl
  have B4_a := B3_a.below hb
  have B4_b := B3_b.below hb
  have B4_c := B3_c.below hb
  have W4 := Lib.hid (blw_trans W3.out hb)
  clear hb B3_a B3_b B3_c W3
  have ka0 := B4_a.cell 0 _ rfl
  have ka1 := B4_a.cell 1 _ rfl
  have kal := B4_a.lt
  try simp at ka0 ka1 kal
  have kb0 := B4_b.cell 0 _ rfl
  have kb1 := B4_b.cell 1 _ rfl
  have kbl := B4_b.lt
  try simp at kb0 kb1 kbl
  have kc0 := B4_c.cell 0 _ rfl
  have kc1 := B4_c.cell 1 _ rfl
  have kcl := B4_c.lt
  try simp at kc0 kc1 kcl
  go_wp2_with fail
  refine (AB.out _).mono ?_
  rintro e w5 ⟨rfl, hb⟩
  clear ka0 ka1 kal kb0 kb1 kbl kc0 kc1 kcl
  have B5_a := B4_a.below hb
  have B5_b := B4_b.below hb
  have B5_c := B4_c.below hb
  have W5 := Lib.hid (blw_trans W4.out hb)
  clear hb B4_a B4_b B4_c W4
  have ka0 := B5_a.cell 0 _ rfl
  have ka1 := B5_a.cell 1 _ rfl
  have kal := B5_a.lt
  try simp at ka0 ka1 kal
  have kb0 := B5_b.cell 0 _ rfl
  have kb1 := B5_b.cell 1 _ rfl
  have kbl := B5_b.lt
  try simp at kb0 kb1 kbl
  have kc0 := B5_c.cell 0 _ rfl
  have kc1 := B5_c.cell 1 _ rfl
  have kcl := B5_c.lt
  try simp at kc0 kc1 kcl
  go_wp2_with fail
  refine (BA.out _).mono ?_
  rintro e w6 ⟨rfl, hb⟩
  clear ka0 ka1 kal kb0 kb1 kbl kc0 kc1 kcl
  have B6_a := B5_a.below hb
  have B6_b := B5_b.below hb
  have B6_c := B5_c.below hb
  have W6 := Lib.hid (blw_trans W5.out hb)
  clear hb B5_a B5_b B5_c W5
  have ka0 := B6_a.cell 0 _ rfl
  have ka1 := B6_a.cell 1 _ rfl
  have kal := B6_a.lt
  try simp at ka0 ka1 kal
  have kb0 := B6_b.cell 0 _ rfl
  have kb1 := B6_b.cell 1 _ rfl
  have kbl := B6_b.lt
  try simp at kb0 kb1 kbl
  have kc0 := B6_c.cell 0 _ rfl
  have kc1 := B6_c.cell 1 _ rfl
  have kcl := B6_c.lt
  try simp at kc0 kc1 kcl
  go_wp2_with fail
  refine (SM.out _).mono ?_
  rintro e w7 ⟨rfl, hb⟩
  clear ka0 ka1 kal kb0 kb1 kbl kc0 kc1 kcl
  have B7_a := B6_a.below hb
  have B7_b := B6_b.below hb
  have B7_c := B6_c.below hb
  have W7 := Lib.hid (blw_trans W6.out hb)
  clear hb B6_a B6_b B6_c W6
  have ka0 := B7_a.cell 0 _ rfl
  have ka1 := B7_a.cell 1 _ rfl
  have kal := B7_a.lt
  try simp at ka0 ka1 kal
  have kb0 := B7_b.cell 0 _ rfl
  have kb1 := B7_b.cell 1 _ rfl
  have kbl := B7_b.lt
  try simp at kb0 kb1 kbl
  have kc0 := B7_c.cell 0 _ rfl
  have kc1 := B7_c.cell 1 _ rfl
  have kcl := B7_c.lt
  try simp at kc0 kc1 kcl
  go_wp2_with fail
  refine (RD.out _).mono ?_
  rintro e w8 ⟨rfl, hb⟩
  clear ka0 ka1 kal kb0 kb1 kbl kc0 kc1 kcl
  have B8_a := B7_a.below hb
  have B8_b := B7_b.below hb
  have B8_c := B7_c.below hb
  have W8 := Lib.hid (blw_trans W7.out hb)
  clear hb B7_a B7_b B7_c W7
  have ka0 := B8_a.cell 0 _ rfl
  have ka1 := B8_a.cell 1 _ rfl
  have kal := B8_a.lt
  try simp at ka0 ka1 kal
  have kb0 := B8_b.cell 0 _ rfl
  have kb1 := B8_b.cell 1 _ rfl
  have kbl := B8_b.lt
  try simp at kb0 kb1 kbl
  have kc0 := B8_c.cell 0 _ rfl
  have kc1 := B8_c.cell 1 _ rfl
  have kcl := B8_c.lt
  try simp at kc0 kc1 kcl
  go_wp2_with fail
  go_big_quiet (fail)
  go_wp2_with fail
  refine (AB.out _).mono ?_
  rintro e w9 ⟨rfl, hb⟩
  clear ka0 ka1 kal kb0 kb1 kbl kc0 kc1 kcl
  have B9_a := (Boxed.drewN (B8_a.alloc _) _).below hb
  have B9_b := (Boxed.drewN (B8_b.alloc _) _).below hb
  have B9_c := (Boxed.drewN (B8_c.alloc _) _).below hb
  have B9_l := Boxed.below (Boxed.drewN (Boxed.made _ #[.int .i64 0, .int .i64 0] 30) _) hb
  have W9 := Lib.hid (blw_trans (blw_drewN (blw_trans W8.out (blw_alloc _ _)) _) hb)
  clear hb B8_a B8_b B8_c W8
  have ka0 := B9_a.cell 0 _ rfl
  have ka1 := B9_a.cell 1 _ rfl
  have kal := B9_a.lt
  try simp at ka0 ka1 kal
  have kb0 := B9_b.cell 0 _ rfl
  have kb1 := B9_b.cell 1 _ rfl
  have kbl := B9_b.lt
  try simp at kb0 kb1 kbl
  have kc0 := B9_c.cell 0 _ rfl
  have kc1 := B9_c.cell 1 _ rfl
  have kcl := B9_c.lt
  try simp at kc0 kc1 kcl
  clear B9_a B9_b B9_c B9_l
  go_wp2
  go_ret
  exact ⟨ret_bool (by simp), W9.out⟩

theorem decOrder_any (a s b t c r : Int) (w : World) :
    Calls Try.prog 6 #[.agg #[.int .i64 a, .int .i64 s], .agg #[.int .i64 b, .int .i64 t], .agg #[.int .i64 c, .int .i64 r]] w fun e w' => e = .returned (.bool true) ∧ Below w.heap.size w w' := by
  by_cases ha : okD a s
  · by_cases hb : okD b t
    · by_cases hc : okD c r
      · by_cases hr : rndE a s 9 1 = 0
        · rcases Int.lt_trichotomy (nrm a s) (nrm b t) with hl | hl | hl
          · by_cases hbc : nrm b t < nrm c r
            · exact order_lt_r_y a s b t c r w ha hb hc hl hr hbc
            · exact order_lt_r_n a s b t c r w ha hb hc hl hr hbc
          · exact order_eq_r a s b t c r w ha hb hc hl hr
          · exact order_gt_r a s b t c r w ha hb hc hl hr
        · rcases Int.lt_trichotomy (nrm a s) (nrm b t) with hl | hl | hl
          · by_cases hbc : nrm b t < nrm c r
            · exact order_lt_f_y a s b t c r w ha hb hc hl hr hbc
            · exact order_lt_f_n a s b t c r w ha hb hc hl hr hbc
          · exact order_eq_f a s b t c r w ha hb hc hl hr
          · exact order_gt_f a s b t c r w ha hb hc hl hr
      · by_cases hl : nrm a s < nrm b t
        · exact order_bad3_y a s b t c r w ha hb hc hl
        · exact order_bad3_n a s b t c r w ha hb hc hl
    · exact order_bad2 a s b t c r w ha hb
  · exact order_bad1 a s b t c r w ha
end Go.Proofs.Ytdannkcacldhmaa
