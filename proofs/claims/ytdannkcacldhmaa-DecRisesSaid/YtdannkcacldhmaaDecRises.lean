/- The walk of the law DecRises: it returns true of whatever two numbers, scale and way. -/
import Derived.Test.YtdannkcacldhmaaDecMore
namespace Go.Proofs.Ytdannkcacldhmaa
open Go.RowKit
open Dcm (P10 okD nrm)

set_option maxRecDepth 100000 in
set_option maxHeartbeats 4000000 in
theorem rises_x (a s b r t way : Int) (w : World) (h : rndE a s t way ≠ 0) :
    Calls Try.prog 5 #[.agg #[.int .i64 a, .int .i64 s], .agg #[.int .i64 b, .int .i64 r], .int .i64 t, .int .i64 way] w fun e w' => e = .returned (.bool true) ∧ Below w.heap.size w w' := by
  have C1 := Lib.hid fun w => round_no a s t way w h
  clear h
  go_enter Try.func5, Try.ntmps5
  go_wp2_with fail
  refine (half_any _).mono ?_
  rintro e w1 ⟨rfl, hb⟩
  have B1_a := Boxed.below (Boxed.alloc (Boxed.made _ #[.int .i64 a, .int .i64 s] 30) _) hb
  have B1_b := Boxed.below (Boxed.made _ #[.int .i64 b, .int .i64 r] 30) hb
  have W1 := Lib.hid (blw_trans (blw_trans (blw_trans (Below.refl w.heap.size w) (blw_alloc _ _)) (blw_alloc _ _)) hb)
  clear hb 
  have ka0 := B1_a.cell 0 _ rfl
  have ka1 := B1_a.cell 1 _ rfl
  have kal := B1_a.lt
  try simp at ka0 ka1 kal
  have kb0 := B1_b.cell 0 _ rfl
  have kb1 := B1_b.cell 1 _ rfl
  have kbl := B1_b.lt
  try simp at kb0 kb1 kbl
  go_wp2_with fail
  refine (C1.out _).mono ?_
  rintro e w2 ⟨rfl, hb⟩
  clear ka0 ka1 kal kb0 kb1 kbl
  have B2_a := B1_a.below hb
  have B2_b := B1_b.below hb
  have W2 := Lib.hid (blw_trans W1.out hb)
  clear hb B1_a B1_b W1
  have ka0 := B2_a.cell 0 _ rfl
  have ka1 := B2_a.cell 1 _ rfl
  have kal := B2_a.lt
  try simp at ka0 ka1 kal
  have kb0 := B2_b.cell 0 _ rfl
  have kb1 := B2_b.cell 1 _ rfl
  have kbl := B2_b.lt
  try simp at kb0 kb1 kbl
  go_wp2_with fail
  refine (round_tot _ _ _ _ _).mono ?_
  rintro e w3 ⟨p2, q2, v2, rfl, hb⟩
  clear ka0 ka1 kal kb0 kb1 kbl
  have B3_a := (B2_a.alloc _).below hb
  have B3_b := (B2_b.alloc _).below hb
  have B3_x := Boxed.below (Boxed.made _ #[.int .i64 0, .int .i64 0] 30) hb
  have W3 := Lib.hid (blw_trans (blw_trans W2.out (blw_alloc _ _)) hb)
  clear hb B2_a B2_b W2
  have ka0 := B3_a.cell 0 _ rfl
  have ka1 := B3_a.cell 1 _ rfl
  have kal := B3_a.lt
  try simp at ka0 ka1 kal
  have kb0 := B3_b.cell 0 _ rfl
  have kb1 := B3_b.cell 1 _ rfl
  have kbl := B3_b.lt
  try simp at kb0 kb1 kbl
  go_wp2_with fail
  refine (round_tot _ _ _ _ _).mono ?_
  rintro e w4 ⟨p3, q3, v3, rfl, hb⟩
  clear ka0 ka1 kal kb0 kb1 kbl
  have B4_a := (B3_a.alloc _).below hb
  have B4_b := (B3_b.alloc _).below hb
  have B4_x := (B3_x.alloc _).below hb
  have B4_y := Boxed.below (Boxed.made _ #[.int .i64 p2, .int .i64 q2] 30) hb
  have W4 := Lib.hid (blw_trans (blw_trans W3.out (blw_alloc _ _)) hb)
  clear hb B3_a B3_b B3_x W3
  clear B4_a B4_b B4_x B4_y
  go_wp2
  go_ret
  exact ⟨ret_bool (by simp), (blw_trans W4.out (blw_alloc _ _))⟩

set_option maxRecDepth 100000 in
set_option maxHeartbeats 4000000 in
theorem rises_y (a s b r t way : Int) (w : World) (h0 : rndE a s t way = 0) (h : rndE b r t way ≠ 0) :
    Calls Try.prog 5 #[.agg #[.int .i64 a, .int .i64 s], .agg #[.int .i64 b, .int .i64 r], .int .i64 t, .int .i64 way] w fun e w' => e = .returned (.bool true) ∧ Below w.heap.size w w' := by
  have C1 := Lib.hid fun w => round_yes a s t way w h0
  have C2 := Lib.hid fun w => round_no b r t way w h
  have hb := (rndE_zero.1 h0).1.2.2
  clear h h0
  generalize Dcm.rndC a s t way = x at *
  obtain ⟨hb0, hb1⟩ := hb
  go_enter Try.func5, Try.ntmps5
  go_wp2_with fail
  refine (half_any _).mono ?_
  rintro e w1 ⟨rfl, hb⟩
  have B1_a := Boxed.below (Boxed.alloc (Boxed.made _ #[.int .i64 a, .int .i64 s] 30) _) hb
  have B1_b := Boxed.below (Boxed.made _ #[.int .i64 b, .int .i64 r] 30) hb
  have W1 := Lib.hid (blw_trans (blw_trans (blw_trans (Below.refl w.heap.size w) (blw_alloc _ _)) (blw_alloc _ _)) hb)
  clear hb 
  have ka0 := B1_a.cell 0 _ rfl
  have ka1 := B1_a.cell 1 _ rfl
  have kal := B1_a.lt
  try simp at ka0 ka1 kal
  have kb0 := B1_b.cell 0 _ rfl
  have kb1 := B1_b.cell 1 _ rfl
  have kbl := B1_b.lt
  try simp at kb0 kb1 kbl
  go_wp2_with fail
  refine (C1.out _).mono ?_
  rintro e w2 ⟨rfl, hb⟩
  clear ka0 ka1 kal kb0 kb1 kbl
  have B2_a := B1_a.below hb
  have B2_b := B1_b.below hb
  have W2 := Lib.hid (blw_trans W1.out hb)
  clear hb B1_a B1_b W1
  have ka0 := B2_a.cell 0 _ rfl
  have ka1 := B2_a.cell 1 _ rfl
  have kal := B2_a.lt
  try simp at ka0 ka1 kal
  have kb0 := B2_b.cell 0 _ rfl
  have kb1 := B2_b.cell 1 _ rfl
  have kbl := B2_b.lt
  try simp at kb0 kb1 kbl
  go_wp2_with fail
  refine (C2.out _).mono ?_
  rintro e w3 ⟨rfl, hb⟩
  clear ka0 ka1 kal kb0 kb1 kbl
  have B3_a := (B2_a.alloc _).below hb
  have B3_b := (B2_b.alloc _).below hb
  have B3_x := Boxed.below (Boxed.made _ #[.int .i64 x, .int .i64 t] 30) hb
  have W3 := Lib.hid (blw_trans (blw_trans W2.out (blw_alloc _ _)) hb)
  clear hb B2_a B2_b W2
  have ka0 := B3_a.cell 0 _ rfl
  have ka1 := B3_a.cell 1 _ rfl
  have kal := B3_a.lt
  try simp at ka0 ka1 kal
  have kb0 := B3_b.cell 0 _ rfl
  have kb1 := B3_b.cell 1 _ rfl
  have kbl := B3_b.lt
  try simp at kb0 kb1 kbl
  go_wp2_with fail
  refine (round_tot _ _ _ _ _).mono ?_
  rintro e w4 ⟨p3, q3, v3, rfl, hb⟩
  clear ka0 ka1 kal kb0 kb1 kbl
  have B4_a := (B3_a.alloc _).below hb
  have B4_b := (B3_b.alloc _).below hb
  have B4_x := (B3_x.alloc _).below hb
  have B4_y := Boxed.below (Boxed.made _ #[.int .i64 0, .int .i64 0] 30) hb
  have W4 := Lib.hid (blw_trans (blw_trans W3.out (blw_alloc _ _)) hb)
  clear hb B3_a B3_b B3_x W3
  clear B4_a B4_b B4_x B4_y
  go_wp2
  go_ret
  exact ⟨ret_bool (by simp), (blw_trans W4.out (blw_alloc _ _))⟩

set_option maxRecDepth 100000 in
set_option maxHeartbeats 4000000 in
theorem rises_y_2 (a s b r t way : Int) (w : World) (ha : rndE a s t way = 0) (hb' : rndE b r t way = 0) (hl : nrm a s < nrm b r) (hw : way = 2) :
    Calls Try.prog 5 #[.agg #[.int .i64 a, .int .i64 s], .agg #[.int .i64 b, .int .i64 r], .int .i64 t, .int .i64 way] w fun e w' => e = .returned (.bool true) ∧ Below w.heap.size w w' := by
  obtain ⟨oa, t0, t1, w0, w1, _⟩ := rndE_zero.1 ha
  have ob := (rndE_zero.1 hb').1
  have C1 := Lib.hid fun w => round_yes a s t way w ha
  have C2 := Lib.hid fun w => round_yes b r t way w hb'
  have c3 := fun w => round_yes (-a) s t way w (rndE_neg ha)
  have C3 := Lib.hid c3
  clear c3
  have CL := Lib.hid fun w => less_yes a s b r w oa ob hl
  have hm := Dcm.RR_mono (nrm a s) (nrm b r) (9 - t) way (by omega) (by omega) w0 w1 hl
  rw [← Dcm.rndC_RR a s t way oa.1 oa.2.1 t0 t1, ← Dcm.rndC_RR b r t way ob.1 ob.2.1 t0 t1] at hm
  have CM := Lib.hid fun w => less_no _ t _ t w (rndC_ok hb') (rndC_ok ha) (fun g => by have := Dcm.nrm_same.1 g; omega)
  clear hm
  subst hw
  generalize Dcm.rndC (-a) s t 2 = z at *
  have rk := rndC_ok ha
  generalize Dcm.rndC a s t 2 = x at *
  generalize Dcm.rndC b r t 2 = y at *
  obtain ⟨_, _, rk0, rk1⟩ := rk
  obtain ⟨_, _, oa0, oa1⟩ := oa
  clear ha hb' hl ob
  go_enter Try.func5, Try.ntmps5
  go_wp2_with fail
  refine (half_any _).mono ?_
  rintro e w1 ⟨rfl, hb⟩
  have B1_a := Boxed.below (Boxed.alloc (Boxed.made _ #[.int .i64 a, .int .i64 s] 30) _) hb
  have B1_b := Boxed.below (Boxed.made _ #[.int .i64 b, .int .i64 r] 30) hb
  have W1 := Lib.hid (blw_trans (blw_trans (blw_trans (Below.refl w.heap.size w) (blw_alloc _ _)) (blw_alloc _ _)) hb)
  clear hb 
  have ka0 := B1_a.cell 0 _ rfl
  have ka1 := B1_a.cell 1 _ rfl
  have kal := B1_a.lt
  try simp at ka0 ka1 kal
  have kb0 := B1_b.cell 0 _ rfl
  have kb1 := B1_b.cell 1 _ rfl
  have kbl := B1_b.lt
  try simp at kb0 kb1 kbl
  go_wp2_with fail
  refine (C1.out _).mono ?_
  rintro e w2 ⟨rfl, hb⟩
  clear ka0 ka1 kal kb0 kb1 kbl
  have B2_a := B1_a.below hb
  have B2_b := B1_b.below hb
  have W2 := Lib.hid (blw_trans W1.out hb)
  clear hb B1_a B1_b W1
  have ka0 := B2_a.cell 0 _ rfl
  have ka1 := B2_a.cell 1 _ rfl
  have kal := B2_a.lt
  try simp at ka0 ka1 kal
  have kb0 := B2_b.cell 0 _ rfl
  have kb1 := B2_b.cell 1 _ rfl
  have kbl := B2_b.lt
  try simp at kb0 kb1 kbl
  go_wp2_with fail
  refine (C2.out _).mono ?_
  rintro e w3 ⟨rfl, hb⟩
  clear ka0 ka1 kal kb0 kb1 kbl
  have B3_a := (B2_a.alloc _).below hb
  have B3_b := (B2_b.alloc _).below hb
  have B3_x := Boxed.below (Boxed.made _ #[.int .i64 x, .int .i64 t] 30) hb
  have W3 := Lib.hid (blw_trans (blw_trans W2.out (blw_alloc _ _)) hb)
  clear hb B2_a B2_b W2
  have ka0 := B3_a.cell 0 _ rfl
  have ka1 := B3_a.cell 1 _ rfl
  have kal := B3_a.lt
  try simp at ka0 ka1 kal
  have kb0 := B3_b.cell 0 _ rfl
  have kb1 := B3_b.cell 1 _ rfl
  have kbl := B3_b.lt
  try simp at kb0 kb1 kbl
  go_wp2_with fail
  refine (C3.out _).mono ?_
  rintro e w4 ⟨rfl, hb⟩
  clear ka0 ka1 kal kb0 kb1 kbl
  have B4_a := (B3_a.alloc _).below hb
  have B4_b := (B3_b.alloc _).below hb
  have B4_x := (B3_x.alloc _).below hb
  have B4_y := Boxed.below (Boxed.made _ #[.int .i64 y, .int .i64 t] 30) hb
  have W4 := Lib.hid (blw_trans (blw_trans W3.out (blw_alloc _ _)) hb)
  clear hb B3_a B3_b B3_x W3
  have ka0 := B4_a.cell 0 _ rfl
  have ka1 := B4_a.cell 1 _ rfl
  have kal := B4_a.lt
  try simp at ka0 ka1 kal
  have kb0 := B4_b.cell 0 _ rfl
  have kb1 := B4_b.cell 1 _ rfl
  have kbl := B4_b.lt
  try simp at kb0 kb1 kbl
  have kx0 := B4_x.cell 0 _ rfl
  have kx1 := B4_x.cell 1 _ rfl
  have kxl := B4_x.lt
  try simp at kx0 kx1 kxl
  have ky0 := B4_y.cell 0 _ rfl
  have ky1 := B4_y.cell 1 _ rfl
  have kyl := B4_y.lt
  try simp at ky0 ky1 kyl
  go_wp2_with fail
  refine (CL.out _).mono ?_
  rintro e w5 ⟨rfl, hb⟩
  clear ka0 ka1 kal kb0 kb1 kbl kx0 kx1 kxl ky0 ky1 kyl
  have B5_a := (B4_a.alloc _).below hb
  have B5_b := (B4_b.alloc _).below hb
  have B5_x := (B4_x.alloc _).below hb
  have B5_y := (B4_y.alloc _).below hb
  have B5_z := Boxed.below (Boxed.made _ #[.int .i64 z, .int .i64 t] 30) hb
  have W5 := Lib.hid (blw_trans (blw_trans W4.out (blw_alloc _ _)) hb)
  clear hb B4_a B4_b B4_x B4_y W4
  have kx0 := B5_x.cell 0 _ rfl
  have kx1 := B5_x.cell 1 _ rfl
  have kxl := B5_x.lt
  try simp at kx0 kx1 kxl
  have ky0 := B5_y.cell 0 _ rfl
  have ky1 := B5_y.cell 1 _ rfl
  have kyl := B5_y.lt
  try simp at ky0 ky1 kyl
  have kz0 := B5_z.cell 0 _ rfl
  have kz1 := B5_z.cell 1 _ rfl
  have kzl := B5_z.lt
  try simp at kz0 kz1 kzl
  go_wp2_with fail
  refine (CM.out _).mono ?_
  rintro e w6 ⟨rfl, hb⟩
  clear kx0 kx1 kxl ky0 ky1 kyl kz0 kz1 kzl
  have B6_a := B5_a.below hb
  have B6_b := B5_b.below hb
  have B6_x := B5_x.below hb
  have B6_y := B5_y.below hb
  have B6_z := B5_z.below hb
  have W6 := Lib.hid (blw_trans W5.out hb)
  clear hb B5_a B5_b B5_x B5_y B5_z W5
  have kx0 := B6_x.cell 0 _ rfl
  have kx1 := B6_x.cell 1 _ rfl
  have kxl := B6_x.lt
  try simp at kx0 kx1 kxl
  have ky0 := B6_y.cell 0 _ rfl
  have ky1 := B6_y.cell 1 _ rfl
  have kyl := B6_y.lt
  try simp at ky0 ky1 kyl
  have kz0 := B6_z.cell 0 _ rfl
  have kz1 := B6_z.cell 1 _ rfl
  have kzl := B6_z.lt
  try simp at kz0 kz1 kzl
  clear B6_a B6_b B6_x B6_y B6_z
  go_wp2
  go_ret
  exact ⟨ret_bool (by simp), W6.out⟩

set_option maxRecDepth 100000 in
set_option maxHeartbeats 4000000 in
theorem rises_y_3 (a s b r t way : Int) (w : World) (ha : rndE a s t way = 0) (hb' : rndE b r t way = 0) (hl : nrm a s < nrm b r) (hw : way = 3) :
    Calls Try.prog 5 #[.agg #[.int .i64 a, .int .i64 s], .agg #[.int .i64 b, .int .i64 r], .int .i64 t, .int .i64 way] w fun e w' => e = .returned (.bool true) ∧ Below w.heap.size w w' := by
  obtain ⟨oa, t0, t1, w0, w1, _⟩ := rndE_zero.1 ha
  have ob := (rndE_zero.1 hb').1
  have C1 := Lib.hid fun w => round_yes a s t way w ha
  have C2 := Lib.hid fun w => round_yes b r t way w hb'
  have c3 := fun w => round_yes (-a) s t way w (rndE_neg ha)
  have C3 := Lib.hid c3
  clear c3
  have CL := Lib.hid fun w => less_yes a s b r w oa ob hl
  have hm := Dcm.RR_mono (nrm a s) (nrm b r) (9 - t) way (by omega) (by omega) w0 w1 hl
  rw [← Dcm.rndC_RR a s t way oa.1 oa.2.1 t0 t1, ← Dcm.rndC_RR b r t way ob.1 ob.2.1 t0 t1] at hm
  have CM := Lib.hid fun w => less_no _ t _ t w (rndC_ok hb') (rndC_ok ha) (fun g => by have := Dcm.nrm_same.1 g; omega)
  clear hm
  subst hw
  generalize Dcm.rndC (-a) s t 3 = z at *
  have rk := rndC_ok ha
  generalize Dcm.rndC a s t 3 = x at *
  generalize Dcm.rndC b r t 3 = y at *
  obtain ⟨_, _, rk0, rk1⟩ := rk
  obtain ⟨_, _, oa0, oa1⟩ := oa
  clear ha hb' hl ob
  go_enter Try.func5, Try.ntmps5
  go_wp2_with fail
  refine (half_any _).mono ?_
  rintro e w1 ⟨rfl, hb⟩
  have B1_a := Boxed.below (Boxed.alloc (Boxed.made _ #[.int .i64 a, .int .i64 s] 30) _) hb
  have B1_b := Boxed.below (Boxed.made _ #[.int .i64 b, .int .i64 r] 30) hb
  have W1 := Lib.hid (blw_trans (blw_trans (blw_trans (Below.refl w.heap.size w) (blw_alloc _ _)) (blw_alloc _ _)) hb)
  clear hb 
  have ka0 := B1_a.cell 0 _ rfl
  have ka1 := B1_a.cell 1 _ rfl
  have kal := B1_a.lt
  try simp at ka0 ka1 kal
  have kb0 := B1_b.cell 0 _ rfl
  have kb1 := B1_b.cell 1 _ rfl
  have kbl := B1_b.lt
  try simp at kb0 kb1 kbl
  go_wp2_with fail
  refine (C1.out _).mono ?_
  rintro e w2 ⟨rfl, hb⟩
  clear ka0 ka1 kal kb0 kb1 kbl
  have B2_a := B1_a.below hb
  have B2_b := B1_b.below hb
  have W2 := Lib.hid (blw_trans W1.out hb)
  clear hb B1_a B1_b W1
  have ka0 := B2_a.cell 0 _ rfl
  have ka1 := B2_a.cell 1 _ rfl
  have kal := B2_a.lt
  try simp at ka0 ka1 kal
  have kb0 := B2_b.cell 0 _ rfl
  have kb1 := B2_b.cell 1 _ rfl
  have kbl := B2_b.lt
  try simp at kb0 kb1 kbl
  go_wp2_with fail
  refine (C2.out _).mono ?_
  rintro e w3 ⟨rfl, hb⟩
  clear ka0 ka1 kal kb0 kb1 kbl
  have B3_a := (B2_a.alloc _).below hb
  have B3_b := (B2_b.alloc _).below hb
  have B3_x := Boxed.below (Boxed.made _ #[.int .i64 x, .int .i64 t] 30) hb
  have W3 := Lib.hid (blw_trans (blw_trans W2.out (blw_alloc _ _)) hb)
  clear hb B2_a B2_b W2
  have ka0 := B3_a.cell 0 _ rfl
  have ka1 := B3_a.cell 1 _ rfl
  have kal := B3_a.lt
  try simp at ka0 ka1 kal
  have kb0 := B3_b.cell 0 _ rfl
  have kb1 := B3_b.cell 1 _ rfl
  have kbl := B3_b.lt
  try simp at kb0 kb1 kbl
  go_wp2_with fail
  refine (C3.out _).mono ?_
  rintro e w4 ⟨rfl, hb⟩
  clear ka0 ka1 kal kb0 kb1 kbl
  have B4_a := (B3_a.alloc _).below hb
  have B4_b := (B3_b.alloc _).below hb
  have B4_x := (B3_x.alloc _).below hb
  have B4_y := Boxed.below (Boxed.made _ #[.int .i64 y, .int .i64 t] 30) hb
  have W4 := Lib.hid (blw_trans (blw_trans W3.out (blw_alloc _ _)) hb)
  clear hb B3_a B3_b B3_x W3
  have ka0 := B4_a.cell 0 _ rfl
  have ka1 := B4_a.cell 1 _ rfl
  have kal := B4_a.lt
  try simp at ka0 ka1 kal
  have kb0 := B4_b.cell 0 _ rfl
  have kb1 := B4_b.cell 1 _ rfl
  have kbl := B4_b.lt
  try simp at kb0 kb1 kbl
  have kx0 := B4_x.cell 0 _ rfl
  have kx1 := B4_x.cell 1 _ rfl
  have kxl := B4_x.lt
  try simp at kx0 kx1 kxl
  have ky0 := B4_y.cell 0 _ rfl
  have ky1 := B4_y.cell 1 _ rfl
  have kyl := B4_y.lt
  try simp at ky0 ky1 kyl
  go_wp2_with fail
  refine (CL.out _).mono ?_
  rintro e w5 ⟨rfl, hb⟩
  clear ka0 ka1 kal kb0 kb1 kbl kx0 kx1 kxl ky0 ky1 kyl
  have B5_a := (B4_a.alloc _).below hb
  have B5_b := (B4_b.alloc _).below hb
  have B5_x := (B4_x.alloc _).below hb
  have B5_y := (B4_y.alloc _).below hb
  have B5_z := Boxed.below (Boxed.made _ #[.int .i64 z, .int .i64 t] 30) hb
  have W5 := Lib.hid (blw_trans (blw_trans W4.out (blw_alloc _ _)) hb)
  clear hb B4_a B4_b B4_x B4_y W4
  have kx0 := B5_x.cell 0 _ rfl
  have kx1 := B5_x.cell 1 _ rfl
  have kxl := B5_x.lt
  try simp at kx0 kx1 kxl
  have ky0 := B5_y.cell 0 _ rfl
  have ky1 := B5_y.cell 1 _ rfl
  have kyl := B5_y.lt
  try simp at ky0 ky1 kyl
  have kz0 := B5_z.cell 0 _ rfl
  have kz1 := B5_z.cell 1 _ rfl
  have kzl := B5_z.lt
  try simp at kz0 kz1 kzl
  go_wp2_with fail
  refine (CM.out _).mono ?_
  rintro e w6 ⟨rfl, hb⟩
  clear kx0 kx1 kxl ky0 ky1 kyl kz0 kz1 kzl
  have B6_a := B5_a.below hb
  have B6_b := B5_b.below hb
  have B6_x := B5_x.below hb
  have B6_y := B5_y.below hb
  have B6_z := B5_z.below hb
  have W6 := Lib.hid (blw_trans W5.out hb)
  clear hb B5_a B5_b B5_x B5_y B5_z W5
  have kx0 := B6_x.cell 0 _ rfl
  have kx1 := B6_x.cell 1 _ rfl
  have kxl := B6_x.lt
  try simp at kx0 kx1 kxl
  have ky0 := B6_y.cell 0 _ rfl
  have ky1 := B6_y.cell 1 _ rfl
  have kyl := B6_y.lt
  try simp at ky0 ky1 kyl
  have kz0 := B6_z.cell 0 _ rfl
  have kz1 := B6_z.cell 1 _ rfl
  have kzl := B6_z.lt
  try simp at kz0 kz1 kzl
  clear B6_a B6_b B6_x B6_y B6_z
  go_wp2
  go_ret
  exact ⟨ret_bool (by simp), W6.out⟩

set_option maxRecDepth 100000 in
set_option maxHeartbeats 4000000 in
theorem rises_y_o (a s b r t way : Int) (w : World) (ha : rndE a s t way = 0) (hb' : rndE b r t way = 0) (hl : nrm a s < nrm b r) (h2 : way ≠ 2) (h3 : way ≠ 3) :
    Calls Try.prog 5 #[.agg #[.int .i64 a, .int .i64 s], .agg #[.int .i64 b, .int .i64 r], .int .i64 t, .int .i64 way] w fun e w' => e = .returned (.bool true) ∧ Below w.heap.size w w' := by
  obtain ⟨oa, t0, t1, w0, w1, _⟩ := rndE_zero.1 ha
  have ob := (rndE_zero.1 hb').1
  have C1 := Lib.hid fun w => round_yes a s t way w ha
  have C2 := Lib.hid fun w => round_yes b r t way w hb'
  have c3 := fun w => round_yes (-a) s t way w (rndE_neg ha)
  rw [Dcm.rndC_neg a s t way oa.1 oa.2.1 t0 t1 h2 h3] at c3
  have C3 := Lib.hid c3
  clear c3
  have CL := Lib.hid fun w => less_yes a s b r w oa ob hl
  have hm := Dcm.RR_mono (nrm a s) (nrm b r) (9 - t) way (by omega) (by omega) w0 w1 hl
  rw [← Dcm.rndC_RR a s t way oa.1 oa.2.1 t0 t1, ← Dcm.rndC_RR b r t way ob.1 ob.2.1 t0 t1] at hm
  have CM := Lib.hid fun w => less_no _ t _ t w (rndC_ok hb') (rndC_ok ha) (fun g => by have := Dcm.nrm_same.1 g; omega)
  clear hm
  have rk := rndC_ok ha
  generalize Dcm.rndC a s t way = x at *
  generalize Dcm.rndC b r t way = y at *
  obtain ⟨_, _, rk0, rk1⟩ := rk
  obtain ⟨_, _, oa0, oa1⟩ := oa
  have e2 : (way == 2) = false := beq_no h2
  have e3 : (way == 3) = false := beq_no h3
  clear ha hb' hl ob
  go_enter Try.func5, Try.ntmps5
  go_wp2_with fail
  refine (half_any _).mono ?_
  rintro e w1 ⟨rfl, hb⟩
  have B1_a := Boxed.below (Boxed.alloc (Boxed.made _ #[.int .i64 a, .int .i64 s] 30) _) hb
  have B1_b := Boxed.below (Boxed.made _ #[.int .i64 b, .int .i64 r] 30) hb
  have W1 := Lib.hid (blw_trans (blw_trans (blw_trans (Below.refl w.heap.size w) (blw_alloc _ _)) (blw_alloc _ _)) hb)
  clear hb 
  have ka0 := B1_a.cell 0 _ rfl
  have ka1 := B1_a.cell 1 _ rfl
  have kal := B1_a.lt
  try simp at ka0 ka1 kal
  have kb0 := B1_b.cell 0 _ rfl
  have kb1 := B1_b.cell 1 _ rfl
  have kbl := B1_b.lt
  try simp at kb0 kb1 kbl
  go_wp2_with fail
  refine (C1.out _).mono ?_
  rintro e w2 ⟨rfl, hb⟩
  clear ka0 ka1 kal kb0 kb1 kbl
  have B2_a := B1_a.below hb
  have B2_b := B1_b.below hb
  have W2 := Lib.hid (blw_trans W1.out hb)
  clear hb B1_a B1_b W1
  have ka0 := B2_a.cell 0 _ rfl
  have ka1 := B2_a.cell 1 _ rfl
  have kal := B2_a.lt
  try simp at ka0 ka1 kal
  have kb0 := B2_b.cell 0 _ rfl
  have kb1 := B2_b.cell 1 _ rfl
  have kbl := B2_b.lt
  try simp at kb0 kb1 kbl
  go_wp2_with fail
  refine (C2.out _).mono ?_
  rintro e w3 ⟨rfl, hb⟩
  clear ka0 ka1 kal kb0 kb1 kbl
  have B3_a := (B2_a.alloc _).below hb
  have B3_b := (B2_b.alloc _).below hb
  have B3_x := Boxed.below (Boxed.made _ #[.int .i64 x, .int .i64 t] 30) hb
  have W3 := Lib.hid (blw_trans (blw_trans W2.out (blw_alloc _ _)) hb)
  clear hb B2_a B2_b W2
  have ka0 := B3_a.cell 0 _ rfl
  have ka1 := B3_a.cell 1 _ rfl
  have kal := B3_a.lt
  try simp at ka0 ka1 kal
  have kb0 := B3_b.cell 0 _ rfl
  have kb1 := B3_b.cell 1 _ rfl
  have kbl := B3_b.lt
  try simp at kb0 kb1 kbl
  go_wp2_with fail
  refine (C3.out _).mono ?_
  rintro e w4 ⟨rfl, hb⟩
  clear ka0 ka1 kal kb0 kb1 kbl
  have B4_a := (B3_a.alloc _).below hb
  have B4_b := (B3_b.alloc _).below hb
  have B4_x := (B3_x.alloc _).below hb
  have B4_y := Boxed.below (Boxed.made _ #[.int .i64 y, .int .i64 t] 30) hb
  have W4 := Lib.hid (blw_trans (blw_trans W3.out (blw_alloc _ _)) hb)
  clear hb B3_a B3_b B3_x W3
  have ka0 := B4_a.cell 0 _ rfl
  have ka1 := B4_a.cell 1 _ rfl
  have kal := B4_a.lt
  try simp at ka0 ka1 kal
  have kb0 := B4_b.cell 0 _ rfl
  have kb1 := B4_b.cell 1 _ rfl
  have kbl := B4_b.lt
  try simp at kb0 kb1 kbl
  have kx0 := B4_x.cell 0 _ rfl
  have kx1 := B4_x.cell 1 _ rfl
  have kxl := B4_x.lt
  try simp at kx0 kx1 kxl
  have ky0 := B4_y.cell 0 _ rfl
  have ky1 := B4_y.cell 1 _ rfl
  have kyl := B4_y.lt
  try simp at ky0 ky1 kyl
  go_wp2_with fail
  refine (CL.out _).mono ?_
  rintro e w5 ⟨rfl, hb⟩
  clear ka0 ka1 kal kb0 kb1 kbl kx0 kx1 kxl ky0 ky1 kyl
  have B5_a := (B4_a.alloc _).below hb
  have B5_b := (B4_b.alloc _).below hb
  have B5_x := (B4_x.alloc _).below hb
  have B5_y := (B4_y.alloc _).below hb
  have B5_z := Boxed.below (Boxed.made _ #[.int .i64 (-x), .int .i64 t] 30) hb
  have W5 := Lib.hid (blw_trans (blw_trans W4.out (blw_alloc _ _)) hb)
  clear hb B4_a B4_b B4_x B4_y W4
  have kx0 := B5_x.cell 0 _ rfl
  have kx1 := B5_x.cell 1 _ rfl
  have kxl := B5_x.lt
  try simp at kx0 kx1 kxl
  have ky0 := B5_y.cell 0 _ rfl
  have ky1 := B5_y.cell 1 _ rfl
  have kyl := B5_y.lt
  try simp at ky0 ky1 kyl
  have kz0 := B5_z.cell 0 _ rfl
  have kz1 := B5_z.cell 1 _ rfl
  have kzl := B5_z.lt
  try simp at kz0 kz1 kzl
  go_wp2_with fail
  refine (CM.out _).mono ?_
  rintro e w6 ⟨rfl, hb⟩
  clear kx0 kx1 kxl ky0 ky1 kyl kz0 kz1 kzl
  have B6_a := B5_a.below hb
  have B6_b := B5_b.below hb
  have B6_x := B5_x.below hb
  have B6_y := B5_y.below hb
  have B6_z := B5_z.below hb
  have W6 := Lib.hid (blw_trans W5.out hb)
  clear hb B5_a B5_b B5_x B5_y B5_z W5
  have kx0 := B6_x.cell 0 _ rfl
  have kx1 := B6_x.cell 1 _ rfl
  have kxl := B6_x.lt
  try simp at kx0 kx1 kxl
  have ky0 := B6_y.cell 0 _ rfl
  have ky1 := B6_y.cell 1 _ rfl
  have kyl := B6_y.lt
  try simp at ky0 ky1 kyl
  have kz0 := B6_z.cell 0 _ rfl
  have kz1 := B6_z.cell 1 _ rfl
  have kzl := B6_z.lt
  try simp at kz0 kz1 kzl
  clear B6_a B6_b B6_x B6_y B6_z
  go_wp2
  go_ret
  exact ⟨ret_bool (by simp), W6.out⟩

set_option maxRecDepth 100000 in
set_option maxHeartbeats 4000000 in
theorem rises_n_2 (a s b r t way : Int) (w : World) (ha : rndE a s t way = 0) (hb' : rndE b r t way = 0) (hl : ¬ nrm a s < nrm b r) (hw : way = 2) :
    Calls Try.prog 5 #[.agg #[.int .i64 a, .int .i64 s], .agg #[.int .i64 b, .int .i64 r], .int .i64 t, .int .i64 way] w fun e w' => e = .returned (.bool true) ∧ Below w.heap.size w w' := by
  obtain ⟨oa, t0, t1, w0, w1, _⟩ := rndE_zero.1 ha
  have ob := (rndE_zero.1 hb').1
  have C1 := Lib.hid fun w => round_yes a s t way w ha
  have C2 := Lib.hid fun w => round_yes b r t way w hb'
  have c3 := fun w => round_yes (-a) s t way w (rndE_neg ha)
  have C3 := Lib.hid c3
  clear c3
  have CL := Lib.hid fun w => less_no a s b r w oa ob hl
  subst hw
  generalize Dcm.rndC (-a) s t 2 = z at *
  have rk := rndC_ok ha
  generalize Dcm.rndC a s t 2 = x at *
  generalize Dcm.rndC b r t 2 = y at *
  obtain ⟨_, _, rk0, rk1⟩ := rk
  obtain ⟨_, _, oa0, oa1⟩ := oa
  clear ha hb' hl ob
  go_enter Try.func5, Try.ntmps5
  go_wp2_with fail
  refine (half_any _).mono ?_
  rintro e w1 ⟨rfl, hb⟩
  have B1_a := Boxed.below (Boxed.alloc (Boxed.made _ #[.int .i64 a, .int .i64 s] 30) _) hb
  have B1_b := Boxed.below (Boxed.made _ #[.int .i64 b, .int .i64 r] 30) hb
  have W1 := Lib.hid (blw_trans (blw_trans (blw_trans (Below.refl w.heap.size w) (blw_alloc _ _)) (blw_alloc _ _)) hb)
  clear hb 
  have ka0 := B1_a.cell 0 _ rfl
  have ka1 := B1_a.cell 1 _ rfl
  have kal := B1_a.lt
  try simp at ka0 ka1 kal
  have kb0 := B1_b.cell 0 _ rfl
  have kb1 := B1_b.cell 1 _ rfl
  have kbl := B1_b.lt
  try simp at kb0 kb1 kbl
  go_wp2_with fail
  refine (C1.out _).mono ?_
  rintro e w2 ⟨rfl, hb⟩
  clear ka0 ka1 kal kb0 kb1 kbl
  have B2_a := B1_a.below hb
  have B2_b := B1_b.below hb
  have W2 := Lib.hid (blw_trans W1.out hb)
  clear hb B1_a B1_b W1
  have ka0 := B2_a.cell 0 _ rfl
  have ka1 := B2_a.cell 1 _ rfl
  have kal := B2_a.lt
  try simp at ka0 ka1 kal
  have kb0 := B2_b.cell 0 _ rfl
  have kb1 := B2_b.cell 1 _ rfl
  have kbl := B2_b.lt
  try simp at kb0 kb1 kbl
  go_wp2_with fail
  refine (C2.out _).mono ?_
  rintro e w3 ⟨rfl, hb⟩
  clear ka0 ka1 kal kb0 kb1 kbl
  have B3_a := (B2_a.alloc _).below hb
  have B3_b := (B2_b.alloc _).below hb
  have B3_x := Boxed.below (Boxed.made _ #[.int .i64 x, .int .i64 t] 30) hb
  have W3 := Lib.hid (blw_trans (blw_trans W2.out (blw_alloc _ _)) hb)
  clear hb B2_a B2_b W2
  have ka0 := B3_a.cell 0 _ rfl
  have ka1 := B3_a.cell 1 _ rfl
  have kal := B3_a.lt
  try simp at ka0 ka1 kal
  have kb0 := B3_b.cell 0 _ rfl
  have kb1 := B3_b.cell 1 _ rfl
  have kbl := B3_b.lt
  try simp at kb0 kb1 kbl
  go_wp2_with fail
  refine (C3.out _).mono ?_
  rintro e w4 ⟨rfl, hb⟩
  clear ka0 ka1 kal kb0 kb1 kbl
  have B4_a := (B3_a.alloc _).below hb
  have B4_b := (B3_b.alloc _).below hb
  have B4_x := (B3_x.alloc _).below hb
  have B4_y := Boxed.below (Boxed.made _ #[.int .i64 y, .int .i64 t] 30) hb
  have W4 := Lib.hid (blw_trans (blw_trans W3.out (blw_alloc _ _)) hb)
  clear hb B3_a B3_b B3_x W3
  have ka0 := B4_a.cell 0 _ rfl
  have ka1 := B4_a.cell 1 _ rfl
  have kal := B4_a.lt
  try simp at ka0 ka1 kal
  have kb0 := B4_b.cell 0 _ rfl
  have kb1 := B4_b.cell 1 _ rfl
  have kbl := B4_b.lt
  try simp at kb0 kb1 kbl
  have kx0 := B4_x.cell 0 _ rfl
  have kx1 := B4_x.cell 1 _ rfl
  have kxl := B4_x.lt
  try simp at kx0 kx1 kxl
  have ky0 := B4_y.cell 0 _ rfl
  have ky1 := B4_y.cell 1 _ rfl
  have kyl := B4_y.lt
  try simp at ky0 ky1 kyl
  go_wp2_with fail
  refine (CL.out _).mono ?_
  rintro e w5 ⟨rfl, hb⟩
  clear ka0 ka1 kal kb0 kb1 kbl kx0 kx1 kxl ky0 ky1 kyl
  have B5_a := (B4_a.alloc _).below hb
  have B5_b := (B4_b.alloc _).below hb
  have B5_x := (B4_x.alloc _).below hb
  have B5_y := (B4_y.alloc _).below hb
  have B5_z := Boxed.below (Boxed.made _ #[.int .i64 z, .int .i64 t] 30) hb
  have W5 := Lib.hid (blw_trans (blw_trans W4.out (blw_alloc _ _)) hb)
  clear hb B4_a B4_b B4_x B4_y W4
  have kx0 := B5_x.cell 0 _ rfl
  have kx1 := B5_x.cell 1 _ rfl
  have kxl := B5_x.lt
  try simp at kx0 kx1 kxl
  have ky0 := B5_y.cell 0 _ rfl
  have ky1 := B5_y.cell 1 _ rfl
  have kyl := B5_y.lt
  try simp at ky0 ky1 kyl
  have kz0 := B5_z.cell 0 _ rfl
  have kz1 := B5_z.cell 1 _ rfl
  have kzl := B5_z.lt
  try simp at kz0 kz1 kzl
  clear B5_a B5_b B5_x B5_y B5_z
  go_wp2
  go_ret
  exact ⟨ret_bool (by simp), W5.out⟩

set_option maxRecDepth 100000 in
set_option maxHeartbeats 4000000 in
theorem rises_n_3 (a s b r t way : Int) (w : World) (ha : rndE a s t way = 0) (hb' : rndE b r t way = 0) (hl : ¬ nrm a s < nrm b r) (hw : way = 3) :
    Calls Try.prog 5 #[.agg #[.int .i64 a, .int .i64 s], .agg #[.int .i64 b, .int .i64 r], .int .i64 t, .int .i64 way] w fun e w' => e = .returned (.bool true) ∧ Below w.heap.size w w' := by
  obtain ⟨oa, t0, t1, w0, w1, _⟩ := rndE_zero.1 ha
  have ob := (rndE_zero.1 hb').1
  have C1 := Lib.hid fun w => round_yes a s t way w ha
  have C2 := Lib.hid fun w => round_yes b r t way w hb'
  have c3 := fun w => round_yes (-a) s t way w (rndE_neg ha)
  have C3 := Lib.hid c3
  clear c3
  have CL := Lib.hid fun w => less_no a s b r w oa ob hl
  subst hw
  generalize Dcm.rndC (-a) s t 3 = z at *
  have rk := rndC_ok ha
  generalize Dcm.rndC a s t 3 = x at *
  generalize Dcm.rndC b r t 3 = y at *
  obtain ⟨_, _, rk0, rk1⟩ := rk
  obtain ⟨_, _, oa0, oa1⟩ := oa
  clear ha hb' hl ob
  go_enter Try.func5, Try.ntmps5
  go_wp2_with fail
  refine (half_any _).mono ?_
  rintro e w1 ⟨rfl, hb⟩
  have B1_a := Boxed.below (Boxed.alloc (Boxed.made _ #[.int .i64 a, .int .i64 s] 30) _) hb
  have B1_b := Boxed.below (Boxed.made _ #[.int .i64 b, .int .i64 r] 30) hb
  have W1 := Lib.hid (blw_trans (blw_trans (blw_trans (Below.refl w.heap.size w) (blw_alloc _ _)) (blw_alloc _ _)) hb)
  clear hb 
  have ka0 := B1_a.cell 0 _ rfl
  have ka1 := B1_a.cell 1 _ rfl
  have kal := B1_a.lt
  try simp at ka0 ka1 kal
  have kb0 := B1_b.cell 0 _ rfl
  have kb1 := B1_b.cell 1 _ rfl
  have kbl := B1_b.lt
  try simp at kb0 kb1 kbl
  go_wp2_with fail
  refine (C1.out _).mono ?_
  rintro e w2 ⟨rfl, hb⟩
  clear ka0 ka1 kal kb0 kb1 kbl
  have B2_a := B1_a.below hb
  have B2_b := B1_b.below hb
  have W2 := Lib.hid (blw_trans W1.out hb)
  clear hb B1_a B1_b W1
  have ka0 := B2_a.cell 0 _ rfl
  have ka1 := B2_a.cell 1 _ rfl
  have kal := B2_a.lt
  try simp at ka0 ka1 kal
  have kb0 := B2_b.cell 0 _ rfl
  have kb1 := B2_b.cell 1 _ rfl
  have kbl := B2_b.lt
  try simp at kb0 kb1 kbl
  go_wp2_with fail
  refine (C2.out _).mono ?_
  rintro e w3 ⟨rfl, hb⟩
  clear ka0 ka1 kal kb0 kb1 kbl
  have B3_a := (B2_a.alloc _).below hb
  have B3_b := (B2_b.alloc _).below hb
  have B3_x := Boxed.below (Boxed.made _ #[.int .i64 x, .int .i64 t] 30) hb
  have W3 := Lib.hid (blw_trans (blw_trans W2.out (blw_alloc _ _)) hb)
  clear hb B2_a B2_b W2
  have ka0 := B3_a.cell 0 _ rfl
  have ka1 := B3_a.cell 1 _ rfl
  have kal := B3_a.lt
  try simp at ka0 ka1 kal
  have kb0 := B3_b.cell 0 _ rfl
  have kb1 := B3_b.cell 1 _ rfl
  have kbl := B3_b.lt
  try simp at kb0 kb1 kbl
  go_wp2_with fail
  refine (C3.out _).mono ?_
  rintro e w4 ⟨rfl, hb⟩
  clear ka0 ka1 kal kb0 kb1 kbl
  have B4_a := (B3_a.alloc _).below hb
  have B4_b := (B3_b.alloc _).below hb
  have B4_x := (B3_x.alloc _).below hb
  have B4_y := Boxed.below (Boxed.made _ #[.int .i64 y, .int .i64 t] 30) hb
  have W4 := Lib.hid (blw_trans (blw_trans W3.out (blw_alloc _ _)) hb)
  clear hb B3_a B3_b B3_x W3
  have ka0 := B4_a.cell 0 _ rfl
  have ka1 := B4_a.cell 1 _ rfl
  have kal := B4_a.lt
  try simp at ka0 ka1 kal
  have kb0 := B4_b.cell 0 _ rfl
  have kb1 := B4_b.cell 1 _ rfl
  have kbl := B4_b.lt
  try simp at kb0 kb1 kbl
  have kx0 := B4_x.cell 0 _ rfl
  have kx1 := B4_x.cell 1 _ rfl
  have kxl := B4_x.lt
  try simp at kx0 kx1 kxl
  have ky0 := B4_y.cell 0 _ rfl
  have ky1 := B4_y.cell 1 _ rfl
  have kyl := B4_y.lt
  try simp at ky0 ky1 kyl
  go_wp2_with fail
  refine (CL.out _).mono ?_
  rintro e w5 ⟨rfl, hb⟩
  clear ka0 ka1 kal kb0 kb1 kbl kx0 kx1 kxl ky0 ky1 kyl
  have B5_a := (B4_a.alloc _).below hb
  have B5_b := (B4_b.alloc _).below hb
  have B5_x := (B4_x.alloc _).below hb
  have B5_y := (B4_y.alloc _).below hb
  have B5_z := Boxed.below (Boxed.made _ #[.int .i64 z, .int .i64 t] 30) hb
  have W5 := Lib.hid (blw_trans (blw_trans W4.out (blw_alloc _ _)) hb)
  clear hb B4_a B4_b B4_x B4_y W4
  have kx0 := B5_x.cell 0 _ rfl
  have kx1 := B5_x.cell 1 _ rfl
  have kxl := B5_x.lt
  try simp at kx0 kx1 kxl
  have ky0 := B5_y.cell 0 _ rfl
  have ky1 := B5_y.cell 1 _ rfl
  have kyl := B5_y.lt
  try simp at ky0 ky1 kyl
  have kz0 := B5_z.cell 0 _ rfl
  have kz1 := B5_z.cell 1 _ rfl
  have kzl := B5_z.lt
  try simp at kz0 kz1 kzl
  clear B5_a B5_b B5_x B5_y B5_z
  go_wp2
  go_ret
  exact ⟨ret_bool (by simp), W5.out⟩

set_option maxRecDepth 100000 in
set_option maxHeartbeats 4000000 in
theorem rises_n_o (a s b r t way : Int) (w : World) (ha : rndE a s t way = 0) (hb' : rndE b r t way = 0) (hl : ¬ nrm a s < nrm b r) (h2 : way ≠ 2) (h3 : way ≠ 3) :
    Calls Try.prog 5 #[.agg #[.int .i64 a, .int .i64 s], .agg #[.int .i64 b, .int .i64 r], .int .i64 t, .int .i64 way] w fun e w' => e = .returned (.bool true) ∧ Below w.heap.size w w' := by
  obtain ⟨oa, t0, t1, w0, w1, _⟩ := rndE_zero.1 ha
  have ob := (rndE_zero.1 hb').1
  have C1 := Lib.hid fun w => round_yes a s t way w ha
  have C2 := Lib.hid fun w => round_yes b r t way w hb'
  have c3 := fun w => round_yes (-a) s t way w (rndE_neg ha)
  rw [Dcm.rndC_neg a s t way oa.1 oa.2.1 t0 t1 h2 h3] at c3
  have C3 := Lib.hid c3
  clear c3
  have CL := Lib.hid fun w => less_no a s b r w oa ob hl
  have rk := rndC_ok ha
  generalize Dcm.rndC a s t way = x at *
  generalize Dcm.rndC b r t way = y at *
  obtain ⟨_, _, rk0, rk1⟩ := rk
  obtain ⟨_, _, oa0, oa1⟩ := oa
  have e2 : (way == 2) = false := beq_no h2
  have e3 : (way == 3) = false := beq_no h3
  clear ha hb' hl ob
  go_enter Try.func5, Try.ntmps5
  go_wp2_with fail
  refine (half_any _).mono ?_
  rintro e w1 ⟨rfl, hb⟩
  have B1_a := Boxed.below (Boxed.alloc (Boxed.made _ #[.int .i64 a, .int .i64 s] 30) _) hb
  have B1_b := Boxed.below (Boxed.made _ #[.int .i64 b, .int .i64 r] 30) hb
  have W1 := Lib.hid (blw_trans (blw_trans (blw_trans (Below.refl w.heap.size w) (blw_alloc _ _)) (blw_alloc _ _)) hb)
  clear hb 
  have ka0 := B1_a.cell 0 _ rfl
  have ka1 := B1_a.cell 1 _ rfl
  have kal := B1_a.lt
  try simp at ka0 ka1 kal
  have kb0 := B1_b.cell 0 _ rfl
  have kb1 := B1_b.cell 1 _ rfl
  have kbl := B1_b.lt
  try simp at kb0 kb1 kbl
  go_wp2_with fail
  refine (C1.out _).mono ?_
  rintro e w2 ⟨rfl, hb⟩
  clear ka0 ka1 kal kb0 kb1 kbl
  have B2_a := B1_a.below hb
  have B2_b := B1_b.below hb
  have W2 := Lib.hid (blw_trans W1.out hb)
  clear hb B1_a B1_b W1
  have ka0 := B2_a.cell 0 _ rfl
  have ka1 := B2_a.cell 1 _ rfl
  have kal := B2_a.lt
  try simp at ka0 ka1 kal
  have kb0 := B2_b.cell 0 _ rfl
  have kb1 := B2_b.cell 1 _ rfl
  have kbl := B2_b.lt
  try simp at kb0 kb1 kbl
  go_wp2_with fail
  refine (C2.out _).mono ?_
  rintro e w3 ⟨rfl, hb⟩
  clear ka0 ka1 kal kb0 kb1 kbl
  have B3_a := (B2_a.alloc _).below hb
  have B3_b := (B2_b.alloc _).below hb
  have B3_x := Boxed.below (Boxed.made _ #[.int .i64 x, .int .i64 t] 30) hb
  have W3 := Lib.hid (blw_trans (blw_trans W2.out (blw_alloc _ _)) hb)
  clear hb B2_a B2_b W2
  have ka0 := B3_a.cell 0 _ rfl
  have ka1 := B3_a.cell 1 _ rfl
  have kal := B3_a.lt
  try simp at ka0 ka1 kal
  have kb0 := B3_b.cell 0 _ rfl
  have kb1 := B3_b.cell 1 _ rfl
  have kbl := B3_b.lt
  try simp at kb0 kb1 kbl
  go_wp2_with fail
  refine (C3.out _).mono ?_
  rintro e w4 ⟨rfl, hb⟩
  clear ka0 ka1 kal kb0 kb1 kbl
  have B4_a := (B3_a.alloc _).below hb
  have B4_b := (B3_b.alloc _).below hb
  have B4_x := (B3_x.alloc _).below hb
  have B4_y := Boxed.below (Boxed.made _ #[.int .i64 y, .int .i64 t] 30) hb
  have W4 := Lib.hid (blw_trans (blw_trans W3.out (blw_alloc _ _)) hb)
  clear hb B3_a B3_b B3_x W3
  have ka0 := B4_a.cell 0 _ rfl
  have ka1 := B4_a.cell 1 _ rfl
  have kal := B4_a.lt
  try simp at ka0 ka1 kal
  have kb0 := B4_b.cell 0 _ rfl
  have kb1 := B4_b.cell 1 _ rfl
  have kbl := B4_b.lt
  try simp at kb0 kb1 kbl
  have kx0 := B4_x.cell 0 _ rfl
  have kx1 := B4_x.cell 1 _ rfl
  have kxl := B4_x.lt
  try simp at kx0 kx1 kxl
  have ky0 := B4_y.cell 0 _ rfl
  have ky1 := B4_y.cell 1 _ rfl
  have kyl := B4_y.lt
  try simp at ky0 ky1 kyl
  go_wp2_with fail
  refine (CL.out _).mono ?_
  rintro e w5 ⟨rfl, hb⟩
  clear ka0 ka1 kal kb0 kb1 kbl kx0 kx1 kxl ky0 ky1 kyl
  have B5_a := (B4_a.alloc _).below hb
  have B5_b := (B4_b.alloc _).below hb
  have B5_x := (B4_x.alloc _).below hb
  have B5_y := (B4_y.alloc _).below hb
  have B5_z := Boxed.below (Boxed.made _ #[.int .i64 (-x), .int .i64 t] 30) hb
  have W5 := Lib.hid (blw_trans (blw_trans W4.out (blw_alloc _ _)) hb)
  clear hb B4_a B4_b B4_x B4_y W4
  have kx0 := B5_x.cell 0 _ rfl
  have kx1 := B5_x.cell 1 _ rfl
  have kxl := B5_x.lt
  try simp at kx0 kx1 kxl
  have ky0 := B5_y.cell 0 _ rfl
  have ky1 := B5_y.cell 1 _ rfl
  have kyl := B5_y.lt
  try simp at ky0 ky1 kyl
  have kz0 := B5_z.cell 0 _ rfl
  have kz1 := B5_z.cell 1 _ rfl
  have kzl := B5_z.lt
  try simp at kz0 kz1 kzl
  clear B5_a B5_b B5_x B5_y B5_z
  go_wp2
  go_ret
  exact ⟨ret_bool (by simp), W5.out⟩

theorem decRises_any (a s b r t way : Int) (w : World) :
    Calls Try.prog 5 #[.agg #[.int .i64 a, .int .i64 s], .agg #[.int .i64 b, .int .i64 r], .int .i64 t, .int .i64 way] w fun e w' => e = .returned (.bool true) ∧ Below w.heap.size w w' := by
  by_cases ha : rndE a s t way = 0
  · by_cases hb : rndE b r t way = 0
    · by_cases hl : nrm a s < nrm b r
      · by_cases h2 : way = 2
        · exact rises_y_2 a s b r t way w ha hb hl h2
        · by_cases h3 : way = 3
          · exact rises_y_3 a s b r t way w ha hb hl h3
          · exact rises_y_o a s b r t way w ha hb hl h2 h3
      · by_cases h2 : way = 2
        · exact rises_n_2 a s b r t way w ha hb hl h2
        · by_cases h3 : way = 3
          · exact rises_n_3 a s b r t way w ha hb hl h3
          · exact rises_n_o a s b r t way w ha hb hl h2 h3
    · exact rises_y a s b r t way w ha hb
  · exact rises_x a s b r t way w ha
end Go.Proofs.Ytdannkcacldhmaa
