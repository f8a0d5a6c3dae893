/- The walk of the law DecAdds: it returns true of whatever three numbers. -/
import Derived.Test.YtdannkcacldhmaaDecMore
import Derived.Test.YtdannkcacldhmaaHeld
namespace Go.Proofs.Ytdannkcacldhmaa
open Go.RowKit
open Dcm (P10 okD nrm)

set_option maxRecDepth 100000 in
set_option maxHeartbeats 4000000 in
theorem adds_err (a s b t c r : Int) (w : World) (h : ¬ addOk a s b t) :
    Calls Try.prog 8 #[.agg #[.int .i64 a, .int .i64 s], .agg #[.int .i64 b, .int .i64 t], .agg #[.int .i64 c, .int .i64 r]] w fun e w' => e = .returned (.bool true) ∧ Below w.heap.size w w' := by
  have C1 := Lib.hid fun w => add_no a s b t w h
  have C2 := Lib.hid fun w => add_no b t a s w (fun g => h (addOk_comm g))
  clear h
  go_enter Try.func8, Try.ntmps8
  go_wp2_with fail
  refine (half_any _).mono ?_
  rintro e w1 ⟨rfl, hb⟩
  have B1_a := Boxed.below (Boxed.alloc (Boxed.alloc (Boxed.made _ #[.int .i64 a, .int .i64 s] 30) _) _) hb
  have B1_b := Boxed.below (Boxed.alloc (Boxed.made _ #[.int .i64 b, .int .i64 t] 30) _) hb
  have B1_c := Boxed.below (Boxed.made _ #[.int .i64 c, .int .i64 r] 30) hb
  have W1 := Lib.hid (blw_trans (blw_trans (blw_trans (blw_trans (Below.refl w.heap.size w) (blw_alloc _ _)) (blw_alloc _ _)) (blw_alloc _ _)) hb)
  clear hb 
  have ka0 := B1_a.cell 0 _ rfl
  have ka1 := B1_a.cell 1 _ rfl
  have kal := B1_a.lt
  try simp at ka0 ka1 kal
  have kb0 := B1_b.cell 0 _ rfl
  have kb1 := B1_b.cell 1 _ rfl
  have kbl := B1_b.lt
  try simp at kb0 kb1 kbl
  have kc0 := B1_c.cell 0 _ rfl
  have kc1 := B1_c.cell 1 _ rfl
  have kcl := B1_c.lt
  try simp at kc0 kc1 kcl
  go_wp2_with fail
  refine (C1.out _).mono ?_
  rintro e w2 ⟨rfl, hb⟩
  clear ka0 ka1 kal kb0 kb1 kbl kc0 kc1 kcl
  have B2_a := B1_a.below hb
  have B2_b := B1_b.below hb
  have B2_c := B1_c.below hb
  have W2 := Lib.hid (blw_trans W1.out hb)
  clear hb B1_a B1_b B1_c W1
  have ka0 := B2_a.cell 0 _ rfl
  have ka1 := B2_a.cell 1 _ rfl
  have kal := B2_a.lt
  try simp at ka0 ka1 kal
  have kb0 := B2_b.cell 0 _ rfl
  have kb1 := B2_b.cell 1 _ rfl
  have kbl := B2_b.lt
  try simp at kb0 kb1 kbl
  have kc0 := B2_c.cell 0 _ rfl
  have kc1 := B2_c.cell 1 _ rfl
  have kcl := B2_c.lt
  try simp at kc0 kc1 kcl
  go_wp2_with fail
  refine (C2.out _).mono ?_
  rintro e w3 ⟨rfl, hb⟩
  clear ka0 ka1 kal kb0 kb1 kbl kc0 kc1 kcl
  have B3_a := (B2_a.alloc _).below hb
  have B3_b := (B2_b.alloc _).below hb
  have B3_c := (B2_c.alloc _).below hb
  have B3_x := Boxed.below (Boxed.made _ #[.int .i64 0, .int .i64 0] 30) hb
  have W3 := Lib.hid (blw_trans (blw_trans W2.out (blw_alloc _ _)) hb)
  clear hb B2_a B2_b B2_c W2
  clear B3_a B3_b B3_c B3_x
  go_wp2
  go_ret
  exact ⟨ret_bool (by simp), (blw_trans W3.out (blw_alloc _ _))⟩

set_option maxRecDepth 100000 in
set_option maxHeartbeats 4000000 in
theorem adds_b_y (a s b t c r : Int) (w : World) (h : addOk a s b t) (hk : addOk (Dcm.addC a s b t) (Dcm.addS s t) (-b) t) (hw : addOk c r b t) (hl : nrm a s < nrm c r) :
    Calls Try.prog 8 #[.agg #[.int .i64 a, .int .i64 s], .agg #[.int .i64 b, .int .i64 t], .agg #[.int .i64 c, .int .i64 r]] w fun e w' => e = .returned (.bool true) ∧ Below w.heap.size w w' := by
  have C1 := Lib.hid fun w => add_yes a s b t w h
  have c2 := fun w => add_yes b t a s w (addOk_comm h)
  rw [Dcm.addC_comm b t a s, Dcm.addS_comm t s] at c2
  have C2 := Lib.hid c2
  have az := add_zero_ok h.1
  have c3 := fun w => add_yes a s 0 0 w az.1
  rw [az.2.1, az.2.2] at c3
  have C3 := Lib.hid c3
  have nx := addOk_nrm h
  have ox := addOk_okD h
  have C4 := Lib.hid fun w => add_yes (Dcm.addC a s b t) (Dcm.addS s t) (-b) t w hk
  have C5 := Lib.hid fun w => add_yes c r b t w hw
  have nk := addOk_nrm hk
  rw [nx, Dcm.nrm_neg] at nk
  have SB := Lib.hid fun w => same_yes _ _ a s w (addOk_okD hk) h.1 (by omega)
  generalize Dcm.addC (Dcm.addC a s b t) (Dcm.addS s t) (-b) t = K at *
  generalize Dcm.addS (Dcm.addS s t) t = L at *
  have nw := addOk_nrm hw
  have AC := Lib.hid fun w => less_yes a s c r w h.1 hw.1 hl
  have XW := Lib.hid fun w => less_yes _ _ _ _ w ox (addOk_okD hw) (by rw [nx, nw]; omega)
  generalize Dcm.addC c r b t = V at *
  generalize Dcm.addS r t = Q at *
  clear nw
  obtain ⟨oa, ob, _, _⟩ := h
  obtain ⟨b0, b1⟩ := ob.2.2
  generalize Dcm.addC a s b t = X at *
  generalize Dcm.addS s t = S at *
  clear c2 az c3 nx ox oa ob hk hw nk hl
  go_enter Try.func8, Try.ntmps8
  go_wp2_with fail
  refine (half_any _).mono ?_
  rintro e w1 ⟨rfl, hb⟩
  have B1_a := Boxed.below (Boxed.alloc (Boxed.alloc (Boxed.made _ #[.int .i64 a, .int .i64 s] 30) _) _) hb
  have B1_b := Boxed.below (Boxed.alloc (Boxed.made _ #[.int .i64 b, .int .i64 t] 30) _) hb
  have B1_c := Boxed.below (Boxed.made _ #[.int .i64 c, .int .i64 r] 30) hb
  have W1 := Lib.hid (blw_trans (blw_trans (blw_trans (blw_trans (Below.refl w.heap.size w) (blw_alloc _ _)) (blw_alloc _ _)) (blw_alloc _ _)) hb)
  clear hb 
  have ka0 := B1_a.cell 0 _ rfl
  have ka1 := B1_a.cell 1 _ rfl
  have kal := B1_a.lt
  try simp at ka0 ka1 kal
  have kb0 := B1_b.cell 0 _ rfl
  have kb1 := B1_b.cell 1 _ rfl
  have kbl := B1_b.lt
  try simp at kb0 kb1 kbl
  have kc0 := B1_c.cell 0 _ rfl
  have kc1 := B1_c.cell 1 _ rfl
  have kcl := B1_c.lt
  try simp at kc0 kc1 kcl
  go_wp2_with fail
  refine (C1.out _).mono ?_
  rintro e w2 ⟨rfl, hb⟩
  clear ka0 ka1 kal kb0 kb1 kbl kc0 kc1 kcl
  have B2_a := B1_a.below hb
  have B2_b := B1_b.below hb
  have B2_c := B1_c.below hb
  have W2 := Lib.hid (blw_trans W1.out hb)
  clear hb B1_a B1_b B1_c W1
  have ka0 := B2_a.cell 0 _ rfl
  have ka1 := B2_a.cell 1 _ rfl
  have kal := B2_a.lt
  try simp at ka0 ka1 kal
  have kb0 := B2_b.cell 0 _ rfl
  have kb1 := B2_b.cell 1 _ rfl
  have kbl := B2_b.lt
  try simp at kb0 kb1 kbl
  have kc0 := B2_c.cell 0 _ rfl
  have kc1 := B2_c.cell 1 _ rfl
  have kcl := B2_c.lt
  try simp at kc0 kc1 kcl
  go_wp2_with fail
  refine (C2.out _).mono ?_
  rintro e w3 ⟨rfl, hb⟩
  clear ka0 ka1 kal kb0 kb1 kbl kc0 kc1 kcl
  have B3_a := (B2_a.alloc _).below hb
  have B3_b := (B2_b.alloc _).below hb
  have B3_c := (B2_c.alloc _).below hb
  have B3_x := Boxed.below (Boxed.made _ #[.int .i64 X, .int .i64 S] 30) hb
  have W3 := Lib.hid (blw_trans (blw_trans W2.out (blw_alloc _ _)) hb)
  clear hb B2_a B2_b B2_c W2
  have ka0 := B3_a.cell 0 _ rfl
  have ka1 := B3_a.cell 1 _ rfl
  have kal := B3_a.lt
  try simp at ka0 ka1 kal
  have kb0 := B3_b.cell 0 _ rfl
  have kb1 := B3_b.cell 1 _ rfl
  have kbl := B3_b.lt
  try simp at kb0 kb1 kbl
  have kc0 := B3_c.cell 0 _ rfl
  have kc1 := B3_c.cell 1 _ rfl
  have kcl := B3_c.lt
  try simp at kc0 kc1 kcl
  have kx0 := B3_x.cell 0 _ rfl
  have kx1 := B3_x.cell 1 _ rfl
  have kxl := B3_x.lt
  try simp at kx0 kx1 kxl
  go_wp2_with fail
  refine (C3.out _).mono ?_
  rintro e w4 ⟨rfl, hb⟩
  clear ka0 ka1 kal kb0 kb1 kbl kc0 kc1 kcl kx0 kx1 kxl
  have B4_a := (B3_a.alloc _).below hb
  have B4_b := (B3_b.alloc _).below hb
  have B4_c := (B3_c.alloc _).below hb
  have B4_x := (B3_x.alloc _).below hb
  have B4_y := Boxed.below (Boxed.made _ #[.int .i64 X, .int .i64 S] 30) hb
  have W4 := Lib.hid (blw_trans (blw_trans W3.out (blw_alloc _ _)) hb)
  clear hb B3_a B3_b B3_c B3_x W3
  have ka0 := B4_a.cell 0 _ rfl
  have ka1 := B4_a.cell 1 _ rfl
  have kal := B4_a.lt
  try simp at ka0 ka1 kal
  have kb0 := B4_b.cell 0 _ rfl
  have kb1 := B4_b.cell 1 _ rfl
  have kbl := B4_b.lt
  try simp at kb0 kb1 kbl
  have kc0 := B4_c.cell 0 _ rfl
  have kc1 := B4_c.cell 1 _ rfl
  have kcl := B4_c.lt
  try simp at kc0 kc1 kcl
  have kx0 := B4_x.cell 0 _ rfl
  have kx1 := B4_x.cell 1 _ rfl
  have kxl := B4_x.lt
  try simp at kx0 kx1 kxl
  have ky0 := B4_y.cell 0 _ rfl
  have ky1 := B4_y.cell 1 _ rfl
  have kyl := B4_y.lt
  try simp at ky0 ky1 kyl
  go_wp2_with fail
  refine (C4.out _).mono ?_
  rintro e w5 ⟨rfl, hb⟩
  clear ka0 ka1 kal kb0 kb1 kbl kc0 kc1 kcl kx0 kx1 kxl ky0 ky1 kyl
  have B5_a := (B4_a.alloc _).below hb
  have B5_b := (B4_b.alloc _).below hb
  have B5_c := (B4_c.alloc _).below hb
  have B5_x := (B4_x.alloc _).below hb
  have B5_y := (B4_y.alloc _).below hb
  have B5_z := Boxed.below (Boxed.made _ #[.int .i64 a, .int .i64 s] 30) hb
  have W5 := Lib.hid (blw_trans (blw_trans W4.out (blw_alloc _ _)) hb)
  clear hb B4_a B4_b B4_c B4_x B4_y W4
  have ka0 := B5_a.cell 0 _ rfl
  have ka1 := B5_a.cell 1 _ rfl
  have kal := B5_a.lt
  try simp at ka0 ka1 kal
  have kb0 := B5_b.cell 0 _ rfl
  have kb1 := B5_b.cell 1 _ rfl
  have kbl := B5_b.lt
  try simp at kb0 kb1 kbl
  have kc0 := B5_c.cell 0 _ rfl
  have kc1 := B5_c.cell 1 _ rfl
  have kcl := B5_c.lt
  try simp at kc0 kc1 kcl
  have kx0 := B5_x.cell 0 _ rfl
  have kx1 := B5_x.cell 1 _ rfl
  have kxl := B5_x.lt
  try simp at kx0 kx1 kxl
  have ky0 := B5_y.cell 0 _ rfl
  have ky1 := B5_y.cell 1 _ rfl
  have kyl := B5_y.lt
  try simp at ky0 ky1 kyl
  have kz0 := B5_z.cell 0 _ rfl
  have kz1 := B5_z.cell 1 _ rfl
  have kzl := B5_z.lt
  try simp at kz0 kz1 kzl
  go_wp2_with fail
  refine (C5.out _).mono ?_
  rintro e w6 ⟨rfl, hb⟩
  clear ka0 ka1 kal kb0 kb1 kbl kc0 kc1 kcl kx0 kx1 kxl ky0 ky1 kyl kz0 kz1 kzl
  have B6_a := (B5_a.alloc _).below hb
  have B6_b := (B5_b.alloc _).below hb
  have B6_c := (B5_c.alloc _).below hb
  have B6_x := (B5_x.alloc _).below hb
  have B6_y := (B5_y.alloc _).below hb
  have B6_z := (B5_z.alloc _).below hb
  have B6_k := Boxed.below (Boxed.made _ #[.int .i64 K, .int .i64 L] 30) hb
  have W6 := Lib.hid (blw_trans (blw_trans W5.out (blw_alloc _ _)) hb)
  clear hb B5_a B5_b B5_c B5_x B5_y B5_z W5
  have ka0 := B6_a.cell 0 _ rfl
  have ka1 := B6_a.cell 1 _ rfl
  have kal := B6_a.lt
  try simp at ka0 ka1 kal
  have kb0 := B6_b.cell 0 _ rfl
  have kb1 := B6_b.cell 1 _ rfl
  have kbl := B6_b.lt
  try simp at kb0 kb1 kbl
  have kc0 := B6_c.cell 0 _ rfl
  have kc1 := B6_c.cell 1 _ rfl
  have kcl := B6_c.lt
  try simp at kc0 kc1 kcl
  have kx0 := B6_x.cell 0 _ rfl
  have kx1 := B6_x.cell 1 _ rfl
  have kxl := B6_x.lt
  try simp at kx0 kx1 kxl
  have ky0 := B6_y.cell 0 _ rfl
  have ky1 := B6_y.cell 1 _ rfl
  have kyl := B6_y.lt
  try simp at ky0 ky1 kyl
  have kz0 := B6_z.cell 0 _ rfl
  have kz1 := B6_z.cell 1 _ rfl
  have kzl := B6_z.lt
  try simp at kz0 kz1 kzl
  have kk0 := B6_k.cell 0 _ rfl
  have kk1 := B6_k.cell 1 _ rfl
  have kkl := B6_k.lt
  try simp at kk0 kk1 kkl
  go_wp2_with fail
  have HW := Lib.hid (show Below w.heap.size w (w6.alloc (.cells #[.int .i64 V, .int .i64 Q] 30)) from (blw_trans W6.out (blw_alloc _ _)))
  refine wp_region_held_drew (S := fun w' => w'.cell? ⟨w.heap.size, 0, none⟩ = some (.int .i64 a) ∧ w'.cell? ⟨w.heap.size, 1, none⟩ = some (.int .i64 s) ∧ w'.cell? ⟨w.heap.size + 1 + 1, 0, none⟩ = some (.int .i64 c) ∧ w'.cell? ⟨w.heap.size + 1 + 1, 1, none⟩ = some (.int .i64 r) ∧ w'.cell? ⟨w2.heap.size, 0, none⟩ = some (.int .i64 X) ∧ w'.cell? ⟨w2.heap.size, 1, none⟩ = some (.int .i64 S) ∧ w'.cell? ⟨w3.heap.size, 0, none⟩ = some (.int .i64 X) ∧ w'.cell? ⟨w3.heap.size, 1, none⟩ = some (.int .i64 S) ∧ w'.cell? ⟨w4.heap.size, 0, none⟩ = some (.int .i64 a) ∧ w'.cell? ⟨w4.heap.size, 1, none⟩ = some (.int .i64 s) ∧ w'.cell? ⟨w5.heap.size, 0, none⟩ = some (.int .i64 K) ∧ w'.cell? ⟨w5.heap.size, 1, none⟩ = some (.int .i64 L) ∧ w'.cell? ⟨w6.heap.size, 0, none⟩ = some (.int .i64 V) ∧ w'.cell? ⟨w6.heap.size, 1, none⟩ = some (.int .i64 Q) ∧ Hid (Below w.heap.size w w')) (by kernel_rfl) (by refine ⟨?_, ?_, ?_, ?_, ?_, ?_, ?_, ?_, ?_, ?_, ?_, ?_, ?_, ?_, Lib.hid (Below.drew HW.out)⟩ <;> go_keep) (fun hHeld => ?_)
  refine take_run (d := (some 68)) (v := ?v1) 0 rfl rfl (by kernel_rfl) (by kernel_rfl) (by kernel_rfl) (fun _ _ _ h => h) (by rfl) hHeld ?hy1 ?rs1
  case hy1 => (intro w hSw; (try dsimp only at hSw); go_simp) <;> (try with_reducible rfl)
  (try simp only [Act.put, List.setIfInBounds_toArray, List.set_cons_zero, List.set_cons_succ])
  refine take_run (d := (some 69)) (v := ?v2) 1 rfl rfl (by kernel_rfl) (by kernel_rfl) (by kernel_rfl) (fun _ _ _ h => h) (by rfl) hHeld ?hy2 ?rs2
  case hy2 => (intro w hSw; (try dsimp only at hSw); go_simp) <;> (try with_reducible rfl)
  (try simp only [Act.put, List.setIfInBounds_toArray, List.set_cons_zero, List.set_cons_succ])
  refine take_run (d := (some 70)) (v := ?v3) 2 rfl rfl (by kernel_rfl) (by kernel_rfl) (by kernel_rfl) (fun _ _ _ h => h) (by rfl) hHeld ?hy3 ?rs3
  case hy3 => (intro w hSw; (try dsimp only at hSw); go_simp) <;> (try with_reducible rfl)
  (try simp only [Act.put, List.setIfInBounds_toArray, List.set_cons_zero, List.set_cons_succ])
  refine take_run (d := (some 71)) (v := ?v4) 3 rfl rfl (by kernel_rfl) (by kernel_rfl) (by kernel_rfl) (fun _ _ _ h => h) (by rfl) hHeld ?hy4 ?rs4
  case hy4 => (intro w hSw; (try dsimp only at hSw); go_simp) <;> (try with_reducible rfl)
  (try simp only [Act.put, List.setIfInBounds_toArray, List.set_cons_zero, List.set_cons_succ])
  refine take_run (d := (some 72)) (v := ?v5) 4 rfl rfl (by kernel_rfl) (by kernel_rfl) (by kernel_rfl) (fun _ _ _ h => h) (by rfl) hHeld ?hy5 ?rs5
  case hy5 => (intro w hSw; (try dsimp only at hSw); go_simp) <;> (try with_reducible rfl)
  (try simp only [Act.put, List.setIfInBounds_toArray, List.set_cons_zero, List.set_cons_succ])
  refine take_run (d := (some 73)) (v := ?v6) 5 rfl rfl (by kernel_rfl) (by kernel_rfl) (by kernel_rfl) (fun _ _ _ h => h) (by rfl) hHeld ?hy6 ?rs6
  case hy6 => (intro w hSw; (try dsimp only at hSw); go_simp) <;> (try with_reducible rfl)
  (try simp only [Act.put, List.setIfInBounds_toArray, List.set_cons_zero, List.set_cons_succ])
  refine take_run (d := (some 74)) (v := ?v7) 6 rfl rfl (by kernel_rfl) (by kernel_rfl) (by kernel_rfl) (fun _ _ _ h => h) (by rfl) hHeld ?hy7 ?rs7
  case hy7 => (intro w hSw; (try dsimp only at hSw); go_simp) <;> (try with_reducible rfl)
  (try simp only [Act.put, List.setIfInBounds_toArray, List.set_cons_zero, List.set_cons_succ])
  refine take_run (d := (some 75)) (v := ?v8) 7 rfl rfl (by kernel_rfl) (by kernel_rfl) (by kernel_rfl) (fun _ _ _ h => h) (by rfl) hHeld ?hy8 ?rs8
  case hy8 => (intro w hSw; (try dsimp only at hSw); go_simp) <;> (try with_reducible rfl)
  (try simp only [Act.put, List.setIfInBounds_toArray, List.set_cons_zero, List.set_cons_succ])
  refine take_run (d := (some 76)) (v := ?v9) 8 rfl rfl (by kernel_rfl) (by kernel_rfl) (by kernel_rfl) (fun _ _ _ h => h) (by rfl) hHeld ?hy9 ?rs9
  case hy9 => (intro w hSw; (try dsimp only at hSw); go_simp) <;> (try with_reducible rfl)
  (try simp only [Act.put, List.setIfInBounds_toArray, List.set_cons_zero, List.set_cons_succ])
  refine take_run (d := (some 77)) (v := ?v10) 9 rfl rfl (by kernel_rfl) (by kernel_rfl) (by kernel_rfl) (fun _ _ _ h => h) (by rfl) hHeld ?hy10 ?rs10
  case hy10 => (intro w hSw; (try dsimp only at hSw); go_simp) <;> (try with_reducible rfl)
  (try simp only [Act.put, List.setIfInBounds_toArray, List.set_cons_zero, List.set_cons_succ])
  refine take_run (d := (some 78)) (v := ?v11) 10 rfl rfl (by kernel_rfl) (by kernel_rfl) (by kernel_rfl) (fun _ _ _ h => h) (by rfl) hHeld ?hy11 ?rs11
  case hy11 => (intro w hSw; (try dsimp only at hSw); go_simp) <;> (try with_reducible rfl)
  (try simp only [Act.put, List.setIfInBounds_toArray, List.set_cons_zero, List.set_cons_succ])
  refine take_run (d := (some 79)) (v := ?v12) 11 rfl rfl (by kernel_rfl) (by kernel_rfl) (by kernel_rfl) (fun _ _ _ h => h) (by rfl) hHeld ?hy12 ?rs12
  case hy12 => (intro w hSw; (try dsimp only at hSw); go_simp) <;> (try with_reducible rfl)
  (try simp only [Act.put, List.setIfInBounds_toArray, List.set_cons_zero, List.set_cons_succ])
  refine take_run (d := (some 80)) (v := ?v13) 12 rfl rfl (by kernel_rfl) (by kernel_rfl) (by kernel_rfl) (fun _ _ _ h => h) (by rfl) hHeld ?hy13 ?rs13
  case hy13 => (intro w hSw; (try dsimp only at hSw); go_simp) <;> (try with_reducible rfl)
  (try simp only [Act.put, List.setIfInBounds_toArray, List.set_cons_zero, List.set_cons_succ])
  refine take_run (d := (some 81)) (v := ?v14) 13 rfl rfl (by kernel_rfl) (by kernel_rfl) (by kernel_rfl) (fun _ _ _ h => h) (by rfl) hHeld ?hy14 ?rs14
  case hy14 => (intro w hSw; (try dsimp only at hSw); go_simp) <;> (try with_reducible rfl)
  (try simp only [Act.put, List.setIfInBounds_toArray, List.set_cons_zero, List.set_cons_succ])
  refine take_run (d := (some 82)) (v := ?v15) 14 rfl rfl (by kernel_rfl) (by kernel_rfl) (by kernel_rfl) (fun _ _ _ h => h) (by rfl) hHeld ?hy15 ?rs15
  case hy15 => (intro w hSw; (try dsimp only at hSw); go_simp) <;> (try with_reducible rfl)
  (try simp only [Act.put, List.setIfInBounds_toArray, List.set_cons_zero, List.set_cons_succ])
  refine take_run (d := (some 83)) (v := ?v16) 15 rfl rfl (by kernel_rfl) (by kernel_rfl) (by kernel_rfl) (fun _ _ _ h => h) (by rfl) hHeld ?hy16 ?rs16
  case hy16 => (intro w hSw; (try dsimp only at hSw); go_simp) <;> (try with_reducible rfl)
  (try simp only [Act.put, List.setIfInBounds_toArray, List.set_cons_zero, List.set_cons_succ])
  refine take_run (d := (some 84)) (v := ?v17) 16 rfl rfl (by kernel_rfl) (by kernel_rfl) (by kernel_rfl) (fun _ _ _ h => h) (by rfl) hHeld ?hy17 ?rs17
  case hy17 => (intro w hSw; (try dsimp only at hSw); go_simp) <;> (try with_reducible rfl)
  (try simp only [Act.put, List.setIfInBounds_toArray, List.set_cons_zero, List.set_cons_succ])
  refine take_run (d := (some 85)) (v := ?v18) 17 rfl rfl (by kernel_rfl) (by kernel_rfl) (by kernel_rfl) (fun _ _ _ h => h) (by rfl) hHeld ?hy18 ?rs18
  case hy18 => (intro w hSw; (try dsimp only at hSw); go_simp) <;> (try with_reducible rfl)
  (try simp only [Act.put, List.setIfInBounds_toArray, List.set_cons_zero, List.set_cons_succ])
  refine take_call 18 rfl (by kernel_rfl) (by rfl) (fun K hK => ?_)
  go_simp
  refine (SB.out _).mono ?_
  rintro e w' ⟨rfl, hb⟩
  refine hK.out _ _ (by obtain ⟨h0, h1, h2, h3, h4, h5, h6, h7, h8, h9, h10, h11, h12, h13, hw⟩ := hHeld; exact ⟨cell_keep h0 hb, cell_keep h1 hb, cell_keep h2 hb, cell_keep h3 hb, cell_keep h4 hb, cell_keep h5 hb, cell_keep h6 hb, cell_keep h7 hb, cell_keep h8 hb, cell_keep h9 hb, cell_keep h10 hb, cell_keep h11 hb, cell_keep h12 hb, cell_keep h13 hb, Lib.hid (blw_trans hw.out hb)⟩) (fun hHeld => ?_)
  clear hK K
  (try simp only [Act.put, List.setIfInBounds_toArray, List.set_cons_zero, List.set_cons_succ])
  refine take_run (d := (some 87)) (v := ?v20) 19 rfl rfl (by kernel_rfl) (by kernel_rfl) (by kernel_rfl) (fun _ _ _ h => h) (by rfl) hHeld ?hy20 ?rs20
  case hy20 => (intro w hSw; (try dsimp only at hSw); go_simp) <;> (try with_reducible rfl)
  (try simp only [Act.put, List.setIfInBounds_toArray, List.set_cons_zero, List.set_cons_succ])
  refine take_run (d := (some 88)) (v := ?v21) 20 rfl rfl (by kernel_rfl) (by kernel_rfl) (by kernel_rfl) (fun _ _ _ h => h) (by rfl) hHeld ?hy21 ?rs21
  case hy21 => (intro w hSw; (try dsimp only at hSw); go_simp) <;> (try with_reducible rfl)
  (try simp only [Act.put, List.setIfInBounds_toArray, List.set_cons_zero, List.set_cons_succ])
  refine take_run (d := (some 89)) (v := ?v22) 21 rfl rfl (by kernel_rfl) (by kernel_rfl) (by kernel_rfl) (fun _ _ _ h => h) (by rfl) hHeld ?hy22 ?rs22
  case hy22 => (intro w hSw; (try dsimp only at hSw); go_simp) <;> (try with_reducible rfl)
  (try simp only [Act.put, List.setIfInBounds_toArray, List.set_cons_zero, List.set_cons_succ])
  refine take_run (d := (some 90)) (v := ?v23) 22 rfl rfl (by kernel_rfl) (by kernel_rfl) (by kernel_rfl) (fun _ _ _ h => h) (by rfl) hHeld ?hy23 ?rs23
  case hy23 => (intro w hSw; (try dsimp only at hSw); go_simp) <;> (try with_reducible rfl)
  (try simp only [Act.put, List.setIfInBounds_toArray, List.set_cons_zero, List.set_cons_succ])
  refine take_run (d := (some 91)) (v := ?v24) 23 rfl rfl (by kernel_rfl) (by kernel_rfl) (by kernel_rfl) (fun _ _ _ h => h) (by rfl) hHeld ?hy24 ?rs24
  case hy24 => (intro w hSw; (try dsimp only at hSw); go_simp) <;> (try with_reducible rfl)
  (try simp only [Act.put, List.setIfInBounds_toArray, List.set_cons_zero, List.set_cons_succ])
  refine take_run (d := (some 92)) (v := ?v25) 24 rfl rfl (by kernel_rfl) (by kernel_rfl) (by kernel_rfl) (fun _ _ _ h => h) (by rfl) hHeld ?hy25 ?rs25
  case hy25 => (intro w hSw; (try dsimp only at hSw); go_simp) <;> (try with_reducible rfl)
  (try simp only [Act.put, List.setIfInBounds_toArray, List.set_cons_zero, List.set_cons_succ])
  refine take_run (d := (some 93)) (v := ?v26) 25 rfl rfl (by kernel_rfl) (by kernel_rfl) (by kernel_rfl) (fun _ _ _ h => h) (by rfl) hHeld ?hy26 ?rs26
  case hy26 => (intro w hSw; (try dsimp only at hSw); go_simp) <;> (try with_reducible rfl)
  (try simp only [Act.put, List.setIfInBounds_toArray, List.set_cons_zero, List.set_cons_succ])
  refine take_run (d := (some 94)) (v := ?v27) 26 rfl rfl (by kernel_rfl) (by kernel_rfl) (by kernel_rfl) (fun _ _ _ h => h) (by rfl) hHeld ?hy27 ?rs27
  case hy27 => (intro w hSw; (try dsimp only at hSw); go_simp) <;> (try with_reducible rfl)
  (try simp only [Act.put, List.setIfInBounds_toArray, List.set_cons_zero, List.set_cons_succ])
  refine take_run (d := (some 96)) (v := ?v28) 28 rfl rfl (by kernel_rfl) (by kernel_rfl) (by kernel_rfl) (fun _ _ _ h => h) (by rfl) hHeld ?hy28 ?rs28
  case hy28 => (intro w hSw; (try dsimp only at hSw); go_simp) <;> (try with_reducible rfl)
  (try simp only [Act.put, List.setIfInBounds_toArray, List.set_cons_zero, List.set_cons_succ])
  refine take_run (d := (some 97)) (v := ?v29) 29 rfl rfl (by kernel_rfl) (by kernel_rfl) (by kernel_rfl) (fun _ _ _ h => h) (by rfl) hHeld ?hy29 ?rs29
  case hy29 => (intro w hSw; (try dsimp only at hSw); go_simp) <;> (try with_reducible rfl)
  (try simp only [Act.put, List.setIfInBounds_toArray, List.set_cons_zero, List.set_cons_succ])
  refine take_call 27 rfl (by kernel_rfl) (by rfl) (fun K hK => ?_)
  go_simp
  refine (AC.out _).mono ?_
  rintro e w' ⟨rfl, hb⟩
  refine hK.out _ _ (by obtain ⟨h0, h1, h2, h3, h4, h5, h6, h7, h8, h9, h10, h11, h12, h13, hw⟩ := hHeld; exact ⟨cell_keep h0 hb, cell_keep h1 hb, cell_keep h2 hb, cell_keep h3 hb, cell_keep h4 hb, cell_keep h5 hb, cell_keep h6 hb, cell_keep h7 hb, cell_keep h8 hb, cell_keep h9 hb, cell_keep h10 hb, cell_keep h11 hb, cell_keep h12 hb, cell_keep h13 hb, Lib.hid (blw_trans hw.out hb)⟩) (fun hHeld => ?_)
  clear hK K
  (try simp only [Act.put, List.setIfInBounds_toArray, List.set_cons_zero, List.set_cons_succ])
  refine take_call 30 rfl (by kernel_rfl) (by rfl) (fun K hK => ?_)
  go_simp
  refine (XW.out _).mono ?_
  rintro e w' ⟨rfl, hb⟩
  refine hK.out _ _ (by obtain ⟨h0, h1, h2, h3, h4, h5, h6, h7, h8, h9, h10, h11, h12, h13, hw⟩ := hHeld; exact ⟨cell_keep h0 hb, cell_keep h1 hb, cell_keep h2 hb, cell_keep h3 hb, cell_keep h4 hb, cell_keep h5 hb, cell_keep h6 hb, cell_keep h7 hb, cell_keep h8 hb, cell_keep h9 hb, cell_keep h10 hb, cell_keep h11 hb, cell_keep h12 hb, cell_keep h13 hb, Lib.hid (blw_trans hw.out hb)⟩) (fun hHeld => ?_)
  clear hK K
  (try simp only [Act.put, List.setIfInBounds_toArray, List.set_cons_zero, List.set_cons_succ])
  refine take_run (d := (some 99)) (v := ?v32) 31 rfl rfl (by kernel_rfl) (by kernel_rfl) (by kernel_rfl) (fun _ _ _ h => h) (by rfl) hHeld ?hy32 ?rs32
  case hy32 => (intro w hSw; (try dsimp only at hSw); go_simp) <;> (try with_reducible rfl)
  (try simp only [Act.put, List.setIfInBounds_toArray, List.set_cons_zero, List.set_cons_succ])
  refine take_run (d := (some 100)) (v := ?v33) 32 rfl rfl (by kernel_rfl) (by kernel_rfl) (by kernel_rfl) (fun _ _ _ h => h) (by rfl) hHeld ?hy33 ?rs33
  case hy33 => (intro w hSw; (try dsimp only at hSw); go_simp) <;> (try with_reducible rfl)
  (try simp only [Act.put, List.setIfInBounds_toArray, List.set_cons_zero, List.set_cons_succ])
  refine take_run (d := (some 101)) (v := ?v34) 33 rfl rfl (by kernel_rfl) (by kernel_rfl) (by kernel_rfl) (fun _ _ _ h => h) (by rfl) hHeld ?hy34 ?rs34
  case hy34 => (intro w hSw; (try dsimp only at hSw); go_simp) <;> (try with_reducible rfl)
  (try simp only [Act.put, List.setIfInBounds_toArray, List.set_cons_zero, List.set_cons_succ])
  refine take_run (d := (some 6)) (v := ?v35) 34 rfl rfl (by kernel_rfl) (by kernel_rfl) (by kernel_rfl) (fun _ _ _ h => h) (by rfl) hHeld ?hy35 ?rs35
  case hy35 => (intro w hSw; (try dsimp only at hSw); go_simp) <;> (try with_reducible rfl)
  (try simp only [Act.put, List.setIfInBounds_toArray, List.set_cons_zero, List.set_cons_succ])
  refine wpAnyH_done (by kernel_rfl) ?_ _
  obtain ⟨z0, z1, z2, z3, z4, z5, z6, z7, z8, z9, z10, z11, z12, z13, zW⟩ := hHeld
  go_wp2
  go_ret
  exact ⟨ret_bool (by simp), zW.out⟩

set_option maxRecDepth 100000 in
set_option maxHeartbeats 4000000 in
theorem adds_b_n (a s b t c r : Int) (w : World) (h : addOk a s b t) (hk : addOk (Dcm.addC a s b t) (Dcm.addS s t) (-b) t) (hw : addOk c r b t) (hl : ¬ nrm a s < nrm c r) :
    Calls Try.prog 8 #[.agg #[.int .i64 a, .int .i64 s], .agg #[.int .i64 b, .int .i64 t], .agg #[.int .i64 c, .int .i64 r]] w fun e w' => e = .returned (.bool true) ∧ Below w.heap.size w w' := by
  have C1 := Lib.hid fun w => add_yes a s b t w h
  have c2 := fun w => add_yes b t a s w (addOk_comm h)
  rw [Dcm.addC_comm b t a s, Dcm.addS_comm t s] at c2
  have C2 := Lib.hid c2
  have az := add_zero_ok h.1
  have c3 := fun w => add_yes a s 0 0 w az.1
  rw [az.2.1, az.2.2] at c3
  have C3 := Lib.hid c3
  have nx := addOk_nrm h
  have ox := addOk_okD h
  have C4 := Lib.hid fun w => add_yes (Dcm.addC a s b t) (Dcm.addS s t) (-b) t w hk
  have C5 := Lib.hid fun w => add_yes c r b t w hw
  have nk := addOk_nrm hk
  rw [nx, Dcm.nrm_neg] at nk
  have SB := Lib.hid fun w => same_yes _ _ a s w (addOk_okD hk) h.1 (by omega)
  generalize Dcm.addC (Dcm.addC a s b t) (Dcm.addS s t) (-b) t = K at *
  generalize Dcm.addS (Dcm.addS s t) t = L at *
  have nw := addOk_nrm hw
  have AC := Lib.hid fun w => less_no a s c r w h.1 hw.1 hl
  have XW := Lib.hid fun w => less_no _ _ _ _ w ox (addOk_okD hw) (by rw [nx, nw]; omega)
  generalize Dcm.addC c r b t = V at *
  generalize Dcm.addS r t = Q at *
  clear nw
  obtain ⟨oa, ob, _, _⟩ := h
  obtain ⟨b0, b1⟩ := ob.2.2
  generalize Dcm.addC a s b t = X at *
  generalize Dcm.addS s t = S at *
  clear c2 az c3 nx ox oa ob hk hw nk hl
  go_enter Try.func8, Try.ntmps8
  go_wp2_with fail
  refine (half_any _).mono ?_
  rintro e w1 ⟨rfl, hb⟩
  have B1_a := Boxed.below (Boxed.alloc (Boxed.alloc (Boxed.made _ #[.int .i64 a, .int .i64 s] 30) _) _) hb
  have B1_b := Boxed.below (Boxed.alloc (Boxed.made _ #[.int .i64 b, .int .i64 t] 30) _) hb
  have B1_c := Boxed.below (Boxed.made _ #[.int .i64 c, .int .i64 r] 30) hb
  have W1 := Lib.hid (blw_trans (blw_trans (blw_trans (blw_trans (Below.refl w.heap.size w) (blw_alloc _ _)) (blw_alloc _ _)) (blw_alloc _ _)) hb)
  clear hb 
  have ka0 := B1_a.cell 0 _ rfl
  have ka1 := B1_a.cell 1 _ rfl
  have kal := B1_a.lt
  try simp at ka0 ka1 kal
  have kb0 := B1_b.cell 0 _ rfl
  have kb1 := B1_b.cell 1 _ rfl
  have kbl := B1_b.lt
  try simp at kb0 kb1 kbl
  have kc0 := B1_c.cell 0 _ rfl
  have kc1 := B1_c.cell 1 _ rfl
  have kcl := B1_c.lt
  try simp at kc0 kc1 kcl
  go_wp2_with fail
  refine (C1.out _).mono ?_
  rintro e w2 ⟨rfl, hb⟩
  clear ka0 ka1 kal kb0 kb1 kbl kc0 kc1 kcl
  have B2_a := B1_a.below hb
  have B2_b := B1_b.below hb
  have B2_c := B1_c.below hb
  have W2 := Lib.hid (blw_trans W1.out hb)
  clear hb B1_a B1_b B1_c W1
  have ka0 := B2_a.cell 0 _ rfl
  have ka1 := B2_a.cell 1 _ rfl
  have kal := B2_a.lt
  try simp at ka0 ka1 kal
  have kb0 := B2_b.cell 0 _ rfl
  have kb1 := B2_b.cell 1 _ rfl
  have kbl := B2_b.lt
  try simp at kb0 kb1 kbl
  have kc0 := B2_c.cell 0 _ rfl
  have kc1 := B2_c.cell 1 _ rfl
  have kcl := B2_c.lt
  try simp at kc0 kc1 kcl
  go_wp2_with fail
  refine (C2.out _).mono ?_
  rintro e w3 ⟨rfl, hb⟩
  clear ka0 ka1 kal kb0 kb1 kbl kc0 kc1 kcl
  have B3_a := (B2_a.alloc _).below hb
  have B3_b := (B2_b.alloc _).below hb
  have B3_c := (B2_c.alloc _).below hb
  have B3_x := Boxed.below (Boxed.made _ #[.int .i64 X, .int .i64 S] 30) hb
  have W3 := Lib.hid (blw_trans (blw_trans W2.out (blw_alloc _ _)) hb)
  clear hb B2_a B2_b B2_c W2
  have ka0 := B3_a.cell 0 _ rfl
  have ka1 := B3_a.cell 1 _ rfl
  have kal := B3_a.lt
  try simp at ka0 ka1 kal
  have kb0 := B3_b.cell 0 _ rfl
  have kb1 := B3_b.cell 1 _ rfl
  have kbl := B3_b.lt
  try simp at kb0 kb1 kbl
  have kc0 := B3_c.cell 0 _ rfl
  have kc1 := B3_c.cell 1 _ rfl
  have kcl := B3_c.lt
  try simp at kc0 kc1 kcl
  have kx0 := B3_x.cell 0 _ rfl
  have kx1 := B3_x.cell 1 _ rfl
  have kxl := B3_x.lt
  try simp at kx0 kx1 kxl
  go_wp2_with fail
  refine (C3.out _).mono ?_
  rintro e w4 ⟨rfl, hb⟩
  clear ka0 ka1 kal kb0 kb1 kbl kc0 kc1 kcl kx0 kx1 kxl
  have B4_a := (B3_a.alloc _).below hb
  have B4_b := (B3_b.alloc _).below hb
  have B4_c := (B3_c.alloc _).below hb
  have B4_x := (B3_x.alloc _).below hb
  have B4_y := Boxed.below (Boxed.made _ #[.int .i64 X, .int .i64 S] 30) hb
  have W4 := Lib.hid (blw_trans (blw_trans W3.out (blw_alloc _ _)) hb)
  clear hb B3_a B3_b B3_c B3_x W3
  have ka0 := B4_a.cell 0 _ rfl
  have ka1 := B4_a.cell 1 _ rfl
  have kal := B4_a.lt
  try simp at ka0 ka1 kal
  have kb0 := B4_b.cell 0 _ rfl
  have kb1 := B4_b.cell 1 _ rfl
  have kbl := B4_b.lt
  try simp at kb0 kb1 kbl
  have kc0 := B4_c.cell 0 _ rfl
  have kc1 := B4_c.cell 1 _ rfl
  have kcl := B4_c.lt
  try simp at kc0 kc1 kcl
  have kx0 := B4_x.cell 0 _ rfl
  have kx1 := B4_x.cell 1 _ rfl
  have kxl := B4_x.lt
  try simp at kx0 kx1 kxl
  have ky0 := B4_y.cell 0 _ rfl
  have ky1 := B4_y.cell 1 _ rfl
  have kyl := B4_y.lt
  try simp at ky0 ky1 kyl
  go_wp2_with fail
  refine (C4.out _).mono ?_
  rintro e w5 ⟨rfl, hb⟩
  clear ka0 ka1 kal kb0 kb1 kbl kc0 kc1 kcl kx0 kx1 kxl ky0 ky1 kyl
  have B5_a := (B4_a.alloc _).below hb
  have B5_b := (B4_b.alloc _).below hb
  have B5_c := (B4_c.alloc _).below hb
  have B5_x := (B4_x.alloc _).below hb
  have B5_y := (B4_y.alloc _).below hb
  have B5_z := Boxed.below (Boxed.made _ #[.int .i64 a, .int .i64 s] 30) hb
  have W5 := Lib.hid (blw_trans (blw_trans W4.out (blw_alloc _ _)) hb)
  clear hb B4_a B4_b B4_c B4_x B4_y W4
  have ka0 := B5_a.cell 0 _ rfl
  have ka1 := B5_a.cell 1 _ rfl
  have kal := B5_a.lt
  try simp at ka0 ka1 kal
  have kb0 := B5_b.cell 0 _ rfl
  have kb1 := B5_b.cell 1 _ rfl
  have kbl := B5_b.lt
  try simp at kb0 kb1 kbl
  have kc0 := B5_c.cell 0 _ rfl
  have kc1 := B5_c.cell 1 _ rfl
  have kcl := B5_c.lt
  try simp at kc0 kc1 kcl
  have kx0 := B5_x.cell 0 _ rfl
  have kx1 := B5_x.cell 1 _ rfl
  have kxl := B5_x.lt
  try simp at kx0 kx1 kxl
  have ky0 := B5_y.cell 0 _ rfl
  have ky1 := B5_y.cell 1 _ rfl
  have kyl := B5_y.lt
  try simp at ky0 ky1 kyl
  have kz0 := B5_z.cell 0 _ rfl
  have kz1 := B5_z.cell 1 _ rfl
  have kzl := B5_z.lt
  try simp at kz0 kz1 kzl
  go_wp2_with fail
  refine (C5.out _).mono ?_
  rintro e w6 ⟨rfl, hb⟩
  clear ka0 ka1 kal kb0 kb1 kbl kc0 kc1 kcl kx0 kx1 kxl ky0 ky1 kyl kz0 kz1 kzl
  have B6_a := (B5_a.alloc _).below hb
  have B6_b := (B5_b.alloc _).below hb
  have B6_c := (B5_c.alloc _).below hb
  have B6_x := (B5_x.alloc _).below hb
  have B6_y := (B5_y.alloc _).below hb
  have B6_z := (B5_z.alloc _).below hb
  have B6_k := Boxed.below (Boxed.made _ #[.int .i64 K, .int .i64 L] 30) hb
  have W6 := Lib.hid (blw_trans (blw_trans W5.out (blw_alloc _ _)) hb)
  clear hb B5_a B5_b B5_c B5_x B5_y B5_z W5
  have ka0 := B6_a.cell 0 _ rfl
  have ka1 := B6_a.cell 1 _ rfl
  have kal := B6_a.lt
  try simp at ka0 ka1 kal
  have kb0 := B6_b.cell 0 _ rfl
  have kb1 := B6_b.cell 1 _ rfl
  have kbl := B6_b.lt
  try simp at kb0 kb1 kbl
  have kc0 := B6_c.cell 0 _ rfl
  have kc1 := B6_c.cell 1 _ rfl
  have kcl := B6_c.lt
  try simp at kc0 kc1 kcl
  have kx0 := B6_x.cell 0 _ rfl
  have kx1 := B6_x.cell 1 _ rfl
  have kxl := B6_x.lt
  try simp at kx0 kx1 kxl
  have ky0 := B6_y.cell 0 _ rfl
  have ky1 := B6_y.cell 1 _ rfl
  have kyl := B6_y.lt
  try simp at ky0 ky1 kyl
  have kz0 := B6_z.cell 0 _ rfl
  have kz1 := B6_z.cell 1 _ rfl
  have kzl := B6_z.lt
  try simp at kz0 kz1 kzl
  have kk0 := B6_k.cell 0 _ rfl
  have kk1 := B6_k.cell 1 _ rfl
  have kkl := B6_k.lt
  try simp at kk0 kk1 kkl
  go_wp2_with fail
  have HW := Lib.hid (show Below w.heap.size w (w6.alloc (.cells #[.int .i64 V, .int .i64 Q] 30)) from (blw_trans W6.out (blw_alloc _ _)))
  refine wp_region_held_drew (S := fun w' => w'.cell? ⟨w.heap.size, 0, none⟩ = some (.int .i64 a) ∧ w'.cell? ⟨w.heap.size, 1, none⟩ = some (.int .i64 s) ∧ w'.cell? ⟨w.heap.size + 1 + 1, 0, none⟩ = some (.int .i64 c) ∧ w'.cell? ⟨w.heap.size + 1 + 1, 1, none⟩ = some (.int .i64 r) ∧ w'.cell? ⟨w2.heap.size, 0, none⟩ = some (.int .i64 X) ∧ w'.cell? ⟨w2.heap.size, 1, none⟩ = some (.int .i64 S) ∧ w'.cell? ⟨w3.heap.size, 0, none⟩ = some (.int .i64 X) ∧ w'.cell? ⟨w3.heap.size, 1, none⟩ = some (.int .i64 S) ∧ w'.cell? ⟨w4.heap.size, 0, none⟩ = some (.int .i64 a) ∧ w'.cell? ⟨w4.heap.size, 1, none⟩ = some (.int .i64 s) ∧ w'.cell? ⟨w5.heap.size, 0, none⟩ = some (.int .i64 K) ∧ w'.cell? ⟨w5.heap.size, 1, none⟩ = some (.int .i64 L) ∧ w'.cell? ⟨w6.heap.size, 0, none⟩ = some (.int .i64 V) ∧ w'.cell? ⟨w6.heap.size, 1, none⟩ = some (.int .i64 Q) ∧ Hid (Below w.heap.size w w')) (by kernel_rfl) (by refine ⟨?_, ?_, ?_, ?_, ?_, ?_, ?_, ?_, ?_, ?_, ?_, ?_, ?_, ?_, Lib.hid (Below.drew HW.out)⟩ <;> go_keep) (fun hHeld => ?_)
  refine take_run (d := (some 68)) (v := ?v36) 0 rfl rfl (by kernel_rfl) (by kernel_rfl) (by kernel_rfl) (fun _ _ _ h => h) (by rfl) hHeld ?hy36 ?rs36
  case hy36 => (intro w hSw; (try dsimp only at hSw); go_simp) <;> (try with_reducible rfl)
  (try simp only [Act.put, List.setIfInBounds_toArray, List.set_cons_zero, List.set_cons_succ])
  refine take_run (d := (some 69)) (v := ?v37) 1 rfl rfl (by kernel_rfl) (by kernel_rfl) (by kernel_rfl) (fun _ _ _ h => h) (by rfl) hHeld ?hy37 ?rs37
  case hy37 => (intro w hSw; (try dsimp only at hSw); go_simp) <;> (try with_reducible rfl)
  (try simp only [Act.put, List.setIfInBounds_toArray, List.set_cons_zero, List.set_cons_succ])
  refine take_run (d := (some 70)) (v := ?v38) 2 rfl rfl (by kernel_rfl) (by kernel_rfl) (by kernel_rfl) (fun _ _ _ h => h) (by rfl) hHeld ?hy38 ?rs38
  case hy38 => (intro w hSw; (try dsimp only at hSw); go_simp) <;> (try with_reducible rfl)
  (try simp only [Act.put, List.setIfInBounds_toArray, List.set_cons_zero, List.set_cons_succ])
  refine take_run (d := (some 71)) (v := ?v39) 3 rfl rfl (by kernel_rfl) (by kernel_rfl) (by kernel_rfl) (fun _ _ _ h => h) (by rfl) hHeld ?hy39 ?rs39
  case hy39 => (intro w hSw; (try dsimp only at hSw); go_simp) <;> (try with_reducible rfl)
  (try simp only [Act.put, List.setIfInBounds_toArray, List.set_cons_zero, List.set_cons_succ])
  refine take_run (d := (some 72)) (v := ?v40) 4 rfl rfl (by kernel_rfl) (by kernel_rfl) (by kernel_rfl) (fun _ _ _ h => h) (by rfl) hHeld ?hy40 ?rs40
  case hy40 => (intro w hSw; (try dsimp only at hSw); go_simp) <;> (try with_reducible rfl)
  (try simp only [Act.put, List.setIfInBounds_toArray, List.set_cons_zero, List.set_cons_succ])
  refine take_run (d := (some 73)) (v := ?v41) 5 rfl rfl (by kernel_rfl) (by kernel_rfl) (by kernel_rfl) (fun _ _ _ h => h) (by rfl) hHeld ?hy41 ?rs41
  case hy41 => (intro w hSw; (try dsimp only at hSw); go_simp) <;> (try with_reducible rfl)
  (try simp only [Act.put, List.setIfInBounds_toArray, List.set_cons_zero, List.set_cons_succ])
  refine take_run (d := (some 74)) (v := ?v42) 6 rfl rfl (by kernel_rfl) (by kernel_rfl) (by kernel_rfl) (fun _ _ _ h => h) (by rfl) hHeld ?hy42 ?rs42
  case hy42 => (intro w hSw; (try dsimp only at hSw); go_simp) <;> (try with_reducible rfl)
  (try simp only [Act.put, List.setIfInBounds_toArray, List.set_cons_zero, List.set_cons_succ])
  refine take_run (d := (some 75)) (v := ?v43) 7 rfl rfl (by kernel_rfl) (by kernel_rfl) (by kernel_rfl) (fun _ _ _ h => h) (by rfl) hHeld ?hy43 ?rs43
  case hy43 => (intro w hSw; (try dsimp only at hSw); go_simp) <;> (try with_reducible rfl)
  (try simp only [Act.put, List.setIfInBounds_toArray, List.set_cons_zero, List.set_cons_succ])
  refine take_run (d := (some 76)) (v := ?v44) 8 rfl rfl (by kernel_rfl) (by kernel_rfl) (by kernel_rfl) (fun _ _ _ h => h) (by rfl) hHeld ?hy44 ?rs44
  case hy44 => (intro w hSw; (try dsimp only at hSw); go_simp) <;> (try with_reducible rfl)
  (try simp only [Act.put, List.setIfInBounds_toArray, List.set_cons_zero, List.set_cons_succ])
  refine take_run (d := (some 77)) (v := ?v45) 9 rfl rfl (by kernel_rfl) (by kernel_rfl) (by kernel_rfl) (fun _ _ _ h => h) (by rfl) hHeld ?hy45 ?rs45
  case hy45 => (intro w hSw; (try dsimp only at hSw); go_simp) <;> (try with_reducible rfl)
  (try simp only [Act.put, List.setIfInBounds_toArray, List.set_cons_zero, List.set_cons_succ])
  refine take_run (d := (some 78)) (v := ?v46) 10 rfl rfl (by kernel_rfl) (by kernel_rfl) (by kernel_rfl) (fun _ _ _ h => h) (by rfl) hHeld ?hy46 ?rs46
  case hy46 => (intro w hSw; (try dsimp only at hSw); go_simp) <;> (try with_reducible rfl)
  (try simp only [Act.put, List.setIfInBounds_toArray, List.set_cons_zero, List.set_cons_succ])
  refine take_run (d := (some 79)) (v := ?v47) 11 rfl rfl (by kernel_rfl) (by kernel_rfl) (by kernel_rfl) (fun _ _ _ h => h) (by rfl) hHeld ?hy47 ?rs47
  case hy47 => (intro w hSw; (try dsimp only at hSw); go_simp) <;> (try with_reducible rfl)
  (try simp only [Act.put, List.setIfInBounds_toArray, List.set_cons_zero, List.set_cons_succ])
  refine take_run (d := (some 80)) (v := ?v48) 12 rfl rfl (by kernel_rfl) (by kernel_rfl) (by kernel_rfl) (fun _ _ _ h => h) (by rfl) hHeld ?hy48 ?rs48
  case hy48 => (intro w hSw; (try dsimp only at hSw); go_simp) <;> (try with_reducible rfl)
  (try simp only [Act.put, List.setIfInBounds_toArray, List.set_cons_zero, List.set_cons_succ])
  refine take_run (d := (some 81)) (v := ?v49) 13 rfl rfl (by kernel_rfl) (by kernel_rfl) (by kernel_rfl) (fun _ _ _ h => h) (by rfl) hHeld ?hy49 ?rs49
  case hy49 => (intro w hSw; (try dsimp only at hSw); go_simp) <;> (try with_reducible rfl)
  (try simp only [Act.put, List.setIfInBounds_toArray, List.set_cons_zero, List.set_cons_succ])
  refine take_run (d := (some 82)) (v := ?v50) 14 rfl rfl (by kernel_rfl) (by kernel_rfl) (by kernel_rfl) (fun _ _ _ h => h) (by rfl) hHeld ?hy50 ?rs50
  case hy50 => (intro w hSw; (try dsimp only at hSw); go_simp) <;> (try with_reducible rfl)
  (try simp only [Act.put, List.setIfInBounds_toArray, List.set_cons_zero, List.set_cons_succ])
  refine take_run (d := (some 83)) (v := ?v51) 15 rfl rfl (by kernel_rfl) (by kernel_rfl) (by kernel_rfl) (fun _ _ _ h => h) (by rfl) hHeld ?hy51 ?rs51
  case hy51 => (intro w hSw; (try dsimp only at hSw); go_simp) <;> (try with_reducible rfl)
  (try simp only [Act.put, List.setIfInBounds_toArray, List.set_cons_zero, List.set_cons_succ])
  refine take_run (d := (some 84)) (v := ?v52) 16 rfl rfl (by kernel_rfl) (by kernel_rfl) (by kernel_rfl) (fun _ _ _ h => h) (by rfl) hHeld ?hy52 ?rs52
  case hy52 => (intro w hSw; (try dsimp only at hSw); go_simp) <;> (try with_reducible rfl)
  (try simp only [Act.put, List.setIfInBounds_toArray, List.set_cons_zero, List.set_cons_succ])
  refine take_run (d := (some 85)) (v := ?v53) 17 rfl rfl (by kernel_rfl) (by kernel_rfl) (by kernel_rfl) (fun _ _ _ h => h) (by rfl) hHeld ?hy53 ?rs53
  case hy53 => (intro w hSw; (try dsimp only at hSw); go_simp) <;> (try with_reducible rfl)
  (try simp only [Act.put, List.setIfInBounds_toArray, List.set_cons_zero, List.set_cons_succ])
  refine take_call 18 rfl (by kernel_rfl) (by rfl) (fun K hK => ?_)
  go_simp
  refine (SB.out _).mono ?_
  rintro e w' ⟨rfl, hb⟩
  refine hK.out _ _ (by obtain ⟨h0, h1, h2, h3, h4, h5, h6, h7, h8, h9, h10, h11, h12, h13, hw⟩ := hHeld; exact ⟨cell_keep h0 hb, cell_keep h1 hb, cell_keep h2 hb, cell_keep h3 hb, cell_keep h4 hb, cell_keep h5 hb, cell_keep h6 hb, cell_keep h7 hb, cell_keep h8 hb, cell_keep h9 hb, cell_keep h10 hb, cell_keep h11 hb, cell_keep h12 hb, cell_keep h13 hb, Lib.hid (blw_trans hw.out hb)⟩) (fun hHeld => ?_)
  clear hK K
  (try simp only [Act.put, List.setIfInBounds_toArray, List.set_cons_zero, List.set_cons_succ])
  refine take_run (d := (some 87)) (v := ?v55) 19 rfl rfl (by kernel_rfl) (by kernel_rfl) (by kernel_rfl) (fun _ _ _ h => h) (by rfl) hHeld ?hy55 ?rs55
  case hy55 => (intro w hSw; (try dsimp only at hSw); go_simp) <;> (try with_reducible rfl)
  (try simp only [Act.put, List.setIfInBounds_toArray, List.set_cons_zero, List.set_cons_succ])
  refine take_run (d := (some 88)) (v := ?v56) 20 rfl rfl (by kernel_rfl) (by kernel_rfl) (by kernel_rfl) (fun _ _ _ h => h) (by rfl) hHeld ?hy56 ?rs56
  case hy56 => (intro w hSw; (try dsimp only at hSw); go_simp) <;> (try with_reducible rfl)
  (try simp only [Act.put, List.setIfInBounds_toArray, List.set_cons_zero, List.set_cons_succ])
  refine take_run (d := (some 89)) (v := ?v57) 21 rfl rfl (by kernel_rfl) (by kernel_rfl) (by kernel_rfl) (fun _ _ _ h => h) (by rfl) hHeld ?hy57 ?rs57
  case hy57 => (intro w hSw; (try dsimp only at hSw); go_simp) <;> (try with_reducible rfl)
  (try simp only [Act.put, List.setIfInBounds_toArray, List.set_cons_zero, List.set_cons_succ])
  refine take_run (d := (some 90)) (v := ?v58) 22 rfl rfl (by kernel_rfl) (by kernel_rfl) (by kernel_rfl) (fun _ _ _ h => h) (by rfl) hHeld ?hy58 ?rs58
  case hy58 => (intro w hSw; (try dsimp only at hSw); go_simp) <;> (try with_reducible rfl)
  (try simp only [Act.put, List.setIfInBounds_toArray, List.set_cons_zero, List.set_cons_succ])
  refine take_run (d := (some 91)) (v := ?v59) 23 rfl rfl (by kernel_rfl) (by kernel_rfl) (by kernel_rfl) (fun _ _ _ h => h) (by rfl) hHeld ?hy59 ?rs59
  case hy59 => (intro w hSw; (try dsimp only at hSw); go_simp) <;> (try with_reducible rfl)
  (try simp only [Act.put, List.setIfInBounds_toArray, List.set_cons_zero, List.set_cons_succ])
  refine take_run (d := (some 92)) (v := ?v60) 24 rfl rfl (by kernel_rfl) (by kernel_rfl) (by kernel_rfl) (fun _ _ _ h => h) (by rfl) hHeld ?hy60 ?rs60
  case hy60 => (intro w hSw; (try dsimp only at hSw); go_simp) <;> (try with_reducible rfl)
  (try simp only [Act.put, List.setIfInBounds_toArray, List.set_cons_zero, List.set_cons_succ])
  refine take_run (d := (some 93)) (v := ?v61) 25 rfl rfl (by kernel_rfl) (by kernel_rfl) (by kernel_rfl) (fun _ _ _ h => h) (by rfl) hHeld ?hy61 ?rs61
  case hy61 => (intro w hSw; (try dsimp only at hSw); go_simp) <;> (try with_reducible rfl)
  (try simp only [Act.put, List.setIfInBounds_toArray, List.set_cons_zero, List.set_cons_succ])
  refine take_run (d := (some 94)) (v := ?v62) 26 rfl rfl (by kernel_rfl) (by kernel_rfl) (by kernel_rfl) (fun _ _ _ h => h) (by rfl) hHeld ?hy62 ?rs62
  case hy62 => (intro w hSw; (try dsimp only at hSw); go_simp) <;> (try with_reducible rfl)
  (try simp only [Act.put, List.setIfInBounds_toArray, List.set_cons_zero, List.set_cons_succ])
  refine take_run (d := (some 96)) (v := ?v63) 28 rfl rfl (by kernel_rfl) (by kernel_rfl) (by kernel_rfl) (fun _ _ _ h => h) (by rfl) hHeld ?hy63 ?rs63
  case hy63 => (intro w hSw; (try dsimp only at hSw); go_simp) <;> (try with_reducible rfl)
  (try simp only [Act.put, List.setIfInBounds_toArray, List.set_cons_zero, List.set_cons_succ])
  refine take_run (d := (some 97)) (v := ?v64) 29 rfl rfl (by kernel_rfl) (by kernel_rfl) (by kernel_rfl) (fun _ _ _ h => h) (by rfl) hHeld ?hy64 ?rs64
  case hy64 => (intro w hSw; (try dsimp only at hSw); go_simp) <;> (try with_reducible rfl)
  (try simp only [Act.put, List.setIfInBounds_toArray, List.set_cons_zero, List.set_cons_succ])
  refine take_call 27 rfl (by kernel_rfl) (by rfl) (fun K hK => ?_)
  go_simp
  refine (AC.out _).mono ?_
  rintro e w' ⟨rfl, hb⟩
  refine hK.out _ _ (by obtain ⟨h0, h1, h2, h3, h4, h5, h6, h7, h8, h9, h10, h11, h12, h13, hw⟩ := hHeld; exact ⟨cell_keep h0 hb, cell_keep h1 hb, cell_keep h2 hb, cell_keep h3 hb, cell_keep h4 hb, cell_keep h5 hb, cell_keep h6 hb, cell_keep h7 hb, cell_keep h8 hb, cell_keep h9 hb, cell_keep h10 hb, cell_keep h11 hb, cell_keep h12 hb, cell_keep h13 hb, Lib.hid (blw_trans hw.out hb)⟩) (fun hHeld => ?_)
  clear hK K
  (try simp only [Act.put, List.setIfInBounds_toArray, List.set_cons_zero, List.set_cons_succ])
  refine take_call 30 rfl (by kernel_rfl) (by rfl) (fun K hK => ?_)
  go_simp
  refine (XW.out _).mono ?_
  rintro e w' ⟨rfl, hb⟩
  refine hK.out _ _ (by obtain ⟨h0, h1, h2, h3, h4, h5, h6, h7, h8, h9, h10, h11, h12, h13, hw⟩ := hHeld; exact ⟨cell_keep h0 hb, cell_keep h1 hb, cell_keep h2 hb, cell_keep h3 hb, cell_keep h4 hb, cell_keep h5 hb, cell_keep h6 hb, cell_keep h7 hb, cell_keep h8 hb, cell_keep h9 hb, cell_keep h10 hb, cell_keep h11 hb, cell_keep h12 hb, cell_keep h13 hb, Lib.hid (blw_trans hw.out hb)⟩) (fun hHeld => ?_)
  clear hK K
  (try simp only [Act.put, List.setIfInBounds_toArray, List.set_cons_zero, List.set_cons_succ])
  refine take_run (d := (some 99)) (v := ?v67) 31 rfl rfl (by kernel_rfl) (by kernel_rfl) (by kernel_rfl) (fun _ _ _ h => h) (by rfl) hHeld ?hy67 ?rs67
  case hy67 => (intro w hSw; (try dsimp only at hSw); go_simp) <;> (try with_reducible rfl)
  (try simp only [Act.put, List.setIfInBounds_toArray, List.set_cons_zero, List.set_cons_succ])
  refine take_run (d := (some 100)) (v := ?v68) 32 rfl rfl (by kernel_rfl) (by kernel_rfl) (by kernel_rfl) (fun _ _ _ h => h) (by rfl) hHeld ?hy68 ?rs68
  case hy68 => (intro w hSw; (try dsimp only at hSw); go_simp) <;> (try with_reducible rfl)
  (try simp only [Act.put, List.setIfInBounds_toArray, List.set_cons_zero, List.set_cons_succ])
  refine take_run (d := (some 101)) (v := ?v69) 33 rfl rfl (by kernel_rfl) (by kernel_rfl) (by kernel_rfl) (fun _ _ _ h => h) (by rfl) hHeld ?hy69 ?rs69
  case hy69 => (intro w hSw; (try dsimp only at hSw); go_simp) <;> (try with_reducible rfl)
  (try simp only [Act.put, List.setIfInBounds_toArray, List.set_cons_zero, List.set_cons_succ])
  refine take_run (d := (some 6)) (v := ?v70) 34 rfl rfl (by kernel_rfl) (by kernel_rfl) (by kernel_rfl) (fun _ _ _ h => h) (by rfl) hHeld ?hy70 ?rs70
  case hy70 => (intro w hSw; (try dsimp only at hSw); go_simp) <;> (try with_reducible rfl)
  (try simp only [Act.put, List.setIfInBounds_toArray, List.set_cons_zero, List.set_cons_succ])
  refine wpAnyH_done (by kernel_rfl) ?_ _
  obtain ⟨z0, z1, z2, z3, z4, z5, z6, z7, z8, z9, z10, z11, z12, z13, zW⟩ := hHeld
  go_wp2
  go_ret
  exact ⟨ret_bool (by simp), zW.out⟩

set_option maxRecDepth 100000 in
set_option maxHeartbeats 4000000 in
theorem adds_b_e (a s b t c r : Int) (w : World) (h : addOk a s b t) (hk : addOk (Dcm.addC a s b t) (Dcm.addS s t) (-b) t) (hw : ¬ addOk c r b t) :
    Calls Try.prog 8 #[.agg #[.int .i64 a, .int .i64 s], .agg #[.int .i64 b, .int .i64 t], .agg #[.int .i64 c, .int .i64 r]] w fun e w' => e = .returned (.bool true) ∧ Below w.heap.size w w' := by
  have C1 := Lib.hid fun w => add_yes a s b t w h
  have c2 := fun w => add_yes b t a s w (addOk_comm h)
  rw [Dcm.addC_comm b t a s, Dcm.addS_comm t s] at c2
  have C2 := Lib.hid c2
  have az := add_zero_ok h.1
  have c3 := fun w => add_yes a s 0 0 w az.1
  rw [az.2.1, az.2.2] at c3
  have C3 := Lib.hid c3
  have nx := addOk_nrm h
  have ox := addOk_okD h
  have C4 := Lib.hid fun w => add_yes (Dcm.addC a s b t) (Dcm.addS s t) (-b) t w hk
  have C5 := Lib.hid fun w => add_no c r b t w hw
  have nk := addOk_nrm hk
  rw [nx, Dcm.nrm_neg] at nk
  have SB := Lib.hid fun w => same_yes _ _ a s w (addOk_okD hk) h.1 (by omega)
  generalize Dcm.addC (Dcm.addC a s b t) (Dcm.addS s t) (-b) t = K at *
  generalize Dcm.addS (Dcm.addS s t) t = L at *
  obtain ⟨oa, ob, _, _⟩ := h
  obtain ⟨b0, b1⟩ := ob.2.2
  generalize Dcm.addC a s b t = X at *
  generalize Dcm.addS s t = S at *
  clear c2 az c3 nx ox oa ob hk hw nk
  go_enter Try.func8, Try.ntmps8
  go_wp2_with fail
  refine (half_any _).mono ?_
  rintro e w1 ⟨rfl, hb⟩
  have B1_a := Boxed.below (Boxed.alloc (Boxed.alloc (Boxed.made _ #[.int .i64 a, .int .i64 s] 30) _) _) hb
  have B1_b := Boxed.below (Boxed.alloc (Boxed.made _ #[.int .i64 b, .int .i64 t] 30) _) hb
  have B1_c := Boxed.below (Boxed.made _ #[.int .i64 c, .int .i64 r] 30) hb
  have W1 := Lib.hid (blw_trans (blw_trans (blw_trans (blw_trans (Below.refl w.heap.size w) (blw_alloc _ _)) (blw_alloc _ _)) (blw_alloc _ _)) hb)
  clear hb 
  have ka0 := B1_a.cell 0 _ rfl
  have ka1 := B1_a.cell 1 _ rfl
  have kal := B1_a.lt
  try simp at ka0 ka1 kal
  have kb0 := B1_b.cell 0 _ rfl
  have kb1 := B1_b.cell 1 _ rfl
  have kbl := B1_b.lt
  try simp at kb0 kb1 kbl
  have kc0 := B1_c.cell 0 _ rfl
  have kc1 := B1_c.cell 1 _ rfl
  have kcl := B1_c.lt
  try simp at kc0 kc1 kcl
  go_wp2_with fail
  refine (C1.out _).mono ?_
  rintro e w2 ⟨rfl, hb⟩
  clear ka0 ka1 kal kb0 kb1 kbl kc0 kc1 kcl
  have B2_a := B1_a.below hb
  have B2_b := B1_b.below hb
  have B2_c := B1_c.below hb
  have W2 := Lib.hid (blw_trans W1.out hb)
  clear hb B1_a B1_b B1_c W1
  have ka0 := B2_a.cell 0 _ rfl
  have ka1 := B2_a.cell 1 _ rfl
  have kal := B2_a.lt
  try simp at ka0 ka1 kal
  have kb0 := B2_b.cell 0 _ rfl
  have kb1 := B2_b.cell 1 _ rfl
  have kbl := B2_b.lt
  try simp at kb0 kb1 kbl
  have kc0 := B2_c.cell 0 _ rfl
  have kc1 := B2_c.cell 1 _ rfl
  have kcl := B2_c.lt
  try simp at kc0 kc1 kcl
  go_wp2_with fail
  refine (C2.out _).mono ?_
  rintro e w3 ⟨rfl, hb⟩
  clear ka0 ka1 kal kb0 kb1 kbl kc0 kc1 kcl
  have B3_a := (B2_a.alloc _).below hb
  have B3_b := (B2_b.alloc _).below hb
  have B3_c := (B2_c.alloc _).below hb
  have B3_x := Boxed.below (Boxed.made _ #[.int .i64 X, .int .i64 S] 30) hb
  have W3 := Lib.hid (blw_trans (blw_trans W2.out (blw_alloc _ _)) hb)
  clear hb B2_a B2_b B2_c W2
  have ka0 := B3_a.cell 0 _ rfl
  have ka1 := B3_a.cell 1 _ rfl
  have kal := B3_a.lt
  try simp at ka0 ka1 kal
  have kb0 := B3_b.cell 0 _ rfl
  have kb1 := B3_b.cell 1 _ rfl
  have kbl := B3_b.lt
  try simp at kb0 kb1 kbl
  have kc0 := B3_c.cell 0 _ rfl
  have kc1 := B3_c.cell 1 _ rfl
  have kcl := B3_c.lt
  try simp at kc0 kc1 kcl
  have kx0 := B3_x.cell 0 _ rfl
  have kx1 := B3_x.cell 1 _ rfl
  have kxl := B3_x.lt
  try simp at kx0 kx1 kxl
  go_wp2_with fail
  refine (C3.out _).mono ?_
  rintro e w4 ⟨rfl, hb⟩
  clear ka0 ka1 kal kb0 kb1 kbl kc0 kc1 kcl kx0 kx1 kxl
  have B4_a := (B3_a.alloc _).below hb
  have B4_b := (B3_b.alloc _).below hb
  have B4_c := (B3_c.alloc _).below hb
  have B4_x := (B3_x.alloc _).below hb
  have B4_y := Boxed.below (Boxed.made _ #[.int .i64 X, .int .i64 S] 30) hb
  have W4 := Lib.hid (blw_trans (blw_trans W3.out (blw_alloc _ _)) hb)
  clear hb B3_a B3_b B3_c B3_x W3
  have ka0 := B4_a.cell 0 _ rfl
  have ka1 := B4_a.cell 1 _ rfl
  have kal := B4_a.lt
  try simp at ka0 ka1 kal
  have kb0 := B4_b.cell 0 _ rfl
  have kb1 := B4_b.cell 1 _ rfl
  have kbl := B4_b.lt
  try simp at kb0 kb1 kbl
  have kc0 := B4_c.cell 0 _ rfl
  have kc1 := B4_c.cell 1 _ rfl
  have kcl := B4_c.lt
  try simp at kc0 kc1 kcl
  have kx0 := B4_x.cell 0 _ rfl
  have kx1 := B4_x.cell 1 _ rfl
  have kxl := B4_x.lt
  try simp at kx0 kx1 kxl
  have ky0 := B4_y.cell 0 _ rfl
  have ky1 := B4_y.cell 1 _ rfl
  have kyl := B4_y.lt
  try simp at ky0 ky1 kyl
  go_wp2_with fail
  refine (C4.out _).mono ?_
  rintro e w5 ⟨rfl, hb⟩
  clear ka0 ka1 kal kb0 kb1 kbl kc0 kc1 kcl kx0 kx1 kxl ky0 ky1 kyl
  have B5_a := (B4_a.alloc _).below hb
  have B5_b := (B4_b.alloc _).below hb
  have B5_c := (B4_c.alloc _).below hb
  have B5_x := (B4_x.alloc _).below hb
  have B5_y := (B4_y.alloc _).below hb
  have B5_z := Boxed.below (Boxed.made _ #[.int .i64 a, .int .i64 s] 30) hb
  have W5 := Lib.hid (blw_trans (blw_trans W4.out (blw_alloc _ _)) hb)
  clear hb B4_a B4_b B4_c B4_x B4_y W4
  have ka0 := B5_a.cell 0 _ rfl
  have ka1 := B5_a.cell 1 _ rfl
  have kal := B5_a.lt
  try simp at ka0 ka1 kal
  have kb0 := B5_b.cell 0 _ rfl
  have kb1 := B5_b.cell 1 _ rfl
  have kbl := B5_b.lt
  try simp at kb0 kb1 kbl
  have kc0 := B5_c.cell 0 _ rfl
  have kc1 := B5_c.cell 1 _ rfl
  have kcl := B5_c.lt
  try simp at kc0 kc1 kcl
  have kx0 := B5_x.cell 0 _ rfl
  have kx1 := B5_x.cell 1 _ rfl
  have kxl := B5_x.lt
  try simp at kx0 kx1 kxl
  have ky0 := B5_y.cell 0 _ rfl
  have ky1 := B5_y.cell 1 _ rfl
  have kyl := B5_y.lt
  try simp at ky0 ky1 kyl
  have kz0 := B5_z.cell 0 _ rfl
  have kz1 := B5_z.cell 1 _ rfl
  have kzl := B5_z.lt
  try simp at kz0 kz1 kzl
  go_wp2_with fail
  refine (C5.out _).mono ?_
  rintro e w6 ⟨rfl, hb⟩
  clear ka0 ka1 kal kb0 kb1 kbl kc0 kc1 kcl kx0 kx1 kxl ky0 ky1 kyl kz0 kz1 kzl
  have B6_a := (B5_a.alloc _).below hb
  have B6_b := (B5_b.alloc _).below hb
  have B6_c := (B5_c.alloc _).below hb
  have B6_x := (B5_x.alloc _).below hb
  have B6_y := (B5_y.alloc _).below hb
  have B6_z := (B5_z.alloc _).below hb
  have B6_k := Boxed.below (Boxed.made _ #[.int .i64 K, .int .i64 L] 30) hb
  have W6 := Lib.hid (blw_trans (blw_trans W5.out (blw_alloc _ _)) hb)
  clear hb B5_a B5_b B5_c B5_x B5_y B5_z W5
  have ka0 := B6_a.cell 0 _ rfl
  have ka1 := B6_a.cell 1 _ rfl
  have kal := B6_a.lt
  try simp at ka0 ka1 kal
  have kb0 := B6_b.cell 0 _ rfl
  have kb1 := B6_b.cell 1 _ rfl
  have kbl := B6_b.lt
  try simp at kb0 kb1 kbl
  have kc0 := B6_c.cell 0 _ rfl
  have kc1 := B6_c.cell 1 _ rfl
  have kcl := B6_c.lt
  try simp at kc0 kc1 kcl
  have kx0 := B6_x.cell 0 _ rfl
  have kx1 := B6_x.cell 1 _ rfl
  have kxl := B6_x.lt
  try simp at kx0 kx1 kxl
  have ky0 := B6_y.cell 0 _ rfl
  have ky1 := B6_y.cell 1 _ rfl
  have kyl := B6_y.lt
  try simp at ky0 ky1 kyl
  have kz0 := B6_z.cell 0 _ rfl
  have kz1 := B6_z.cell 1 _ rfl
  have kzl := B6_z.lt
  try simp at kz0 kz1 kzl
  have kk0 := B6_k.cell 0 _ rfl
  have kk1 := B6_k.cell 1 _ rfl
  have kkl := B6_k.lt
  try simp at kk0 kk1 kkl
  go_wp2_with fail
  have HW := Lib.hid (show Below w.heap.size w (w6.alloc (.cells #[.int .i64 0, .int .i64 0] 30)) from (blw_trans W6.out (blw_alloc _ _)))
  refine wp_region_held_drew (S := fun w' => w'.cell? ⟨w.heap.size, 0, none⟩ = some (.int .i64 a) ∧ w'.cell? ⟨w.heap.size, 1, none⟩ = some (.int .i64 s) ∧ w'.cell? ⟨w.heap.size + 1 + 1, 0, none⟩ = some (.int .i64 c) ∧ w'.cell? ⟨w.heap.size + 1 + 1, 1, none⟩ = some (.int .i64 r) ∧ w'.cell? ⟨w2.heap.size, 0, none⟩ = some (.int .i64 X) ∧ w'.cell? ⟨w2.heap.size, 1, none⟩ = some (.int .i64 S) ∧ w'.cell? ⟨w3.heap.size, 0, none⟩ = some (.int .i64 X) ∧ w'.cell? ⟨w3.heap.size, 1, none⟩ = some (.int .i64 S) ∧ w'.cell? ⟨w4.heap.size, 0, none⟩ = some (.int .i64 a) ∧ w'.cell? ⟨w4.heap.size, 1, none⟩ = some (.int .i64 s) ∧ w'.cell? ⟨w5.heap.size, 0, none⟩ = some (.int .i64 K) ∧ w'.cell? ⟨w5.heap.size, 1, none⟩ = some (.int .i64 L) ∧ w'.cell? ⟨w6.heap.size, 0, none⟩ = some (.int .i64 0) ∧ w'.cell? ⟨w6.heap.size, 1, none⟩ = some (.int .i64 0) ∧ Hid (Below w.heap.size w w')) (by kernel_rfl) (by refine ⟨?_, ?_, ?_, ?_, ?_, ?_, ?_, ?_, ?_, ?_, ?_, ?_, ?_, ?_, Lib.hid (Below.drew HW.out)⟩ <;> go_keep) (fun hHeld => ?_)
  refine take_run (d := (some 68)) (v := ?v71) 0 rfl rfl (by kernel_rfl) (by kernel_rfl) (by kernel_rfl) (fun _ _ _ h => h) (by rfl) hHeld ?hy71 ?rs71
  case hy71 => (intro w hSw; (try dsimp only at hSw); go_simp) <;> (try with_reducible rfl)
  (try simp only [Act.put, List.setIfInBounds_toArray, List.set_cons_zero, List.set_cons_succ])
  refine take_run (d := (some 69)) (v := ?v72) 1 rfl rfl (by kernel_rfl) (by kernel_rfl) (by kernel_rfl) (fun _ _ _ h => h) (by rfl) hHeld ?hy72 ?rs72
  case hy72 => (intro w hSw; (try dsimp only at hSw); go_simp) <;> (try with_reducible rfl)
  (try simp only [Act.put, List.setIfInBounds_toArray, List.set_cons_zero, List.set_cons_succ])
  refine take_run (d := (some 70)) (v := ?v73) 2 rfl rfl (by kernel_rfl) (by kernel_rfl) (by kernel_rfl) (fun _ _ _ h => h) (by rfl) hHeld ?hy73 ?rs73
  case hy73 => (intro w hSw; (try dsimp only at hSw); go_simp) <;> (try with_reducible rfl)
  (try simp only [Act.put, List.setIfInBounds_toArray, List.set_cons_zero, List.set_cons_succ])
  refine take_run (d := (some 71)) (v := ?v74) 3 rfl rfl (by kernel_rfl) (by kernel_rfl) (by kernel_rfl) (fun _ _ _ h => h) (by rfl) hHeld ?hy74 ?rs74
  case hy74 => (intro w hSw; (try dsimp only at hSw); go_simp) <;> (try with_reducible rfl)
  (try simp only [Act.put, List.setIfInBounds_toArray, List.set_cons_zero, List.set_cons_succ])
  refine take_run (d := (some 72)) (v := ?v75) 4 rfl rfl (by kernel_rfl) (by kernel_rfl) (by kernel_rfl) (fun _ _ _ h => h) (by rfl) hHeld ?hy75 ?rs75
  case hy75 => (intro w hSw; (try dsimp only at hSw); go_simp) <;> (try with_reducible rfl)
  (try simp only [Act.put, List.setIfInBounds_toArray, List.set_cons_zero, List.set_cons_succ])
  refine take_run (d := (some 73)) (v := ?v76) 5 rfl rfl (by kernel_rfl) (by kernel_rfl) (by kernel_rfl) (fun _ _ _ h => h) (by rfl) hHeld ?hy76 ?rs76
  case hy76 => (intro w hSw; (try dsimp only at hSw); go_simp) <;> (try with_reducible rfl)
  (try simp only [Act.put, List.setIfInBounds_toArray, List.set_cons_zero, List.set_cons_succ])
  refine take_run (d := (some 74)) (v := ?v77) 6 rfl rfl (by kernel_rfl) (by kernel_rfl) (by kernel_rfl) (fun _ _ _ h => h) (by rfl) hHeld ?hy77 ?rs77
  case hy77 => (intro w hSw; (try dsimp only at hSw); go_simp) <;> (try with_reducible rfl)
  (try simp only [Act.put, List.setIfInBounds_toArray, List.set_cons_zero, List.set_cons_succ])
  refine take_run (d := (some 75)) (v := ?v78) 7 rfl rfl (by kernel_rfl) (by kernel_rfl) (by kernel_rfl) (fun _ _ _ h => h) (by rfl) hHeld ?hy78 ?rs78
  case hy78 => (intro w hSw; (try dsimp only at hSw); go_simp) <;> (try with_reducible rfl)
  (try simp only [Act.put, List.setIfInBounds_toArray, List.set_cons_zero, List.set_cons_succ])
  refine take_run (d := (some 76)) (v := ?v79) 8 rfl rfl (by kernel_rfl) (by kernel_rfl) (by kernel_rfl) (fun _ _ _ h => h) (by rfl) hHeld ?hy79 ?rs79
  case hy79 => (intro w hSw; (try dsimp only at hSw); go_simp) <;> (try with_reducible rfl)
  (try simp only [Act.put, List.setIfInBounds_toArray, List.set_cons_zero, List.set_cons_succ])
  refine take_run (d := (some 77)) (v := ?v80) 9 rfl rfl (by kernel_rfl) (by kernel_rfl) (by kernel_rfl) (fun _ _ _ h => h) (by rfl) hHeld ?hy80 ?rs80
  case hy80 => (intro w hSw; (try dsimp only at hSw); go_simp) <;> (try with_reducible rfl)
  (try simp only [Act.put, List.setIfInBounds_toArray, List.set_cons_zero, List.set_cons_succ])
  refine take_run (d := (some 78)) (v := ?v81) 10 rfl rfl (by kernel_rfl) (by kernel_rfl) (by kernel_rfl) (fun _ _ _ h => h) (by rfl) hHeld ?hy81 ?rs81
  case hy81 => (intro w hSw; (try dsimp only at hSw); go_simp) <;> (try with_reducible rfl)
  (try simp only [Act.put, List.setIfInBounds_toArray, List.set_cons_zero, List.set_cons_succ])
  refine take_run (d := (some 79)) (v := ?v82) 11 rfl rfl (by kernel_rfl) (by kernel_rfl) (by kernel_rfl) (fun _ _ _ h => h) (by rfl) hHeld ?hy82 ?rs82
  case hy82 => (intro w hSw; (try dsimp only at hSw); go_simp) <;> (try with_reducible rfl)
  (try simp only [Act.put, List.setIfInBounds_toArray, List.set_cons_zero, List.set_cons_succ])
  refine take_run (d := (some 80)) (v := ?v83) 12 rfl rfl (by kernel_rfl) (by kernel_rfl) (by kernel_rfl) (fun _ _ _ h => h) (by rfl) hHeld ?hy83 ?rs83
  case hy83 => (intro w hSw; (try dsimp only at hSw); go_simp) <;> (try with_reducible rfl)
  (try simp only [Act.put, List.setIfInBounds_toArray, List.set_cons_zero, List.set_cons_succ])
  refine take_run (d := (some 81)) (v := ?v84) 13 rfl rfl (by kernel_rfl) (by kernel_rfl) (by kernel_rfl) (fun _ _ _ h => h) (by rfl) hHeld ?hy84 ?rs84
  case hy84 => (intro w hSw; (try dsimp only at hSw); go_simp) <;> (try with_reducible rfl)
  (try simp only [Act.put, List.setIfInBounds_toArray, List.set_cons_zero, List.set_cons_succ])
  refine take_run (d := (some 82)) (v := ?v85) 14 rfl rfl (by kernel_rfl) (by kernel_rfl) (by kernel_rfl) (fun _ _ _ h => h) (by rfl) hHeld ?hy85 ?rs85
  case hy85 => (intro w hSw; (try dsimp only at hSw); go_simp) <;> (try with_reducible rfl)
  (try simp only [Act.put, List.setIfInBounds_toArray, List.set_cons_zero, List.set_cons_succ])
  refine take_run (d := (some 83)) (v := ?v86) 15 rfl rfl (by kernel_rfl) (by kernel_rfl) (by kernel_rfl) (fun _ _ _ h => h) (by rfl) hHeld ?hy86 ?rs86
  case hy86 => (intro w hSw; (try dsimp only at hSw); go_simp) <;> (try with_reducible rfl)
  (try simp only [Act.put, List.setIfInBounds_toArray, List.set_cons_zero, List.set_cons_succ])
  refine take_run (d := (some 84)) (v := ?v87) 16 rfl rfl (by kernel_rfl) (by kernel_rfl) (by kernel_rfl) (fun _ _ _ h => h) (by rfl) hHeld ?hy87 ?rs87
  case hy87 => (intro w hSw; (try dsimp only at hSw); go_simp) <;> (try with_reducible rfl)
  (try simp only [Act.put, List.setIfInBounds_toArray, List.set_cons_zero, List.set_cons_succ])
  refine take_run (d := (some 85)) (v := ?v88) 17 rfl rfl (by kernel_rfl) (by kernel_rfl) (by kernel_rfl) (fun _ _ _ h => h) (by rfl) hHeld ?hy88 ?rs88
  case hy88 => (intro w hSw; (try dsimp only at hSw); go_simp) <;> (try with_reducible rfl)
  (try simp only [Act.put, List.setIfInBounds_toArray, List.set_cons_zero, List.set_cons_succ])
  refine take_call 18 rfl (by kernel_rfl) (by rfl) (fun K hK => ?_)
  go_simp
  refine (SB.out _).mono ?_
  rintro e w' ⟨rfl, hb⟩
  refine hK.out _ _ (by obtain ⟨h0, h1, h2, h3, h4, h5, h6, h7, h8, h9, h10, h11, h12, h13, hw⟩ := hHeld; exact ⟨cell_keep h0 hb, cell_keep h1 hb, cell_keep h2 hb, cell_keep h3 hb, cell_keep h4 hb, cell_keep h5 hb, cell_keep h6 hb, cell_keep h7 hb, cell_keep h8 hb, cell_keep h9 hb, cell_keep h10 hb, cell_keep h11 hb, cell_keep h12 hb, cell_keep h13 hb, Lib.hid (blw_trans hw.out hb)⟩) (fun hHeld => ?_)
  clear hK K
  (try simp only [Act.put, List.setIfInBounds_toArray, List.set_cons_zero, List.set_cons_succ])
  refine take_run (d := (some 87)) (v := ?v90) 19 rfl rfl (by kernel_rfl) (by kernel_rfl) (by kernel_rfl) (fun _ _ _ h => h) (by rfl) hHeld ?hy90 ?rs90
  case hy90 => (intro w hSw; (try dsimp only at hSw); go_simp) <;> (try with_reducible rfl)
  (try simp only [Act.put, List.setIfInBounds_toArray, List.set_cons_zero, List.set_cons_succ])
  refine take_run (d := (some 88)) (v := ?v91) 20 rfl rfl (by kernel_rfl) (by kernel_rfl) (by kernel_rfl) (fun _ _ _ h => h) (by rfl) hHeld ?hy91 ?rs91
  case hy91 => (intro w hSw; (try dsimp only at hSw); go_simp) <;> (try with_reducible rfl)
  (try simp only [Act.put, List.setIfInBounds_toArray, List.set_cons_zero, List.set_cons_succ])
  refine take_run (d := (some 89)) (v := ?v92) 21 rfl rfl (by kernel_rfl) (by kernel_rfl) (by kernel_rfl) (fun _ _ _ h => h) (by rfl) hHeld ?hy92 ?rs92
  case hy92 => (intro w hSw; (try dsimp only at hSw); go_simp) <;> (try with_reducible rfl)
  (try simp only [Act.put, List.setIfInBounds_toArray, List.set_cons_zero, List.set_cons_succ])
  refine take_run (d := (some 90)) (v := ?v93) 22 rfl rfl (by kernel_rfl) (by kernel_rfl) (by kernel_rfl) (fun _ _ _ h => h) (by rfl) hHeld ?hy93 ?rs93
  case hy93 => (intro w hSw; (try dsimp only at hSw); go_simp) <;> (try with_reducible rfl)
  (try simp only [Act.put, List.setIfInBounds_toArray, List.set_cons_zero, List.set_cons_succ])
  refine take_run (d := (some 91)) (v := ?v94) 23 rfl rfl (by kernel_rfl) (by kernel_rfl) (by kernel_rfl) (fun _ _ _ h => h) (by rfl) hHeld ?hy94 ?rs94
  case hy94 => (intro w hSw; (try dsimp only at hSw); go_simp) <;> (try with_reducible rfl)
  (try simp only [Act.put, List.setIfInBounds_toArray, List.set_cons_zero, List.set_cons_succ])
  refine take_run (d := (some 92)) (v := ?v95) 24 rfl rfl (by kernel_rfl) (by kernel_rfl) (by kernel_rfl) (fun _ _ _ h => h) (by rfl) hHeld ?hy95 ?rs95
  case hy95 => (intro w hSw; (try dsimp only at hSw); go_simp) <;> (try with_reducible rfl)
  (try simp only [Act.put, List.setIfInBounds_toArray, List.set_cons_zero, List.set_cons_succ])
  refine take_skip (d := (some 93)) 25 rfl rfl (by kernel_rfl) (by kernel_rfl) (by kernel_rfl) (fun _ _ _ h => h) (by rfl) hHeld ?_
  (try simp only [Act.put, List.setIfInBounds_toArray, List.set_cons_zero, List.set_cons_succ])
  refine take_skip (d := (some 94)) 26 rfl rfl (by kernel_rfl) (by kernel_rfl) (by kernel_rfl) (fun _ _ _ h => h) (by rfl) hHeld ?_
  (try simp only [Act.put, List.setIfInBounds_toArray, List.set_cons_zero, List.set_cons_succ])
  refine take_skip (d := (some 95)) 27 rfl rfl (by kernel_rfl) (by kernel_rfl) (by kernel_rfl) (fun _ _ _ h => h) (by rfl) hHeld ?_
  (try simp only [Act.put, List.setIfInBounds_toArray, List.set_cons_zero, List.set_cons_succ])
  refine take_skip (d := (some 96)) 28 rfl rfl (by kernel_rfl) (by kernel_rfl) (by kernel_rfl) (fun _ _ _ h => h) (by rfl) hHeld ?_
  (try simp only [Act.put, List.setIfInBounds_toArray, List.set_cons_zero, List.set_cons_succ])
  refine take_skip (d := (some 97)) 29 rfl rfl (by kernel_rfl) (by kernel_rfl) (by kernel_rfl) (fun _ _ _ h => h) (by rfl) hHeld ?_
  (try simp only [Act.put, List.setIfInBounds_toArray, List.set_cons_zero, List.set_cons_succ])
  refine take_skip (d := (some 98)) 30 rfl rfl (by kernel_rfl) (by kernel_rfl) (by kernel_rfl) (fun _ _ _ h => h) (by rfl) hHeld ?_
  (try simp only [Act.put, List.setIfInBounds_toArray, List.set_cons_zero, List.set_cons_succ])
  refine take_skip (d := (some 99)) 31 rfl rfl (by kernel_rfl) (by kernel_rfl) (by kernel_rfl) (fun _ _ _ h => h) (by rfl) hHeld ?_
  (try simp only [Act.put, List.setIfInBounds_toArray, List.set_cons_zero, List.set_cons_succ])
  refine take_run (d := (some 100)) (v := ?v103) 32 rfl rfl (by kernel_rfl) (by kernel_rfl) (by kernel_rfl) (fun _ _ _ h => h) (by rfl) hHeld ?hy103 ?rs103
  case hy103 => (intro w hSw; (try dsimp only at hSw); go_simp) <;> (try with_reducible rfl)
  (try simp only [Act.put, List.setIfInBounds_toArray, List.set_cons_zero, List.set_cons_succ])
  refine take_run (d := (some 101)) (v := ?v104) 33 rfl rfl (by kernel_rfl) (by kernel_rfl) (by kernel_rfl) (fun _ _ _ h => h) (by rfl) hHeld ?hy104 ?rs104
  case hy104 => (intro w hSw; (try dsimp only at hSw); go_simp) <;> (try with_reducible rfl)
  (try simp only [Act.put, List.setIfInBounds_toArray, List.set_cons_zero, List.set_cons_succ])
  refine take_run (d := (some 6)) (v := ?v105) 34 rfl rfl (by kernel_rfl) (by kernel_rfl) (by kernel_rfl) (fun _ _ _ h => h) (by rfl) hHeld ?hy105 ?rs105
  case hy105 => (intro w hSw; (try dsimp only at hSw); go_simp) <;> (try with_reducible rfl)
  (try simp only [Act.put, List.setIfInBounds_toArray, List.set_cons_zero, List.set_cons_succ])
  refine wpAnyH_done (by kernel_rfl) ?_ _
  obtain ⟨z0, z1, z2, z3, z4, z5, z6, z7, z8, z9, z10, z11, z12, z13, zW⟩ := hHeld
  go_wp2
  go_ret
  exact ⟨ret_bool (by simp), zW.out⟩

set_option maxRecDepth 100000 in
set_option maxHeartbeats 4000000 in
theorem adds_f_y (a s b t c r : Int) (w : World) (h : addOk a s b t) (hk : ¬ addOk (Dcm.addC a s b t) (Dcm.addS s t) (-b) t) (hw : addOk c r b t) (hl : nrm a s < nrm c r) :
    Calls Try.prog 8 #[.agg #[.int .i64 a, .int .i64 s], .agg #[.int .i64 b, .int .i64 t], .agg #[.int .i64 c, .int .i64 r]] w fun e w' => e = .returned (.bool true) ∧ Below w.heap.size w w' := by
  have C1 := Lib.hid fun w => add_yes a s b t w h
  have c2 := fun w => add_yes b t a s w (addOk_comm h)
  rw [Dcm.addC_comm b t a s, Dcm.addS_comm t s] at c2
  have C2 := Lib.hid c2
  have az := add_zero_ok h.1
  have c3 := fun w => add_yes a s 0 0 w az.1
  rw [az.2.1, az.2.2] at c3
  have C3 := Lib.hid c3
  have nx := addOk_nrm h
  have ox := addOk_okD h
  have C4 := Lib.hid fun w => add_no (Dcm.addC a s b t) (Dcm.addS s t) (-b) t w hk
  have C5 := Lib.hid fun w => add_yes c r b t w hw
  have nw := addOk_nrm hw
  have AC := Lib.hid fun w => less_yes a s c r w h.1 hw.1 hl
  have XW := Lib.hid fun w => less_yes _ _ _ _ w ox (addOk_okD hw) (by rw [nx, nw]; omega)
  generalize Dcm.addC c r b t = V at *
  generalize Dcm.addS r t = Q at *
  clear nw
  obtain ⟨oa, ob, _, _⟩ := h
  obtain ⟨b0, b1⟩ := ob.2.2
  generalize Dcm.addC a s b t = X at *
  generalize Dcm.addS s t = S at *
  clear c2 az c3 nx ox oa ob hk hw hl
  go_enter Try.func8, Try.ntmps8
  go_wp2_with fail
  refine (half_any _).mono ?_
  rintro e w1 ⟨rfl, hb⟩
  have B1_a := Boxed.below (Boxed.alloc (Boxed.alloc (Boxed.made _ #[.int .i64 a, .int .i64 s] 30) _) _) hb
  have B1_b := Boxed.below (Boxed.alloc (Boxed.made _ #[.int .i64 b, .int .i64 t] 30) _) hb
  have B1_c := Boxed.below (Boxed.made _ #[.int .i64 c, .int .i64 r] 30) hb
  have W1 := Lib.hid (blw_trans (blw_trans (blw_trans (blw_trans (Below.refl w.heap.size w) (blw_alloc _ _)) (blw_alloc _ _)) (blw_alloc _ _)) hb)
  clear hb 
  have ka0 := B1_a.cell 0 _ rfl
  have ka1 := B1_a.cell 1 _ rfl
  have kal := B1_a.lt
  try simp at ka0 ka1 kal
  have kb0 := B1_b.cell 0 _ rfl
  have kb1 := B1_b.cell 1 _ rfl
  have kbl := B1_b.lt
  try simp at kb0 kb1 kbl
  have kc0 := B1_c.cell 0 _ rfl
  have kc1 := B1_c.cell 1 _ rfl
  have kcl := B1_c.lt
  try simp at kc0 kc1 kcl
  go_wp2_with fail
  refine (C1.out _).mono ?_
  rintro e w2 ⟨rfl, hb⟩
  clear ka0 ka1 kal kb0 kb1 kbl kc0 kc1 kcl
  have B2_a := B1_a.below hb
  have B2_b := B1_b.below hb
  have B2_c := B1_c.below hb
  have W2 := Lib.hid (blw_trans W1.out hb)
  clear hb B1_a B1_b B1_c W1
  have ka0 := B2_a.cell 0 _ rfl
  have ka1 := B2_a.cell 1 _ rfl
  have kal := B2_a.lt
  try simp at ka0 ka1 kal
  have kb0 := B2_b.cell 0 _ rfl
  have kb1 := B2_b.cell 1 _ rfl
  have kbl := B2_b.lt
  try simp at kb0 kb1 kbl
  have kc0 := B2_c.cell 0 _ rfl
  have kc1 := B2_c.cell 1 _ rfl
  have kcl := B2_c.lt
  try simp at kc0 kc1 kcl
  go_wp2_with fail
  refine (C2.out _).mono ?_
  rintro e w3 ⟨rfl, hb⟩
  clear ka0 ka1 kal kb0 kb1 kbl kc0 kc1 kcl
  have B3_a := (B2_a.alloc _).below hb
  have B3_b := (B2_b.alloc _).below hb
  have B3_c := (B2_c.alloc _).below hb
  have B3_x := Boxed.below (Boxed.made _ #[.int .i64 X, .int .i64 S] 30) hb
  have W3 := Lib.hid (blw_trans (blw_trans W2.out (blw_alloc _ _)) hb)
  clear hb B2_a B2_b B2_c W2
  have ka0 := B3_a.cell 0 _ rfl
  have ka1 := B3_a.cell 1 _ rfl
  have kal := B3_a.lt
  try simp at ka0 ka1 kal
  have kb0 := B3_b.cell 0 _ rfl
  have kb1 := B3_b.cell 1 _ rfl
  have kbl := B3_b.lt
  try simp at kb0 kb1 kbl
  have kc0 := B3_c.cell 0 _ rfl
  have kc1 := B3_c.cell 1 _ rfl
  have kcl := B3_c.lt
  try simp at kc0 kc1 kcl
  have kx0 := B3_x.cell 0 _ rfl
  have kx1 := B3_x.cell 1 _ rfl
  have kxl := B3_x.lt
  try simp at kx0 kx1 kxl
  go_wp2_with fail
  refine (C3.out _).mono ?_
  rintro e w4 ⟨rfl, hb⟩
  clear ka0 ka1 kal kb0 kb1 kbl kc0 kc1 kcl kx0 kx1 kxl
  have B4_a := (B3_a.alloc _).below hb
  have B4_b := (B3_b.alloc _).below hb
  have B4_c := (B3_c.alloc _).below hb
  have B4_x := (B3_x.alloc _).below hb
  have B4_y := Boxed.below (Boxed.made _ #[.int .i64 X, .int .i64 S] 30) hb
  have W4 := Lib.hid (blw_trans (blw_trans W3.out (blw_alloc _ _)) hb)
  clear hb B3_a B3_b B3_c B3_x W3
  have ka0 := B4_a.cell 0 _ rfl
  have ka1 := B4_a.cell 1 _ rfl
  have kal := B4_a.lt
  try simp at ka0 ka1 kal
  have kb0 := B4_b.cell 0 _ rfl
  have kb1 := B4_b.cell 1 _ rfl
  have kbl := B4_b.lt
  try simp at kb0 kb1 kbl
  have kc0 := B4_c.cell 0 _ rfl
  have kc1 := B4_c.cell 1 _ rfl
  have kcl := B4_c.lt
  try simp at kc0 kc1 kcl
  have kx0 := B4_x.cell 0 _ rfl
  have kx1 := B4_x.cell 1 _ rfl
  have kxl := B4_x.lt
  try simp at kx0 kx1 kxl
  have ky0 := B4_y.cell 0 _ rfl
  have ky1 := B4_y.cell 1 _ rfl
  have kyl := B4_y.lt
  try simp at ky0 ky1 kyl
  go_wp2_with fail
  refine (C4.out _).mono ?_
  rintro e w5 ⟨rfl, hb⟩
  clear ka0 ka1 kal kb0 kb1 kbl kc0 kc1 kcl kx0 kx1 kxl ky0 ky1 kyl
  have B5_a := (B4_a.alloc _).below hb
  have B5_b := (B4_b.alloc _).below hb
  have B5_c := (B4_c.alloc _).below hb
  have B5_x := (B4_x.alloc _).below hb
  have B5_y := (B4_y.alloc _).below hb
  have B5_z := Boxed.below (Boxed.made _ #[.int .i64 a, .int .i64 s] 30) hb
  have W5 := Lib.hid (blw_trans (blw_trans W4.out (blw_alloc _ _)) hb)
  clear hb B4_a B4_b B4_c B4_x B4_y W4
  have ka0 := B5_a.cell 0 _ rfl
  have ka1 := B5_a.cell 1 _ rfl
  have kal := B5_a.lt
  try simp at ka0 ka1 kal
  have kb0 := B5_b.cell 0 _ rfl
  have kb1 := B5_b.cell 1 _ rfl
  have kbl := B5_b.lt
  try simp at kb0 kb1 kbl
  have kc0 := B5_c.cell 0 _ rfl
  have kc1 := B5_c.cell 1 _ rfl
  have kcl := B5_c.lt
  try simp at kc0 kc1 kcl
  have kx0 := B5_x.cell 0 _ rfl
  have kx1 := B5_x.cell 1 _ rfl
  have kxl := B5_x.lt
  try simp at kx0 kx1 kxl
  have ky0 := B5_y.cell 0 _ rfl
  have ky1 := B5_y.cell 1 _ rfl
  have kyl := B5_y.lt
  try simp at ky0 ky1 kyl
  have kz0 := B5_z.cell 0 _ rfl
  have kz1 := B5_z.cell 1 _ rfl
  have kzl := B5_z.lt
  try simp at kz0 kz1 kzl
  go_wp2_with fail
  refine (C5.out _).mono ?_
  rintro e w6 ⟨rfl, hb⟩
  clear ka0 ka1 kal kb0 kb1 kbl kc0 kc1 kcl kx0 kx1 kxl ky0 ky1 kyl kz0 kz1 kzl
  have B6_a := (B5_a.alloc _).below hb
  have B6_b := (B5_b.alloc _).below hb
  have B6_c := (B5_c.alloc _).below hb
  have B6_x := (B5_x.alloc _).below hb
  have B6_y := (B5_y.alloc _).below hb
  have B6_z := (B5_z.alloc _).below hb
  have B6_k := Boxed.below (Boxed.made _ #[.int .i64 0, .int .i64 0] 30) hb
  have W6 := Lib.hid (blw_trans (blw_trans W5.out (blw_alloc _ _)) hb)
  clear hb B5_a B5_b B5_c B5_x B5_y B5_z W5
  have ka0 := B6_a.cell 0 _ rfl
  have ka1 := B6_a.cell 1 _ rfl
  have kal := B6_a.lt
  try simp at ka0 ka1 kal
  have kb0 := B6_b.cell 0 _ rfl
  have kb1 := B6_b.cell 1 _ rfl
  have kbl := B6_b.lt
  try simp at kb0 kb1 kbl
  have kc0 := B6_c.cell 0 _ rfl
  have kc1 := B6_c.cell 1 _ rfl
  have kcl := B6_c.lt
  try simp at kc0 kc1 kcl
  have kx0 := B6_x.cell 0 _ rfl
  have kx1 := B6_x.cell 1 _ rfl
  have kxl := B6_x.lt
  try simp at kx0 kx1 kxl
  have ky0 := B6_y.cell 0 _ rfl
  have ky1 := B6_y.cell 1 _ rfl
  have kyl := B6_y.lt
  try simp at ky0 ky1 kyl
  have kz0 := B6_z.cell 0 _ rfl
  have kz1 := B6_z.cell 1 _ rfl
  have kzl := B6_z.lt
  try simp at kz0 kz1 kzl
  have kk0 := B6_k.cell 0 _ rfl
  have kk1 := B6_k.cell 1 _ rfl
  have kkl := B6_k.lt
  try simp at kk0 kk1 kkl
  go_wp2_with fail
  have HW := Lib.hid (show Below w.heap.size w (w6.alloc (.cells #[.int .i64 V, .int .i64 Q] 30)) from (blw_trans W6.out (blw_alloc _ _)))
  refine wp_region_held_drew (S := fun w' => w'.cell? ⟨w.heap.size, 0, none⟩ = some (.int .i64 a) ∧ w'.cell? ⟨w.heap.size, 1, none⟩ = some (.int .i64 s) ∧ w'.cell? ⟨w.heap.size + 1 + 1, 0, none⟩ = some (.int .i64 c) ∧ w'.cell? ⟨w.heap.size + 1 + 1, 1, none⟩ = some (.int .i64 r) ∧ w'.cell? ⟨w2.heap.size, 0, none⟩ = some (.int .i64 X) ∧ w'.cell? ⟨w2.heap.size, 1, none⟩ = some (.int .i64 S) ∧ w'.cell? ⟨w3.heap.size, 0, none⟩ = some (.int .i64 X) ∧ w'.cell? ⟨w3.heap.size, 1, none⟩ = some (.int .i64 S) ∧ w'.cell? ⟨w4.heap.size, 0, none⟩ = some (.int .i64 a) ∧ w'.cell? ⟨w4.heap.size, 1, none⟩ = some (.int .i64 s) ∧ w'.cell? ⟨w5.heap.size, 0, none⟩ = some (.int .i64 0) ∧ w'.cell? ⟨w5.heap.size, 1, none⟩ = some (.int .i64 0) ∧ w'.cell? ⟨w6.heap.size, 0, none⟩ = some (.int .i64 V) ∧ w'.cell? ⟨w6.heap.size, 1, none⟩ = some (.int .i64 Q) ∧ Hid (Below w.heap.size w w')) (by kernel_rfl) (by refine ⟨?_, ?_, ?_, ?_, ?_, ?_, ?_, ?_, ?_, ?_, ?_, ?_, ?_, ?_, Lib.hid (Below.drew HW.out)⟩ <;> go_keep) (fun hHeld => ?_)
  refine take_run (d := (some 68)) (v := ?v106) 0 rfl rfl (by kernel_rfl) (by kernel_rfl) (by kernel_rfl) (fun _ _ _ h => h) (by rfl) hHeld ?hy106 ?rs106
  case hy106 => (intro w hSw; (try dsimp only at hSw); go_simp) <;> (try with_reducible rfl)
  (try simp only [Act.put, List.setIfInBounds_toArray, List.set_cons_zero, List.set_cons_succ])
  refine take_run (d := (some 69)) (v := ?v107) 1 rfl rfl (by kernel_rfl) (by kernel_rfl) (by kernel_rfl) (fun _ _ _ h => h) (by rfl) hHeld ?hy107 ?rs107
  case hy107 => (intro w hSw; (try dsimp only at hSw); go_simp) <;> (try with_reducible rfl)
  (try simp only [Act.put, List.setIfInBounds_toArray, List.set_cons_zero, List.set_cons_succ])
  refine take_run (d := (some 70)) (v := ?v108) 2 rfl rfl (by kernel_rfl) (by kernel_rfl) (by kernel_rfl) (fun _ _ _ h => h) (by rfl) hHeld ?hy108 ?rs108
  case hy108 => (intro w hSw; (try dsimp only at hSw); go_simp) <;> (try with_reducible rfl)
  (try simp only [Act.put, List.setIfInBounds_toArray, List.set_cons_zero, List.set_cons_succ])
  refine take_run (d := (some 71)) (v := ?v109) 3 rfl rfl (by kernel_rfl) (by kernel_rfl) (by kernel_rfl) (fun _ _ _ h => h) (by rfl) hHeld ?hy109 ?rs109
  case hy109 => (intro w hSw; (try dsimp only at hSw); go_simp) <;> (try with_reducible rfl)
  (try simp only [Act.put, List.setIfInBounds_toArray, List.set_cons_zero, List.set_cons_succ])
  refine take_run (d := (some 72)) (v := ?v110) 4 rfl rfl (by kernel_rfl) (by kernel_rfl) (by kernel_rfl) (fun _ _ _ h => h) (by rfl) hHeld ?hy110 ?rs110
  case hy110 => (intro w hSw; (try dsimp only at hSw); go_simp) <;> (try with_reducible rfl)
  (try simp only [Act.put, List.setIfInBounds_toArray, List.set_cons_zero, List.set_cons_succ])
  refine take_run (d := (some 73)) (v := ?v111) 5 rfl rfl (by kernel_rfl) (by kernel_rfl) (by kernel_rfl) (fun _ _ _ h => h) (by rfl) hHeld ?hy111 ?rs111
  case hy111 => (intro w hSw; (try dsimp only at hSw); go_simp) <;> (try with_reducible rfl)
  (try simp only [Act.put, List.setIfInBounds_toArray, List.set_cons_zero, List.set_cons_succ])
  refine take_run (d := (some 74)) (v := ?v112) 6 rfl rfl (by kernel_rfl) (by kernel_rfl) (by kernel_rfl) (fun _ _ _ h => h) (by rfl) hHeld ?hy112 ?rs112
  case hy112 => (intro w hSw; (try dsimp only at hSw); go_simp) <;> (try with_reducible rfl)
  (try simp only [Act.put, List.setIfInBounds_toArray, List.set_cons_zero, List.set_cons_succ])
  refine take_run (d := (some 75)) (v := ?v113) 7 rfl rfl (by kernel_rfl) (by kernel_rfl) (by kernel_rfl) (fun _ _ _ h => h) (by rfl) hHeld ?hy113 ?rs113
  case hy113 => (intro w hSw; (try dsimp only at hSw); go_simp) <;> (try with_reducible rfl)
  (try simp only [Act.put, List.setIfInBounds_toArray, List.set_cons_zero, List.set_cons_succ])
  refine take_run (d := (some 76)) (v := ?v114) 8 rfl rfl (by kernel_rfl) (by kernel_rfl) (by kernel_rfl) (fun _ _ _ h => h) (by rfl) hHeld ?hy114 ?rs114
  case hy114 => (intro w hSw; (try dsimp only at hSw); go_simp) <;> (try with_reducible rfl)
  (try simp only [Act.put, List.setIfInBounds_toArray, List.set_cons_zero, List.set_cons_succ])
  refine take_run (d := (some 77)) (v := ?v115) 9 rfl rfl (by kernel_rfl) (by kernel_rfl) (by kernel_rfl) (fun _ _ _ h => h) (by rfl) hHeld ?hy115 ?rs115
  case hy115 => (intro w hSw; (try dsimp only at hSw); go_simp) <;> (try with_reducible rfl)
  (try simp only [Act.put, List.setIfInBounds_toArray, List.set_cons_zero, List.set_cons_succ])
  refine take_run (d := (some 78)) (v := ?v116) 10 rfl rfl (by kernel_rfl) (by kernel_rfl) (by kernel_rfl) (fun _ _ _ h => h) (by rfl) hHeld ?hy116 ?rs116
  case hy116 => (intro w hSw; (try dsimp only at hSw); go_simp) <;> (try with_reducible rfl)
  (try simp only [Act.put, List.setIfInBounds_toArray, List.set_cons_zero, List.set_cons_succ])
  refine take_run (d := (some 79)) (v := ?v117) 11 rfl rfl (by kernel_rfl) (by kernel_rfl) (by kernel_rfl) (fun _ _ _ h => h) (by rfl) hHeld ?hy117 ?rs117
  case hy117 => (intro w hSw; (try dsimp only at hSw); go_simp) <;> (try with_reducible rfl)
  (try simp only [Act.put, List.setIfInBounds_toArray, List.set_cons_zero, List.set_cons_succ])
  refine take_run (d := (some 80)) (v := ?v118) 12 rfl rfl (by kernel_rfl) (by kernel_rfl) (by kernel_rfl) (fun _ _ _ h => h) (by rfl) hHeld ?hy118 ?rs118
  case hy118 => (intro w hSw; (try dsimp only at hSw); go_simp) <;> (try with_reducible rfl)
  (try simp only [Act.put, List.setIfInBounds_toArray, List.set_cons_zero, List.set_cons_succ])
  refine take_run (d := (some 81)) (v := ?v119) 13 rfl rfl (by kernel_rfl) (by kernel_rfl) (by kernel_rfl) (fun _ _ _ h => h) (by rfl) hHeld ?hy119 ?rs119
  case hy119 => (intro w hSw; (try dsimp only at hSw); go_simp) <;> (try with_reducible rfl)
  (try simp only [Act.put, List.setIfInBounds_toArray, List.set_cons_zero, List.set_cons_succ])
  refine take_run (d := (some 82)) (v := ?v120) 14 rfl rfl (by kernel_rfl) (by kernel_rfl) (by kernel_rfl) (fun _ _ _ h => h) (by rfl) hHeld ?hy120 ?rs120
  case hy120 => (intro w hSw; (try dsimp only at hSw); go_simp) <;> (try with_reducible rfl)
  (try simp only [Act.put, List.setIfInBounds_toArray, List.set_cons_zero, List.set_cons_succ])
  refine take_run (d := (some 83)) (v := ?v121) 15 rfl rfl (by kernel_rfl) (by kernel_rfl) (by kernel_rfl) (fun _ _ _ h => h) (by rfl) hHeld ?hy121 ?rs121
  case hy121 => (intro w hSw; (try dsimp only at hSw); go_simp) <;> (try with_reducible rfl)
  (try simp only [Act.put, List.setIfInBounds_toArray, List.set_cons_zero, List.set_cons_succ])
  refine take_skip (d := (some 84)) 16 rfl rfl (by kernel_rfl) (by kernel_rfl) (by kernel_rfl) (fun _ _ _ h => h) (by rfl) hHeld ?_
  (try simp only [Act.put, List.setIfInBounds_toArray, List.set_cons_zero, List.set_cons_succ])
  refine take_skip (d := (some 85)) 17 rfl rfl (by kernel_rfl) (by kernel_rfl) (by kernel_rfl) (fun _ _ _ h => h) (by rfl) hHeld ?_
  (try simp only [Act.put, List.setIfInBounds_toArray, List.set_cons_zero, List.set_cons_succ])
  refine take_skip (d := (some 86)) 18 rfl rfl (by kernel_rfl) (by kernel_rfl) (by kernel_rfl) (fun _ _ _ h => h) (by rfl) hHeld ?_
  (try simp only [Act.put, List.setIfInBounds_toArray, List.set_cons_zero, List.set_cons_succ])
  refine take_run (d := (some 87)) (v := ?v125) 19 rfl rfl (by kernel_rfl) (by kernel_rfl) (by kernel_rfl) (fun _ _ _ h => h) (by rfl) hHeld ?hy125 ?rs125
  case hy125 => (intro w hSw; (try dsimp only at hSw); go_simp) <;> (try with_reducible rfl)
  (try simp only [Act.put, List.setIfInBounds_toArray, List.set_cons_zero, List.set_cons_succ])
  refine take_run (d := (some 88)) (v := ?v126) 20 rfl rfl (by kernel_rfl) (by kernel_rfl) (by kernel_rfl) (fun _ _ _ h => h) (by rfl) hHeld ?hy126 ?rs126
  case hy126 => (intro w hSw; (try dsimp only at hSw); go_simp) <;> (try with_reducible rfl)
  (try simp only [Act.put, List.setIfInBounds_toArray, List.set_cons_zero, List.set_cons_succ])
  refine take_run (d := (some 89)) (v := ?v127) 21 rfl rfl (by kernel_rfl) (by kernel_rfl) (by kernel_rfl) (fun _ _ _ h => h) (by rfl) hHeld ?hy127 ?rs127
  case hy127 => (intro w hSw; (try dsimp only at hSw); go_simp) <;> (try with_reducible rfl)
  (try simp only [Act.put, List.setIfInBounds_toArray, List.set_cons_zero, List.set_cons_succ])
  refine take_run (d := (some 90)) (v := ?v128) 22 rfl rfl (by kernel_rfl) (by kernel_rfl) (by kernel_rfl) (fun _ _ _ h => h) (by rfl) hHeld ?hy128 ?rs128
  case hy128 => (intro w hSw; (try dsimp only at hSw); go_simp) <;> (try with_reducible rfl)
  (try simp only [Act.put, List.setIfInBounds_toArray, List.set_cons_zero, List.set_cons_succ])
  refine take_run (d := (some 91)) (v := ?v129) 23 rfl rfl (by kernel_rfl) (by kernel_rfl) (by kernel_rfl) (fun _ _ _ h => h) (by rfl) hHeld ?hy129 ?rs129
  case hy129 => (intro w hSw; (try dsimp only at hSw); go_simp) <;> (try with_reducible rfl)
  (try simp only [Act.put, List.setIfInBounds_toArray, List.set_cons_zero, List.set_cons_succ])
  refine take_run (d := (some 92)) (v := ?v130) 24 rfl rfl (by kernel_rfl) (by kernel_rfl) (by kernel_rfl) (fun _ _ _ h => h) (by rfl) hHeld ?hy130 ?rs130
  case hy130 => (intro w hSw; (try dsimp only at hSw); go_simp) <;> (try with_reducible rfl)
  (try simp only [Act.put, List.setIfInBounds_toArray, List.set_cons_zero, List.set_cons_succ])
  refine take_run (d := (some 93)) (v := ?v131) 25 rfl rfl (by kernel_rfl) (by kernel_rfl) (by kernel_rfl) (fun _ _ _ h => h) (by rfl) hHeld ?hy131 ?rs131
  case hy131 => (intro w hSw; (try dsimp only at hSw); go_simp) <;> (try with_reducible rfl)
  (try simp only [Act.put, List.setIfInBounds_toArray, List.set_cons_zero, List.set_cons_succ])
  refine take_run (d := (some 94)) (v := ?v132) 26 rfl rfl (by kernel_rfl) (by kernel_rfl) (by kernel_rfl) (fun _ _ _ h => h) (by rfl) hHeld ?hy132 ?rs132
  case hy132 => (intro w hSw; (try dsimp only at hSw); go_simp) <;> (try with_reducible rfl)
  (try simp only [Act.put, List.setIfInBounds_toArray, List.set_cons_zero, List.set_cons_succ])
  refine take_run (d := (some 96)) (v := ?v133) 28 rfl rfl (by kernel_rfl) (by kernel_rfl) (by kernel_rfl) (fun _ _ _ h => h) (by rfl) hHeld ?hy133 ?rs133
  case hy133 => (intro w hSw; (try dsimp only at hSw); go_simp) <;> (try with_reducible rfl)
  (try simp only [Act.put, List.setIfInBounds_toArray, List.set_cons_zero, List.set_cons_succ])
  refine take_run (d := (some 97)) (v := ?v134) 29 rfl rfl (by kernel_rfl) (by kernel_rfl) (by kernel_rfl) (fun _ _ _ h => h) (by rfl) hHeld ?hy134 ?rs134
  case hy134 => (intro w hSw; (try dsimp only at hSw); go_simp) <;> (try with_reducible rfl)
  (try simp only [Act.put, List.setIfInBounds_toArray, List.set_cons_zero, List.set_cons_succ])
  refine take_call 27 rfl (by kernel_rfl) (by rfl) (fun K hK => ?_)
  go_simp
  refine (AC.out _).mono ?_
  rintro e w' ⟨rfl, hb⟩
  refine hK.out _ _ (by obtain ⟨h0, h1, h2, h3, h4, h5, h6, h7, h8, h9, h10, h11, h12, h13, hw⟩ := hHeld; exact ⟨cell_keep h0 hb, cell_keep h1 hb, cell_keep h2 hb, cell_keep h3 hb, cell_keep h4 hb, cell_keep h5 hb, cell_keep h6 hb, cell_keep h7 hb, cell_keep h8 hb, cell_keep h9 hb, cell_keep h10 hb, cell_keep h11 hb, cell_keep h12 hb, cell_keep h13 hb, Lib.hid (blw_trans hw.out hb)⟩) (fun hHeld => ?_)
  clear hK K
  (try simp only [Act.put, List.setIfInBounds_toArray, List.set_cons_zero, List.set_cons_succ])
  refine take_call 30 rfl (by kernel_rfl) (by rfl) (fun K hK => ?_)
  go_simp
  refine (XW.out _).mono ?_
  rintro e w' ⟨rfl, hb⟩
  refine hK.out _ _ (by obtain ⟨h0, h1, h2, h3, h4, h5, h6, h7, h8, h9, h10, h11, h12, h13, hw⟩ := hHeld; exact ⟨cell_keep h0 hb, cell_keep h1 hb, cell_keep h2 hb, cell_keep h3 hb, cell_keep h4 hb, cell_keep h5 hb, cell_keep h6 hb, cell_keep h7 hb, cell_keep h8 hb, cell_keep h9 hb, cell_keep h10 hb, cell_keep h11 hb, cell_keep h12 hb, cell_keep h13 hb, Lib.hid (blw_trans hw.out hb)⟩) (fun hHeld => ?_)
  clear hK K
  (try simp only [Act.put, List.setIfInBounds_toArray, List.set_cons_zero, List.set_cons_succ])
  refine take_run (d := (some 99)) (v := ?v137) 31 rfl rfl (by kernel_rfl) (by kernel_rfl) (by kernel_rfl) (fun _ _ _ h => h) (by rfl) hHeld ?hy137 ?rs137
  case hy137 => (intro w hSw; (try dsimp only at hSw); go_simp) <;> (try with_reducible rfl)
  (try simp only [Act.put, List.setIfInBounds_toArray, List.set_cons_zero, List.set_cons_succ])
  refine take_run (d := (some 100)) (v := ?v138) 32 rfl rfl (by kernel_rfl) (by kernel_rfl) (by kernel_rfl) (fun _ _ _ h => h) (by rfl) hHeld ?hy138 ?rs138
  case hy138 => (intro w hSw; (try dsimp only at hSw); go_simp) <;> (try with_reducible rfl)
  (try simp only [Act.put, List.setIfInBounds_toArray, List.set_cons_zero, List.set_cons_succ])
  refine take_run (d := (some 101)) (v := ?v139) 33 rfl rfl (by kernel_rfl) (by kernel_rfl) (by kernel_rfl) (fun _ _ _ h => h) (by rfl) hHeld ?hy139 ?rs139
  case hy139 => (intro w hSw; (try dsimp only at hSw); go_simp) <;> (try with_reducible rfl)
  (try simp only [Act.put, List.setIfInBounds_toArray, List.set_cons_zero, List.set_cons_succ])
  refine take_run (d := (some 6)) (v := ?v140) 34 rfl rfl (by kernel_rfl) (by kernel_rfl) (by kernel_rfl) (fun _ _ _ h => h) (by rfl) hHeld ?hy140 ?rs140
  case hy140 => (intro w hSw; (try dsimp only at hSw); go_simp) <;> (try with_reducible rfl)
  (try simp only [Act.put, List.setIfInBounds_toArray, List.set_cons_zero, List.set_cons_succ])
  refine wpAnyH_done (by kernel_rfl) ?_ _
  obtain ⟨z0, z1, z2, z3, z4, z5, z6, z7, z8, z9, z10, z11, z12, z13, zW⟩ := hHeld
  go_wp2
  go_ret
  exact ⟨ret_bool (by simp), zW.out⟩

set_option maxRecDepth 100000 in
set_option maxHeartbeats 4000000 in
theorem adds_f_n (a s b t c r : Int) (w : World) (h : addOk a s b t) (hk : ¬ addOk (Dcm.addC a s b t) (Dcm.addS s t) (-b) t) (hw : addOk c r b t) (hl : ¬ nrm a s < nrm c r) :
    Calls Try.prog 8 #[.agg #[.int .i64 a, .int .i64 s], .agg #[.int .i64 b, .int .i64 t], .agg #[.int .i64 c, .int .i64 r]] w fun e w' => e = .returned (.bool true) ∧ Below w.heap.size w w' := by
  have C1 := Lib.hid fun w => add_yes a s b t w h
  have c2 := fun w => add_yes b t a s w (addOk_comm h)
  rw [Dcm.addC_comm b t a s, Dcm.addS_comm t s] at c2
  have C2 := Lib.hid c2
  have az := add_zero_ok h.1
  have c3 := fun w => add_yes a s 0 0 w az.1
  rw [az.2.1, az.2.2] at c3
  have C3 := Lib.hid c3
  have nx := addOk_nrm h
  have ox := addOk_okD h
  have C4 := Lib.hid fun w => add_no (Dcm.addC a s b t) (Dcm.addS s t) (-b) t w hk
  have C5 := Lib.hid fun w => add_yes c r b t w hw
  have nw := addOk_nrm hw
  have AC := Lib.hid fun w => less_no a s c r w h.1 hw.1 hl
  have XW := Lib.hid fun w => less_no _ _ _ _ w ox (addOk_okD hw) (by rw [nx, nw]; omega)
  generalize Dcm.addC c r b t = V at *
  generalize Dcm.addS r t = Q at *
  clear nw
  obtain ⟨oa, ob, _, _⟩ := h
  obtain ⟨b0, b1⟩ := ob.2.2
  generalize Dcm.addC a s b t = X at *
  generalize Dcm.addS s t = S at *
  clear c2 az c3 nx ox oa ob hk hw hl
  go_enter Try.func8, Try.ntmps8
  go_wp2_with fail
  refine (half_any _).mono ?_
  rintro e w1 ⟨rfl, hb⟩
  have B1_a := Boxed.below (Boxed.alloc (Boxed.alloc (Boxed.made _ #[.int .i64 a, .int .i64 s] 30) _) _) hb
  have B1_b := Boxed.below (Boxed.alloc (Boxed.made _ #[.int .i64 b, .int .i64 t] 30) _) hb
  have B1_c := Boxed.below (Boxed.made _ #[.int .i64 c, .int .i64 r] 30) hb
  have W1 := Lib.hid (blw_trans (blw_trans (blw_trans (blw_trans (Below.refl w.heap.size w) (blw_alloc _ _)) (blw_alloc _ _)) (blw_alloc _ _)) hb)
  clear hb 
  have ka0 := B1_a.cell 0 _ rfl
  have ka1 := B1_a.cell 1 _ rfl
  have kal := B1_a.lt
  try simp at ka0 ka1 kal
  have kb0 := B1_b.cell 0 _ rfl
  have kb1 := B1_b.cell 1 _ rfl
  have kbl := B1_b.lt
  try simp at kb0 kb1 kbl
  have kc0 := B1_c.cell 0 _ rfl
  have kc1 := B1_c.cell 1 _ rfl
  have kcl := B1_c.lt
  try simp at kc0 kc1 kcl
  go_wp2_with fail
  refine (C1.out _).mono ?_
  rintro e w2 ⟨rfl, hb⟩
  clear ka0 ka1 kal kb0 kb1 kbl kc0 kc1 kcl
  have B2_a := B1_a.below hb
  have B2_b := B1_b.below hb
  have B2_c := B1_c.below hb
  have W2 := Lib.hid (blw_trans W1.out hb)
  clear hb B1_a B1_b B1_c W1
  have ka0 := B2_a.cell 0 _ rfl
  have ka1 := B2_a.cell 1 _ rfl
  have kal := B2_a.lt
  try simp at ka0 ka1 kal
  have kb0 := B2_b.cell 0 _ rfl
  have kb1 := B2_b.cell 1 _ rfl
  have kbl := B2_b.lt
  try simp at kb0 kb1 kbl
  have kc0 := B2_c.cell 0 _ rfl
  have kc1 := B2_c.cell 1 _ rfl
  have kcl := B2_c.lt
  try simp at kc0 kc1 kcl
  go_wp2_with fail
  refine (C2.out _).mono ?_
  rintro e w3 ⟨rfl, hb⟩
  clear ka0 ka1 kal kb0 kb1 kbl kc0 kc1 kcl
  have B3_a := (B2_a.alloc _).below hb
  have B3_b := (B2_b.alloc _).below hb
  have B3_c := (B2_c.alloc _).below hb
  have B3_x := Boxed.below (Boxed.made _ #[.int .i64 X, .int .i64 S] 30) hb
  have W3 := Lib.hid (blw_trans (blw_trans W2.out (blw_alloc _ _)) hb)
  clear hb B2_a B2_b B2_c W2
  have ka0 := B3_a.cell 0 _ rfl
  have ka1 := B3_a.cell 1 _ rfl
  have kal := B3_a.lt
  try simp at ka0 ka1 kal
  have kb0 := B3_b.cell 0 _ rfl
  have kb1 := B3_b.cell 1 _ rfl
  have kbl := B3_b.lt
  try simp at kb0 kb1 kbl
  have kc0 := B3_c.cell 0 _ rfl
  have kc1 := B3_c.cell 1 _ rfl
  have kcl := B3_c.lt
  try simp at kc0 kc1 kcl
  have kx0 := B3_x.cell 0 _ rfl
  have kx1 := B3_x.cell 1 _ rfl
  have kxl := B3_x.lt
  try simp at kx0 kx1 kxl
  go_wp2_with fail
  refine (C3.out _).mono ?_
  rintro e w4 ⟨rfl, hb⟩
  clear ka0 ka1 kal kb0 kb1 kbl kc0 kc1 kcl kx0 kx1 kxl
  have B4_a := (B3_a.alloc _).below hb
  have B4_b := (B3_b.alloc _).below hb
  have B4_c := (B3_c.alloc _).below hb
  have B4_x := (B3_x.alloc _).below hb
  have B4_y := Boxed.below (Boxed.made _ #[.int .i64 X, .int .i64 S] 30) hb
  have W4 := Lib.hid (blw_trans (blw_trans W3.out (blw_alloc _ _)) hb)
  clear hb B3_a B3_b B3_c B3_x W3
  have ka0 := B4_a.cell 0 _ rfl
  have ka1 := B4_a.cell 1 _ rfl
  have kal := B4_a.lt
  try simp at ka0 ka1 kal
  have kb0 := B4_b.cell 0 _ rfl
  have kb1 := B4_b.cell 1 _ rfl
  have kbl := B4_b.lt
  try simp at kb0 kb1 kbl
  have kc0 := B4_c.cell 0 _ rfl
  have kc1 := B4_c.cell 1 _ rfl
  have kcl := B4_c.lt
  try simp at kc0 kc1 kcl
  have kx0 := B4_x.cell 0 _ rfl
  have kx1 := B4_x.cell 1 _ rfl
  have kxl := B4_x.lt
  try simp at kx0 kx1 kxl
  have ky0 := B4_y.cell 0 _ rfl
  have ky1 := B4_y.cell 1 _ rfl
  have kyl := B4_y.lt
  try simp at ky0 ky1 kyl
  go_wp2_with fail
  refine (C4.out _).mono ?_
  rintro e w5 ⟨rfl, hb⟩
  clear ka0 ka1 kal kb0 kb1 kbl kc0 kc1 kcl kx0 kx1 kxl ky0 ky1 kyl
  have B5_a := (B4_a.alloc _).below hb
  have B5_b := (B4_b.alloc _).below hb
  have B5_c := (B4_c.alloc _).below hb
  have B5_x := (B4_x.alloc _).below hb
  have B5_y := (B4_y.alloc _).below hb
  have B5_z := Boxed.below (Boxed.made _ #[.int .i64 a, .int .i64 s] 30) hb
  have W5 := Lib.hid (blw_trans (blw_trans W4.out (blw_alloc _ _)) hb)
  clear hb B4_a B4_b B4_c B4_x B4_y W4
  have ka0 := B5_a.cell 0 _ rfl
  have ka1 := B5_a.cell 1 _ rfl
  have kal := B5_a.lt
  try simp at ka0 ka1 kal
  have kb0 := B5_b.cell 0 _ rfl
  have kb1 := B5_b.cell 1 _ rfl
  have kbl := B5_b.lt
  try simp at kb0 kb1 kbl
  have kc0 := B5_c.cell 0 _ rfl
  have kc1 := B5_c.cell 1 _ rfl
  have kcl := B5_c.lt
  try simp at kc0 kc1 kcl
  have kx0 := B5_x.cell 0 _ rfl
  have kx1 := B5_x.cell 1 _ rfl
  have kxl := B5_x.lt
  try simp at kx0 kx1 kxl
  have ky0 := B5_y.cell 0 _ rfl
  have ky1 := B5_y.cell 1 _ rfl
  have kyl := B5_y.lt
  try simp at ky0 ky1 kyl
  have kz0 := B5_z.cell 0 _ rfl
  have kz1 := B5_z.cell 1 _ rfl
  have kzl := B5_z.lt
  try simp at kz0 kz1 kzl
  go_wp2_with fail
  refine (C5.out _).mono ?_
  rintro e w6 ⟨rfl, hb⟩
  clear ka0 ka1 kal kb0 kb1 kbl kc0 kc1 kcl kx0 kx1 kxl ky0 ky1 kyl kz0 kz1 kzl
  have B6_a := (B5_a.alloc _).below hb
  have B6_b := (B5_b.alloc _).below hb
  have B6_c := (B5_c.alloc _).below hb
  have B6_x := (B5_x.alloc _).below hb
  have B6_y := (B5_y.alloc _).below hb
  have B6_z := (B5_z.alloc _).below hb
  have B6_k := Boxed.below (Boxed.made _ #[.int .i64 0, .int .i64 0] 30) hb
  have W6 := Lib.hid (blw_trans (blw_trans W5.out (blw_alloc _ _)) hb)
  clear hb B5_a B5_b B5_c B5_x B5_y B5_z W5
  have ka0 := B6_a.cell 0 _ rfl
  have ka1 := B6_a.cell 1 _ rfl
  have kal := B6_a.lt
  try simp at ka0 ka1 kal
  have kb0 := B6_b.cell 0 _ rfl
  have kb1 := B6_b.cell 1 _ rfl
  have kbl := B6_b.lt
  try simp at kb0 kb1 kbl
  have kc0 := B6_c.cell 0 _ rfl
  have kc1 := B6_c.cell 1 _ rfl
  have kcl := B6_c.lt
  try simp at kc0 kc1 kcl
  have kx0 := B6_x.cell 0 _ rfl
  have kx1 := B6_x.cell 1 _ rfl
  have kxl := B6_x.lt
  try simp at kx0 kx1 kxl
  have ky0 := B6_y.cell 0 _ rfl
  have ky1 := B6_y.cell 1 _ rfl
  have kyl := B6_y.lt
  try simp at ky0 ky1 kyl
  have kz0 := B6_z.cell 0 _ rfl
  have kz1 := B6_z.cell 1 _ rfl
  have kzl := B6_z.lt
  try simp at kz0 kz1 kzl
  have kk0 := B6_k.cell 0 _ rfl
  have kk1 := B6_k.cell 1 _ rfl
  have kkl := B6_k.lt
  try simp at kk0 kk1 kkl
  go_wp2_with fail
  have HW := Lib.hid (show Below w.heap.size w (w6.alloc (.cells #[.int .i64 V, .int .i64 Q] 30)) from (blw_trans W6.out (blw_alloc _ _)))
  refine wp_region_held_drew (S := fun w' => w'.cell? ⟨w.heap.size, 0, none⟩ = some (.int .i64 a) ∧ w'.cell? ⟨w.heap.size, 1, none⟩ = some (.int .i64 s) ∧ w'.cell? ⟨w.heap.size + 1 + 1, 0, none⟩ = some (.int .i64 c) ∧ w'.cell? ⟨w.heap.size + 1 + 1, 1, none⟩ = some (.int .i64 r) ∧ w'.cell? ⟨w2.heap.size, 0, none⟩ = some (.int .i64 X) ∧ w'.cell? ⟨w2.heap.size, 1, none⟩ = some (.int .i64 S) ∧ w'.cell? ⟨w3.heap.size, 0, none⟩ = some (.int .i64 X) ∧ w'.cell? ⟨w3.heap.size, 1, none⟩ = some (.int .i64 S) ∧ w'.cell? ⟨w4.heap.size, 0, none⟩ = some (.int .i64 a) ∧ w'.cell? ⟨w4.heap.size, 1, none⟩ = some (.int .i64 s) ∧ w'.cell? ⟨w5.heap.size, 0, none⟩ = some (.int .i64 0) ∧ w'.cell? ⟨w5.heap.size, 1, none⟩ = some (.int .i64 0) ∧ w'.cell? ⟨w6.heap.size, 0, none⟩ = some (.int .i64 V) ∧ w'.cell? ⟨w6.heap.size, 1, none⟩ = some (.int .i64 Q) ∧ Hid (Below w.heap.size w w')) (by kernel_rfl) (by refine ⟨?_, ?_, ?_, ?_, ?_, ?_, ?_, ?_, ?_, ?_, ?_, ?_, ?_, ?_, Lib.hid (Below.drew HW.out)⟩ <;> go_keep) (fun hHeld => ?_)
  refine take_run (d := (some 68)) (v := ?v141) 0 rfl rfl (by kernel_rfl) (by kernel_rfl) (by kernel_rfl) (fun _ _ _ h => h) (by rfl) hHeld ?hy141 ?rs141
  case hy141 => (intro w hSw; (try dsimp only at hSw); go_simp) <;> (try with_reducible rfl)
  (try simp only [Act.put, List.setIfInBounds_toArray, List.set_cons_zero, List.set_cons_succ])
  refine take_run (d := (some 69)) (v := ?v142) 1 rfl rfl (by kernel_rfl) (by kernel_rfl) (by kernel_rfl) (fun _ _ _ h => h) (by rfl) hHeld ?hy142 ?rs142
  case hy142 => (intro w hSw; (try dsimp only at hSw); go_simp) <;> (try with_reducible rfl)
  (try simp only [Act.put, List.setIfInBounds_toArray, List.set_cons_zero, List.set_cons_succ])
  refine take_run (d := (some 70)) (v := ?v143) 2 rfl rfl (by kernel_rfl) (by kernel_rfl) (by kernel_rfl) (fun _ _ _ h => h) (by rfl) hHeld ?hy143 ?rs143
  case hy143 => (intro w hSw; (try dsimp only at hSw); go_simp) <;> (try with_reducible rfl)
  (try simp only [Act.put, List.setIfInBounds_toArray, List.set_cons_zero, List.set_cons_succ])
  refine take_run (d := (some 71)) (v := ?v144) 3 rfl rfl (by kernel_rfl) (by kernel_rfl) (by kernel_rfl) (fun _ _ _ h => h) (by rfl) hHeld ?hy144 ?rs144
  case hy144 => (intro w hSw; (try dsimp only at hSw); go_simp) <;> (try with_reducible rfl)
  (try simp only [Act.put, List.setIfInBounds_toArray, List.set_cons_zero, List.set_cons_succ])
  refine take_run (d := (some 72)) (v := ?v145) 4 rfl rfl (by kernel_rfl) (by kernel_rfl) (by kernel_rfl) (fun _ _ _ h => h) (by rfl) hHeld ?hy145 ?rs145
  case hy145 => (intro w hSw; (try dsimp only at hSw); go_simp) <;> (try with_reducible rfl)
  (try simp only [Act.put, List.setIfInBounds_toArray, List.set_cons_zero, List.set_cons_succ])
  refine take_run (d := (some 73)) (v := ?v146) 5 rfl rfl (by kernel_rfl) (by kernel_rfl) (by kernel_rfl) (fun _ _ _ h => h) (by rfl) hHeld ?hy146 ?rs146
  case hy146 => (intro w hSw; (try dsimp only at hSw); go_simp) <;> (try with_reducible rfl)
  (try simp only [Act.put, List.setIfInBounds_toArray, List.set_cons_zero, List.set_cons_succ])
  refine take_run (d := (some 74)) (v := ?v147) 6 rfl rfl (by kernel_rfl) (by kernel_rfl) (by kernel_rfl) (fun _ _ _ h => h) (by rfl) hHeld ?hy147 ?rs147
  case hy147 => (intro w hSw; (try dsimp only at hSw); go_simp) <;> (try with_reducible rfl)
  (try simp only [Act.put, List.setIfInBounds_toArray, List.set_cons_zero, List.set_cons_succ])
  refine take_run (d := (some 75)) (v := ?v148) 7 rfl rfl (by kernel_rfl) (by kernel_rfl) (by kernel_rfl) (fun _ _ _ h => h) (by rfl) hHeld ?hy148 ?rs148
  case hy148 => (intro w hSw; (try dsimp only at hSw); go_simp) <;> (try with_reducible rfl)
  (try simp only [Act.put, List.setIfInBounds_toArray, List.set_cons_zero, List.set_cons_succ])
  refine take_run (d := (some 76)) (v := ?v149) 8 rfl rfl (by kernel_rfl) (by kernel_rfl) (by kernel_rfl) (fun _ _ _ h => h) (by rfl) hHeld ?hy149 ?rs149
  case hy149 => (intro w hSw; (try dsimp only at hSw); go_simp) <;> (try with_reducible rfl)
  (try simp only [Act.put, List.setIfInBounds_toArray, List.set_cons_zero, List.set_cons_succ])
  refine take_run (d := (some 77)) (v := ?v150) 9 rfl rfl (by kernel_rfl) (by kernel_rfl) (by kernel_rfl) (fun _ _ _ h => h) (by rfl) hHeld ?hy150 ?rs150
  case hy150 => (intro w hSw; (try dsimp only at hSw); go_simp) <;> (try with_reducible rfl)
  (try simp only [Act.put, List.setIfInBounds_toArray, List.set_cons_zero, List.set_cons_succ])
  refine take_run (d := (some 78)) (v := ?v151) 10 rfl rfl (by kernel_rfl) (by kernel_rfl) (by kernel_rfl) (fun _ _ _ h => h) (by rfl) hHeld ?hy151 ?rs151
  case hy151 => (intro w hSw; (try dsimp only at hSw); go_simp) <;> (try with_reducible rfl)
  (try simp only [Act.put, List.setIfInBounds_toArray, List.set_cons_zero, List.set_cons_succ])
  refine take_run (d := (some 79)) (v := ?v152) 11 rfl rfl (by kernel_rfl) (by kernel_rfl) (by kernel_rfl) (fun _ _ _ h => h) (by rfl) hHeld ?hy152 ?rs152
  case hy152 => (intro w hSw; (try dsimp only at hSw); go_simp) <;> (try with_reducible rfl)
  (try simp only [Act.put, List.setIfInBounds_toArray, List.set_cons_zero, List.set_cons_succ])
  refine take_run (d := (some 80)) (v := ?v153) 12 rfl rfl (by kernel_rfl) (by kernel_rfl) (by kernel_rfl) (fun _ _ _ h => h) (by rfl) hHeld ?hy153 ?rs153
  case hy153 => (intro w hSw; (try dsimp only at hSw); go_simp) <;> (try with_reducible rfl)
  (try simp only [Act.put, List.setIfInBounds_toArray, List.set_cons_zero, List.set_cons_succ])
  refine take_run (d := (some 81)) (v := ?v154) 13 rfl rfl (by kernel_rfl) (by kernel_rfl) (by kernel_rfl) (fun _ _ _ h => h) (by rfl) hHeld ?hy154 ?rs154
  case hy154 => (intro w hSw; (try dsimp only at hSw); go_simp) <;> (try with_reducible rfl)
  (try simp only [Act.put, List.setIfInBounds_toArray, List.set_cons_zero, List.set_cons_succ])
  refine take_run (d := (some 82)) (v := ?v155) 14 rfl rfl (by kernel_rfl) (by kernel_rfl) (by kernel_rfl) (fun _ _ _ h => h) (by rfl) hHeld ?hy155 ?rs155
  case hy155 => (intro w hSw; (try dsimp only at hSw); go_simp) <;> (try with_reducible rfl)
  (try simp only [Act.put, List.setIfInBounds_toArray, List.set_cons_zero, List.set_cons_succ])
  refine take_run (d := (some 83)) (v := ?v156) 15 rfl rfl (by kernel_rfl) (by kernel_rfl) (by kernel_rfl) (fun _ _ _ h => h) (by rfl) hHeld ?hy156 ?rs156
  case hy156 => (intro w hSw; (try dsimp only at hSw); go_simp) <;> (try with_reducible rfl)
  (try simp only [Act.put, List.setIfInBounds_toArray, List.set_cons_zero, List.set_cons_succ])
  refine take_skip (d := (some 84)) 16 rfl rfl (by kernel_rfl) (by kernel_rfl) (by kernel_rfl) (fun _ _ _ h => h) (by rfl) hHeld ?_
  (try simp only [Act.put, List.setIfInBounds_toArray, List.set_cons_zero, List.set_cons_succ])
  refine take_skip (d := (some 85)) 17 rfl rfl (by kernel_rfl) (by kernel_rfl) (by kernel_rfl) (fun _ _ _ h => h) (by rfl) hHeld ?_
  (try simp only [Act.put, List.setIfInBounds_toArray, List.set_cons_zero, List.set_cons_succ])
  refine take_skip (d := (some 86)) 18 rfl rfl (by kernel_rfl) (by kernel_rfl) (by kernel_rfl) (fun _ _ _ h => h) (by rfl) hHeld ?_
  (try simp only [Act.put, List.setIfInBounds_toArray, List.set_cons_zero, List.set_cons_succ])
  refine take_run (d := (some 87)) (v := ?v160) 19 rfl rfl (by kernel_rfl) (by kernel_rfl) (by kernel_rfl) (fun _ _ _ h => h) (by rfl) hHeld ?hy160 ?rs160
  case hy160 => (intro w hSw; (try dsimp only at hSw); go_simp) <;> (try with_reducible rfl)
  (try simp only [Act.put, List.setIfInBounds_toArray, List.set_cons_zero, List.set_cons_succ])
  refine take_run (d := (some 88)) (v := ?v161) 20 rfl rfl (by kernel_rfl) (by kernel_rfl) (by kernel_rfl) (fun _ _ _ h => h) (by rfl) hHeld ?hy161 ?rs161
  case hy161 => (intro w hSw; (try dsimp only at hSw); go_simp) <;> (try with_reducible rfl)
  (try simp only [Act.put, List.setIfInBounds_toArray, List.set_cons_zero, List.set_cons_succ])
  refine take_run (d := (some 89)) (v := ?v162) 21 rfl rfl (by kernel_rfl) (by kernel_rfl) (by kernel_rfl) (fun _ _ _ h => h) (by rfl) hHeld ?hy162 ?rs162
  case hy162 => (intro w hSw; (try dsimp only at hSw); go_simp) <;> (try with_reducible rfl)
  (try simp only [Act.put, List.setIfInBounds_toArray, List.set_cons_zero, List.set_cons_succ])
  refine take_run (d := (some 90)) (v := ?v163) 22 rfl rfl (by kernel_rfl) (by kernel_rfl) (by kernel_rfl) (fun _ _ _ h => h) (by rfl) hHeld ?hy163 ?rs163
  case hy163 => (intro w hSw; (try dsimp only at hSw); go_simp) <;> (try with_reducible rfl)
  (try simp only [Act.put, List.setIfInBounds_toArray, List.set_cons_zero, List.set_cons_succ])
  refine take_run (d := (some 91)) (v := ?v164) 23 rfl rfl (by kernel_rfl) (by kernel_rfl) (by kernel_rfl) (fun _ _ _ h => h) (by rfl) hHeld ?hy164 ?rs164
  case hy164 => (intro w hSw; (try dsimp only at hSw); go_simp) <;> (try with_reducible rfl)
  (try simp only [Act.put, List.setIfInBounds_toArray, List.set_cons_zero, List.set_cons_succ])
  refine take_run (d := (some 92)) (v := ?v165) 24 rfl rfl (by kernel_rfl) (by kernel_rfl) (by kernel_rfl) (fun _ _ _ h => h) (by rfl) hHeld ?hy165 ?rs165
  case hy165 => (intro w hSw; (try dsimp only at hSw); go_simp) <;> (try with_reducible rfl)
  (try simp only [Act.put, List.setIfInBounds_toArray, List.set_cons_zero, List.set_cons_succ])
  refine take_run (d := (some 93)) (v := ?v166) 25 rfl rfl (by kernel_rfl) (by kernel_rfl) (by kernel_rfl) (fun _ _ _ h => h) (by rfl) hHeld ?hy166 ?rs166
  case hy166 => (intro w hSw; (try dsimp only at hSw); go_simp) <;> (try with_reducible rfl)
  (try simp only [Act.put, List.setIfInBounds_toArray, List.set_cons_zero, List.set_cons_succ])
  refine take_run (d := (some 94)) (v := ?v167) 26 rfl rfl (by kernel_rfl) (by kernel_rfl) (by kernel_rfl) (fun _ _ _ h => h) (by rfl) hHeld ?hy167 ?rs167
  case hy167 => (intro w hSw; (try dsimp only at hSw); go_simp) <;> (try with_reducible rfl)
  (try simp only [Act.put, List.setIfInBounds_toArray, List.set_cons_zero, List.set_cons_succ])
  refine take_run (d := (some 96)) (v := ?v168) 28 rfl rfl (by kernel_rfl) (by kernel_rfl) (by kernel_rfl) (fun _ _ _ h => h) (by rfl) hHeld ?hy168 ?rs168
  case hy168 => (intro w hSw; (try dsimp only at hSw); go_simp) <;> (try with_reducible rfl)
  (try simp only [Act.put, List.setIfInBounds_toArray, List.set_cons_zero, List.set_cons_succ])
  refine take_run (d := (some 97)) (v := ?v169) 29 rfl rfl (by kernel_rfl) (by kernel_rfl) (by kernel_rfl) (fun _ _ _ h => h) (by rfl) hHeld ?hy169 ?rs169
  case hy169 => (intro w hSw; (try dsimp only at hSw); go_simp) <;> (try with_reducible rfl)
  (try simp only [Act.put, List.setIfInBounds_toArray, List.set_cons_zero, List.set_cons_succ])
  refine take_call 27 rfl (by kernel_rfl) (by rfl) (fun K hK => ?_)
  go_simp
  refine (AC.out _).mono ?_
  rintro e w' ⟨rfl, hb⟩
  refine hK.out _ _ (by obtain ⟨h0, h1, h2, h3, h4, h5, h6, h7, h8, h9, h10, h11, h12, h13, hw⟩ := hHeld; exact ⟨cell_keep h0 hb, cell_keep h1 hb, cell_keep h2 hb, cell_keep h3 hb, cell_keep h4 hb, cell_keep h5 hb, cell_keep h6 hb, cell_keep h7 hb, cell_keep h8 hb, cell_keep h9 hb, cell_keep h10 hb, cell_keep h11 hb, cell_keep h12 hb, cell_keep h13 hb, Lib.hid (blw_trans hw.out hb)⟩) (fun hHeld => ?_)
  clear hK K
  (try simp only [Act.put, List.setIfInBounds_toArray, List.set_cons_zero, List.set_cons_succ])
  refine take_call 30 rfl (by kernel_rfl) (by rfl) (fun K hK => ?_)
  go_simp
  refine (XW.out _).mono ?_
  rintro e w' ⟨rfl, hb⟩
  refine hK.out _ _ (by obtain ⟨h0, h1, h2, h3, h4, h5, h6, h7, h8, h9, h10, h11, h12, h13, hw⟩ := hHeld; exact ⟨cell_keep h0 hb, cell_keep h1 hb, cell_keep h2 hb, cell_keep h3 hb, cell_keep h4 hb, cell_keep h5 hb, cell_keep h6 hb, cell_keep h7 hb, cell_keep h8 hb, cell_keep h9 hb, cell_keep h10 hb, cell_keep h11 hb, cell_keep h12 hb, cell_keep h13 hb, Lib.hid (blw_trans hw.out hb)⟩) (fun hHeld => ?_)
  clear hK K
  (try simp only [Act.put, List.setIfInBounds_toArray, List.set_cons_zero, List.set_cons_succ])
  refine take_run (d := (some 99)) (v := ?v172) 31 rfl rfl (by kernel_rfl) (by kernel_rfl) (by kernel_rfl) (fun _ _ _ h => h) (by rfl) hHeld ?hy172 ?rs172
  case hy172 => (intro w hSw; (try dsimp only at hSw); go_simp) <;> (try with_reducible rfl)
  (try simp only [Act.put, List.setIfInBounds_toArray, List.set_cons_zero, List.set_cons_succ])
  refine take_run (d := (some 100)) (v := ?v173) 32 rfl rfl (by kernel_rfl) (by kernel_rfl) (by kernel_rfl) (fun _ _ _ h => h) (by rfl) hHeld ?hy173 ?rs173
  case hy173 => (intro w hSw; (try dsimp only at hSw); go_simp) <;> (try with_reducible rfl)
  (try simp only [Act.put, List.setIfInBounds_toArray, List.set_cons_zero, List.set_cons_succ])
  refine take_run (d := (some 101)) (v := ?v174) 33 rfl rfl (by kernel_rfl) (by kernel_rfl) (by kernel_rfl) (fun _ _ _ h => h) (by rfl) hHeld ?hy174 ?rs174
  case hy174 => (intro w hSw; (try dsimp only at hSw); go_simp) <;> (try with_reducible rfl)
  (try simp only [Act.put, List.setIfInBounds_toArray, List.set_cons_zero, List.set_cons_succ])
  refine take_run (d := (some 6)) (v := ?v175) 34 rfl rfl (by kernel_rfl) (by kernel_rfl) (by kernel_rfl) (fun _ _ _ h => h) (by rfl) hHeld ?hy175 ?rs175
  case hy175 => (intro w hSw; (try dsimp only at hSw); go_simp) <;> (try with_reducible rfl)
  (try simp only [Act.put, List.setIfInBounds_toArray, List.set_cons_zero, List.set_cons_succ])
  refine wpAnyH_done (by kernel_rfl) ?_ _
  obtain ⟨z0, z1, z2, z3, z4, z5, z6, z7, z8, z9, z10, z11, z12, z13, zW⟩ := hHeld
  go_wp2
  go_ret
  exact ⟨ret_bool (by simp), zW.out⟩

set_option maxRecDepth 100000 in
set_option maxHeartbeats 4000000 in
theorem adds_f_e (a s b t c r : Int) (w : World) (h : addOk a s b t) (hk : ¬ addOk (Dcm.addC a s b t) (Dcm.addS s t) (-b) t) (hw : ¬ addOk c r b t) :
    Calls Try.prog 8 #[.agg #[.int .i64 a, .int .i64 s], .agg #[.int .i64 b, .int .i64 t], .agg #[.int .i64 c, .int .i64 r]] w fun e w' => e = .returned (.bool true) ∧ Below w.heap.size w w' := by
  have C1 := Lib.hid fun w => add_yes a s b t w h
  have c2 := fun w => add_yes b t a s w (addOk_comm h)
  rw [Dcm.addC_comm b t a s, Dcm.addS_comm t s] at c2
  have C2 := Lib.hid c2
  have az := add_zero_ok h.1
  have c3 := fun w => add_yes a s 0 0 w az.1
  rw [az.2.1, az.2.2] at c3
  have C3 := Lib.hid c3
  have nx := addOk_nrm h
  have ox := addOk_okD h
  have C4 := Lib.hid fun w => add_no (Dcm.addC a s b t) (Dcm.addS s t) (-b) t w hk
  have C5 := Lib.hid fun w => add_no c r b t w hw
  obtain ⟨oa, ob, _, _⟩ := h
  obtain ⟨b0, b1⟩ := ob.2.2
  generalize Dcm.addC a s b t = X at *
  generalize Dcm.addS s t = S at *
  clear c2 az c3 nx ox oa ob hk hw
  go_enter Try.func8, Try.ntmps8
  go_wp2_with fail
  refine (half_any _).mono ?_
  rintro e w1 ⟨rfl, hb⟩
  have B1_a := Boxed.below (Boxed.alloc (Boxed.alloc (Boxed.made _ #[.int .i64 a, .int .i64 s] 30) _) _) hb
  have B1_b := Boxed.below (Boxed.alloc (Boxed.made _ #[.int .i64 b, .int .i64 t] 30) _) hb
  have B1_c := Boxed.below (Boxed.made _ #[.int .i64 c, .int .i64 r] 30) hb
  have W1 := Lib.hid (blw_trans (blw_trans (blw_trans (blw_trans (Below.refl w.heap.size w) (blw_alloc _ _)) (blw_alloc _ _)) (blw_alloc _ _)) hb)
  clear hb 
  have ka0 := B1_a.cell 0 _ rfl
  have ka1 := B1_a.cell 1 _ rfl
  have kal := B1_a.lt
  try simp at ka0 ka1 kal
  have kb0 := B1_b.cell 0 _ rfl
  have kb1 := B1_b.cell 1 _ rfl
  have kbl := B1_b.lt
  try simp at kb0 kb1 kbl
  have kc0 := B1_c.cell 0 _ rfl
  have kc1 := B1_c.cell 1 _ rfl
  have kcl := B1_c.lt
  try simp at kc0 kc1 kcl
  go_wp2_with fail
  refine (C1.out _).mono ?_
  rintro e w2 ⟨rfl, hb⟩
  clear ka0 ka1 kal kb0 kb1 kbl kc0 kc1 kcl
  have B2_a := B1_a.below hb
  have B2_b := B1_b.below hb
  have B2_c := B1_c.below hb
  have W2 := Lib.hid (blw_trans W1.out hb)
  clear hb B1_a B1_b B1_c W1
  have ka0 := B2_a.cell 0 _ rfl
  have ka1 := B2_a.cell 1 _ rfl
  have kal := B2_a.lt
  try simp at ka0 ka1 kal
  have kb0 := B2_b.cell 0 _ rfl
  have kb1 := B2_b.cell 1 _ rfl
  have kbl := B2_b.lt
  try simp at kb0 kb1 kbl
  have kc0 := B2_c.cell 0 _ rfl
  have kc1 := B2_c.cell 1 _ rfl
  have kcl := B2_c.lt
  try simp at kc0 kc1 kcl
  go_wp2_with fail
  refine (C2.out _).mono ?_
  rintro e w3 ⟨rfl, hb⟩
  clear ka0 ka1 kal kb0 kb1 kbl kc0 kc1 kcl
  have B3_a := (B2_a.alloc _).below hb
  have B3_b := (B2_b.alloc _).below hb
  have B3_c := (B2_c.alloc _).below hb
  have B3_x := Boxed.below (Boxed.made _ #[.int .i64 X, .int .i64 S] 30) hb
  have W3 := Lib.hid (blw_trans (blw_trans W2.out (blw_alloc _ _)) hb)
  clear hb B2_a B2_b B2_c W2
  have ka0 := B3_a.cell 0 _ rfl
  have ka1 := B3_a.cell 1 _ rfl
  have kal := B3_a.lt
  try simp at ka0 ka1 kal
  have kb0 := B3_b.cell 0 _ rfl
  have kb1 := B3_b.cell 1 _ rfl
  have kbl := B3_b.lt
  try simp at kb0 kb1 kbl
  have kc0 := B3_c.cell 0 _ rfl
  have kc1 := B3_c.cell 1 _ rfl
  have kcl := B3_c.lt
  try simp at kc0 kc1 kcl
  have kx0 := B3_x.cell 0 _ rfl
  have kx1 := B3_x.cell 1 _ rfl
  have kxl := B3_x.lt
  try simp at kx0 kx1 kxl
  go_wp2_with fail
  refine (C3.out _).mono ?_
  rintro e w4 ⟨rfl, hb⟩
  clear ka0 ka1 kal kb0 kb1 kbl kc0 kc1 kcl kx0 kx1 kxl
  have B4_a := (B3_a.alloc _).below hb
  have B4_b := (B3_b.alloc _).below hb
  have B4_c := (B3_c.alloc _).below hb
  have B4_x := (B3_x.alloc _).below hb
  have B4_y := Boxed.below (Boxed.made _ #[.int .i64 X, .int .i64 S] 30) hb
  have W4 := Lib.hid (blw_trans (blw_trans W3.out (blw_alloc _ _)) hb)
  clear hb B3_a B3_b B3_c B3_x W3
  have ka0 := B4_a.cell 0 _ rfl
  have ka1 := B4_a.cell 1 _ rfl
  have kal := B4_a.lt
  try simp at ka0 ka1 kal
  have kb0 := B4_b.cell 0 _ rfl
  have kb1 := B4_b.cell 1 _ rfl
  have kbl := B4_b.lt
  try simp at kb0 kb1 kbl
  have kc0 := B4_c.cell 0 _ rfl
  have kc1 := B4_c.cell 1 _ rfl
  have kcl := B4_c.lt
  try simp at kc0 kc1 kcl
  have kx0 := B4_x.cell 0 _ rfl
  have kx1 := B4_x.cell 1 _ rfl
  have kxl := B4_x.lt
  try simp at kx0 kx1 kxl
  have ky0 := B4_y.cell 0 _ rfl
  have ky1 := B4_y.cell 1 _ rfl
  have kyl := B4_y.lt
  try simp at ky0 ky1 kyl
  go_wp2_with fail
  refine (C4.out _).mono ?_
  rintro e w5 ⟨rfl, hb⟩
  clear ka0 ka1 kal kb0 kb1 kbl kc0 kc1 kcl kx0 kx1 kxl ky0 ky1 kyl
  have B5_a := (B4_a.alloc _).below hb
  have B5_b := (B4_b.alloc _).below hb
  have B5_c := (B4_c.alloc _).below hb
  have B5_x := (B4_x.alloc _).below hb
  have B5_y := (B4_y.alloc _).below hb
  have B5_z := Boxed.below (Boxed.made _ #[.int .i64 a, .int .i64 s] 30) hb
  have W5 := Lib.hid (blw_trans (blw_trans W4.out (blw_alloc _ _)) hb)
  clear hb B4_a B4_b B4_c B4_x B4_y W4
  have ka0 := B5_a.cell 0 _ rfl
  have ka1 := B5_a.cell 1 _ rfl
  have kal := B5_a.lt
  try simp at ka0 ka1 kal
  have kb0 := B5_b.cell 0 _ rfl
  have kb1 := B5_b.cell 1 _ rfl
  have kbl := B5_b.lt
  try simp at kb0 kb1 kbl
  have kc0 := B5_c.cell 0 _ rfl
  have kc1 := B5_c.cell 1 _ rfl
  have kcl := B5_c.lt
  try simp at kc0 kc1 kcl
  have kx0 := B5_x.cell 0 _ rfl
  have kx1 := B5_x.cell 1 _ rfl
  have kxl := B5_x.lt
  try simp at kx0 kx1 kxl
  have ky0 := B5_y.cell 0 _ rfl
  have ky1 := B5_y.cell 1 _ rfl
  have kyl := B5_y.lt
  try simp at ky0 ky1 kyl
  have kz0 := B5_z.cell 0 _ rfl
  have kz1 := B5_z.cell 1 _ rfl
  have kzl := B5_z.lt
  try simp at kz0 kz1 kzl
  go_wp2_with fail
  refine (C5.out _).mono ?_
  rintro e w6 ⟨rfl, hb⟩
  clear ka0 ka1 kal kb0 kb1 kbl kc0 kc1 kcl kx0 kx1 kxl ky0 ky1 kyl kz0 kz1 kzl
  have B6_a := (B5_a.alloc _).below hb
  have B6_b := (B5_b.alloc _).below hb
  have B6_c := (B5_c.alloc _).below hb
  have B6_x := (B5_x.alloc _).below hb
  have B6_y := (B5_y.alloc _).below hb
  have B6_z := (B5_z.alloc _).below hb
  have B6_k := Boxed.below (Boxed.made _ #[.int .i64 0, .int .i64 0] 30) hb
  have W6 := Lib.hid (blw_trans (blw_trans W5.out (blw_alloc _ _)) hb)
  clear hb B5_a B5_b B5_c B5_x B5_y B5_z W5
  have ka0 := B6_a.cell 0 _ rfl
  have ka1 := B6_a.cell 1 _ rfl
  have kal := B6_a.lt
  try simp at ka0 ka1 kal
  have kb0 := B6_b.cell 0 _ rfl
  have kb1 := B6_b.cell 1 _ rfl
  have kbl := B6_b.lt
  try simp at kb0 kb1 kbl
  have kc0 := B6_c.cell 0 _ rfl
  have kc1 := B6_c.cell 1 _ rfl
  have kcl := B6_c.lt
  try simp at kc0 kc1 kcl
  have kx0 := B6_x.cell 0 _ rfl
  have kx1 := B6_x.cell 1 _ rfl
  have kxl := B6_x.lt
  try simp at kx0 kx1 kxl
  have ky0 := B6_y.cell 0 _ rfl
  have ky1 := B6_y.cell 1 _ rfl
  have kyl := B6_y.lt
  try simp at ky0 ky1 kyl
  have kz0 := B6_z.cell 0 _ rfl
  have kz1 := B6_z.cell 1 _ rfl
  have kzl := B6_z.lt
  try simp at kz0 kz1 kzl
  have kk0 := B6_k.cell 0 _ rfl
  have kk1 := B6_k.cell 1 _ rfl
  have kkl := B6_k.lt
  try simp at kk0 kk1 kkl
  go_wp2_with fail
  have HW := Lib.hid (show Below w.heap.size w (w6.alloc (.cells #[.int .i64 0, .int .i64 0] 30)) from (blw_trans W6.out (blw_alloc _ _)))
  go_big_quiet (fail)
  go_wp2
  go_ret
  exact ⟨ret_bool (by simp), blw_drewN HW.out _⟩

theorem decAdds_any (a s b t c r : Int) (w : World) :
    Calls Try.prog 8 #[.agg #[.int .i64 a, .int .i64 s], .agg #[.int .i64 b, .int .i64 t], .agg #[.int .i64 c, .int .i64 r]] w fun e w' => e = .returned (.bool true) ∧ Below w.heap.size w w' := by
  by_cases h : addOk a s b t
  · by_cases hk : addOk (Dcm.addC a s b t) (Dcm.addS s t) (-b) t
    · by_cases hw : addOk c r b t
      · by_cases hl : nrm a s < nrm c r
        · exact adds_b_y a s b t c r w h hk hw hl
        · exact adds_b_n a s b t c r w h hk hw hl
      · exact adds_b_e a s b t c r w h hk hw
    · by_cases hw : addOk c r b t
      · by_cases hl : nrm a s < nrm c r
        · exact adds_f_y a s b t c r w h hk hw hl
        · exact adds_f_n a s b t c r w h hk hw hl
      · exact adds_f_e a s b t c r w h hk hw
  · exact adds_err a s b t c r w h
end Go.Proofs.Ytdannkcacldhmaa
