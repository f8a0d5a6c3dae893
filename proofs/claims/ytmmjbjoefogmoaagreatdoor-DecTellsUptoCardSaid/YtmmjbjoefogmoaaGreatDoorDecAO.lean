/- The walk of linguisterref1.AddOf: the sum of two numbers. No conditions but the arguments' own. -/
import Derived.Test.YtmmjbjoefogmoaaGreatDoorDecOrd
namespace Go.Proofs.YtmmjbjoefogmoaaGreatDoor
open Go.RowKit
open Dcm (P10 okD nrm mag flo lef)

set_option maxRecDepth 100000 in
set_option maxHeartbeats 2000000 in
theorem aof_far (a s b t : Int) (w : World) (ha : okD a s) (hb' : okD b t) (hf : 1000000000000000 / P10 (Dcm.addS s t) + 2 < mag (flo a s + flo b t)) :
    Calls Tryz.prog 22 #[.agg #[.int .i64 a, .int .i64 s], .agg #[.int .i64 b, .int .i64 t]] w fun e w' => e = .returned (.tuple #[.agg #[.int .i64 0, .int .i64 0], .bool false]) ∧ Below w.heap.size w w' := by
  have CA := Lib.hid fun w => floor_any a s w ha
  have CB := Lib.hid fun w => floor_any b t w hb'
  have fa := Dcm.flo_bd a s ⟨ha.2.2.1, ha.2.2.2⟩
  have fb := Dcm.flo_bd b t ⟨hb'.2.2.1, hb'.2.2.2⟩
  have ea := Dcm.flo_lef a s
  have eb := Dcm.flo_lef b t
  have aF := Dcm.addC_F a s b t ha hb'
  have xa := Dcm.lef_bd a s
  have xb := Dcm.lef_bd b t
  have ua := Dcm.P10_bd s
  have ub := Dcm.P10_bd t
  have uS := Dcm.P10_bd (Dcm.addS s t)
  have mb := Dcm.mag_bd (flo a s + flo b t)
  have hS : s ≤ Dcm.addS s t ∧ t ≤ Dcm.addS s t ∧ Dcm.addS s t ≤ 9 := by have := ha.2.1; have := hb'.2.1; unfold Dcm.addS; split <;> omega
  have hmx : max s t = Dcm.addS s t := by unfold Dcm.addS; split <;> omega
  have qb : 0 ≤ 1000000000000000 / P10 (Dcm.addS s t) := Int.ediv_nonneg (by omega) (by omega)
  have qb1 : 1000000000000000 / P10 (Dcm.addS s t) ≤ 1000000000000000 := Int.ediv_le_self _ (by omega)
  obtain ⟨s0, s9, a0, a1⟩ := ha
  obtain ⟨t0, t9, b0, b1⟩ := hb'
  obtain ⟨aF1, aF2, aF3, aF4, aF5⟩ := aF
  generalize Dcm.addC a s b t = V at *
  generalize Dcm.addS s t = S at *
  generalize flo a s = X at *
  generalize flo b t = Y at *
  generalize lef a s = p at *
  generalize lef b t = q at *
  have ha1 : a - X * P10 s = p := by omega
  have hb1 : b - Y * P10 t = q := by omega
  have w1 : IntKind.i64.wrap (X * P10 s) = X * P10 s := IntWalk.i64_in _ (by omega)
  have w2 : IntKind.i64.wrap (a - X * P10 s) = p := by rw [IntWalk.i64_in _ (by omega)]; exact ha1
  have w3 : IntKind.i64.wrap (p * P10 (S - s)) = p * P10 (S - s) := IntWalk.i64_in _ (by omega)
  have w4 : IntKind.i64.wrap (Y * P10 t) = Y * P10 t := IntWalk.i64_in _ (by omega)
  have w5 : IntKind.i64.wrap (b - Y * P10 t) = q := by rw [IntWalk.i64_in _ (by omega)]; exact hb1
  have w6 : IntKind.i64.wrap (q * P10 (S - t)) = q * P10 (S - t) := IntWalk.i64_in _ (by omega)
  have w7 : IntKind.i64.wrap (S - s) = S - s := IntWalk.i64_in _ (by omega)
  have w8 : IntKind.i64.wrap (S - t) = S - t := IntWalk.i64_in _ (by omega)
  have w9 : IntKind.i64.wrap (X + Y) = X + Y := IntWalk.i64_in _ (by omega)
  have wa : IntKind.i64.wrap (1000000000000000 / P10 S + 2) = 1000000000000000 / P10 S + 2 := IntWalk.i64_in _ (by omega)
  have HA := Lib.hid (And.intro w1 (And.intro w2 (And.intro w3 w7)))
  have HB := Lib.hid (And.intro w4 (And.intro w5 (And.intro w6 w8)))
  have HC := Lib.hid (And.intro w9 wa)
  have d1 : decide (1000000000000000 / P10 S + 2 < mag (X + Y)) = true := dec_yes hf
  have HM := Lib.hid hmx
  clear w1 w2 w3 w4 w5 w6 w7 w8 w9 wa ha1 hb1 ea eb aF1 hf hmx
  go_enter Tryz.func22, Tryz.ntmps22
  have hmx := HM.out
  go_wp2_with fail
  clear hmx
  refine (ten_any _ _ (by omega) (by omega)).mono ?_
  rintro e w' ⟨rfl, rfl⟩
  go_wp2_with fail
  refine (CA.out _).mono ?_
  rintro e w1 ⟨rfl, hb⟩
  have B1_a := Boxed.below (Boxed.alloc (Boxed.alloc (Boxed.made _ #[.int .i64 a, .int .i64 s] 23) _) _) hb
  have B1_b := Boxed.below (Boxed.alloc (Boxed.made _ #[.int .i64 b, .int .i64 t] 23) _) hb
  have B1_z := Boxed.below (Boxed.made _ #[.int .i64 0, .int .i64 0] 23) hb
  have W1 := Lib.hid (blw_trans (blw_trans (blw_trans (blw_trans (Below.refl w.heap.size w) (blw_alloc _ _)) (blw_alloc _ _)) (blw_alloc _ _)) hb)
  clear hb 
  have ka0 := B1_a.cell 0 _ rfl
  have ka1 := B1_a.cell 1 _ rfl
  have kal := B1_a.lt
  try simp at ka0 ka1 kal
  have kb0 := B1_b.cell 0 _ rfl
  have kb1 := B1_b.cell 1 _ rfl
  have kbl := B1_b.lt
  try simp at kb0 kb1 kbl
  have kz0 := B1_z.cell 0 _ rfl
  have kz1 := B1_z.cell 1 _ rfl
  have kzl := B1_z.lt
  try simp at kz0 kz1 kzl
  go_wp2_with fail
  refine (CB.out _).mono ?_
  rintro e w2 ⟨rfl, hb⟩
  clear ka0 ka1 kal kb0 kb1 kbl kz0 kz1 kzl
  have B2_a := B1_a.below hb
  have B2_b := B1_b.below hb
  have B2_z := B1_z.below hb
  have W2 := Lib.hid (blw_trans W1.out hb)
  clear hb B1_a B1_b B1_z W1
  have ka0 := B2_a.cell 0 _ rfl
  have ka1 := B2_a.cell 1 _ rfl
  have kal := B2_a.lt
  try simp at ka0 ka1 kal
  have kb0 := B2_b.cell 0 _ rfl
  have kb1 := B2_b.cell 1 _ rfl
  have kbl := B2_b.lt
  try simp at kb0 kb1 kbl
  have kz0 := B2_z.cell 0 _ rfl
  have kz1 := B2_z.cell 1 _ rfl
  have kzl := B2_z.lt
  try simp at kz0 kz1 kzl
  have zf0 := B2_z.free 0 (by simp)
  have zf1 := B2_z.free 1 (by simp)
  try simp at zf0 zf1
  go_wp2_with fail
  obtain ⟨w1', w2', w3', w4'⟩ := HA.out
  go_big_quiet ((go_at_call 51; exact quiet_left (ten_any _ _ (by omega) (by omega))))
  rename Nat => nq1
  clear w1' w2' w3' w4'
  have WD1 := Lib.hid (blw_drewN W2.out nq1)
  have yb0 : (w2.drewN nq1).cell? ⟨w.heap.size + 1, 0, none⟩ = some (.int .i64 b) := by first | (simpa using kb0) | (simpa using yb0)
  have yb1 : (w2.drewN nq1).cell? ⟨w.heap.size + 1, 1, none⟩ = some (.int .i64 t) := by first | (simpa using kb1) | (simpa using yb1)
  have yz0 : (w2.drewN nq1).cell? ⟨w.heap.size + 2, 0, none⟩ = some (.int .i64 0) := by first | (simpa using kz0) | (simpa using yz0)
  have yz1 : (w2.drewN nq1).cell? ⟨w.heap.size + 2, 1, none⟩ = some (.int .i64 0) := by first | (simpa using kz1) | (simpa using yz1)
  have zg0 : (w2.drewN nq1).frozen? ⟨w.heap.size + 2, 0, none⟩ = false := by first | (simpa using zf0) | (simpa using zg0)
  have zg1 : (w2.drewN nq1).frozen? ⟨w.heap.size + 2, 1, none⟩ = false := by first | (simpa using zf1) | (simpa using zg1)
  have ylz : w.heap.size + 2 < (w2.drewN nq1).heap.size := by simpa using kzl
  clear ka0 ka1 kal kb0 kb1 kbl kz0 kz1 kzl W2 zf0 zf1 B2_a B2_b B2_z
  generalize w2.drewN nq1 = w3 at *
  go_wp2_with fail
  obtain ⟨w1', w2', w3', w4'⟩ := HB.out
  go_big_quiet ((go_at_call 51; exact quiet_left (ten_any _ _ (by omega) (by omega))))
  rename Nat => nq2
  clear w1' w2' w3' w4'
  have WD2 := Lib.hid (blw_drewN WD1.out nq2)
  have qyz0 : (w3.drewN nq2).cell? ⟨w.heap.size + 2, 0, none⟩ = some (.int .i64 0) := by simpa using yz0
  have qyz1 : (w3.drewN nq2).cell? ⟨w.heap.size + 2, 1, none⟩ = some (.int .i64 0) := by simpa using yz1
  have qzg0 : (w3.drewN nq2).frozen? ⟨w.heap.size + 2, 0, none⟩ = false := by simpa using zg0
  have qzg1 : (w3.drewN nq2).frozen? ⟨w.heap.size + 2, 1, none⟩ = false := by simpa using zg1
  have qlz : w.heap.size + 2 < (w3.drewN nq2).heap.size := by simpa using ylz
  clear WD1 yb0 yb1 yz0 yz1 zg0 zg1 ylz
  generalize w3.drewN nq2 = w4 at *
  go_wp2_with fail
  obtain ⟨w1', w2'⟩ := HC.out
  go_big_quiet ((go_at_call 60; exact quiet_left (size_any _ _ (by omega) (by omega))))
  clear w1' w2'
  go_wp2_with fail
  refine bodyPost_ret (v := .tuple #[.agg #[.int .i64 0, .int .i64 0], .bool false]) (by simp [results, Tryz.results22, go_sem, qyz0, qyz1]) rfl ⟨rfl, ?_⟩
  repeat (first | exact WD2.out | refine blw_drewN ?_ _ | refine Below.setCell ?_ (by simp; omega) _)

set_option maxRecDepth 100000 in
set_option maxHeartbeats 2000000 in
theorem aof_no (a s b t : Int) (w : World) (ha : okD a s) (hb' : okD b t) (hf : ¬ 1000000000000000 / P10 (Dcm.addS s t) + 2 < mag (flo a s + flo b t)) (hn : 1000000000000000 < mag (Dcm.addC a s b t)) :
    Calls Tryz.prog 22 #[.agg #[.int .i64 a, .int .i64 s], .agg #[.int .i64 b, .int .i64 t]] w fun e w' => e = .returned (.tuple #[.agg #[.int .i64 0, .int .i64 0], .bool false]) ∧ Below w.heap.size w w' := by
  have CA := Lib.hid fun w => floor_any a s w ha
  have CB := Lib.hid fun w => floor_any b t w hb'
  have fa := Dcm.flo_bd a s ⟨ha.2.2.1, ha.2.2.2⟩
  have fb := Dcm.flo_bd b t ⟨hb'.2.2.1, hb'.2.2.2⟩
  have ea := Dcm.flo_lef a s
  have eb := Dcm.flo_lef b t
  have aF := Dcm.addC_F a s b t ha hb'
  have xa := Dcm.lef_bd a s
  have xb := Dcm.lef_bd b t
  have ua := Dcm.P10_bd s
  have ub := Dcm.P10_bd t
  have uS := Dcm.P10_bd (Dcm.addS s t)
  have mb := Dcm.mag_bd (flo a s + flo b t)
  have hS : s ≤ Dcm.addS s t ∧ t ≤ Dcm.addS s t ∧ Dcm.addS s t ≤ 9 := by have := ha.2.1; have := hb'.2.1; unfold Dcm.addS; split <;> omega
  have hmx : max s t = Dcm.addS s t := by unfold Dcm.addS; split <;> omega
  have qb : 0 ≤ 1000000000000000 / P10 (Dcm.addS s t) := Int.ediv_nonneg (by omega) (by omega)
  have qb1 : 1000000000000000 / P10 (Dcm.addS s t) ≤ 1000000000000000 := Int.ediv_le_self _ (by omega)
  have nr := Dcm.add_near (flo a s) (flo b t) (P10 (Dcm.addS s t)) uS.1 uS.2 hf
  obtain ⟨s0, s9, a0, a1⟩ := ha
  obtain ⟨t0, t9, b0, b1⟩ := hb'
  obtain ⟨aF1, aF2, aF3, aF4, aF5⟩ := aF
  generalize Dcm.addC a s b t = V at *
  generalize Dcm.addS s t = S at *
  generalize flo a s = X at *
  generalize flo b t = Y at *
  generalize lef a s = p at *
  generalize lef b t = q at *
  have ha1 : a - X * P10 s = p := by omega
  have hb1 : b - Y * P10 t = q := by omega
  have w1 : IntKind.i64.wrap (X * P10 s) = X * P10 s := IntWalk.i64_in _ (by omega)
  have w2 : IntKind.i64.wrap (a - X * P10 s) = p := by rw [IntWalk.i64_in _ (by omega)]; exact ha1
  have w3 : IntKind.i64.wrap (p * P10 (S - s)) = p * P10 (S - s) := IntWalk.i64_in _ (by omega)
  have w4 : IntKind.i64.wrap (Y * P10 t) = Y * P10 t := IntWalk.i64_in _ (by omega)
  have w5 : IntKind.i64.wrap (b - Y * P10 t) = q := by rw [IntWalk.i64_in _ (by omega)]; exact hb1
  have w6 : IntKind.i64.wrap (q * P10 (S - t)) = q * P10 (S - t) := IntWalk.i64_in _ (by omega)
  have w7 : IntKind.i64.wrap (S - s) = S - s := IntWalk.i64_in _ (by omega)
  have w8 : IntKind.i64.wrap (S - t) = S - t := IntWalk.i64_in _ (by omega)
  have w9 : IntKind.i64.wrap (X + Y) = X + Y := IntWalk.i64_in _ (by omega)
  have wa : IntKind.i64.wrap (1000000000000000 / P10 S + 2) = 1000000000000000 / P10 S + 2 := IntWalk.i64_in _ (by omega)
  have HA := Lib.hid (And.intro w1 (And.intro w2 (And.intro w3 w7)))
  have HB := Lib.hid (And.intro w4 (And.intro w5 (And.intro w6 w8)))
  have HC := Lib.hid (And.intro w9 wa)
  have d1 : decide (1000000000000000 / P10 S + 2 < mag (X + Y)) = false := dec_no hf
  obtain ⟨n0, n1, n2, n3⟩ := nr
  have HV := Lib.hid aF1
  have d2 : decide (1000000000000000 < mag V) = true := dec_yes hn
  have vb : -1000006000000000 ≤ V ∧ V ≤ 1000006000000000 := by omega
  obtain ⟨v0, v1⟩ := vb
  have HM := Lib.hid hmx
  clear w1 w2 w3 w4 w5 w6 w7 w8 w9 wa ha1 hb1 ea eb aF1 hf hmx hn
  go_enter Tryz.func22, Tryz.ntmps22
  have hmx := HM.out
  go_wp2_with fail
  clear hmx
  refine (ten_any _ _ (by omega) (by omega)).mono ?_
  rintro e w' ⟨rfl, rfl⟩
  go_wp2_with fail
  refine (CA.out _).mono ?_
  rintro e w1 ⟨rfl, hb⟩
  have B1_a := Boxed.below (Boxed.alloc (Boxed.alloc (Boxed.made _ #[.int .i64 a, .int .i64 s] 23) _) _) hb
  have B1_b := Boxed.below (Boxed.alloc (Boxed.made _ #[.int .i64 b, .int .i64 t] 23) _) hb
  have B1_z := Boxed.below (Boxed.made _ #[.int .i64 0, .int .i64 0] 23) hb
  have W1 := Lib.hid (blw_trans (blw_trans (blw_trans (blw_trans (Below.refl w.heap.size w) (blw_alloc _ _)) (blw_alloc _ _)) (blw_alloc _ _)) hb)
  clear hb 
  have ka0 := B1_a.cell 0 _ rfl
  have ka1 := B1_a.cell 1 _ rfl
  have kal := B1_a.lt
  try simp at ka0 ka1 kal
  have kb0 := B1_b.cell 0 _ rfl
  have kb1 := B1_b.cell 1 _ rfl
  have kbl := B1_b.lt
  try simp at kb0 kb1 kbl
  have kz0 := B1_z.cell 0 _ rfl
  have kz1 := B1_z.cell 1 _ rfl
  have kzl := B1_z.lt
  try simp at kz0 kz1 kzl
  go_wp2_with fail
  refine (CB.out _).mono ?_
  rintro e w2 ⟨rfl, hb⟩
  clear ka0 ka1 kal kb0 kb1 kbl kz0 kz1 kzl
  have B2_a := B1_a.below hb
  have B2_b := B1_b.below hb
  have B2_z := B1_z.below hb
  have W2 := Lib.hid (blw_trans W1.out hb)
  clear hb B1_a B1_b B1_z W1
  have ka0 := B2_a.cell 0 _ rfl
  have ka1 := B2_a.cell 1 _ rfl
  have kal := B2_a.lt
  try simp at ka0 ka1 kal
  have kb0 := B2_b.cell 0 _ rfl
  have kb1 := B2_b.cell 1 _ rfl
  have kbl := B2_b.lt
  try simp at kb0 kb1 kbl
  have kz0 := B2_z.cell 0 _ rfl
  have kz1 := B2_z.cell 1 _ rfl
  have kzl := B2_z.lt
  try simp at kz0 kz1 kzl
  have zf0 := B2_z.free 0 (by simp)
  have zf1 := B2_z.free 1 (by simp)
  try simp at zf0 zf1
  go_wp2_with fail
  obtain ⟨w1', w2', w3', w4'⟩ := HA.out
  go_big_quiet ((go_at_call 51; exact quiet_left (ten_any _ _ (by omega) (by omega))))
  rename Nat => nq1
  clear w1' w2' w3' w4'
  have WD1 := Lib.hid (blw_drewN W2.out nq1)
  have yb0 : (w2.drewN nq1).cell? ⟨w.heap.size + 1, 0, none⟩ = some (.int .i64 b) := by first | (simpa using kb0) | (simpa using yb0)
  have yb1 : (w2.drewN nq1).cell? ⟨w.heap.size + 1, 1, none⟩ = some (.int .i64 t) := by first | (simpa using kb1) | (simpa using yb1)
  have yz0 : (w2.drewN nq1).cell? ⟨w.heap.size + 2, 0, none⟩ = some (.int .i64 0) := by first | (simpa using kz0) | (simpa using yz0)
  have yz1 : (w2.drewN nq1).cell? ⟨w.heap.size + 2, 1, none⟩ = some (.int .i64 0) := by first | (simpa using kz1) | (simpa using yz1)
  have zg0 : (w2.drewN nq1).frozen? ⟨w.heap.size + 2, 0, none⟩ = false := by first | (simpa using zf0) | (simpa using zg0)
  have zg1 : (w2.drewN nq1).frozen? ⟨w.heap.size + 2, 1, none⟩ = false := by first | (simpa using zf1) | (simpa using zg1)
  have ylz : w.heap.size + 2 < (w2.drewN nq1).heap.size := by simpa using kzl
  clear ka0 ka1 kal kb0 kb1 kbl kz0 kz1 kzl W2 zf0 zf1 B2_a B2_b B2_z
  generalize w2.drewN nq1 = w3 at *
  go_wp2_with fail
  obtain ⟨w1', w2', w3', w4'⟩ := HB.out
  go_big_quiet ((go_at_call 51; exact quiet_left (ten_any _ _ (by omega) (by omega))))
  rename Nat => nq2
  clear w1' w2' w3' w4'
  have WD2 := Lib.hid (blw_drewN WD1.out nq2)
  have qyz0 : (w3.drewN nq2).cell? ⟨w.heap.size + 2, 0, none⟩ = some (.int .i64 0) := by simpa using yz0
  have qyz1 : (w3.drewN nq2).cell? ⟨w.heap.size + 2, 1, none⟩ = some (.int .i64 0) := by simpa using yz1
  have qzg0 : (w3.drewN nq2).frozen? ⟨w.heap.size + 2, 0, none⟩ = false := by simpa using zg0
  have qzg1 : (w3.drewN nq2).frozen? ⟨w.heap.size + 2, 1, none⟩ = false := by simpa using zg1
  have qlz : w.heap.size + 2 < (w3.drewN nq2).heap.size := by simpa using ylz
  clear WD1 yb0 yb1 yz0 yz1 zg0 zg1 ylz
  generalize w3.drewN nq2 = w4 at *
  go_wp2_with fail
  obtain ⟨w1', w2'⟩ := HC.out
  go_big_quiet ((go_at_call 60; exact quiet_left (size_any _ _ (by omega) (by omega))))
  clear w1' w2'
  have hv' := HV.out
  go_wp2_with (go_at_call 60; refine (size_any _ _ (by omega) (by omega)).mono ?_; rintro e w' ⟨rfl, rfl⟩)
  refine bodyPost_ret (v := .tuple #[.agg #[.int .i64 0, .int .i64 0], .bool false]) (by simp [results, Tryz.results22, go_sem, qyz0, qyz1]) rfl ⟨rfl, ?_⟩
  repeat (first | exact WD2.out | refine blw_drewN ?_ _ | refine Below.setCell ?_ (by simp; omega) _)

set_option maxRecDepth 100000 in
set_option maxHeartbeats 2000000 in
theorem aof_ok (a s b t : Int) (w : World) (ha : okD a s) (hb' : okD b t) (hf : ¬ 1000000000000000 / P10 (Dcm.addS s t) + 2 < mag (flo a s + flo b t)) (hn : ¬ 1000000000000000 < mag (Dcm.addC a s b t)) :
    Calls Tryz.prog 22 #[.agg #[.int .i64 a, .int .i64 s], .agg #[.int .i64 b, .int .i64 t]] w fun e w' => e = .returned (.tuple #[.agg #[.int .i64 (Dcm.addC a s b t), .int .i64 (Dcm.addS s t)], .bool true]) ∧ Below w.heap.size w w' := by
  have CA := Lib.hid fun w => floor_any a s w ha
  have CB := Lib.hid fun w => floor_any b t w hb'
  have fa := Dcm.flo_bd a s ⟨ha.2.2.1, ha.2.2.2⟩
  have fb := Dcm.flo_bd b t ⟨hb'.2.2.1, hb'.2.2.2⟩
  have ea := Dcm.flo_lef a s
  have eb := Dcm.flo_lef b t
  have aF := Dcm.addC_F a s b t ha hb'
  have xa := Dcm.lef_bd a s
  have xb := Dcm.lef_bd b t
  have ua := Dcm.P10_bd s
  have ub := Dcm.P10_bd t
  have uS := Dcm.P10_bd (Dcm.addS s t)
  have mb := Dcm.mag_bd (flo a s + flo b t)
  have hS : s ≤ Dcm.addS s t ∧ t ≤ Dcm.addS s t ∧ Dcm.addS s t ≤ 9 := by have := ha.2.1; have := hb'.2.1; unfold Dcm.addS; split <;> omega
  have hmx : max s t = Dcm.addS s t := by unfold Dcm.addS; split <;> omega
  have qb : 0 ≤ 1000000000000000 / P10 (Dcm.addS s t) := Int.ediv_nonneg (by omega) (by omega)
  have qb1 : 1000000000000000 / P10 (Dcm.addS s t) ≤ 1000000000000000 := Int.ediv_le_self _ (by omega)
  have nr := Dcm.add_near (flo a s) (flo b t) (P10 (Dcm.addS s t)) uS.1 uS.2 hf
  obtain ⟨s0, s9, a0, a1⟩ := ha
  obtain ⟨t0, t9, b0, b1⟩ := hb'
  obtain ⟨aF1, aF2, aF3, aF4, aF5⟩ := aF
  generalize Dcm.addC a s b t = V at *
  generalize Dcm.addS s t = S at *
  generalize flo a s = X at *
  generalize flo b t = Y at *
  generalize lef a s = p at *
  generalize lef b t = q at *
  have ha1 : a - X * P10 s = p := by omega
  have hb1 : b - Y * P10 t = q := by omega
  have w1 : IntKind.i64.wrap (X * P10 s) = X * P10 s := IntWalk.i64_in _ (by omega)
  have w2 : IntKind.i64.wrap (a - X * P10 s) = p := by rw [IntWalk.i64_in _ (by omega)]; exact ha1
  have w3 : IntKind.i64.wrap (p * P10 (S - s)) = p * P10 (S - s) := IntWalk.i64_in _ (by omega)
  have w4 : IntKind.i64.wrap (Y * P10 t) = Y * P10 t := IntWalk.i64_in _ (by omega)
  have w5 : IntKind.i64.wrap (b - Y * P10 t) = q := by rw [IntWalk.i64_in _ (by omega)]; exact hb1
  have w6 : IntKind.i64.wrap (q * P10 (S - t)) = q * P10 (S - t) := IntWalk.i64_in _ (by omega)
  have w7 : IntKind.i64.wrap (S - s) = S - s := IntWalk.i64_in _ (by omega)
  have w8 : IntKind.i64.wrap (S - t) = S - t := IntWalk.i64_in _ (by omega)
  have w9 : IntKind.i64.wrap (X + Y) = X + Y := IntWalk.i64_in _ (by omega)
  have wa : IntKind.i64.wrap (1000000000000000 / P10 S + 2) = 1000000000000000 / P10 S + 2 := IntWalk.i64_in _ (by omega)
  have HA := Lib.hid (And.intro w1 (And.intro w2 (And.intro w3 w7)))
  have HB := Lib.hid (And.intro w4 (And.intro w5 (And.intro w6 w8)))
  have HC := Lib.hid (And.intro w9 wa)
  have d1 : decide (1000000000000000 / P10 S + 2 < mag (X + Y)) = false := dec_no hf
  obtain ⟨n0, n1, n2, n3⟩ := nr
  have HV := Lib.hid aF1
  have d2 : decide (1000000000000000 < mag V) = false := dec_no hn
  have vb : -1000006000000000 ≤ V ∧ V ≤ 1000006000000000 := by omega
  obtain ⟨v0, v1⟩ := vb
  have HM := Lib.hid hmx
  clear w1 w2 w3 w4 w5 w6 w7 w8 w9 wa ha1 hb1 ea eb aF1 hf hmx hn
  go_enter Tryz.func22, Tryz.ntmps22
  have hmx := HM.out
  go_wp2_with fail
  clear hmx
  refine (ten_any _ _ (by omega) (by omega)).mono ?_
  rintro e w' ⟨rfl, rfl⟩
  go_wp2_with fail
  refine (CA.out _).mono ?_
  rintro e w1 ⟨rfl, hb⟩
  have B1_a := Boxed.below (Boxed.alloc (Boxed.alloc (Boxed.made _ #[.int .i64 a, .int .i64 s] 23) _) _) hb
  have B1_b := Boxed.below (Boxed.alloc (Boxed.made _ #[.int .i64 b, .int .i64 t] 23) _) hb
  have B1_z := Boxed.below (Boxed.made _ #[.int .i64 0, .int .i64 0] 23) hb
  have W1 := Lib.hid (blw_trans (blw_trans (blw_trans (blw_trans (Below.refl w.heap.size w) (blw_alloc _ _)) (blw_alloc _ _)) (blw_alloc _ _)) hb)
  clear hb 
  have ka0 := B1_a.cell 0 _ rfl
  have ka1 := B1_a.cell 1 _ rfl
  have kal := B1_a.lt
  try simp at ka0 ka1 kal
  have kb0 := B1_b.cell 0 _ rfl
  have kb1 := B1_b.cell 1 _ rfl
  have kbl := B1_b.lt
  try simp at kb0 kb1 kbl
  have kz0 := B1_z.cell 0 _ rfl
  have kz1 := B1_z.cell 1 _ rfl
  have kzl := B1_z.lt
  try simp at kz0 kz1 kzl
  go_wp2_with fail
  refine (CB.out _).mono ?_
  rintro e w2 ⟨rfl, hb⟩
  clear ka0 ka1 kal kb0 kb1 kbl kz0 kz1 kzl
  have B2_a := B1_a.below hb
  have B2_b := B1_b.below hb
  have B2_z := B1_z.below hb
  have W2 := Lib.hid (blw_trans W1.out hb)
  clear hb B1_a B1_b B1_z W1
  have ka0 := B2_a.cell 0 _ rfl
  have ka1 := B2_a.cell 1 _ rfl
  have kal := B2_a.lt
  try simp at ka0 ka1 kal
  have kb0 := B2_b.cell 0 _ rfl
  have kb1 := B2_b.cell 1 _ rfl
  have kbl := B2_b.lt
  try simp at kb0 kb1 kbl
  have kz0 := B2_z.cell 0 _ rfl
  have kz1 := B2_z.cell 1 _ rfl
  have kzl := B2_z.lt
  try simp at kz0 kz1 kzl
  have zf0 := B2_z.free 0 (by simp)
  have zf1 := B2_z.free 1 (by simp)
  try simp at zf0 zf1
  go_wp2_with fail
  obtain ⟨w1', w2', w3', w4'⟩ := HA.out
  go_big_quiet ((go_at_call 51; exact quiet_left (ten_any _ _ (by omega) (by omega))))
  rename Nat => nq1
  clear w1' w2' w3' w4'
  have WD1 := Lib.hid (blw_drewN W2.out nq1)
  have yb0 : (w2.drewN nq1).cell? ⟨w.heap.size + 1, 0, none⟩ = some (.int .i64 b) := by first | (simpa using kb0) | (simpa using yb0)
  have yb1 : (w2.drewN nq1).cell? ⟨w.heap.size + 1, 1, none⟩ = some (.int .i64 t) := by first | (simpa using kb1) | (simpa using yb1)
  have yz0 : (w2.drewN nq1).cell? ⟨w.heap.size + 2, 0, none⟩ = some (.int .i64 0) := by first | (simpa using kz0) | (simpa using yz0)
  have yz1 : (w2.drewN nq1).cell? ⟨w.heap.size + 2, 1, none⟩ = some (.int .i64 0) := by first | (simpa using kz1) | (simpa using yz1)
  have zg0 : (w2.drewN nq1).frozen? ⟨w.heap.size + 2, 0, none⟩ = false := by first | (simpa using zf0) | (simpa using zg0)
  have zg1 : (w2.drewN nq1).frozen? ⟨w.heap.size + 2, 1, none⟩ = false := by first | (simpa using zf1) | (simpa using zg1)
  have ylz : w.heap.size + 2 < (w2.drewN nq1).heap.size := by simpa using kzl
  clear ka0 ka1 kal kb0 kb1 kbl kz0 kz1 kzl W2 zf0 zf1 B2_a B2_b B2_z
  generalize w2.drewN nq1 = w3 at *
  go_wp2_with fail
  obtain ⟨w1', w2', w3', w4'⟩ := HB.out
  go_big_quiet ((go_at_call 51; exact quiet_left (ten_any _ _ (by omega) (by omega))))
  rename Nat => nq2
  clear w1' w2' w3' w4'
  have WD2 := Lib.hid (blw_drewN WD1.out nq2)
  have qyz0 : (w3.drewN nq2).cell? ⟨w.heap.size + 2, 0, none⟩ = some (.int .i64 0) := by simpa using yz0
  have qyz1 : (w3.drewN nq2).cell? ⟨w.heap.size + 2, 1, none⟩ = some (.int .i64 0) := by simpa using yz1
  have qzg0 : (w3.drewN nq2).frozen? ⟨w.heap.size + 2, 0, none⟩ = false := by simpa using zg0
  have qzg1 : (w3.drewN nq2).frozen? ⟨w.heap.size + 2, 1, none⟩ = false := by simpa using zg1
  have qlz : w.heap.size + 2 < (w3.drewN nq2).heap.size := by simpa using ylz
  clear WD1 yb0 yb1 yz0 yz1 zg0 zg1 ylz
  generalize w3.drewN nq2 = w4 at *
  go_wp2_with fail
  obtain ⟨w1', w2'⟩ := HC.out
  go_big_quiet ((go_at_call 60; exact quiet_left (size_any _ _ (by omega) (by omega))))
  clear w1' w2'
  have hv' := HV.out
  go_wp2_with (go_at_call 60; refine (size_any _ _ (by omega) (by omega)).mono ?_; rintro e w' ⟨rfl, rfl⟩)
  refine bodyPost_ret (v := .tuple #[.agg #[.int .i64 V, .int .i64 S], .bool true]) (by simp [results, Tryz.results22, go_sem, qyz0, qyz1]) rfl ⟨rfl, ?_⟩
  repeat (first | exact WD2.out | refine blw_drewN ?_ _ | refine Below.setCell ?_ (by simp; omega) _)

theorem aof_yes (a s b t : Int) (w : World) (h : addOk a s b t) :
    Calls Tryz.prog 22 #[.agg #[.int .i64 a, .int .i64 s], .agg #[.int .i64 b, .int .i64 t]] w fun e w' => e = .returned (.tuple #[.agg #[.int .i64 (Dcm.addC a s b t), .int .i64 (Dcm.addS s t)], .bool true]) ∧ Below w.heap.size w w' := by
  obtain ⟨ha, hb, h1, h2⟩ := h
  have hn : ¬ 1000000000000000 < mag (Dcm.addC a s b t) := by unfold mag; split <;> omega
  refine aof_ok a s b t w ha hb (fun hf => hn ?_) hn
  have F := Dcm.addC_F a s b t ha hb
  have := Dcm.add_far (flo a s) (flo b t) _ _ (P10 (Dcm.addS s t)) (Dcm.P10_bd _).1 ⟨F.2.1, F.2.2.1⟩ ⟨F.2.2.2.1, F.2.2.2.2⟩ hf
  rwa [F.1] at this
theorem aof_bad (a s b t : Int) (w : World) (ha : okD a s) (hb : okD b t) (h : ¬ addOk a s b t) :
    Calls Tryz.prog 22 #[.agg #[.int .i64 a, .int .i64 s], .agg #[.int .i64 b, .int .i64 t]] w fun e w' => e = .returned (.tuple #[.agg #[.int .i64 0, .int .i64 0], .bool false]) ∧ Below w.heap.size w w' := by
  by_cases hf : 1000000000000000 / P10 (Dcm.addS s t) + 2 < mag (flo a s + flo b t)
  · exact aof_far a s b t w ha hb hf
  · exact aof_no a s b t w ha hb hf (by
      rcases Int.lt_or_le 1000000000000000 (mag (Dcm.addC a s b t)) with g | g
      · exact g
      · exact absurd ⟨ha, hb, by unfold mag at g; split at g <;> omega, by unfold mag at g; split at g <;> omega⟩ h)
end Go.Proofs.YtmmjbjoefogmoaaGreatDoor
