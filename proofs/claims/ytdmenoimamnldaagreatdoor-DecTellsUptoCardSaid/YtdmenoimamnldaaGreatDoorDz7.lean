/- The walk of linguisterref1.Order: how two numbers stand. No conditions but the arguments' own. -/
import Derived.Test.YtdmenoimamnldaaGreatDoorDz6
import Derived.Test.YtdmenoimamnldaaGreatDoorDz3
namespace Go.Proofs.YtdmenoimamnldaaGreatDoor
open Go.RowKit
open Dcm (P10 okD nrm mag flo lef)

theorem tdiv_flo (c U : Int) (hU : 1 ≤ U) (hc : c < 0) : (c < c.tdiv U * U ∧ c / U = c.tdiv U - 1) ∨ (c.tdiv U * U = c ∧ c / U = c.tdiv U) := by
  obtain ⟨n, rfl⟩ : ∃ n, c = -n := ⟨-c, by omega⟩
  have h1 := Int.emod_add_mul_ediv n U
  rw [Int.neg_tdiv, Int.tdiv_eq_ediv_of_nonneg (by omega), Int.neg_mul, Int.mul_comm]
  rcases Dcm.neg_parts n U (by omega) with ⟨a, _, b⟩ | ⟨a, _, b⟩
  · right; omega
  · left; omega

set_option maxRecDepth 100000 in
set_option maxHeartbeats 400000 in
theorem floor_any (c s : Int) (w : World) (h : okD c s) :
    Calls Tryz.prog 29 #[.agg #[.int .i64 c, .int .i64 s]] w fun e w' => e = .returned (.int .i64 (flo c s)) ∧ Below w.heap.size w w' := by
  obtain ⟨s0, s9, c0, c1⟩ := h
  have CT := Lib.hid fun w => ten_any s w s0 s9
  have hU := Dcm.P10_bd s
  have hF : flo c s = c / P10 s := rfl
  generalize P10 s = U at *
  by_cases hc : 0 ≤ c
  · have h1 := Int.emod_add_mul_ediv c U
    have h2 := Int.emod_nonneg c (show U ≠ 0 by omega)
    have h3 : 0 ≤ c / U := Int.ediv_nonneg hc (by omega)
    have h4 : c / U ≤ c := Int.ediv_le_self _ hc
    rw [Int.mul_comm] at h1
    have h5 : c / U * U ≤ c := by omega
    have h6 : 0 ≤ c / U * U := Int.mul_nonneg h3 (by omega)
    have d1 : decide (c < c / U * U) = false := dec_no (by omega)
    have HF := Lib.hid hF
    clear hF h1 h2
    obtain ⟨T, hT⟩ : ∃ T, c / U = T := ⟨_, rfl⟩
    have HT := Lib.hid hT
    rw [hT] at h3 h4 h5 h6 d1
    go_enter Tryz.func29, Tryz.ntmps29
    go_wp2_with (go_at_call 24; refine (CT.out _).mono ?_; rintro e w' ⟨rfl, rfl⟩)
    go_ret
    exact ⟨ret_int (by rw [HF.out, HT.out]), blw_alloc _ _⟩
  · have tb := Dcm.tdiv_bd c U hU.1 ⟨c0, c1⟩
    have hT0 := tdiv_flo c U hU.1 (by omega)
    have HF := Lib.hid hF
    clear hF
    obtain ⟨T, hT⟩ : ∃ T, c.tdiv U = T := ⟨_, rfl⟩
    rw [hT] at hT0 tb
    have hm : -1000000000000000 ≤ T * U ∧ T * U ≤ 0 := by
      have e := Dcm.sum_quo 0 c U hU.1
      have m := Dcm.tmod_bd c U hU.1
      rcases hT0 with h | h
      · refine ⟨by omega, ?_⟩
        have : T ≤ 0 := by
          rw [← hT]
          obtain ⟨n, rfl⟩ : ∃ n, c = -n := ⟨-c, by omega⟩
          rw [Int.neg_tdiv, Int.tdiv_eq_ediv_of_nonneg (by omega)]
          have := Int.ediv_nonneg (show 0 ≤ n by omega) (show 0 ≤ U by omega)
          omega
        have h2 : (-T) * U ≥ 0 := Int.mul_nonneg (by omega) (by omega)
        rw [Int.neg_mul] at h2; omega
      · omega
    obtain ⟨m0, m1⟩ := hm
    rcases hT0 with ⟨h1, h2⟩ | ⟨h1, h2⟩
    · have d1 : decide (c < T * U) = true := dec_yes h1
      have HE := Lib.hid h2
      clear h2
      go_enter Tryz.func29, Tryz.ntmps29
      go_wp2_with (go_at_call 24; refine (CT.out _).mono ?_; rintro e w' ⟨rfl, rfl⟩)
      go_ret
      exact ⟨ret_int (by rw [HF.out, HE.out]), blw_alloc _ _⟩
    · have d1 : decide (c < T * U) = false := dec_no (by omega)
      have HE := Lib.hid h2
      clear h1 h2
      go_enter Tryz.func29, Tryz.ntmps29
      go_wp2_with (go_at_call 24; refine (CT.out _).mono ?_; rintro e w' ⟨rfl, rfl⟩)
      go_ret
      exact ⟨ret_int (by rw [HF.out, HE.out]), blw_alloc _ _⟩
end Go.Proofs.YtdmenoimamnldaaGreatDoor
namespace Go.Proofs.YtdmenoimamnldaaGreatDoor
open Go.RowKit
open Dcm (P10 okD nrm mag flo lef)

set_option maxRecDepth 100000 in
set_option maxHeartbeats 1000000 in
theorem order_eq (a s b t : Int) (w : World) (ha : okD a s) (hb' : okD b t) (hxy : flo a s = flo b t) :
    Calls Tryz.prog 11 #[.agg #[.int .i64 a, .int .i64 s], .agg #[.int .i64 b, .int .i64 t]] w fun e w' => e = .returned (.int .i64 (Dcm.ordV a s b t)) ∧ Below w.heap.size w w' := by
  have CA := Lib.hid fun w => floor_any a s w ha
  have CB := Lib.hid fun w => floor_any b t w hb'
  have fa := Dcm.flo_bd a s ⟨ha.2.2.1, ha.2.2.2⟩
  have fb := Dcm.flo_bd b t ⟨hb'.2.2.1, hb'.2.2.2⟩
  have HV := Lib.hid (show Dcm.ordV a s b t = if flo a s = flo b t then lef a s * P10 (9 - s) - lef b t * P10 (9 - t) else flo a s - flo b t from rfl)
  have ea := Dcm.flo_lef a s
  have eb := Dcm.flo_lef b t
  have la := Dcm.lef_scale a s 9 ha.1 ha.2.1 (by omega)
  have lb := Dcm.lef_scale b t 9 hb'.1 hb'.2.1 (by omega)
  have e9 : P10 9 = 1000000000 := rfl
  have xa := Dcm.lef_bd a s
  have xb := Dcm.lef_bd b t
  have ua := Dcm.P10_bd s
  have ub := Dcm.P10_bd t
  rw [e9] at la lb
  obtain ⟨s0, s9, a0, a1⟩ := ha
  obtain ⟨t0, t9, b0, b1⟩ := hb'
  generalize Dcm.ordV a s b t = V at *
  generalize flo a s = X at *
  generalize flo b t = Y at *
  generalize lef a s = p at *
  generalize lef b t = q at *
  obtain ⟨la1, la2, la3⟩ := la
  obtain ⟨lb1, lb2, lb3⟩ := lb
  have ha1 : a - X * P10 s = p := by omega
  have hb1 : b - Y * P10 t = q := by omega
  have w1 : IntKind.i64.wrap (X * P10 s) = X * P10 s := IntWalk.i64_in _ (by omega)
  have w2 : IntKind.i64.wrap (a - X * P10 s) = p := by rw [IntWalk.i64_in _ (by omega)]; exact ha1
  have w3 : IntKind.i64.wrap (p * P10 (9 - s)) = p * P10 (9 - s) := IntWalk.i64_in _ (by omega)
  have w4 : IntKind.i64.wrap (Y * P10 t) = Y * P10 t := IntWalk.i64_in _ (by omega)
  have w5 : IntKind.i64.wrap (b - Y * P10 t) = q := by rw [IntWalk.i64_in _ (by omega)]; exact hb1
  have w6 : IntKind.i64.wrap (q * P10 (9 - t)) = q * P10 (9 - t) := IntWalk.i64_in _ (by omega)
  have w7 : IntKind.i64.wrap (9 - s) = 9 - s := IntWalk.i64_in _ (by omega)
  have w8 : IntKind.i64.wrap (9 - t) = 9 - t := IntWalk.i64_in _ (by omega)
  have HW := Lib.hid (And.intro w1 (And.intro w2 (And.intro w3 (And.intro w4 (And.intro w5 (And.intro w6 (And.intro w7 w8)))))))
  clear la1 lb1 e9 ea eb ua ub xa xb w1 w2 w3 w4 w5 w6 w7 w8 ha1 hb1
  have HE := Lib.hid (show V = p * P10 (9 - s) - q * P10 (9 - t) by rw [HV.out, if_pos hxy])
  obtain rfl : X = Y := hxy
  clear HV
  go_enter Tryz.func11, Tryz.ntmps11
  go_wp2_with fail
  refine (CA.out _).mono ?_
  rintro e w1 ⟨rfl, hb⟩
  have B1_a := Boxed.below (Boxed.alloc (Boxed.made _ #[.int .i64 a, .int .i64 s] 23) _) hb
  have B1_b := Boxed.below (Boxed.made _ #[.int .i64 b, .int .i64 t] 23) hb
  have W1 := Lib.hid (blw_trans (blw_trans (blw_trans (Below.refl w.heap.size w) (blw_alloc _ _)) (blw_alloc _ _)) hb)
  clear hb 
  have ka0 := B1_a.cell 0 _ rfl
  have ka1 := B1_a.cell 1 _ rfl
  have kal := B1_a.lt
  try simp at ka0 ka1 kal
  have kb0 := B1_b.cell 0 _ rfl
  have kb1 := B1_b.cell 1 _ rfl
  have kbl := B1_b.lt
  try simp at kb0 kb1 kbl
  go_wp2_with fail
  refine (CB.out _).mono ?_
  rintro e w2 ⟨rfl, hb⟩
  clear ka0 ka1 kal kb0 kb1 kbl
  have B2_a := B1_a.below hb
  have B2_b := B1_b.below hb
  have W2 := Lib.hid (blw_trans W1.out hb)
  clear hb B1_a B1_b W1
  have ka0 := B2_a.cell 0 _ rfl
  have ka1 := B2_a.cell 1 _ rfl
  have kal := B2_a.lt
  try simp at ka0 ka1 kal
  have kb0 := B2_b.cell 0 _ rfl
  have kb1 := B2_b.cell 1 _ rfl
  have kbl := B2_b.lt
  try simp at kb0 kb1 kbl
  go_wp2_with fail
  obtain ⟨w1', w2', w3', w4', w5', w6', w7', w8'⟩ := HW.out
  go_big_quiet ((go_at_call 24; exact quiet_left (ten_any _ _ (by omega) (by omega))))
  rename_i nq
  have WD := Lib.hid (blw_drewN W2.out nq)
  have yb0 : (w2.drewN nq).cell? ⟨w.heap.size + 1, 0, none⟩ = some (.int .i64 b) := by simpa using kb0
  have yb1 : (w2.drewN nq).cell? ⟨w.heap.size + 1, 1, none⟩ = some (.int .i64 t) := by simpa using kb1
  clear ka0 ka1 kal kb0 kb1 kbl W2
  generalize w2.drewN nq = w3 at *
  go_wp2_with fail
  go_big_quiet ((go_at_call 24; exact quiet_left (ten_any _ _ (by omega) (by omega))))
  clear w1' w2' w3' w4' w5' w6' w7' w8'
  go_wp2_with fail
  go_ret
  exact ⟨ret_int (by rw [HE.out]), by repeat (first | exact WD.out | refine blw_drewN ?_ _)⟩

set_option maxRecDepth 100000 in
set_option maxHeartbeats 1000000 in
theorem order_ne (a s b t : Int) (w : World) (ha : okD a s) (hb' : okD b t) (hxy : ¬ flo a s = flo b t) :
    Calls Tryz.prog 11 #[.agg #[.int .i64 a, .int .i64 s], .agg #[.int .i64 b, .int .i64 t]] w fun e w' => e = .returned (.int .i64 (Dcm.ordV a s b t)) ∧ Below w.heap.size w w' := by
  have CA := Lib.hid fun w => floor_any a s w ha
  have CB := Lib.hid fun w => floor_any b t w hb'
  have fa := Dcm.flo_bd a s ⟨ha.2.2.1, ha.2.2.2⟩
  have fb := Dcm.flo_bd b t ⟨hb'.2.2.1, hb'.2.2.2⟩
  have HV := Lib.hid (show Dcm.ordV a s b t = if flo a s = flo b t then lef a s * P10 (9 - s) - lef b t * P10 (9 - t) else flo a s - flo b t from rfl)
  have ea := Dcm.flo_lef a s
  have eb := Dcm.flo_lef b t
  have la := Dcm.lef_scale a s 9 ha.1 ha.2.1 (by omega)
  have lb := Dcm.lef_scale b t 9 hb'.1 hb'.2.1 (by omega)
  have e9 : P10 9 = 1000000000 := rfl
  have xa := Dcm.lef_bd a s
  have xb := Dcm.lef_bd b t
  have ua := Dcm.P10_bd s
  have ub := Dcm.P10_bd t
  rw [e9] at la lb
  obtain ⟨s0, s9, a0, a1⟩ := ha
  obtain ⟨t0, t9, b0, b1⟩ := hb'
  generalize Dcm.ordV a s b t = V at *
  generalize flo a s = X at *
  generalize flo b t = Y at *
  generalize lef a s = p at *
  generalize lef b t = q at *
  obtain ⟨la1, la2, la3⟩ := la
  obtain ⟨lb1, lb2, lb3⟩ := lb
  have ha1 : a - X * P10 s = p := by omega
  have hb1 : b - Y * P10 t = q := by omega
  have w1 : IntKind.i64.wrap (X * P10 s) = X * P10 s := IntWalk.i64_in _ (by omega)
  have w2 : IntKind.i64.wrap (a - X * P10 s) = p := by rw [IntWalk.i64_in _ (by omega)]; exact ha1
  have w3 : IntKind.i64.wrap (p * P10 (9 - s)) = p * P10 (9 - s) := IntWalk.i64_in _ (by omega)
  have w4 : IntKind.i64.wrap (Y * P10 t) = Y * P10 t := IntWalk.i64_in _ (by omega)
  have w5 : IntKind.i64.wrap (b - Y * P10 t) = q := by rw [IntWalk.i64_in _ (by omega)]; exact hb1
  have w6 : IntKind.i64.wrap (q * P10 (9 - t)) = q * P10 (9 - t) := IntWalk.i64_in _ (by omega)
  have w7 : IntKind.i64.wrap (9 - s) = 9 - s := IntWalk.i64_in _ (by omega)
  have w8 : IntKind.i64.wrap (9 - t) = 9 - t := IntWalk.i64_in _ (by omega)
  have HW := Lib.hid (And.intro w1 (And.intro w2 (And.intro w3 (And.intro w4 (And.intro w5 (And.intro w6 (And.intro w7 w8)))))))
  clear la1 lb1 e9 ea eb ua ub xa xb w1 w2 w3 w4 w5 w6 w7 w8 ha1 hb1
  have d1 : (X == Y) = false := beq_no hxy
  have d2 : (X != Y) = true := by rw [bne, d1]; rfl
  have HE := Lib.hid (show V = X - Y by rw [HV.out, if_neg hxy])
  clear hxy HV HW
  go_enter Tryz.func11, Tryz.ntmps11
  go_wp2_with fail
  refine (CA.out _).mono ?_
  rintro e w1 ⟨rfl, hb⟩
  have B1_a := Boxed.below (Boxed.alloc (Boxed.made _ #[.int .i64 a, .int .i64 s] 23) _) hb
  have B1_b := Boxed.below (Boxed.made _ #[.int .i64 b, .int .i64 t] 23) hb
  have W1 := Lib.hid (blw_trans (blw_trans (blw_trans (Below.refl w.heap.size w) (blw_alloc _ _)) (blw_alloc _ _)) hb)
  clear hb 
  have ka0 := B1_a.cell 0 _ rfl
  have ka1 := B1_a.cell 1 _ rfl
  have kal := B1_a.lt
  try simp at ka0 ka1 kal
  have kb0 := B1_b.cell 0 _ rfl
  have kb1 := B1_b.cell 1 _ rfl
  have kbl := B1_b.lt
  try simp at kb0 kb1 kbl
  go_wp2_with fail
  refine (CB.out _).mono ?_
  rintro e w2 ⟨rfl, hb⟩
  clear ka0 ka1 kal kb0 kb1 kbl
  have B2_a := B1_a.below hb
  have B2_b := B1_b.below hb
  have W2 := Lib.hid (blw_trans W1.out hb)
  clear hb B1_a B1_b W1
  have ka0 := B2_a.cell 0 _ rfl
  have ka1 := B2_a.cell 1 _ rfl
  have kal := B2_a.lt
  try simp at ka0 ka1 kal
  have kb0 := B2_b.cell 0 _ rfl
  have kb1 := B2_b.cell 1 _ rfl
  have kbl := B2_b.lt
  try simp at kb0 kb1 kbl
  go_wp2_with fail
  go_ret
  exact ⟨ret_int (by rw [HE.out]), by repeat (first | exact W2.out | refine blw_drewN ?_ _)⟩

theorem order_any (a s b t : Int) (w : World) (ha : okD a s) (hb' : okD b t) :
    Calls Tryz.prog 11 #[.agg #[.int .i64 a, .int .i64 s], .agg #[.int .i64 b, .int .i64 t]] w fun e w' => e = .returned (.int .i64 (Dcm.ordV a s b t)) ∧ Below w.heap.size w w' := by
  by_cases h : flo a s = flo b t
  · exact order_eq a s b t w ha hb' h
  · exact order_ne a s b t w ha hb' h
end Go.Proofs.YtdmenoimamnldaaGreatDoor
