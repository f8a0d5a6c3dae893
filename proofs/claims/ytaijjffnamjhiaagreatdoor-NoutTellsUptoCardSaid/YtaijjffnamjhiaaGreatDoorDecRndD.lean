/- The walk of dec.Round where digits are cut off. No conditions but the arguments' own. -/
import Derived.Test.YtaijjffnamjhiaaGreatDoorDecRnd
namespace Go.Proofs.YtaijjffnamjhiaaGreatDoor
open Go.RowKit
open Dcm (P10 okD nrm)

set_option maxRecDepth 100000 in
set_option maxHeartbeats 2000000 in
theorem round_down_pos_yes (c s t way U : Int) (w : World) (ha : okD c s) (t0 : 0 ≤ t) (w0 : 1 ≤ way) (w5 : way ≤ 5) (hst : t < s) (hc : 0 ≤ c) (hU : P10 (s - t) = U) (hn : Dcm.near way (c / U) (c % U) U 1 = true) :
    Calls Tryz.prog 35 #[.agg #[.int .i64 c, .int .i64 s], .int .i64 t, .int .i64 way] w fun e w' => e = .returned (.tuple #[.agg #[.int .i64 (Dcm.rndC c s t way), .int .i64 t], .nilIface]) ∧ Below w.heap.size w w' := by
  have C0 := Lib.hid fun w => dchk_yes c s w ha
  obtain ⟨s0, s1, c0, c1⟩ := ha
  have u0 := Dcm.P10_bd (s - t)
  rw [hU] at u0
  have q0 := Int.ediv_nonneg (by omega : 0 ≤ c) (by omega : 0 ≤ U)
  have q1 := Int.ediv_le_self U (by omega : 0 ≤ c)
  have r0 := Int.emod_nonneg c (by omega : U ≠ 0)
  have r1 := Int.emod_lt_of_pos c (by omega : 0 < U)
  have C1 : ∀ w, Calls Tryz.prog 88 #[.int .i64 (s - t)] w fun e w' => e = .returned (.int .i64 U) ∧ w = w' := fun w => hU ▸ power_any (s - t) w (by omega) (by omega)
  have C1 := Lib.hid C1
  have C2 : ∀ w, Calls Tryz.prog 89 #[.int .i64 way, .int .i64 (c / U), .int .i64 (c % U), .int .i64 U, .int .i64 1] w fun e w' => e = .returned (.bool true) ∧ w = w' := fun w => hn ▸ near_any way (c / U) (c % U) U 1 w w0 w5 q0 (by omega) r0 (by omega) u0.1 u0.2
  have C2 := Lib.hid C2
  have HC : Dcm.rndC c s t way = c / U + 1 := by
    have e1 : Dcm.sgn c = 1 := by unfold Dcm.sgn; split <;> omega
    have e2 : Dcm.mag c = c := by unfold Dcm.mag; split <;> omega
    unfold Dcm.rndC Dcm.rdU
    rw [if_neg (by omega), e1, e2, hU, hn]
    simp
  have HC := Lib.hid HC
  clear hn hU
  go_enter Tryz.func35, Tryz.ntmps35
  go_wp2_with fail
  refine (C0.out _).mono ?_
  rintro e w1 ⟨rfl, hb⟩
  have B0 := Boxed.below (Boxed.alloc (Boxed.made _ #[.int .i64 c, .int .i64 s] 37) _) hb
  have B := Boxed.below (Boxed.made _ #[.int .i64 0, .int .i64 0] 37) hb
  have j0 := B0.cell 0 _ rfl
  have j1 := B0.cell 1 _ rfl
  have k0 := B.cell 0 _ rfl
  have k1 := B.cell 1 _ rfl
  have f0 := B.free 0 (by decide)
  have f1 := B.free 1 (by decide)
  simp at k0 k1 f0 f1
  have W1 := Lib.hid (blw_trans (blw_trans (blw_alloc w _) (blw_alloc _ _)) hb)
  clear hb B B0 C0
  go_wp2_with fail
  go_big_quiet (fail)
  go_wp2_with fail
  refine (C1.out _).mono ?_
  rintro e w' ⟨rfl, rfl⟩
  go_wp2_with fail
  go_big_quiet (fail)
  go_wp2_with fail
  refine (C2.out _).mono ?_
  rintro e w' ⟨rfl, rfl⟩
  go_wp2
  refine bodyPost_ret (v := .tuple #[.agg #[.int .i64 (c / U + 1), .int .i64 t], .nilIface]) (by simp [results, Tryz.results35, go_sem, k0, k1]) rfl ⟨by rw [HC.out], ?_⟩
  exact (Below.setCell (blw_drewN W1.out _) (by simp) _).setCell (by simp) _

set_option maxRecDepth 100000 in
set_option maxHeartbeats 2000000 in
theorem round_down_pos_no (c s t way U : Int) (w : World) (ha : okD c s) (t0 : 0 ≤ t) (w0 : 1 ≤ way) (w5 : way ≤ 5) (hst : t < s) (hc : 0 ≤ c) (hU : P10 (s - t) = U) (hn : Dcm.near way (c / U) (c % U) U 1 = false) :
    Calls Tryz.prog 35 #[.agg #[.int .i64 c, .int .i64 s], .int .i64 t, .int .i64 way] w fun e w' => e = .returned (.tuple #[.agg #[.int .i64 (Dcm.rndC c s t way), .int .i64 t], .nilIface]) ∧ Below w.heap.size w w' := by
  have C0 := Lib.hid fun w => dchk_yes c s w ha
  obtain ⟨s0, s1, c0, c1⟩ := ha
  have u0 := Dcm.P10_bd (s - t)
  rw [hU] at u0
  have q0 := Int.ediv_nonneg (by omega : 0 ≤ c) (by omega : 0 ≤ U)
  have q1 := Int.ediv_le_self U (by omega : 0 ≤ c)
  have r0 := Int.emod_nonneg c (by omega : U ≠ 0)
  have r1 := Int.emod_lt_of_pos c (by omega : 0 < U)
  have C1 : ∀ w, Calls Tryz.prog 88 #[.int .i64 (s - t)] w fun e w' => e = .returned (.int .i64 U) ∧ w = w' := fun w => hU ▸ power_any (s - t) w (by omega) (by omega)
  have C1 := Lib.hid C1
  have C2 : ∀ w, Calls Tryz.prog 89 #[.int .i64 way, .int .i64 (c / U), .int .i64 (c % U), .int .i64 U, .int .i64 1] w fun e w' => e = .returned (.bool false) ∧ w = w' := fun w => hn ▸ near_any way (c / U) (c % U) U 1 w w0 w5 q0 (by omega) r0 (by omega) u0.1 u0.2
  have C2 := Lib.hid C2
  have HC : Dcm.rndC c s t way = c / U := by
    have e1 : Dcm.sgn c = 1 := by unfold Dcm.sgn; split <;> omega
    have e2 : Dcm.mag c = c := by unfold Dcm.mag; split <;> omega
    unfold Dcm.rndC Dcm.rdU
    rw [if_neg (by omega), e1, e2, hU, hn]
    simp
  have HC := Lib.hid HC
  clear hn hU
  go_enter Tryz.func35, Tryz.ntmps35
  go_wp2_with fail
  refine (C0.out _).mono ?_
  rintro e w1 ⟨rfl, hb⟩
  have B0 := Boxed.below (Boxed.alloc (Boxed.made _ #[.int .i64 c, .int .i64 s] 37) _) hb
  have B := Boxed.below (Boxed.made _ #[.int .i64 0, .int .i64 0] 37) hb
  have j0 := B0.cell 0 _ rfl
  have j1 := B0.cell 1 _ rfl
  have k0 := B.cell 0 _ rfl
  have k1 := B.cell 1 _ rfl
  have f0 := B.free 0 (by decide)
  have f1 := B.free 1 (by decide)
  simp at k0 k1 f0 f1
  have W1 := Lib.hid (blw_trans (blw_trans (blw_alloc w _) (blw_alloc _ _)) hb)
  clear hb B B0 C0
  go_wp2_with fail
  go_big_quiet (fail)
  go_wp2_with fail
  refine (C1.out _).mono ?_
  rintro e w' ⟨rfl, rfl⟩
  go_wp2_with fail
  go_big_quiet (fail)
  go_wp2_with fail
  refine (C2.out _).mono ?_
  rintro e w' ⟨rfl, rfl⟩
  go_wp2
  refine bodyPost_ret (v := .tuple #[.agg #[.int .i64 (c / U), .int .i64 t], .nilIface]) (by simp [results, Tryz.results35, go_sem, k0, k1]) rfl ⟨by rw [HC.out], ?_⟩
  exact (Below.setCell (blw_drewN W1.out _) (by simp) _).setCell (by simp) _

set_option maxRecDepth 100000 in
set_option maxHeartbeats 2000000 in
theorem round_down_neg_yes (n s t way U : Int) (w : World) (ha : okD (-n) s) (t0 : 0 ≤ t) (w0 : 1 ≤ way) (w5 : way ≤ 5) (hst : t < s) (hc : 0 < n) (hU : P10 (s - t) = U) (hn : Dcm.near way (n / U) (n % U) U (-1) = true) :
    Calls Tryz.prog 35 #[.agg #[.int .i64 (-n), .int .i64 s], .int .i64 t, .int .i64 way] w fun e w' => e = .returned (.tuple #[.agg #[.int .i64 (Dcm.rndC (-n) s t way), .int .i64 t], .nilIface]) ∧ Below w.heap.size w w' := by
  have C0 := Lib.hid fun w => dchk_yes (-n) s w ha
  obtain ⟨s0, s1, c0, c1⟩ := ha
  have u0 := Dcm.P10_bd (s - t)
  rw [hU] at u0
  have q0 := Int.ediv_nonneg (by omega : 0 ≤ n) (by omega : 0 ≤ U)
  have q1 := Int.ediv_le_self U (by omega : 0 ≤ n)
  have r0 := Int.emod_nonneg n (by omega : U ≠ 0)
  have r1 := Int.emod_lt_of_pos n (by omega : 0 < U)
  have C1 : ∀ w, Calls Tryz.prog 88 #[.int .i64 (s - t)] w fun e w' => e = .returned (.int .i64 U) ∧ w = w' := fun w => hU ▸ power_any (s - t) w (by omega) (by omega)
  have C1 := Lib.hid C1
  have C2 : ∀ w, Calls Tryz.prog 89 #[.int .i64 way, .int .i64 (n / U), .int .i64 (n % U), .int .i64 U, .int .i64 (-1)] w fun e w' => e = .returned (.bool true) ∧ w = w' := fun w => hn ▸ near_any way (n / U) (n % U) U (-1) w w0 w5 q0 (by omega) r0 (by omega) u0.1 u0.2
  have C2 := Lib.hid C2
  have HC : Dcm.rndC (-n) s t way = -(n / U + 1) := by
    have e1 : Dcm.sgn (-n) = (-1) := by unfold Dcm.sgn; split <;> omega
    have e2 : Dcm.mag (-n) = n := by unfold Dcm.mag; split <;> omega
    unfold Dcm.rndC Dcm.rdU
    rw [if_neg (by omega), e1, e2, hU, hn]
    simp
  have HC := Lib.hid HC
  clear hn hU
  go_enter Tryz.func35, Tryz.ntmps35
  go_wp2_with fail
  refine (C0.out _).mono ?_
  rintro e w1 ⟨rfl, hb⟩
  have B0 := Boxed.below (Boxed.alloc (Boxed.made _ #[.int .i64 (-n), .int .i64 s] 37) _) hb
  have B := Boxed.below (Boxed.made _ #[.int .i64 0, .int .i64 0] 37) hb
  have j0 := B0.cell 0 _ rfl
  have j1 := B0.cell 1 _ rfl
  have k0 := B.cell 0 _ rfl
  have k1 := B.cell 1 _ rfl
  have f0 := B.free 0 (by decide)
  have f1 := B.free 1 (by decide)
  simp at k0 k1 f0 f1
  have W1 := Lib.hid (blw_trans (blw_trans (blw_alloc w _) (blw_alloc _ _)) hb)
  clear hb B B0 C0
  go_wp2_with fail
  go_big_quiet (fail)
  go_wp2_with fail
  refine (C1.out _).mono ?_
  rintro e w' ⟨rfl, rfl⟩
  go_wp2_with fail
  go_big_quiet (fail)
  go_wp2_with fail
  refine (C2.out _).mono ?_
  rintro e w' ⟨rfl, rfl⟩
  go_wp2
  refine bodyPost_ret (v := .tuple #[.agg #[.int .i64 (-(n / U + 1)), .int .i64 t], .nilIface]) (by simp [results, Tryz.results35, go_sem, k0, k1]) rfl ⟨by rw [HC.out], ?_⟩
  exact (Below.setCell (blw_drewN W1.out _) (by simp) _).setCell (by simp) _

set_option maxRecDepth 100000 in
set_option maxHeartbeats 2000000 in
theorem round_down_neg_no (n s t way U : Int) (w : World) (ha : okD (-n) s) (t0 : 0 ≤ t) (w0 : 1 ≤ way) (w5 : way ≤ 5) (hst : t < s) (hc : 0 < n) (hU : P10 (s - t) = U) (hn : Dcm.near way (n / U) (n % U) U (-1) = false) :
    Calls Tryz.prog 35 #[.agg #[.int .i64 (-n), .int .i64 s], .int .i64 t, .int .i64 way] w fun e w' => e = .returned (.tuple #[.agg #[.int .i64 (Dcm.rndC (-n) s t way), .int .i64 t], .nilIface]) ∧ Below w.heap.size w w' := by
  have C0 := Lib.hid fun w => dchk_yes (-n) s w ha
  obtain ⟨s0, s1, c0, c1⟩ := ha
  have u0 := Dcm.P10_bd (s - t)
  rw [hU] at u0
  have q0 := Int.ediv_nonneg (by omega : 0 ≤ n) (by omega : 0 ≤ U)
  have q1 := Int.ediv_le_self U (by omega : 0 ≤ n)
  have r0 := Int.emod_nonneg n (by omega : U ≠ 0)
  have r1 := Int.emod_lt_of_pos n (by omega : 0 < U)
  have C1 : ∀ w, Calls Tryz.prog 88 #[.int .i64 (s - t)] w fun e w' => e = .returned (.int .i64 U) ∧ w = w' := fun w => hU ▸ power_any (s - t) w (by omega) (by omega)
  have C1 := Lib.hid C1
  have C2 : ∀ w, Calls Tryz.prog 89 #[.int .i64 way, .int .i64 (n / U), .int .i64 (n % U), .int .i64 U, .int .i64 (-1)] w fun e w' => e = .returned (.bool false) ∧ w = w' := fun w => hn ▸ near_any way (n / U) (n % U) U (-1) w w0 w5 q0 (by omega) r0 (by omega) u0.1 u0.2
  have C2 := Lib.hid C2
  have HC : Dcm.rndC (-n) s t way = -(n / U) := by
    have e1 : Dcm.sgn (-n) = (-1) := by unfold Dcm.sgn; split <;> omega
    have e2 : Dcm.mag (-n) = n := by unfold Dcm.mag; split <;> omega
    unfold Dcm.rndC Dcm.rdU
    rw [if_neg (by omega), e1, e2, hU, hn]
    simp
  have HC := Lib.hid HC
  clear hn hU
  go_enter Tryz.func35, Tryz.ntmps35
  go_wp2_with fail
  refine (C0.out _).mono ?_
  rintro e w1 ⟨rfl, hb⟩
  have B0 := Boxed.below (Boxed.alloc (Boxed.made _ #[.int .i64 (-n), .int .i64 s] 37) _) hb
  have B := Boxed.below (Boxed.made _ #[.int .i64 0, .int .i64 0] 37) hb
  have j0 := B0.cell 0 _ rfl
  have j1 := B0.cell 1 _ rfl
  have k0 := B.cell 0 _ rfl
  have k1 := B.cell 1 _ rfl
  have f0 := B.free 0 (by decide)
  have f1 := B.free 1 (by decide)
  simp at k0 k1 f0 f1
  have W1 := Lib.hid (blw_trans (blw_trans (blw_alloc w _) (blw_alloc _ _)) hb)
  clear hb B B0 C0
  go_wp2_with fail
  go_big_quiet (fail)
  go_wp2_with fail
  refine (C1.out _).mono ?_
  rintro e w' ⟨rfl, rfl⟩
  go_wp2_with fail
  go_big_quiet (fail)
  go_wp2_with fail
  refine (C2.out _).mono ?_
  rintro e w' ⟨rfl, rfl⟩
  go_wp2
  refine bodyPost_ret (v := .tuple #[.agg #[.int .i64 (-(n / U)), .int .i64 t], .nilIface]) (by simp [results, Tryz.results35, go_sem, k0, k1]) rfl ⟨by rw [HC.out], ?_⟩
  exact (Below.setCell (blw_drewN W1.out _) (by simp) _).setCell (by simp) _
end Go.Proofs.YtaijjffnamjhiaaGreatDoor
