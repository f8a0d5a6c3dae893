/- The walk of dec.Round where digits are cut off. No conditions but the arguments' own. -/
import Derived.Test.YtdmenoimamnldaaGreatDoorDz1
namespace Go.Proofs.YtdmenoimamnldaaGreatDoor
open Go.RowKit
open Dcm (P10 okD nrm)

set_option maxRecDepth 100000 in
set_option maxHeartbeats 1000000 in
theorem near_any (way p r u s : Int) (w : World) (w0 : 1 ≤ way) (w1 : way ≤ 5) (p0 : 0 ≤ p) (p1 : p ≤ 1000000000000000) (r0 : 0 ≤ r) (r1 : r ≤ 1000000000) (_u0 : 1 ≤ u) (_u1 : u ≤ 1000000000) :
    Calls Tryz.prog 37 #[.int .i64 way, .int .i64 p, .int .i64 r, .int .i64 u, .int .i64 s] w fun e w' => e = .returned (.bool (Dcm.near way p r u s)) ∧ w = w' := by
  rcases Dcm.ways way w0 w1 with rfl | rfl | rfl | rfl | rfl
  all_goals
    clear w0 w1
    go_enter Tryz.func37, Tryz.ntmps37
    go_wp2
  all_goals
    go_ret
    exact ⟨ret_bool (by by_cases hp2 : p % 2 = 1 <;> simp_all [Dcm.near] <;> try omega), rfl⟩

theorem wide_in (n s : Int) (w : World) (n0 : 0 ≤ n) (n1 : n ≤ 1000000000000000) (s0 : 0 ≤ s) (s1 : s ≤ 9) (hr : n * P10 s ≤ 1000000000000000) :
    Calls Tryz.prog 35 #[.int .i64 n, .int .i64 s] w fun e w' => e = .returned (.tuple #[.int .u64 0, .int .u64 (n * P10 s)]) ∧ w = w' := by
  have h := wide_any n s w n0 n1 s0 s1
  have hp := Int.mul_nonneg n0 (by have := Dcm.P10_pos s; omega : 0 ≤ P10 s)
  have e1 : hiW (n * P10 s) = 0 := by unfold hiW; omega
  have e2 : loW (n * P10 s) = n * P10 s := by unfold loW; omega
  rwa [e1, e2] at h

set_option maxRecDepth 100000 in
set_option maxHeartbeats 2000000 in
theorem round_up_pos (c s t way : Int) (w : World) (ha : okD c s) (t1 : t ≤ 9) (w0 : 1 ≤ way) (w5 : way ≤ 5) (hst : s ≤ t) (hc : 0 ≤ c) (hr : c * P10 (t - s) ≤ 1000000000000000) :
    Calls Tryz.prog 16 #[.agg #[.int .i64 c, .int .i64 s], .int .i64 t, .int .i64 way] w fun e w' => e = .returned (.tuple #[.agg #[.int .i64 (Dcm.rndC c s t way), .int .i64 t], .nilIface]) ∧ Below w.heap.size w w' := by
  have C0 := Lib.hid fun w => dchk_yes c s w ha
  have C1 := Lib.hid fun w => wide_in c (t - s) w (by omega) (by have := ha.2.2; omega) (by omega) (by have := ha.1; omega) hr
  have hC : Dcm.rndC c s t way = c * P10 (t - s) := by unfold Dcm.rndC; rw [if_pos hst]
  have hp := Int.mul_nonneg (by omega : 0 ≤ c) (by have := Dcm.P10_pos (t - s); omega : 0 ≤ P10 (t - s))
  obtain ⟨s0, s1, c0, c1⟩ := ha
  have hL : c * P10 (t - s) = c * P10 (t - s) := by rfl
  rw [hL] at hC
  have HC := Lib.hid hC
  clear hL hC
  generalize c * P10 (t - s) = L at *
  have t0 : 0 ≤ t := by omega
  go_enter Tryz.func16, Tryz.ntmps16
  go_wp2_with fail
  refine (C0.out _).mono ?_
  rintro e w1 ⟨rfl, hb⟩
  have B0 := Boxed.below (Boxed.alloc (Boxed.made _ #[.int .i64 c, .int .i64 s] 23) _) hb
  have B := Boxed.below (Boxed.made _ #[.int .i64 0, .int .i64 0] 23) hb
  have j0 := B0.cell 0 _ rfl
  have j1 := B0.cell 1 _ rfl
  have k0 := B.cell 0 _ rfl
  have k1 := B.cell 1 _ rfl
  have f0 := B.free 0 (by decide)
  have f1 := B.free 1 (by decide)
  simp at k0 k1 f0 f1
  have W1 := Lib.hid (blw_trans (blw_trans (blw_alloc w _) (blw_alloc _ _)) hb)
  clear hb B B0 C0
  go_wp2_with fail
  go_big_quiet (fail)
  go_wp2_with fail
  refine (C1.out _).mono ?_
  rintro e w' ⟨rfl, rfl⟩
  go_wp2
  refine bodyPost_ret (v := .tuple #[.agg #[.int .i64 (L), .int .i64 t], .nilIface]) (by simp [results, Tryz.results16, go_sem, k0, k1]) rfl ⟨by rw [HC.out], ?_⟩
  exact (Below.setCell (blw_drewN W1.out _) (by simp) _).setCell (by simp) _

set_option maxRecDepth 100000 in
set_option maxHeartbeats 2000000 in
theorem round_up_neg (c s t way : Int) (w : World) (ha : okD c s) (t1 : t ≤ 9) (w0 : 1 ≤ way) (w5 : way ≤ 5) (hst : s ≤ t) (hc : c < 0) (hr : (-c) * P10 (t - s) ≤ 1000000000000000) :
    Calls Tryz.prog 16 #[.agg #[.int .i64 c, .int .i64 s], .int .i64 t, .int .i64 way] w fun e w' => e = .returned (.tuple #[.agg #[.int .i64 (Dcm.rndC c s t way), .int .i64 t], .nilIface]) ∧ Below w.heap.size w w' := by
  have C0 := Lib.hid fun w => dchk_yes c s w ha
  have C1 := Lib.hid fun w => wide_in (-c) (t - s) w (by omega) (by have := ha.2.2; omega) (by omega) (by have := ha.1; omega) hr
  have hC : Dcm.rndC c s t way = c * P10 (t - s) := by unfold Dcm.rndC; rw [if_pos hst]
  have hp := Int.mul_nonneg (by omega : 0 ≤ (-c)) (by have := Dcm.P10_pos (t - s); omega : 0 ≤ P10 (t - s))
  obtain ⟨s0, s1, c0, c1⟩ := ha
  have hL : c * P10 (t - s) = -((-c) * P10 (t - s)) := by rw [Int.neg_mul, Int.neg_neg]
  rw [hL] at hC
  have HC := Lib.hid hC
  clear hL hC
  generalize (-c) * P10 (t - s) = L at *
  have t0 : 0 ≤ t := by omega
  go_enter Tryz.func16, Tryz.ntmps16
  go_wp2_with fail
  refine (C0.out _).mono ?_
  rintro e w1 ⟨rfl, hb⟩
  have B0 := Boxed.below (Boxed.alloc (Boxed.made _ #[.int .i64 c, .int .i64 s] 23) _) hb
  have B := Boxed.below (Boxed.made _ #[.int .i64 0, .int .i64 0] 23) hb
  have j0 := B0.cell 0 _ rfl
  have j1 := B0.cell 1 _ rfl
  have k0 := B.cell 0 _ rfl
  have k1 := B.cell 1 _ rfl
  have f0 := B.free 0 (by decide)
  have f1 := B.free 1 (by decide)
  simp at k0 k1 f0 f1
  have W1 := Lib.hid (blw_trans (blw_trans (blw_alloc w _) (blw_alloc _ _)) hb)
  clear hb B B0 C0
  go_wp2_with fail
  go_big_quiet (fail)
  go_wp2_with fail
  refine (C1.out _).mono ?_
  rintro e w' ⟨rfl, rfl⟩
  go_wp2
  refine bodyPost_ret (v := .tuple #[.agg #[.int .i64 (-L), .int .i64 t], .nilIface]) (by simp [results, Tryz.results16, go_sem, k0, k1]) rfl ⟨by rw [HC.out], ?_⟩
  exact (Below.setCell (blw_drewN W1.out _) (by simp) _).setCell (by simp) _

set_option maxRecDepth 100000 in
set_option maxHeartbeats 1000000 in
theorem round_bad (c s t way : Int) (w : World) (ha : ¬ okD c s) :
    Calls Tryz.prog 16 #[.agg #[.int .i64 c, .int .i64 s], .int .i64 t, .int .i64 way] w fun e w' => e = .returned (.tuple #[.agg #[.int .i64 0, .int .i64 0], errV 1]) ∧ Below w.heap.size w w' := by
  have C0 := Lib.hid fun w => dchk_no c s w ha
  clear ha
  go_enter Tryz.func16, Tryz.ntmps16
  go_wp2_with fail
  refine (C0.out _).mono ?_
  rintro e w1 ⟨rfl, hb⟩
  have B0 := Boxed.below (Boxed.alloc (Boxed.made _ #[.int .i64 c, .int .i64 s] 23) _) hb
  have B := Boxed.below (Boxed.made _ #[.int .i64 0, .int .i64 0] 23) hb
  have j0 := B0.cell 0 _ rfl
  have j1 := B0.cell 1 _ rfl
  have k0 := B.cell 0 _ rfl
  have k1 := B.cell 1 _ rfl
  have f0 := B.free 0 (by decide)
  have f1 := B.free 1 (by decide)
  simp at k0 k1 f0 f1
  have W1 := Lib.hid (blw_trans (blw_trans (blw_alloc w _) (blw_alloc _ _)) hb)
  clear hb B B0 C0
  go_wp2
  refine bodyPost_ret (v := .tuple #[.agg #[.int .i64 0, .int .i64 0], errV 1]) (by simp [results, Tryz.results16, go_sem, k0, k1]) rfl ⟨rfl, ?_⟩
  exact (Below.setCell W1.out (by simp) _).setCell (by simp) _

set_option maxRecDepth 100000 in
set_option maxHeartbeats 1000000 in
theorem round_lo (c s t way : Int) (w : World) (ha : okD c s) (h : t < 0) :
    Calls Tryz.prog 16 #[.agg #[.int .i64 c, .int .i64 s], .int .i64 t, .int .i64 way] w fun e w' => e = .returned (.tuple #[.agg #[.int .i64 0, .int .i64 0], errV 1]) ∧ Below w.heap.size w w' := by
  have C0 := Lib.hid fun w => dchk_yes c s w ha
  clear ha
  go_enter Tryz.func16, Tryz.ntmps16
  go_wp2_with fail
  refine (C0.out _).mono ?_
  rintro e w1 ⟨rfl, hb⟩
  have B0 := Boxed.below (Boxed.alloc (Boxed.made _ #[.int .i64 c, .int .i64 s] 23) _) hb
  have B := Boxed.below (Boxed.made _ #[.int .i64 0, .int .i64 0] 23) hb
  have j0 := B0.cell 0 _ rfl
  have j1 := B0.cell 1 _ rfl
  have k0 := B.cell 0 _ rfl
  have k1 := B.cell 1 _ rfl
  have f0 := B.free 0 (by decide)
  have f1 := B.free 1 (by decide)
  simp at k0 k1 f0 f1
  have W1 := Lib.hid (blw_trans (blw_trans (blw_alloc w _) (blw_alloc _ _)) hb)
  clear hb B B0 C0
  go_wp2
  refine bodyPost_ret (v := .tuple #[.agg #[.int .i64 0, .int .i64 0], errV 1]) (by simp [results, Tryz.results16, go_sem, k0, k1]) rfl ⟨rfl, ?_⟩
  exact (Below.setCell W1.out (by simp) _).setCell (by simp) _

set_option maxRecDepth 100000 in
set_option maxHeartbeats 1000000 in
theorem round_hi (c s t way : Int) (w : World) (ha : okD c s) (h0 : 0 ≤ t) (h : 9 < t) :
    Calls Tryz.prog 16 #[.agg #[.int .i64 c, .int .i64 s], .int .i64 t, .int .i64 way] w fun e w' => e = .returned (.tuple #[.agg #[.int .i64 0, .int .i64 0], errV 1]) ∧ Below w.heap.size w w' := by
  have C0 := Lib.hid fun w => dchk_yes c s w ha
  clear ha
  go_enter Tryz.func16, Tryz.ntmps16
  go_wp2_with fail
  refine (C0.out _).mono ?_
  rintro e w1 ⟨rfl, hb⟩
  have B0 := Boxed.below (Boxed.alloc (Boxed.made _ #[.int .i64 c, .int .i64 s] 23) _) hb
  have B := Boxed.below (Boxed.made _ #[.int .i64 0, .int .i64 0] 23) hb
  have j0 := B0.cell 0 _ rfl
  have j1 := B0.cell 1 _ rfl
  have k0 := B.cell 0 _ rfl
  have k1 := B.cell 1 _ rfl
  have f0 := B.free 0 (by decide)
  have f1 := B.free 1 (by decide)
  simp at k0 k1 f0 f1
  have W1 := Lib.hid (blw_trans (blw_trans (blw_alloc w _) (blw_alloc _ _)) hb)
  clear hb B B0 C0
  go_wp2
  refine bodyPost_ret (v := .tuple #[.agg #[.int .i64 0, .int .i64 0], errV 1]) (by simp [results, Tryz.results16, go_sem, k0, k1]) rfl ⟨rfl, ?_⟩
  exact (Below.setCell W1.out (by simp) _).setCell (by simp) _

set_option maxRecDepth 100000 in
set_option maxHeartbeats 1000000 in
theorem round_wlo (c s t way : Int) (w : World) (ha : okD c s) (h0 : 0 ≤ t) (h1 : t ≤ 9) (h : way < 1) :
    Calls Tryz.prog 16 #[.agg #[.int .i64 c, .int .i64 s], .int .i64 t, .int .i64 way] w fun e w' => e = .returned (.tuple #[.agg #[.int .i64 0, .int .i64 0], errV 3]) ∧ Below w.heap.size w w' := by
  have C0 := Lib.hid fun w => dchk_yes c s w ha
  clear ha
  go_enter Tryz.func16, Tryz.ntmps16
  go_wp2_with fail
  refine (C0.out _).mono ?_
  rintro e w1 ⟨rfl, hb⟩
  have B0 := Boxed.below (Boxed.alloc (Boxed.made _ #[.int .i64 c, .int .i64 s] 23) _) hb
  have B := Boxed.below (Boxed.made _ #[.int .i64 0, .int .i64 0] 23) hb
  have j0 := B0.cell 0 _ rfl
  have j1 := B0.cell 1 _ rfl
  have k0 := B.cell 0 _ rfl
  have k1 := B.cell 1 _ rfl
  have f0 := B.free 0 (by decide)
  have f1 := B.free 1 (by decide)
  simp at k0 k1 f0 f1
  have W1 := Lib.hid (blw_trans (blw_trans (blw_alloc w _) (blw_alloc _ _)) hb)
  clear hb B B0 C0
  go_wp2
  refine bodyPost_ret (v := .tuple #[.agg #[.int .i64 0, .int .i64 0], errV 3]) (by simp [results, Tryz.results16, go_sem, k0, k1]) rfl ⟨rfl, ?_⟩
  exact (Below.setCell W1.out (by simp) _).setCell (by simp) _

set_option maxRecDepth 100000 in
set_option maxHeartbeats 1000000 in
theorem round_whi (c s t way : Int) (w : World) (ha : okD c s) (h0 : 0 ≤ t) (h1 : t ≤ 9) (h2 : 1 ≤ way) (h : 5 < way) :
    Calls Tryz.prog 16 #[.agg #[.int .i64 c, .int .i64 s], .int .i64 t, .int .i64 way] w fun e w' => e = .returned (.tuple #[.agg #[.int .i64 0, .int .i64 0], errV 3]) ∧ Below w.heap.size w w' := by
  have C0 := Lib.hid fun w => dchk_yes c s w ha
  clear ha
  go_enter Tryz.func16, Tryz.ntmps16
  go_wp2_with fail
  refine (C0.out _).mono ?_
  rintro e w1 ⟨rfl, hb⟩
  have B0 := Boxed.below (Boxed.alloc (Boxed.made _ #[.int .i64 c, .int .i64 s] 23) _) hb
  have B := Boxed.below (Boxed.made _ #[.int .i64 0, .int .i64 0] 23) hb
  have j0 := B0.cell 0 _ rfl
  have j1 := B0.cell 1 _ rfl
  have k0 := B.cell 0 _ rfl
  have k1 := B.cell 1 _ rfl
  have f0 := B.free 0 (by decide)
  have f1 := B.free 1 (by decide)
  simp at k0 k1 f0 f1
  have W1 := Lib.hid (blw_trans (blw_trans (blw_alloc w _) (blw_alloc _ _)) hb)
  clear hb B B0 C0
  go_wp2
  refine bodyPost_ret (v := .tuple #[.agg #[.int .i64 0, .int .i64 0], errV 3]) (by simp [results, Tryz.results16, go_sem, k0, k1]) rfl ⟨rfl, ?_⟩
  exact (Below.setCell W1.out (by simp) _).setCell (by simp) _

set_option maxRecDepth 100000 in
set_option maxHeartbeats 1000000 in
theorem round_far_pos_hi (c s t way h l : Int) (w : World) (ha : okD c s) (t1 : t ≤ 9) (w0 : 1 ≤ way) (w5 : way ≤ 5) (hst : s ≤ t) (hc : 0 ≤ c) (hh : 0 < h)
    (c1 : ∀ w, Calls Tryz.prog 35 #[.int .i64 c, .int .i64 (t - s)] w fun e w' => e = .returned (.tuple #[.int .u64 h, .int .u64 l]) ∧ w = w') :
    Calls Tryz.prog 16 #[.agg #[.int .i64 c, .int .i64 s], .int .i64 t, .int .i64 way] w fun e w' => e = .returned (.tuple #[.agg #[.int .i64 0, .int .i64 0], errV 1]) ∧ Below w.heap.size w w' := by
  have C0 := Lib.hid fun w => dchk_yes c s w ha
  have C1 := Lib.hid c1
  obtain ⟨s0, s1, c0, c1'⟩ := ha
  have t0 : 0 ≤ t := by omega
  clear c1
  go_enter Tryz.func16, Tryz.ntmps16
  go_wp2_with fail
  refine (C0.out _).mono ?_
  rintro e w1 ⟨rfl, hb⟩
  have B0 := Boxed.below (Boxed.alloc (Boxed.made _ #[.int .i64 c, .int .i64 s] 23) _) hb
  have B := Boxed.below (Boxed.made _ #[.int .i64 0, .int .i64 0] 23) hb
  have j0 := B0.cell 0 _ rfl
  have j1 := B0.cell 1 _ rfl
  have k0 := B.cell 0 _ rfl
  have k1 := B.cell 1 _ rfl
  have f0 := B.free 0 (by decide)
  have f1 := B.free 1 (by decide)
  simp at k0 k1 f0 f1
  have W1 := Lib.hid (blw_trans (blw_trans (blw_alloc w _) (blw_alloc _ _)) hb)
  clear hb B B0 C0
  go_wp2_with fail
  go_big_quiet (fail)
  go_wp2_with fail
  refine (C1.out _).mono ?_
  rintro e w' ⟨rfl, rfl⟩
  go_wp2
  refine bodyPost_ret (v := .tuple #[.agg #[.int .i64 0, .int .i64 0], errV 1]) (by simp [results, Tryz.results16, go_sem, k0, k1]) rfl ⟨rfl, ?_⟩
  exact (Below.setCell (blw_drewN W1.out _) (by simp) _).setCell (by simp) _

set_option maxRecDepth 100000 in
set_option maxHeartbeats 1000000 in
theorem round_far_pos_lo (c s t way h l : Int) (w : World) (ha : okD c s) (t1 : t ≤ 9) (w0 : 1 ≤ way) (w5 : way ≤ 5) (hst : s ≤ t) (hc : 0 ≤ c) (hh : h = 0) (hl : 1000000000000000 < l)
    (c1 : ∀ w, Calls Tryz.prog 35 #[.int .i64 c, .int .i64 (t - s)] w fun e w' => e = .returned (.tuple #[.int .u64 h, .int .u64 l]) ∧ w = w') :
    Calls Tryz.prog 16 #[.agg #[.int .i64 c, .int .i64 s], .int .i64 t, .int .i64 way] w fun e w' => e = .returned (.tuple #[.agg #[.int .i64 0, .int .i64 0], errV 1]) ∧ Below w.heap.size w w' := by
  have C0 := Lib.hid fun w => dchk_yes c s w ha
  have C1 := Lib.hid c1
  obtain ⟨s0, s1, c0, c1'⟩ := ha
  have t0 : 0 ≤ t := by omega
  clear c1
  subst hh
  go_enter Tryz.func16, Tryz.ntmps16
  go_wp2_with fail
  refine (C0.out _).mono ?_
  rintro e w1 ⟨rfl, hb⟩
  have B0 := Boxed.below (Boxed.alloc (Boxed.made _ #[.int .i64 c, .int .i64 s] 23) _) hb
  have B := Boxed.below (Boxed.made _ #[.int .i64 0, .int .i64 0] 23) hb
  have j0 := B0.cell 0 _ rfl
  have j1 := B0.cell 1 _ rfl
  have k0 := B.cell 0 _ rfl
  have k1 := B.cell 1 _ rfl
  have f0 := B.free 0 (by decide)
  have f1 := B.free 1 (by decide)
  simp at k0 k1 f0 f1
  have W1 := Lib.hid (blw_trans (blw_trans (blw_alloc w _) (blw_alloc _ _)) hb)
  clear hb B B0 C0
  go_wp2_with fail
  go_big_quiet (fail)
  go_wp2_with fail
  refine (C1.out _).mono ?_
  rintro e w' ⟨rfl, rfl⟩
  go_wp2
  refine bodyPost_ret (v := .tuple #[.agg #[.int .i64 0, .int .i64 0], errV 1]) (by simp [results, Tryz.results16, go_sem, k0, k1]) rfl ⟨rfl, ?_⟩
  exact (Below.setCell (blw_drewN W1.out _) (by simp) _).setCell (by simp) _

set_option maxRecDepth 100000 in
set_option maxHeartbeats 1000000 in
theorem round_far_neg_hi (c s t way h l : Int) (w : World) (ha : okD c s) (t1 : t ≤ 9) (w0 : 1 ≤ way) (w5 : way ≤ 5) (hst : s ≤ t) (hc : c < 0) (hh : 0 < h)
    (c1 : ∀ w, Calls Tryz.prog 35 #[.int .i64 (-c), .int .i64 (t - s)] w fun e w' => e = .returned (.tuple #[.int .u64 h, .int .u64 l]) ∧ w = w') :
    Calls Tryz.prog 16 #[.agg #[.int .i64 c, .int .i64 s], .int .i64 t, .int .i64 way] w fun e w' => e = .returned (.tuple #[.agg #[.int .i64 0, .int .i64 0], errV 1]) ∧ Below w.heap.size w w' := by
  have C0 := Lib.hid fun w => dchk_yes c s w ha
  have C1 := Lib.hid c1
  obtain ⟨s0, s1, c0, c1'⟩ := ha
  have t0 : 0 ≤ t := by omega
  clear c1
  go_enter Tryz.func16, Tryz.ntmps16
  go_wp2_with fail
  refine (C0.out _).mono ?_
  rintro e w1 ⟨rfl, hb⟩
  have B0 := Boxed.below (Boxed.alloc (Boxed.made _ #[.int .i64 c, .int .i64 s] 23) _) hb
  have B := Boxed.below (Boxed.made _ #[.int .i64 0, .int .i64 0] 23) hb
  have j0 := B0.cell 0 _ rfl
  have j1 := B0.cell 1 _ rfl
  have k0 := B.cell 0 _ rfl
  have k1 := B.cell 1 _ rfl
  have f0 := B.free 0 (by decide)
  have f1 := B.free 1 (by decide)
  simp at k0 k1 f0 f1
  have W1 := Lib.hid (blw_trans (blw_trans (blw_alloc w _) (blw_alloc _ _)) hb)
  clear hb B B0 C0
  go_wp2_with fail
  go_big_quiet (fail)
  go_wp2_with fail
  refine (C1.out _).mono ?_
  rintro e w' ⟨rfl, rfl⟩
  go_wp2
  refine bodyPost_ret (v := .tuple #[.agg #[.int .i64 0, .int .i64 0], errV 1]) (by simp [results, Tryz.results16, go_sem, k0, k1]) rfl ⟨rfl, ?_⟩
  exact (Below.setCell (blw_drewN W1.out _) (by simp) _).setCell (by simp) _

set_option maxRecDepth 100000 in
set_option maxHeartbeats 1000000 in
theorem round_far_neg_lo (c s t way h l : Int) (w : World) (ha : okD c s) (t1 : t ≤ 9) (w0 : 1 ≤ way) (w5 : way ≤ 5) (hst : s ≤ t) (hc : c < 0) (hh : h = 0) (hl : 1000000000000000 < l)
    (c1 : ∀ w, Calls Tryz.prog 35 #[.int .i64 (-c), .int .i64 (t - s)] w fun e w' => e = .returned (.tuple #[.int .u64 h, .int .u64 l]) ∧ w = w') :
    Calls Tryz.prog 16 #[.agg #[.int .i64 c, .int .i64 s], .int .i64 t, .int .i64 way] w fun e w' => e = .returned (.tuple #[.agg #[.int .i64 0, .int .i64 0], errV 1]) ∧ Below w.heap.size w w' := by
  have C0 := Lib.hid fun w => dchk_yes c s w ha
  have C1 := Lib.hid c1
  obtain ⟨s0, s1, c0, c1'⟩ := ha
  have t0 : 0 ≤ t := by omega
  clear c1
  subst hh
  go_enter Tryz.func16, Tryz.ntmps16
  go_wp2_with fail
  refine (C0.out _).mono ?_
  rintro e w1 ⟨rfl, hb⟩
  have B0 := Boxed.below (Boxed.alloc (Boxed.made _ #[.int .i64 c, .int .i64 s] 23) _) hb
  have B := Boxed.below (Boxed.made _ #[.int .i64 0, .int .i64 0] 23) hb
  have j0 := B0.cell 0 _ rfl
  have j1 := B0.cell 1 _ rfl
  have k0 := B.cell 0 _ rfl
  have k1 := B.cell 1 _ rfl
  have f0 := B.free 0 (by decide)
  have f1 := B.free 1 (by decide)
  simp at k0 k1 f0 f1
  have W1 := Lib.hid (blw_trans (blw_trans (blw_alloc w _) (blw_alloc _ _)) hb)
  clear hb B B0 C0
  go_wp2_with fail
  go_big_quiet (fail)
  go_wp2_with fail
  refine (C1.out _).mono ?_
  rintro e w' ⟨rfl, rfl⟩
  go_wp2
  refine bodyPost_ret (v := .tuple #[.agg #[.int .i64 0, .int .i64 0], errV 1]) (by simp [results, Tryz.results16, go_sem, k0, k1]) rfl ⟨rfl, ?_⟩
  exact (Below.setCell (blw_drewN W1.out _) (by simp) _).setCell (by simp) _
end Go.Proofs.YtdmenoimamnldaaGreatDoor
namespace Go.Proofs.YtdmenoimamnldaaGreatDoor
open Go.RowKit
open Dcm (P10 okD nrm)

set_option maxRecDepth 100000 in
set_option maxHeartbeats 2000000 in
theorem round_down_pos_yes (c s t way U : Int) (w : World) (ha : okD c s) (t0 : 0 ≤ t) (w0 : 1 ≤ way) (w5 : way ≤ 5) (hst : t < s) (hc : 0 ≤ c) (hU : P10 (s - t) = U) (hn : Dcm.near way (c / U) (c % U) U 1 = true) :
    Calls Tryz.prog 16 #[.agg #[.int .i64 c, .int .i64 s], .int .i64 t, .int .i64 way] w fun e w' => e = .returned (.tuple #[.agg #[.int .i64 (Dcm.rndC c s t way), .int .i64 t], .nilIface]) ∧ Below w.heap.size w w' := by
  have C0 := Lib.hid fun w => dchk_yes c s w ha
  obtain ⟨s0, s1, c0, c1⟩ := ha
  have u0 := Dcm.P10_bd (s - t)
  rw [hU] at u0
  have q0 := Int.ediv_nonneg (by omega : 0 ≤ c) (by omega : 0 ≤ U)
  have q1 := Int.ediv_le_self U (by omega : 0 ≤ c)
  have r0 := Int.emod_nonneg c (by omega : U ≠ 0)
  have r1 := Int.emod_lt_of_pos c (by omega : 0 < U)
  have C1 : ∀ w, Calls Tryz.prog 36 #[.int .i64 (s - t)] w fun e w' => e = .returned (.int .i64 U) ∧ w = w' := fun w => hU ▸ power_any (s - t) w (by omega) (by omega)
  have C1 := Lib.hid C1
  have C2 : ∀ w, Calls Tryz.prog 37 #[.int .i64 way, .int .i64 (c / U), .int .i64 (c % U), .int .i64 U, .int .i64 1] w fun e w' => e = .returned (.bool true) ∧ w = w' := fun w => hn ▸ near_any way (c / U) (c % U) U 1 w w0 w5 q0 (by omega) r0 (by omega) u0.1 u0.2
  have C2 := Lib.hid C2
  have HC : Dcm.rndC c s t way = c / U + 1 := by
    have e1 : Dcm.sgn c = 1 := by unfold Dcm.sgn; split <;> omega
    have e2 : Dcm.mag c = c := by unfold Dcm.mag; split <;> omega
    unfold Dcm.rndC Dcm.rdU
    rw [if_neg (by omega), e1, e2, hU, hn]
    simp
  have HC := Lib.hid HC
  clear hn hU
  go_enter Tryz.func16, Tryz.ntmps16
  go_wp2_with fail
  refine (C0.out _).mono ?_
  rintro e w1 ⟨rfl, hb⟩
  have B0 := Boxed.below (Boxed.alloc (Boxed.made _ #[.int .i64 c, .int .i64 s] 23) _) hb
  have B := Boxed.below (Boxed.made _ #[.int .i64 0, .int .i64 0] 23) hb
  have j0 := B0.cell 0 _ rfl
  have j1 := B0.cell 1 _ rfl
  have k0 := B.cell 0 _ rfl
  have k1 := B.cell 1 _ rfl
  have f0 := B.free 0 (by decide)
  have f1 := B.free 1 (by decide)
  simp at k0 k1 f0 f1
  have W1 := Lib.hid (blw_trans (blw_trans (blw_alloc w _) (blw_alloc _ _)) hb)
  clear hb B B0 C0
  go_wp2_with fail
  go_big_quiet (fail)
  go_wp2_with fail
  refine (C1.out _).mono ?_
  rintro e w' ⟨rfl, rfl⟩
  go_wp2_with fail
  go_big_quiet (fail)
  go_wp2_with fail
  refine (C2.out _).mono ?_
  rintro e w' ⟨rfl, rfl⟩
  go_wp2
  refine bodyPost_ret (v := .tuple #[.agg #[.int .i64 (c / U + 1), .int .i64 t], .nilIface]) (by simp [results, Tryz.results16, go_sem, k0, k1]) rfl ⟨by rw [HC.out], ?_⟩
  exact (Below.setCell (blw_drewN W1.out _) (by simp) _).setCell (by simp) _

set_option maxRecDepth 100000 in
set_option maxHeartbeats 2000000 in
theorem round_down_pos_no (c s t way U : Int) (w : World) (ha : okD c s) (t0 : 0 ≤ t) (w0 : 1 ≤ way) (w5 : way ≤ 5) (hst : t < s) (hc : 0 ≤ c) (hU : P10 (s - t) = U) (hn : Dcm.near way (c / U) (c % U) U 1 = false) :
    Calls Tryz.prog 16 #[.agg #[.int .i64 c, .int .i64 s], .int .i64 t, .int .i64 way] w fun e w' => e = .returned (.tuple #[.agg #[.int .i64 (Dcm.rndC c s t way), .int .i64 t], .nilIface]) ∧ Below w.heap.size w w' := by
  have C0 := Lib.hid fun w => dchk_yes c s w ha
  obtain ⟨s0, s1, c0, c1⟩ := ha
  have u0 := Dcm.P10_bd (s - t)
  rw [hU] at u0
  have q0 := Int.ediv_nonneg (by omega : 0 ≤ c) (by omega : 0 ≤ U)
  have q1 := Int.ediv_le_self U (by omega : 0 ≤ c)
  have r0 := Int.emod_nonneg c (by omega : U ≠ 0)
  have r1 := Int.emod_lt_of_pos c (by omega : 0 < U)
  have C1 : ∀ w, Calls Tryz.prog 36 #[.int .i64 (s - t)] w fun e w' => e = .returned (.int .i64 U) ∧ w = w' := fun w => hU ▸ power_any (s - t) w (by omega) (by omega)
  have C1 := Lib.hid C1
  have C2 : ∀ w, Calls Tryz.prog 37 #[.int .i64 way, .int .i64 (c / U), .int .i64 (c % U), .int .i64 U, .int .i64 1] w fun e w' => e = .returned (.bool false) ∧ w = w' := fun w => hn ▸ near_any way (c / U) (c % U) U 1 w w0 w5 q0 (by omega) r0 (by omega) u0.1 u0.2
  have C2 := Lib.hid C2
  have HC : Dcm.rndC c s t way = c / U := by
    have e1 : Dcm.sgn c = 1 := by unfold Dcm.sgn; split <;> omega
    have e2 : Dcm.mag c = c := by unfold Dcm.mag; split <;> omega
    unfold Dcm.rndC Dcm.rdU
    rw [if_neg (by omega), e1, e2, hU, hn]
    simp
  have HC := Lib.hid HC
  clear hn hU
  go_enter Tryz.func16, Tryz.ntmps16
  go_wp2_with fail
  refine (C0.out _).mono ?_
  rintro e w1 ⟨rfl, hb⟩
  have B0 := Boxed.below (Boxed.alloc (Boxed.made _ #[.int .i64 c, .int .i64 s] 23) _) hb
  have B := Boxed.below (Boxed.made _ #[.int .i64 0, .int .i64 0] 23) hb
  have j0 := B0.cell 0 _ rfl
  have j1 := B0.cell 1 _ rfl
  have k0 := B.cell 0 _ rfl
  have k1 := B.cell 1 _ rfl
  have f0 := B.free 0 (by decide)
  have f1 := B.free 1 (by decide)
  simp at k0 k1 f0 f1
  have W1 := Lib.hid (blw_trans (blw_trans (blw_alloc w _) (blw_alloc _ _)) hb)
  clear hb B B0 C0
  go_wp2_with fail
  go_big_quiet (fail)
  go_wp2_with fail
  refine (C1.out _).mono ?_
  rintro e w' ⟨rfl, rfl⟩
  go_wp2_with fail
  go_big_quiet (fail)
  go_wp2_with fail
  refine (C2.out _).mono ?_
  rintro e w' ⟨rfl, rfl⟩
  go_wp2
  refine bodyPost_ret (v := .tuple #[.agg #[.int .i64 (c / U), .int .i64 t], .nilIface]) (by simp [results, Tryz.results16, go_sem, k0, k1]) rfl ⟨by rw [HC.out], ?_⟩
  exact (Below.setCell (blw_drewN W1.out _) (by simp) _).setCell (by simp) _

set_option maxRecDepth 100000 in
set_option maxHeartbeats 2000000 in
theorem round_down_neg_yes (n s t way U : Int) (w : World) (ha : okD (-n) s) (t0 : 0 ≤ t) (w0 : 1 ≤ way) (w5 : way ≤ 5) (hst : t < s) (hc : 0 < n) (hU : P10 (s - t) = U) (hn : Dcm.near way (n / U) (n % U) U (-1) = true) :
    Calls Tryz.prog 16 #[.agg #[.int .i64 (-n), .int .i64 s], .int .i64 t, .int .i64 way] w fun e w' => e = .returned (.tuple #[.agg #[.int .i64 (Dcm.rndC (-n) s t way), .int .i64 t], .nilIface]) ∧ Below w.heap.size w w' := by
  have C0 := Lib.hid fun w => dchk_yes (-n) s w ha
  obtain ⟨s0, s1, c0, c1⟩ := ha
  have u0 := Dcm.P10_bd (s - t)
  rw [hU] at u0
  have q0 := Int.ediv_nonneg (by omega : 0 ≤ n) (by omega : 0 ≤ U)
  have q1 := Int.ediv_le_self U (by omega : 0 ≤ n)
  have r0 := Int.emod_nonneg n (by omega : U ≠ 0)
  have r1 := Int.emod_lt_of_pos n (by omega : 0 < U)
  have C1 : ∀ w, Calls Tryz.prog 36 #[.int .i64 (s - t)] w fun e w' => e = .returned (.int .i64 U) ∧ w = w' := fun w => hU ▸ power_any (s - t) w (by omega) (by omega)
  have C1 := Lib.hid C1
  have C2 : ∀ w, Calls Tryz.prog 37 #[.int .i64 way, .int .i64 (n / U), .int .i64 (n % U), .int .i64 U, .int .i64 (-1)] w fun e w' => e = .returned (.bool true) ∧ w = w' := fun w => hn ▸ near_any way (n / U) (n % U) U (-1) w w0 w5 q0 (by omega) r0 (by omega) u0.1 u0.2
  have C2 := Lib.hid C2
  have HC : Dcm.rndC (-n) s t way = -(n / U + 1) := by
    have e1 : Dcm.sgn (-n) = (-1) := by unfold Dcm.sgn; split <;> omega
    have e2 : Dcm.mag (-n) = n := by unfold Dcm.mag; split <;> omega
    unfold Dcm.rndC Dcm.rdU
    rw [if_neg (by omega), e1, e2, hU, hn]
    simp
  have HC := Lib.hid HC
  clear hn hU
  go_enter Tryz.func16, Tryz.ntmps16
  go_wp2_with fail
  refine (C0.out _).mono ?_
  rintro e w1 ⟨rfl, hb⟩
  have B0 := Boxed.below (Boxed.alloc (Boxed.made _ #[.int .i64 (-n), .int .i64 s] 23) _) hb
  have B := Boxed.below (Boxed.made _ #[.int .i64 0, .int .i64 0] 23) hb
  have j0 := B0.cell 0 _ rfl
  have j1 := B0.cell 1 _ rfl
  have k0 := B.cell 0 _ rfl
  have k1 := B.cell 1 _ rfl
  have f0 := B.free 0 (by decide)
  have f1 := B.free 1 (by decide)
  simp at k0 k1 f0 f1
  have W1 := Lib.hid (blw_trans (blw_trans (blw_alloc w _) (blw_alloc _ _)) hb)
  clear hb B B0 C0
  go_wp2_with fail
  go_big_quiet (fail)
  go_wp2_with fail
  refine (C1.out _).mono ?_
  rintro e w' ⟨rfl, rfl⟩
  go_wp2_with fail
  go_big_quiet (fail)
  go_wp2_with fail
  refine (C2.out _).mono ?_
  rintro e w' ⟨rfl, rfl⟩
  go_wp2
  refine bodyPost_ret (v := .tuple #[.agg #[.int .i64 (-(n / U + 1)), .int .i64 t], .nilIface]) (by simp [results, Tryz.results16, go_sem, k0, k1]) rfl ⟨by rw [HC.out], ?_⟩
  exact (Below.setCell (blw_drewN W1.out _) (by simp) _).setCell (by simp) _

set_option maxRecDepth 100000 in
set_option maxHeartbeats 2000000 in
theorem round_down_neg_no (n s t way U : Int) (w : World) (ha : okD (-n) s) (t0 : 0 ≤ t) (w0 : 1 ≤ way) (w5 : way ≤ 5) (hst : t < s) (hc : 0 < n) (hU : P10 (s - t) = U) (hn : Dcm.near way (n / U) (n % U) U (-1) = false) :
    Calls Tryz.prog 16 #[.agg #[.int .i64 (-n), .int .i64 s], .int .i64 t, .int .i64 way] w fun e w' => e = .returned (.tuple #[.agg #[.int .i64 (Dcm.rndC (-n) s t way), .int .i64 t], .nilIface]) ∧ Below w.heap.size w w' := by
  have C0 := Lib.hid fun w => dchk_yes (-n) s w ha
  obtain ⟨s0, s1, c0, c1⟩ := ha
  have u0 := Dcm.P10_bd (s - t)
  rw [hU] at u0
  have q0 := Int.ediv_nonneg (by omega : 0 ≤ n) (by omega : 0 ≤ U)
  have q1 := Int.ediv_le_self U (by omega : 0 ≤ n)
  have r0 := Int.emod_nonneg n (by omega : U ≠ 0)
  have r1 := Int.emod_lt_of_pos n (by omega : 0 < U)
  have C1 : ∀ w, Calls Tryz.prog 36 #[.int .i64 (s - t)] w fun e w' => e = .returned (.int .i64 U) ∧ w = w' := fun w => hU ▸ power_any (s - t) w (by omega) (by omega)
  have C1 := Lib.hid C1
  have C2 : ∀ w, Calls Tryz.prog 37 #[.int .i64 way, .int .i64 (n / U), .int .i64 (n % U), .int .i64 U, .int .i64 (-1)] w fun e w' => e = .returned (.bool false) ∧ w = w' := fun w => hn ▸ near_any way (n / U) (n % U) U (-1) w w0 w5 q0 (by omega) r0 (by omega) u0.1 u0.2
  have C2 := Lib.hid C2
  have HC : Dcm.rndC (-n) s t way = -(n / U) := by
    have e1 : Dcm.sgn (-n) = (-1) := by unfold Dcm.sgn; split <;> omega
    have e2 : Dcm.mag (-n) = n := by unfold Dcm.mag; split <;> omega
    unfold Dcm.rndC Dcm.rdU
    rw [if_neg (by omega), e1, e2, hU, hn]
    simp
  have HC := Lib.hid HC
  clear hn hU
  go_enter Tryz.func16, Tryz.ntmps16
  go_wp2_with fail
  refine (C0.out _).mono ?_
  rintro e w1 ⟨rfl, hb⟩
  have B0 := Boxed.below (Boxed.alloc (Boxed.made _ #[.int .i64 (-n), .int .i64 s] 23) _) hb
  have B := Boxed.below (Boxed.made _ #[.int .i64 0, .int .i64 0] 23) hb
  have j0 := B0.cell 0 _ rfl
  have j1 := B0.cell 1 _ rfl
  have k0 := B.cell 0 _ rfl
  have k1 := B.cell 1 _ rfl
  have f0 := B.free 0 (by decide)
  have f1 := B.free 1 (by decide)
  simp at k0 k1 f0 f1
  have W1 := Lib.hid (blw_trans (blw_trans (blw_alloc w _) (blw_alloc _ _)) hb)
  clear hb B B0 C0
  go_wp2_with fail
  go_big_quiet (fail)
  go_wp2_with fail
  refine (C1.out _).mono ?_
  rintro e w' ⟨rfl, rfl⟩
  go_wp2_with fail
  go_big_quiet (fail)
  go_wp2_with fail
  refine (C2.out _).mono ?_
  rintro e w' ⟨rfl, rfl⟩
  go_wp2
  refine bodyPost_ret (v := .tuple #[.agg #[.int .i64 (-(n / U)), .int .i64 t], .nilIface]) (by simp [results, Tryz.results16, go_sem, k0, k1]) rfl ⟨by rw [HC.out], ?_⟩
  exact (Below.setCell (blw_drewN W1.out _) (by simp) _).setCell (by simp) _
end Go.Proofs.YtdmenoimamnldaaGreatDoor
