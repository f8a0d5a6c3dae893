/- Rules and their texts: how long they are; of what a rule holds. Plain law: no program. -/
import Derived.Test.YtjlchookakbomaaGreatDoorEh7
import Derived.Test.YtjlchookakbomaaGreatDoorEh0
import Derived.Test.YtjlchookakbomaaGreatDoorEh1
import Derived.Test.YtjlchookakbomaaGreatDoorEh5
namespace Go.Proofs.YtjlchookakbomaaGreatDoor
open Go.RowKit
open Dcm (P10 okD nrm)

set_option maxRecDepth 100000 in
set_option maxHeartbeats 1000000 in
theorem add_bad1 (a s b t : Int) (w : World) (ha : ¬ okD a s) : Calls Tryz.prog 58 #[.agg #[.int .i64 a, .int .i64 s], .agg #[.int .i64 b, .int .i64 t]] w fun e w' => e = .returned (.tuple #[.agg #[.int .i64 0, .int .i64 0], errV 1]) ∧ Below w.heap.size w w' := by
  have C1 := Lib.hid fun w => dchk_no a s w ha
  clear ha
  go_enter Tryz.func58, Tryz.ntmps58
  go_wp2_with fail
  refine (C1.out _).mono ?_
  rintro e w1 ⟨rfl, hb⟩
  have A1 := Boxed.below (Boxed.alloc (Boxed.alloc (Boxed.made _ #[.int .i64 a, .int .i64 s] 64) _) _) hb
  have B1 := Boxed.below (Boxed.alloc (Boxed.made _ #[.int .i64 b, .int .i64 t] 64) _) hb
  have Z1 := Boxed.below (Boxed.made _ #[.int .i64 0, .int .i64 0] 64) hb
  have W1 := Lib.hid (blw_trans (blw_trans (blw_trans (blw_alloc w _) (blw_alloc _ _)) (blw_alloc _ _)) hb)
  clear hb C1
  have ka0 := A1.cell 0 _ rfl
  have ka1 := A1.cell 1 _ rfl
  have kb0 := B1.cell 0 _ rfl
  have kb1 := B1.cell 1 _ rfl
  have kz0 := Z1.cell 0 _ rfl
  have kz1 := Z1.cell 1 _ rfl
  have fz0 := Z1.free 0 (by decide)
  have fz1 := Z1.free 1 (by decide)
  try simp at ka0 ka1 kb0 kb1 kz0 kz1 fz0 fz1
  go_wp2
  refine bodyPost_ret (v := .tuple #[.agg #[.int .i64 0, .int .i64 0], errV 1]) (by simp [results, Tryz.results58, go_sem, kz0, kz1]) rfl ⟨rfl, ?_⟩
  exact (Below.setCell (Below.setCell W1.out (by simp <;> omega) _) (by simp <;> omega) _)

set_option maxRecDepth 100000 in
set_option maxHeartbeats 1000000 in
theorem add_bad2 (a s b t : Int) (w : World) (ha : okD a s) (hb' : ¬ okD b t) : Calls Tryz.prog 58 #[.agg #[.int .i64 a, .int .i64 s], .agg #[.int .i64 b, .int .i64 t]] w fun e w' => e = .returned (.tuple #[.agg #[.int .i64 0, .int .i64 0], errV 1]) ∧ Below w.heap.size w w' := by
  have C1 := Lib.hid fun w => dchk_yes a s w ha
  have C2 := Lib.hid fun w => dchk_no b t w hb'
  clear ha hb'
  go_enter Tryz.func58, Tryz.ntmps58
  go_wp2_with fail
  refine (C1.out _).mono ?_
  rintro e w1 ⟨rfl, hb⟩
  have A1 := Boxed.below (Boxed.alloc (Boxed.alloc (Boxed.made _ #[.int .i64 a, .int .i64 s] 64) _) _) hb
  have B1 := Boxed.below (Boxed.alloc (Boxed.made _ #[.int .i64 b, .int .i64 t] 64) _) hb
  have Z1 := Boxed.below (Boxed.made _ #[.int .i64 0, .int .i64 0] 64) hb
  have W1 := Lib.hid (blw_trans (blw_trans (blw_trans (blw_alloc w _) (blw_alloc _ _)) (blw_alloc _ _)) hb)
  clear hb C1
  have ka0 := A1.cell 0 _ rfl
  have ka1 := A1.cell 1 _ rfl
  have kb0 := B1.cell 0 _ rfl
  have kb1 := B1.cell 1 _ rfl
  try simp at ka0 ka1 kb0 kb1
  go_wp2_with fail
  refine (C2.out _).mono ?_
  rintro e w2 ⟨rfl, hb⟩
  have A2 := A1.below hb
  have B2 := B1.below hb
  have Z2 := Z1.below hb
  have W2 := Lib.hid (blw_trans W1.out hb)
  clear hb C2 A1 B1 Z1 W1 ka0 ka1 kb0 kb1
  have ka0 := A2.cell 0 _ rfl
  have ka1 := A2.cell 1 _ rfl
  have kb0 := B2.cell 0 _ rfl
  have kb1 := B2.cell 1 _ rfl
  have kz0 := Z2.cell 0 _ rfl
  have kz1 := Z2.cell 1 _ rfl
  have fz0 := Z2.free 0 (by decide)
  have fz1 := Z2.free 1 (by decide)
  try simp at ka0 ka1 kb0 kb1 kz0 kz1 fz0 fz1
  go_wp2
  refine bodyPost_ret (v := .tuple #[.agg #[.int .i64 0, .int .i64 0], errV 1]) (by simp [results, Tryz.results58, go_sem, kz0, kz1]) rfl ⟨rfl, ?_⟩
  exact (Below.setCell (Below.setCell W2.out (by simp <;> omega) _) (by simp <;> omega) _)

inductive AddC (Q U M t : Int) : Value → Prop
  | ok : ¬ 2000000000000000 / U + 1 < Q → ¬ Q < -(2000000000000000 / U) - 1 → ¬ Q * U + M < -1000000000000000 → ¬ 1000000000000000 < Q * U + M → AddC Q U M t (.tuple #[.agg #[.int .i64 (Q * U + M), .int .i64 t], .nilIface])
  | far : 2000000000000000 / U + 1 < Q → AddC Q U M t (.tuple #[.agg #[.int .i64 0, .int .i64 0], errV 1])
  | far2 : ¬ 2000000000000000 / U + 1 < Q → Q < -(2000000000000000 / U) - 1 → AddC Q U M t (.tuple #[.agg #[.int .i64 0, .int .i64 0], errV 1])
  | lo : ¬ 2000000000000000 / U + 1 < Q → ¬ Q < -(2000000000000000 / U) - 1 → Q * U + M < -1000000000000000 → AddC Q U M t (.tuple #[.agg #[.int .i64 0, .int .i64 0], errV 1])
  | hi : ¬ 2000000000000000 / U + 1 < Q → ¬ Q < -(2000000000000000 / U) - 1 → ¬ Q * U + M < -1000000000000000 → 1000000000000000 < Q * U + M → AddC Q U M t (.tuple #[.agg #[.int .i64 0, .int .i64 0], errV 1])

set_option maxRecDepth 100000 in
set_option maxHeartbeats 4000000 in
theorem add_keep (a s b t U : Int) (V : Value) (w : World) (ha : okD a s) (hb' : okD b t) (hst : s ≤ t) (hU : P10 (t - s) = U) (h : AddC (a + b.tdiv U) U (b.tmod U) t V) :
    Calls Tryz.prog 58 #[.agg #[.int .i64 a, .int .i64 s], .agg #[.int .i64 b, .int .i64 t]] w fun e w' => e = .returned V ∧ Below w.heap.size w w' := by
  have C1 := Lib.hid fun w => dchk_yes a s w ha
  have C2 := Lib.hid fun w => dchk_yes b t w hb'
  obtain ⟨s0, s1, a0, a1⟩ := ha
  obtain ⟨t0, t1, b0, b1⟩ := hb'
  have u0 := Dcm.P10_bd (t - s)
  rw [hU] at u0
  have C3 : ∀ w, Calls Tryz.prog 97 #[.int .i64 (t - s)] w fun e w' => e = .returned (.int .i64 U) ∧ w = w' := fun w => hU ▸ power_any (t - s) w (by omega) (by omega)
  have C3 := Lib.hid C3
  clear hU
  have q0 := Dcm.tdiv_bd b U u0.1 ⟨by omega, by omega⟩
  have r0 := Dcm.tmod_bd b U u0.1
  have Q0 := Int.ediv_nonneg (by omega : (0 : Int) ≤ 2000000000000000) (by omega : 0 ≤ U)
  have Q1 := Int.ediv_le_self U (by omega : (0 : Int) ≤ 2000000000000000)
  rcases h with ⟨hs1, hs2, hn1, hn2⟩ | ⟨hs1⟩ | ⟨hs1, hs2⟩ | ⟨hs1, hs2, hn1⟩ | ⟨hs1, hs2, hn1, hn2⟩
  all_goals
    try have n0 := Dcm.sum_near (a + b.tdiv U) U u0.1 u0.2 ⟨hs1, hs2⟩
    go_enter Tryz.func58, Tryz.ntmps58
    go_wp2_with fail
    refine (C1.out _).mono ?_
    rintro e w1 ⟨rfl, hb⟩
    have A1 := Boxed.below (Boxed.alloc (Boxed.alloc (Boxed.made _ #[.int .i64 a, .int .i64 s] 64) _) _) hb
    have B1 := Boxed.below (Boxed.alloc (Boxed.made _ #[.int .i64 b, .int .i64 t] 64) _) hb
    have Z1 := Boxed.below (Boxed.made _ #[.int .i64 0, .int .i64 0] 64) hb
    have W1 := Lib.hid (blw_trans (blw_trans (blw_trans (blw_alloc w _) (blw_alloc _ _)) (blw_alloc _ _)) hb)
    clear hb C1
    have ka0 := A1.cell 0 _ rfl
    have ka1 := A1.cell 1 _ rfl
    have kb0 := B1.cell 0 _ rfl
    have kb1 := B1.cell 1 _ rfl
    try simp at ka0 ka1 kb0 kb1
    go_wp2_with fail
    refine (C2.out _).mono ?_
    rintro e w2 ⟨rfl, hb⟩
    have A2 := A1.below hb
    have B2 := B1.below hb
    have Z2 := Z1.below hb
    have W2 := Lib.hid (blw_trans W1.out hb)
    clear hb C2 A1 B1 Z1 W1 ka0 ka1 kb0 kb1
    have A2 := A2.at (q := w.heap.size) rfl
    have B2 := B2.at (q := w.heap.size + 1) (by simp)
    have Z2 := Z2.at (q := w.heap.size + 1 + 1) (by simp)
    have ka0 := A2.cell 0 _ rfl
    have ka1 := A2.cell 1 _ rfl
    have kb0 := B2.cell 0 _ rfl
    have kb1 := B2.cell 1 _ rfl
    have kz0 := Z2.cell 0 _ rfl
    have kz1 := Z2.cell 1 _ rfl
    have fz0 := Z2.free 0 (by decide)
    have fz1 := Z2.free 1 (by decide)
    try simp at ka0 ka1 kb0 kb1 kz0 kz1 fz0 fz1
    have e9 : (-2000000000000000 : Int).tdiv U = -(2000000000000000 / U) := by rw [Int.neg_tdiv, Int.tdiv_eq_ediv_of_nonneg (by omega)]
    go_wp2_with fail
    refine (C3.out _).mono ?_
    rintro e w' ⟨rfl, rfl⟩
    go_wp2_with fail
    go_big_quiet (fail)
    go_wp2
    refine bodyPost_ret (by simp [results, Tryz.results58, go_sem, kz0, kz1]) rfl ⟨rfl, ?_⟩
    exact (by
      repeat (first | exact W2.out | refine blw_drewN ?_ _ | refine Below.setCell ?_ (by simp <;> omega) _))

set_option maxRecDepth 100000 in
set_option maxHeartbeats 4000000 in
theorem add_swap (a s b t U : Int) (V : Value) (w : World) (ha : okD a s) (hb' : okD b t) (hst : t < s) (hU : P10 (s - t) = U) (h : AddC (b + a.tdiv U) U (a.tmod U) s V) :
    Calls Tryz.prog 58 #[.agg #[.int .i64 a, .int .i64 s], .agg #[.int .i64 b, .int .i64 t]] w fun e w' => e = .returned V ∧ Below w.heap.size w w' := by
  have C1 := Lib.hid fun w => dchk_yes a s w ha
  have C2 := Lib.hid fun w => dchk_yes b t w hb'
  obtain ⟨s0, s1, a0, a1⟩ := ha
  obtain ⟨t0, t1, b0, b1⟩ := hb'
  have u0 := Dcm.P10_bd (s - t)
  rw [hU] at u0
  have C3 : ∀ w, Calls Tryz.prog 97 #[.int .i64 (s - t)] w fun e w' => e = .returned (.int .i64 U) ∧ w = w' := fun w => hU ▸ power_any (s - t) w (by omega) (by omega)
  have C3 := Lib.hid C3
  clear hU
  have q0 := Dcm.tdiv_bd a U u0.1 ⟨by omega, by omega⟩
  have r0 := Dcm.tmod_bd a U u0.1
  have Q0 := Int.ediv_nonneg (by omega : (0 : Int) ≤ 2000000000000000) (by omega : 0 ≤ U)
  have Q1 := Int.ediv_le_self U (by omega : (0 : Int) ≤ 2000000000000000)
  rcases h with ⟨hs1, hs2, hn1, hn2⟩ | ⟨hs1⟩ | ⟨hs1, hs2⟩ | ⟨hs1, hs2, hn1⟩ | ⟨hs1, hs2, hn1, hn2⟩
  all_goals
    try have n0 := Dcm.sum_near (b + a.tdiv U) U u0.1 u0.2 ⟨hs1, hs2⟩
    go_enter Tryz.func58, Tryz.ntmps58
    go_wp2_with fail
    refine (C1.out _).mono ?_
    rintro e w1 ⟨rfl, hb⟩
    have A1 := Boxed.below (Boxed.alloc (Boxed.alloc (Boxed.made _ #[.int .i64 a, .int .i64 s] 64) _) _) hb
    have B1 := Boxed.below (Boxed.alloc (Boxed.made _ #[.int .i64 b, .int .i64 t] 64) _) hb
    have Z1 := Boxed.below (Boxed.made _ #[.int .i64 0, .int .i64 0] 64) hb
    have W1 := Lib.hid (blw_trans (blw_trans (blw_trans (blw_alloc w _) (blw_alloc _ _)) (blw_alloc _ _)) hb)
    clear hb C1
    have ka0 := A1.cell 0 _ rfl
    have ka1 := A1.cell 1 _ rfl
    have kb0 := B1.cell 0 _ rfl
    have kb1 := B1.cell 1 _ rfl
    try simp at ka0 ka1 kb0 kb1
    go_wp2_with fail
    refine (C2.out _).mono ?_
    rintro e w2 ⟨rfl, hb⟩
    have A2 := A1.below hb
    have B2 := B1.below hb
    have Z2 := Z1.below hb
    have W2 := Lib.hid (blw_trans W1.out hb)
    clear hb C2 A1 B1 Z1 W1 ka0 ka1 kb0 kb1
    have A2 := A2.at (q := w.heap.size) rfl
    have B2 := B2.at (q := w.heap.size + 1) (by simp)
    have Z2 := Z2.at (q := w.heap.size + 1 + 1) (by simp)
    have ka0 := A2.cell 0 _ rfl
    have ka1 := A2.cell 1 _ rfl
    have kb0 := B2.cell 0 _ rfl
    have kb1 := B2.cell 1 _ rfl
    try simp at ka0 ka1 kb0 kb1
    have fa0 := A2.free 0 (by simp)
    have fa1 := A2.free 1 (by simp)
    have fb0 := B2.free 0 (by simp)
    have fb1 := B2.free 1 (by simp)
    go_wp2_with fail
    have A3 := (((A2.set 0 (.int .i64 b) (by simp)).set 1 (.int .i64 t) (by simp)).far (q := w.heap.size + 1) (by omega) 0 (.int .i64 a)).far (q := w.heap.size + 1) (by omega) 1 (.int .i64 s)
    have B3 := (((B2.far (q := w.heap.size) (by omega) 0 (.int .i64 b)).far (q := w.heap.size) (by omega) 1 (.int .i64 t)).set 0 (.int .i64 a) (by simp)).set 1 (.int .i64 s) (by simp)
    have Z3 := (((Z2.far (q := w.heap.size) (by omega) 0 (.int .i64 b)).far (q := w.heap.size) (by omega) 1 (.int .i64 t)).far (q := w.heap.size + 1) (by omega) 0 (.int .i64 a)).far (q := w.heap.size + 1) (by omega) 1 (.int .i64 s)
    have W3 := Lib.hid ((((W2.out.setCell (p := ⟨w.heap.size, 0, none⟩) (Nat.le_refl _) (.int .i64 b)).setCell (p := ⟨w.heap.size, 1, none⟩) (Nat.le_refl _) (.int .i64 t)).setCell (p := ⟨w.heap.size + 1, 0, none⟩) (Nat.le_succ _) (.int .i64 a)).setCell (p := ⟨w.heap.size + 1, 1, none⟩) (Nat.le_succ _) (.int .i64 s))
    clear A2 B2 Z2 W2 ka0 ka1 kb0 kb1 fa0 fa1 fb0 fb1
    generalize (((w2.setCell ⟨w.heap.size, 0, none⟩ (.int .i64 b)).setCell ⟨w.heap.size, 1, none⟩ (.int .i64 t)).setCell ⟨w.heap.size + 1, 0, none⟩ (.int .i64 a)).setCell ⟨w.heap.size + 1, 1, none⟩ (.int .i64 s) = w3 at *
    have ka0 := A3.cell 0 _ rfl
    have ka1 := A3.cell 1 _ rfl
    have kb0 := B3.cell 0 _ rfl
    have kb1 := B3.cell 1 _ rfl
    have kz0 := Z3.cell 0 _ rfl
    have kz1 := Z3.cell 1 _ rfl
    have fz0 := Z3.free 0 (by simp)
    have fz1 := Z3.free 1 (by simp)
    clear A3 B3 Z3
    have e9 : (-2000000000000000 : Int).tdiv U = -(2000000000000000 / U) := by rw [Int.neg_tdiv, Int.tdiv_eq_ediv_of_nonneg (by omega)]
    refine (C3.out _).mono ?_
    rintro e w' ⟨rfl, rfl⟩
    go_wp2_with fail
    go_big_quiet (fail)
    go_wp2
    refine bodyPost_ret (by simp [results, Tryz.results58, go_sem, kz0, kz1]) rfl ⟨rfl, ?_⟩
    exact (by
      repeat (first | exact W3.out | refine blw_drewN ?_ _ | refine Below.setCell ?_ (by simp <;> omega) _))

/-- may two numbers be added? -/
def addOk (a s b t : Int) : Prop := okD a s ∧ okD b t ∧ -1000000000000000 ≤ Dcm.addC a s b t ∧ Dcm.addC a s b t ≤ 1000000000000000
instance (a s b t : Int) : Decidable (addOk a s b t) := by unfold addOk; infer_instance
theorem add_yes (a s b t : Int) (w : World) (h : addOk a s b t) :
    Calls Tryz.prog 58 #[.agg #[.int .i64 a, .int .i64 s], .agg #[.int .i64 b, .int .i64 t]] w fun e w' => e = .returned (.tuple #[.agg #[.int .i64 (Dcm.addC a s b t), .int .i64 (Dcm.addS s t)], .nilIface]) ∧ Below w.heap.size w w' := by
  obtain ⟨ha, hb, h1, h2⟩ := h
  unfold Dcm.addC Dcm.addS at *
  by_cases hst : s ≤ t
  · rw [if_pos hst] at h1 h2 ⊢
    rw [if_pos hst]
    have u0 := (Dcm.P10_bd (t - s)).1
    have e := Dcm.sum_quo a b (P10 (t - s)) u0
    have r0 := Dcm.tmod_bd b (P10 (t - s)) u0
    have far := Dcm.sum_far (a + b.tdiv (P10 (t - s))) (b.tmod (P10 (t - s))) (P10 (t - s)) u0 r0
    rw [← e]
    exact add_keep a s b t _ _ w ha hb hst rfl (.ok (fun g => by have := far (.inl g); omega) (fun g => by have := far (.inr g); omega) (by omega) (by omega))
  · rw [if_neg hst] at h1 h2 ⊢
    rw [if_neg hst]
    have u0 := (Dcm.P10_bd (s - t)).1
    have e := Dcm.sum_quo b a (P10 (s - t)) u0
    have r0 := Dcm.tmod_bd a (P10 (s - t)) u0
    have far := Dcm.sum_far (b + a.tdiv (P10 (s - t))) (a.tmod (P10 (s - t))) (P10 (s - t)) u0 r0
    rw [← e]
    exact add_swap a s b t _ _ w ha hb (by omega) rfl (.ok (fun g => by have := far (.inl g); omega) (fun g => by have := far (.inr g); omega) (by omega) (by omega))
theorem add_no (a s b t : Int) (w : World) (h : ¬ addOk a s b t) :
    Calls Tryz.prog 58 #[.agg #[.int .i64 a, .int .i64 s], .agg #[.int .i64 b, .int .i64 t]] w fun e w' => e = .returned (.tuple #[.agg #[.int .i64 0, .int .i64 0], errV 1]) ∧ Below w.heap.size w w' := by
  by_cases ha : okD a s
  · by_cases hb : okD b t
    · have h3 : ¬ (-1000000000000000 ≤ Dcm.addC a s b t ∧ Dcm.addC a s b t ≤ 1000000000000000) := fun g => h ⟨ha, hb, g.1, g.2⟩
      unfold Dcm.addC at h3
      by_cases hst : s ≤ t
      · rw [if_pos hst] at h3
        have u0 := (Dcm.P10_bd (t - s)).1
        have e := Dcm.sum_quo a b (P10 (t - s)) u0
        by_cases g1 : 2000000000000000 / P10 (t - s) + 1 < a + b.tdiv (P10 (t - s))
        · exact add_keep a s b t _ _ w ha hb hst rfl (.far g1)
        by_cases g2 : a + b.tdiv (P10 (t - s)) < -(2000000000000000 / P10 (t - s)) - 1
        · exact add_keep a s b t _ _ w ha hb hst rfl (.far2 g1 g2)
        by_cases g3 : (a + b.tdiv (P10 (t - s))) * P10 (t - s) + b.tmod (P10 (t - s)) < -1000000000000000
        · exact add_keep a s b t _ _ w ha hb hst rfl (.lo g1 g2 g3)
        · exact add_keep a s b t _ _ w ha hb hst rfl (.hi g1 g2 g3 (by omega))
      · rw [if_neg hst] at h3
        have u0 := (Dcm.P10_bd (s - t)).1
        have e := Dcm.sum_quo b a (P10 (s - t)) u0
        by_cases g1 : 2000000000000000 / P10 (s - t) + 1 < b + a.tdiv (P10 (s - t))
        · exact add_swap a s b t _ _ w ha hb (by omega) rfl (.far g1)
        by_cases g2 : b + a.tdiv (P10 (s - t)) < -(2000000000000000 / P10 (s - t)) - 1
        · exact add_swap a s b t _ _ w ha hb (by omega) rfl (.far2 g1 g2)
        by_cases g3 : (b + a.tdiv (P10 (s - t))) * P10 (s - t) + a.tmod (P10 (s - t)) < -1000000000000000
        · exact add_swap a s b t _ _ w ha hb (by omega) rfl (.lo g1 g2 g3)
        · exact add_swap a s b t _ _ w ha hb (by omega) rfl (.hi g1 g2 g3 (by omega))
    · exact add_bad2 a s b t w ha hb
  · exact add_bad1 a s b t w ha
end Go.Proofs.YtjlchookakbomaaGreatDoor
namespace Go.Proofs.YtjlchookakbomaaGreatDoor.Dcm

end Go.Proofs.YtjlchookakbomaaGreatDoor.Dcm
namespace Rul
open Go Go.Lib

/-- the pieces of a text have no more signs than it -/
theorem split_lens {sub : List UInt8} (hs : sub ≠ []) : ∀ (k : Nat) (s : List UInt8), s.length ≤ k → lens (split s sub) + sub.length * (split s sub).length = s.length + sub.length := by
  intro k
  induction k with
  | zero =>
    intro s h
    have e : s = [] := List.eq_nil_of_length_eq_zero (by omega)
    subst e
    have hi : index [] sub < 0 := by
      have r := index_room [] sub
      have := List.length_pos_iff.2 hs
      simp at r
      omega
    rw [Spl.split_miss (by have := index_ge [] sub; omega)]
    simp [lens]
  | succ k ih =>
    intro s h
    by_cases hi : index s sub < 0
    · rw [Spl.split_miss (by have := index_ge s sub; omega)]
      simp [lens]
    · obtain ⟨i, hi'⟩ : ∃ i : Nat, index s sub = i := ⟨(index s sub).toNat, by omega⟩
      have room := index_room s sub (by omega)
      have hp := List.length_pos_iff.2 hs
      rw [Spl.split_hit hs hi']
      have q := ih (s.drop (i + sub.length)) (by rw [List.length_drop]; omega)
      rw [List.length_drop] at q
      have e : lens (s.take i :: split (s.drop (i + sub.length)) sub) = i + lens (split (s.drop (i + sub.length)) sub) := by
        simp [lens]; omega
      rw [e, List.length_cons, Nat.mul_succ]
      omega
theorem split_short {s sub : List UInt8} (hs : sub ≠ []) : (split s sub).length ≤ s.length + 1 := by
  have h := split_lens hs _ s (Nat.le_refl _)
  have hp := List.length_pos_iff.2 hs
  have q : 1 * (split s sub).length ≤ sub.length * (split s sub).length := Nat.mul_le_mul_right _ hp
  have : (split s sub).length + sub.length ≤ s.length + 1 + sub.length ∨ True := .inr trivial
  rcases Nat.eq_or_lt_of_le hp with e | e
  · rw [← e] at h; omega
  · have hl : 0 < (split s sub).length := by rw [Spl.split_len hs]; omega
    obtain ⟨m, hm⟩ : ∃ m, (split s sub).length = m + 1 := ⟨_, (Nat.succ_pred_eq_of_pos hl).symm⟩
    rw [hm] at h ⊢
    rw [Nat.mul_succ] at h
    have : 1 * m ≤ sub.length * m := Nat.mul_le_mul_right _ hp
    omega
/-- a rule that was read has no more relations than its text signs -/
theorem count_P (s : List UInt8) : (ruleP s).length ≤ s.length + 1 ∧ count (ruleP s) ≤ 2 * s.length + 2 := by
  have h1 := split_short (s := s) (sub := orS) (by decide)
  have h2 := split_lens (sub := orS) (by decide) _ s (Nat.le_refl _)
  refine ⟨by unfold ruleP; rw [List.length_map]; exact h1, ?_⟩
  have key : ∀ l : List (List UInt8), ((l.map partP).map (·.length)).sum ≤ lens l + l.length := by
    intro l
    induction l with
    | nil => simp [lens]
    | cons a l ih =>
      have ha := split_short (s := a) (sub := andS) (by decide)
      have e : lens (a :: l) = a.length + lens l := by simp [lens]
      rw [e, List.map_cons, List.map_cons, List.sum_cons, List.length_cons]
      have : (partP a).length ≤ a.length + 1 := by unfold partP; rw [List.length_map]; exact ha
      omega
  have := key (split s orS)
  unfold count ruleP
  have : 0 ≤ orS.length * (split s orS).length := Nat.zero_le _
  have h3 : lens (split s orS) ≤ s.length := by
    have hl : 0 < (split s orS).length := by rw [Spl.split_len (by decide)]; omega
    have : orS.length * 1 ≤ orS.length * (split s orS).length := Nat.mul_le_mul_left _ hl
    omega
  omega
theorem mem_splitK {sub : List UInt8} : ∀ (k : Nat) (s x : List UInt8), x ∈ splitK sub 0 k s → x.length ≤ s.length := by
  intro k
  induction k with
  | zero => intro s x hx; simp [splitK] at hx; rw [hx]; omega
  | succ k ih =>
    intro s x hx
    unfold splitK at hx
    split at hx
    · simp at hx; rw [hx]; omega
    · rcases List.mem_cons.1 hx with rfl | hx
      · simp; omega
      · have := ih _ x hx
        simp at this; omega
theorem mem_split {s sub x : List UInt8} (hx : x ∈ split s sub) : x.length ≤ s.length := mem_splitK _ s x hx
theorem hd_len (s : List UInt8) : (hd s).2.length ≤ s.length := by
  unfold hd
  split
  · unfold cut; split
    · simp only [List.length_drop]; omega
    · simp
  · unfold cut; split
    · simp only [List.length_drop]; omega
    · simp
theorem rs_P (s : List UInt8) : ∀ l ∈ ruleP s, ∀ x ∈ l, x.rs.length ≤ s.length + 1 := by
  intro l hl x hx
  obtain ⟨p, hp, rfl⟩ := List.mem_map.1 hl
  obtain ⟨q, hq, rfl⟩ := List.mem_map.1 hx
  have h1 := mem_split hp
  have h2 := mem_split hq
  have h3 := hd_len q
  have h4 := split_short (s := (hd q).2) (sub := [44]) (by decide)
  show ((split (hd q).2 [44]).map rngP).length ≤ _
  rw [List.length_map]
  omega

theorem dg_len {v : Int} (h : v ≤ 1000000) : (dg v).length ≤ 7 := Byt.digits_short 7 v.toNat (by omega) (by omega)
theorem rngT_len {p : Int × Int} (h : rngOk p = true) : (rngT p).length ≤ 16 := by
  simp only [rngOk, Bool.and_eq_true, decide_eq_true_eq] at h
  have h1 := dg_len (v := p.1) (by omega)
  have h2 := dg_len (v := p.2) (by omega)
  unfold rngT
  split
  · omega
  · simp only [List.length_append, List.length_cons, List.length_nil]; omega
theorem total_le {l : List (List UInt8)} {sep : List UInt8} {k : Nat} (h : ∀ x ∈ l, x.length ≤ k) : Lst.total l sep ≤ l.length * (k + sep.length) := by
  unfold Lst.total
  have : lens l ≤ l.length * k := by
    induction l with
    | nil => simp [lens]
    | cons a l ih =>
      have e : lens (a :: l) = a.length + lens l := by simp [lens]
      have h1 := h a (by simp)
      have h2 := ih (fun x hx => h x (by simp [hx]))
      rw [e, List.length_cons, Nat.succ_mul]
      omega
  rw [Nat.mul_add, Nat.mul_comm sep.length]
  omega
theorem relOk_parts {r : Rl} (h : relOk r = true) : opOk r.op = true ∧ 0 ≤ r.mod ∧ r.mod ≤ 1000000 ∧ r.rs ≠ [] ∧ ∀ p ∈ r.rs, rngOk p = true := by
  simp only [relOk, Bool.and_eq_true, decide_eq_true_eq, Bool.not_eq_true', List.isEmpty_eq_false_iff, List.all_eq_true] at h
  exact ⟨h.1.1.1.1, h.1.1.1.2, h.1.1.2, h.1.2, h.2⟩
theorem relT_len {r : Rl} {m : Nat} (h : relOk r = true) (hm : r.rs.length ≤ m) : (relT r).length ≤ 15 + m * 17 := by
  obtain ⟨_, _, h2, _, h4⟩ := relOk_parts h
  have hd := dg_len h2
  have t := total_le (l := r.rs.map rngT) (sep := [44]) (k := 16) (fun x hx => by
    obtain ⟨p, hp, rfl⟩ := List.mem_map.1 hx
    exact rngT_len (h4 p hp))
  have j := Lst.join_le (r.rs.map rngT) [44]
  rw [List.length_map] at t
  have q : r.rs.length * (16 + ([44] : List UInt8).length) ≤ m * 17 := Nat.mul_le_mul_right _ hm
  have hh : (headT r).length ≤ 11 := by
    unfold headT
    split
    · simp
    · simp only [List.length_append, List.length_cons, List.length_nil, pcS]; omega
  have hn : (if r.no then neS else eqS).length ≤ 4 := by split <;> decide
  unfold relT
  simp only [List.length_append]
  omega
theorem count_mem {r : Rule} {l : List Rl} (h : l ∈ r) : l.length ≤ count r := by
  unfold count
  induction r with
  | nil => simp at h
  | cons a r ih =>
    rcases List.mem_cons.1 h with rfl | h
    · simp
    · have := ih h
      simp; omega
theorem len_count {r : Rule} (h : ∀ l ∈ r, l ≠ []) : r.length ≤ count r := by
  unfold count
  induction r with
  | nil => simp
  | cons a r ih =>
    have := ih (fun l hl => h l (by simp [hl]))
    have := List.length_pos_iff.2 (h a (by simp))
    simp; omega
/-- the texts of a right rule are short -/
theorem ok_totals {r : Rule} (h : ruleE r = 0) (hm : ∀ l ∈ r, ∀ x ∈ l, x.rs.length ≤ 100000001) :
    Lst.total (r.map partT) [32, 111, 114, 32] ≤ 2000000000000 ∧ ∀ l ∈ r, l.length ≤ 4000000001 ∧ Lst.total (l.map relT) [32, 97, 110, 100, 32] ≤ 2000000000000 ∧ ∀ x ∈ l, Lst.total (x.rs.map rngT) [44] ≤ 2000000000000 := by
  obtain ⟨hs, hc⟩ := ruleE_zero.1 h
  obtain ⟨hr, hp⟩ := shape_parts hs
  have hlen : r.length ≤ 20 := Nat.le_trans (len_count (fun l hl => (part_parts (hp l hl)).1)) hc
  have part : ∀ l ∈ r, Lst.total (l.map relT) [32, 97, 110, 100, 32] ≤ 34000001000 := by
    intro l hl
    have t := total_le (l := l.map relT) (sep := [32, 97, 110, 100, 32]) (k := 1700000032) (fun x hx => by
      obtain ⟨q, hq, rfl⟩ := List.mem_map.1 hx
      exact relT_len ((part_parts (hp l hl)).2 q hq) (hm l hl q hq))
    rw [List.length_map] at t
    have : l.length ≤ 20 := Nat.le_trans (count_mem hl) hc
    have : l.length * (1700000032 + ([32, 97, 110, 100, 32] : List UInt8).length) ≤ 20 * (1700000032 + ([32, 97, 110, 100, 32] : List UInt8).length) := Nat.mul_le_mul_right _ this
    simp only [List.length_cons, List.length_nil] at *
    omega
  refine ⟨?_, fun l hl => ⟨?_, ?_, fun x hx => ?_⟩⟩
  · have t := total_le (l := r.map partT) (sep := [32, 111, 114, 32]) (k := 34000001000) (fun x hx => by
      obtain ⟨l, hl, rfl⟩ := List.mem_map.1 hx
      exact Nat.le_trans (Lst.join_le _ _) (part l hl))
    rw [List.length_map] at t
    have : r.length * (34000001000 + ([32, 111, 114, 32] : List UInt8).length) ≤ 20 * (34000001000 + ([32, 111, 114, 32] : List UInt8).length) := Nat.mul_le_mul_right _ hlen
    simp only [List.length_cons, List.length_nil] at *
    omega
  · have := count_mem hl; omega
  · have := part l hl; omega
  · have t := total_le (l := x.rs.map rngT) (sep := [44]) (k := 16) (fun y hy => by
      obtain ⟨p, hp', rfl⟩ := List.mem_map.1 hy
      exact rngT_len ((relOk_parts ((part_parts (hp l hl)).2 x hx)).2.2.2.2 p hp'))
    rw [List.length_map] at t
    have : x.rs.length * (16 + ([44] : List UInt8).length) ≤ 100000001 * (16 + ([44] : List UInt8).length) := Nat.mul_le_mul_right _ (hm l hl x hx)
    simp only [List.length_cons, List.length_nil] at *
    omega

/-- of what is read: is it a rule's text? -/
def parseOk (s : List UInt8) : Bool := decide (ruleE (ruleP s) = 0) && (ruleT (ruleP s) == s)
theorem parseOk_iff {s : List UInt8} : parseOk s = true ↔ ruleE (ruleP s) = 0 ∧ ruleT (ruleP s) = s := by
  unfold parseOk
  simp
theorem parse_text {r : Rule} (h : ruleE r = 0) : parseOk (ruleT r) = true ∧ ruleP (ruleT r) = r := by
  have e := ruleP_T r (ruleE_zero.1 h).1
  exact ⟨parseOk_iff.2 (by rw [e]; exact ⟨h, rfl⟩), e⟩

/-- the operands -/
structure Op5 where
  i : Int
  v : Int
  w : Int
  f : Int
  t : Int
/-- an operand by its name -/
def opv (c : UInt8) (o : Op5) : Int := if c = 110 then o.i else if c = 105 then o.i else if c = 118 then o.v else if c = 119 then o.w else if c = 102 then o.f else if c = 116 then o.t else 0
def opx (r : Rl) (o : Op5) : Int := if r.mod = 0 then opv r.op o else (opv r.op o).tmod r.mod
def rngHas (x : Int) (p : Int × Int) : Bool := decide (p.1 ≤ x) && decide (x ≤ p.2)
def relH (r : Rl) (o : Op5) : Bool := (r.rs.any (rngHas (opx r o)) && (!decide (r.op = 110) || decide (o.t = 0))) != r.no
def partH (l : List Rl) (o : Op5) : Bool := l.all (relH · o)
def ruleH (r : Rule) (o : Op5) : Bool := r.any (partH · o)
end Rul
