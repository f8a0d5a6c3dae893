/- The reference's Ten and Size. Conditions: none. -/
import Derived.Test.YtdmenoimamnldaaGreatDoorDz2
import Derived.Test.YtdmenoimamnldaaGreatDoorDz1
namespace Go.Proofs.YtdmenoimamnldaaGreatDoor
open Go.RowKit
open Dcm (P10 okD nrm)

set_option maxRecDepth 100000 in
set_option maxHeartbeats 1000000 in
theorem add_bad1 (a s b t : Int) (w : World) (ha : ¬ okD a s) : Calls Tryz.prog 18 #[.agg #[.int .i64 a, .int .i64 s], .agg #[.int .i64 b, .int .i64 t]] w fun e w' => e = .returned (.tuple #[.agg #[.int .i64 0, .int .i64 0], errV 1]) ∧ Below w.heap.size w w' := by
  have C1 := Lib.hid fun w => dchk_no a s w ha
  clear ha
  go_enter Tryz.func18, Tryz.ntmps18
  go_wp2_with fail
  refine (C1.out _).mono ?_
  rintro e w1 ⟨rfl, hb⟩
  have A1 := Boxed.below (Boxed.alloc (Boxed.alloc (Boxed.made _ #[.int .i64 a, .int .i64 s] 23) _) _) hb
  have B1 := Boxed.below (Boxed.alloc (Boxed.made _ #[.int .i64 b, .int .i64 t] 23) _) hb
  have Z1 := Boxed.below (Boxed.made _ #[.int .i64 0, .int .i64 0] 23) hb
  have W1 := Lib.hid (blw_trans (blw_trans (blw_trans (blw_alloc w _) (blw_alloc _ _)) (blw_alloc _ _)) hb)
  clear hb C1
  have ka0 := A1.cell 0 _ rfl
  have ka1 := A1.cell 1 _ rfl
  have kb0 := B1.cell 0 _ rfl
  have kb1 := B1.cell 1 _ rfl
  have kz0 := Z1.cell 0 _ rfl
  have kz1 := Z1.cell 1 _ rfl
  have fz0 := Z1.free 0 (by decide)
  have fz1 := Z1.free 1 (by decide)
  try simp at ka0 ka1 kb0 kb1 kz0 kz1 fz0 fz1
  go_wp2
  refine bodyPost_ret (v := .tuple #[.agg #[.int .i64 0, .int .i64 0], errV 1]) (by simp [results, Tryz.results18, go_sem, kz0, kz1]) rfl ⟨rfl, ?_⟩
  exact (Below.setCell (Below.setCell W1.out (by simp <;> omega) _) (by simp <;> omega) _)

set_option maxRecDepth 100000 in
set_option maxHeartbeats 1000000 in
theorem add_bad2 (a s b t : Int) (w : World) (ha : okD a s) (hb' : ¬ okD b t) : Calls Tryz.prog 18 #[.agg #[.int .i64 a, .int .i64 s], .agg #[.int .i64 b, .int .i64 t]] w fun e w' => e = .returned (.tuple #[.agg #[.int .i64 0, .int .i64 0], errV 1]) ∧ Below w.heap.size w w' := by
  have C1 := Lib.hid fun w => dchk_yes a s w ha
  have C2 := Lib.hid fun w => dchk_no b t w hb'
  clear ha hb'
  go_enter Tryz.func18, Tryz.ntmps18
  go_wp2_with fail
  refine (C1.out _).mono ?_
  rintro e w1 ⟨rfl, hb⟩
  have A1 := Boxed.below (Boxed.alloc (Boxed.alloc (Boxed.made _ #[.int .i64 a, .int .i64 s] 23) _) _) hb
  have B1 := Boxed.below (Boxed.alloc (Boxed.made _ #[.int .i64 b, .int .i64 t] 23) _) hb
  have Z1 := Boxed.below (Boxed.made _ #[.int .i64 0, .int .i64 0] 23) hb
  have W1 := Lib.hid (blw_trans (blw_trans (blw_trans (blw_alloc w _) (blw_alloc _ _)) (blw_alloc _ _)) hb)
  clear hb C1
  have ka0 := A1.cell 0 _ rfl
  have ka1 := A1.cell 1 _ rfl
  have kb0 := B1.cell 0 _ rfl
  have kb1 := B1.cell 1 _ rfl
  try simp at ka0 ka1 kb0 kb1
  go_wp2_with fail
  refine (C2.out _).mono ?_
  rintro e w2 ⟨rfl, hb⟩
  have A2 := A1.below hb
  have B2 := B1.below hb
  have Z2 := Z1.below hb
  have W2 := Lib.hid (blw_trans W1.out hb)
  clear hb C2 A1 B1 Z1 W1 ka0 ka1 kb0 kb1
  have ka0 := A2.cell 0 _ rfl
  have ka1 := A2.cell 1 _ rfl
  have kb0 := B2.cell 0 _ rfl
  have kb1 := B2.cell 1 _ rfl
  have kz0 := Z2.cell 0 _ rfl
  have kz1 := Z2.cell 1 _ rfl
  have fz0 := Z2.free 0 (by decide)
  have fz1 := Z2.free 1 (by decide)
  try simp at ka0 ka1 kb0 kb1 kz0 kz1 fz0 fz1
  go_wp2
  refine bodyPost_ret (v := .tuple #[.agg #[.int .i64 0, .int .i64 0], errV 1]) (by simp [results, Tryz.results18, go_sem, kz0, kz1]) rfl ⟨rfl, ?_⟩
  exact (Below.setCell (Below.setCell W2.out (by simp <;> omega) _) (by simp <;> omega) _)

inductive AddC (Q U M t : Int) : Value → Prop
  | ok : ¬ 2000000000000000 / U + 1 < Q → ¬ Q < -(2000000000000000 / U) - 1 → ¬ Q * U + M < -1000000000000000 → ¬ 1000000000000000 < Q * U + M → AddC Q U M t (.tuple #[.agg #[.int .i64 (Q * U + M), .int .i64 t], .nilIface])
  | far : 2000000000000000 / U + 1 < Q → AddC Q U M t (.tuple #[.agg #[.int .i64 0, .int .i64 0], errV 1])
  | far2 : ¬ 2000000000000000 / U + 1 < Q → Q < -(2000000000000000 / U) - 1 → AddC Q U M t (.tuple #[.agg #[.int .i64 0, .int .i64 0], errV 1])
  | lo : ¬ 2000000000000000 / U + 1 < Q → ¬ Q < -(2000000000000000 / U) - 1 → Q * U + M < -1000000000000000 → AddC Q U M t (.tuple #[.agg #[.int .i64 0, .int .i64 0], errV 1])
  | hi : ¬ 2000000000000000 / U + 1 < Q → ¬ Q < -(2000000000000000 / U) - 1 → ¬ Q * U + M < -1000000000000000 → 1000000000000000 < Q * U + M → AddC Q U M t (.tuple #[.agg #[.int .i64 0, .int .i64 0], errV 1])

set_option maxRecDepth 100000 in
set_option maxHeartbeats 4000000 in
theorem add_keep (a s b t U : Int) (V : Value) (w : World) (ha : okD a s) (hb' : okD b t) (hst : s ≤ t) (hU : P10 (t - s) = U) (h : AddC (a + b.tdiv U) U (b.tmod U) t V) :
    Calls Tryz.prog 18 #[.agg #[.int .i64 a, .int .i64 s], .agg #[.int .i64 b, .int .i64 t]] w fun e w' => e = .returned V ∧ Below w.heap.size w w' := by
  have C1 := Lib.hid fun w => dchk_yes a s w ha
  have C2 := Lib.hid fun w => dchk_yes b t w hb'
  obtain ⟨s0, s1, a0, a1⟩ := ha
  obtain ⟨t0, t1, b0, b1⟩ := hb'
  have u0 := Dcm.P10_bd (t - s)
  rw [hU] at u0
  have C3 : ∀ w, Calls Tryz.prog 36 #[.int .i64 (t - s)] w fun e w' => e = .returned (.int .i64 U) ∧ w = w' := fun w => hU ▸ power_any (t - s) w (by omega) (by omega)
  have C3 := Lib.hid C3
  clear hU
  have q0 := Dcm.tdiv_bd b U u0.1 ⟨by omega, by omega⟩
  have r0 := Dcm.tmod_bd b U u0.1
  have Q0 := Int.ediv_nonneg (by omega : (0 : Int) ≤ 2000000000000000) (by omega : 0 ≤ U)
  have Q1 := Int.ediv_le_self U (by omega : (0 : Int) ≤ 2000000000000000)
  rcases h with ⟨hs1, hs2, hn1, hn2⟩ | ⟨hs1⟩ | ⟨hs1, hs2⟩ | ⟨hs1, hs2, hn1⟩ | ⟨hs1, hs2, hn1, hn2⟩
  all_goals
    try have n0 := Dcm.sum_near (a + b.tdiv U) U u0.1 u0.2 ⟨hs1, hs2⟩
    go_enter Tryz.func18, Tryz.ntmps18
    go_wp2_with fail
    refine (C1.out _).mono ?_
    rintro e w1 ⟨rfl, hb⟩
    have A1 := Boxed.below (Boxed.alloc (Boxed.alloc (Boxed.made _ #[.int .i64 a, .int .i64 s] 23) _) _) hb
    have B1 := Boxed.below (Boxed.alloc (Boxed.made _ #[.int .i64 b, .int .i64 t] 23) _) hb
    have Z1 := Boxed.below (Boxed.made _ #[.int .i64 0, .int .i64 0] 23) hb
    have W1 := Lib.hid (blw_trans (blw_trans (blw_trans (blw_alloc w _) (blw_alloc _ _)) (blw_alloc _ _)) hb)
    clear hb C1
    have ka0 := A1.cell 0 _ rfl
    have ka1 := A1.cell 1 _ rfl
    have kb0 := B1.cell 0 _ rfl
    have kb1 := B1.cell 1 _ rfl
    try simp at ka0 ka1 kb0 kb1
    go_wp2_with fail
    refine (C2.out _).mono ?_
    rintro e w2 ⟨rfl, hb⟩
    have A2 := A1.below hb
    have B2 := B1.below hb
    have Z2 := Z1.below hb
    have W2 := Lib.hid (blw_trans W1.out hb)
    clear hb C2 A1 B1 Z1 W1 ka0 ka1 kb0 kb1
    have A2 := A2.at (q := w.heap.size) rfl
    have B2 := B2.at (q := w.heap.size + 1) (by simp)
    have Z2 := Z2.at (q := w.heap.size + 1 + 1) (by simp)
    have ka0 := A2.cell 0 _ rfl
    have ka1 := A2.cell 1 _ rfl
    have kb0 := B2.cell 0 _ rfl
    have kb1 := B2.cell 1 _ rfl
    have kz0 := Z2.cell 0 _ rfl
    have kz1 := Z2.cell 1 _ rfl
    have fz0 := Z2.free 0 (by decide)
    have fz1 := Z2.free 1 (by decide)
    try simp at ka0 ka1 kb0 kb1 kz0 kz1 fz0 fz1
    have e9 : (-2000000000000000 : Int).tdiv U = -(2000000000000000 / U) := by rw [Int.neg_tdiv, Int.tdiv_eq_ediv_of_nonneg (by omega)]
    go_wp2_with fail
    refine (C3.out _).mono ?_
    rintro e w' ⟨rfl, rfl⟩
    go_wp2_with fail
    go_big_quiet (fail)
    go_wp2
    refine bodyPost_ret (by simp [results, Tryz.results18, go_sem, kz0, kz1]) rfl ⟨rfl, ?_⟩
    exact (by
      repeat (first | exact W2.out | refine blw_drewN ?_ _ | refine Below.setCell ?_ (by simp <;> omega) _))

set_option maxRecDepth 100000 in
set_option maxHeartbeats 4000000 in
theorem add_swap (a s b t U : Int) (V : Value) (w : World) (ha : okD a s) (hb' : okD b t) (hst : t < s) (hU : P10 (s - t) = U) (h : AddC (b + a.tdiv U) U (a.tmod U) s V) :
    Calls Tryz.prog 18 #[.agg #[.int .i64 a, .int .i64 s], .agg #[.int .i64 b, .int .i64 t]] w fun e w' => e = .returned V ∧ Below w.heap.size w w' := by
  have C1 := Lib.hid fun w => dchk_yes a s w ha
  have C2 := Lib.hid fun w => dchk_yes b t w hb'
  obtain ⟨s0, s1, a0, a1⟩ := ha
  obtain ⟨t0, t1, b0, b1⟩ := hb'
  have u0 := Dcm.P10_bd (s - t)
  rw [hU] at u0
  have C3 : ∀ w, Calls Tryz.prog 36 #[.int .i64 (s - t)] w fun e w' => e = .returned (.int .i64 U) ∧ w = w' := fun w => hU ▸ power_any (s - t) w (by omega) (by omega)
  have C3 := Lib.hid C3
  clear hU
  have q0 := Dcm.tdiv_bd a U u0.1 ⟨by omega, by omega⟩
  have r0 := Dcm.tmod_bd a U u0.1
  have Q0 := Int.ediv_nonneg (by omega : (0 : Int) ≤ 2000000000000000) (by omega : 0 ≤ U)
  have Q1 := Int.ediv_le_self U (by omega : (0 : Int) ≤ 2000000000000000)
  rcases h with ⟨hs1, hs2, hn1, hn2⟩ | ⟨hs1⟩ | ⟨hs1, hs2⟩ | ⟨hs1, hs2, hn1⟩ | ⟨hs1, hs2, hn1, hn2⟩
  all_goals
    try have n0 := Dcm.sum_near (b + a.tdiv U) U u0.1 u0.2 ⟨hs1, hs2⟩
    go_enter Tryz.func18, Tryz.ntmps18
    go_wp2_with fail
    refine (C1.out _).mono ?_
    rintro e w1 ⟨rfl, hb⟩
    have A1 := Boxed.below (Boxed.alloc (Boxed.alloc (Boxed.made _ #[.int .i64 a, .int .i64 s] 23) _) _) hb
    have B1 := Boxed.below (Boxed.alloc (Boxed.made _ #[.int .i64 b, .int .i64 t] 23) _) hb
    have Z1 := Boxed.below (Boxed.made _ #[.int .i64 0, .int .i64 0] 23) hb
    have W1 := Lib.hid (blw_trans (blw_trans (blw_trans (blw_alloc w _) (blw_alloc _ _)) (blw_alloc _ _)) hb)
    clear hb C1
    have ka0 := A1.cell 0 _ rfl
    have ka1 := A1.cell 1 _ rfl
    have kb0 := B1.cell 0 _ rfl
    have kb1 := B1.cell 1 _ rfl
    try simp at ka0 ka1 kb0 kb1
    go_wp2_with fail
    refine (C2.out _).mono ?_
    rintro e w2 ⟨rfl, hb⟩
    have A2 := A1.below hb
    have B2 := B1.below hb
    have Z2 := Z1.below hb
    have W2 := Lib.hid (blw_trans W1.out hb)
    clear hb C2 A1 B1 Z1 W1 ka0 ka1 kb0 kb1
    have A2 := A2.at (q := w.heap.size) rfl
    have B2 := B2.at (q := w.heap.size + 1) (by simp)
    have Z2 := Z2.at (q := w.heap.size + 1 + 1) (by simp)
    have ka0 := A2.cell 0 _ rfl
    have ka1 := A2.cell 1 _ rfl
    have kb0 := B2.cell 0 _ rfl
    have kb1 := B2.cell 1 _ rfl
    try simp at ka0 ka1 kb0 kb1
    have fa0 := A2.free 0 (by simp)
    have fa1 := A2.free 1 (by simp)
    have fb0 := B2.free 0 (by simp)
    have fb1 := B2.free 1 (by simp)
    go_wp2_with fail
    have A3 := (((A2.set 0 (.int .i64 b) (by simp)).set 1 (.int .i64 t) (by simp)).far (q := w.heap.size + 1) (by omega) 0 (.int .i64 a)).far (q := w.heap.size + 1) (by omega) 1 (.int .i64 s)
    have B3 := (((B2.far (q := w.heap.size) (by omega) 0 (.int .i64 b)).far (q := w.heap.size) (by omega) 1 (.int .i64 t)).set 0 (.int .i64 a) (by simp)).set 1 (.int .i64 s) (by simp)
    have Z3 := (((Z2.far (q := w.heap.size) (by omega) 0 (.int .i64 b)).far (q := w.heap.size) (by omega) 1 (.int .i64 t)).far (q := w.heap.size + 1) (by omega) 0 (.int .i64 a)).far (q := w.heap.size + 1) (by omega) 1 (.int .i64 s)
    have W3 := Lib.hid ((((W2.out.setCell (p := ⟨w.heap.size, 0, none⟩) (Nat.le_refl _) (.int .i64 b)).setCell (p := ⟨w.heap.size, 1, none⟩) (Nat.le_refl _) (.int .i64 t)).setCell (p := ⟨w.heap.size + 1, 0, none⟩) (Nat.le_succ _) (.int .i64 a)).setCell (p := ⟨w.heap.size + 1, 1, none⟩) (Nat.le_succ _) (.int .i64 s))
    clear A2 B2 Z2 W2 ka0 ka1 kb0 kb1 fa0 fa1 fb0 fb1
    generalize (((w2.setCell ⟨w.heap.size, 0, none⟩ (.int .i64 b)).setCell ⟨w.heap.size, 1, none⟩ (.int .i64 t)).setCell ⟨w.heap.size + 1, 0, none⟩ (.int .i64 a)).setCell ⟨w.heap.size + 1, 1, none⟩ (.int .i64 s) = w3 at *
    have ka0 := A3.cell 0 _ rfl
    have ka1 := A3.cell 1 _ rfl
    have kb0 := B3.cell 0 _ rfl
    have kb1 := B3.cell 1 _ rfl
    have kz0 := Z3.cell 0 _ rfl
    have kz1 := Z3.cell 1 _ rfl
    have fz0 := Z3.free 0 (by simp)
    have fz1 := Z3.free 1 (by simp)
    clear A3 B3 Z3
    have e9 : (-2000000000000000 : Int).tdiv U = -(2000000000000000 / U) := by rw [Int.neg_tdiv, Int.tdiv_eq_ediv_of_nonneg (by omega)]
    refine (C3.out _).mono ?_
    rintro e w' ⟨rfl, rfl⟩
    go_wp2_with fail
    go_big_quiet (fail)
    go_wp2
    refine bodyPost_ret (by simp [results, Tryz.results18, go_sem, kz0, kz1]) rfl ⟨rfl, ?_⟩
    exact (by
      repeat (first | exact W3.out | refine blw_drewN ?_ _ | refine Below.setCell ?_ (by simp <;> omega) _))

/-- may two numbers be added? -/
def addOk (a s b t : Int) : Prop := okD a s ∧ okD b t ∧ -1000000000000000 ≤ Dcm.addC a s b t ∧ Dcm.addC a s b t ≤ 1000000000000000
instance (a s b t : Int) : Decidable (addOk a s b t) := by unfold addOk; infer_instance
theorem add_yes (a s b t : Int) (w : World) (h : addOk a s b t) :
    Calls Tryz.prog 18 #[.agg #[.int .i64 a, .int .i64 s], .agg #[.int .i64 b, .int .i64 t]] w fun e w' => e = .returned (.tuple #[.agg #[.int .i64 (Dcm.addC a s b t), .int .i64 (Dcm.addS s t)], .nilIface]) ∧ Below w.heap.size w w' := by
  obtain ⟨ha, hb, h1, h2⟩ := h
  unfold Dcm.addC Dcm.addS at *
  by_cases hst : s ≤ t
  · rw [if_pos hst] at h1 h2 ⊢
    rw [if_pos hst]
    have u0 := (Dcm.P10_bd (t - s)).1
    have e := Dcm.sum_quo a b (P10 (t - s)) u0
    have r0 := Dcm.tmod_bd b (P10 (t - s)) u0
    have far := Dcm.sum_far (a + b.tdiv (P10 (t - s))) (b.tmod (P10 (t - s))) (P10 (t - s)) u0 r0
    rw [← e]
    exact add_keep a s b t _ _ w ha hb hst rfl (.ok (fun g => by have := far (.inl g); omega) (fun g => by have := far (.inr g); omega) (by omega) (by omega))
  · rw [if_neg hst] at h1 h2 ⊢
    rw [if_neg hst]
    have u0 := (Dcm.P10_bd (s - t)).1
    have e := Dcm.sum_quo b a (P10 (s - t)) u0
    have r0 := Dcm.tmod_bd a (P10 (s - t)) u0
    have far := Dcm.sum_far (b + a.tdiv (P10 (s - t))) (a.tmod (P10 (s - t))) (P10 (s - t)) u0 r0
    rw [← e]
    exact add_swap a s b t _ _ w ha hb (by omega) rfl (.ok (fun g => by have := far (.inl g); omega) (fun g => by have := far (.inr g); omega) (by omega) (by omega))
theorem add_no (a s b t : Int) (w : World) (h : ¬ addOk a s b t) :
    Calls Tryz.prog 18 #[.agg #[.int .i64 a, .int .i64 s], .agg #[.int .i64 b, .int .i64 t]] w fun e w' => e = .returned (.tuple #[.agg #[.int .i64 0, .int .i64 0], errV 1]) ∧ Below w.heap.size w w' := by
  by_cases ha : okD a s
  · by_cases hb : okD b t
    · have h3 : ¬ (-1000000000000000 ≤ Dcm.addC a s b t ∧ Dcm.addC a s b t ≤ 1000000000000000) := fun g => h ⟨ha, hb, g.1, g.2⟩
      unfold Dcm.addC at h3
      by_cases hst : s ≤ t
      · rw [if_pos hst] at h3
        have u0 := (Dcm.P10_bd (t - s)).1
        have e := Dcm.sum_quo a b (P10 (t - s)) u0
        by_cases g1 : 2000000000000000 / P10 (t - s) + 1 < a + b.tdiv (P10 (t - s))
        · exact add_keep a s b t _ _ w ha hb hst rfl (.far g1)
        by_cases g2 : a + b.tdiv (P10 (t - s)) < -(2000000000000000 / P10 (t - s)) - 1
        · exact add_keep a s b t _ _ w ha hb hst rfl (.far2 g1 g2)
        by_cases g3 : (a + b.tdiv (P10 (t - s))) * P10 (t - s) + b.tmod (P10 (t - s)) < -1000000000000000
        · exact add_keep a s b t _ _ w ha hb hst rfl (.lo g1 g2 g3)
        · exact add_keep a s b t _ _ w ha hb hst rfl (.hi g1 g2 g3 (by omega))
      · rw [if_neg hst] at h3
        have u0 := (Dcm.P10_bd (s - t)).1
        have e := Dcm.sum_quo b a (P10 (s - t)) u0
        by_cases g1 : 2000000000000000 / P10 (s - t) + 1 < b + a.tdiv (P10 (s - t))
        · exact add_swap a s b t _ _ w ha hb (by omega) rfl (.far g1)
        by_cases g2 : b + a.tdiv (P10 (s - t)) < -(2000000000000000 / P10 (s - t)) - 1
        · exact add_swap a s b t _ _ w ha hb (by omega) rfl (.far2 g1 g2)
        by_cases g3 : (b + a.tdiv (P10 (s - t))) * P10 (s - t) + a.tmod (P10 (s - t)) < -1000000000000000
        · exact add_swap a s b t _ _ w ha hb (by omega) rfl (.lo g1 g2 g3)
        · exact add_swap a s b t _ _ w ha hb (by omega) rfl (.hi g1 g2 g3 (by omega))
    · exact add_bad2 a s b t w ha hb
  · exact add_bad1 a s b t w ha
end Go.Proofs.YtdmenoimamnldaaGreatDoor
namespace Go.Proofs.YtdmenoimamnldaaGreatDoor
open Go.RowKit
open Dcm (P10 okD nrm)

set_option maxHeartbeats 400000 in
theorem ten_any (n : Int) (w : World) (h0 : 0 ≤ n) (h1 : n ≤ 9) :
    Calls Tryz.prog 24 #[.int .i64 n] w fun e w' => e = .returned (.int .i64 (P10 n)) ∧ w = w' := by
  go_enter Tryz.func24, Tryz.ntmps24
  go_wp2
  go_loop [3, 4] (fun t i => ∃ k : Int, 0 ≤ k ∧ k ≤ n ∧ i = .int .i64 k ∧ t = .int .i64 (P10 k)) (fun _ i => (n - intOf i).toNat)
  case atStart => exact ⟨0, by omega, by omega, rfl, rfl⟩
  case round =>
    obtain ⟨k, k0, k1, rfl, rfl⟩ := hrel
    have hb := Dcm.P10_bd k
    by_cases hlt : k < n
    · have hs := Lib.hid (Dcm.P10_succ k k0 (by omega))
      go_wp2
      go_round
      case rel => exact ⟨k + 1, by omega, by omega, by go_num, by rw [hs.out]⟩
      case measure => simp [intOf]; omega
    · obtain rfl : k = n := by omega
      go_wp2
      go_ret
      exact ⟨rfl, rfl⟩
set_option maxHeartbeats 400000 in
theorem size_any (n : Int) (w : World) (h0 : -9223372036854775807 ≤ n) (h1 : n ≤ 9223372036854775807) :
    Calls Tryz.prog 33 #[.int .i64 n] w fun e w' => e = .returned (.int .i64 (Dcm.mag n)) ∧ w = w' := by
  by_cases h : n < 0
  · have e : Dcm.mag n = -n := by unfold Dcm.mag; rw [if_pos h]
    have E := Lib.hid e
    clear e
    go_enter Tryz.func33, Tryz.ntmps33
    go_wp2
    go_ret
    exact ⟨ret_int (by rw [E.out]), rfl⟩
  · have e : Dcm.mag n = n := by unfold Dcm.mag; rw [if_neg h]
    have E := Lib.hid e
    clear e
    go_enter Tryz.func33, Tryz.ntmps33
    go_wp2
    go_ret
    exact ⟨ret_int (by rw [E.out]), rfl⟩

end Go.Proofs.YtdmenoimamnldaaGreatDoor
