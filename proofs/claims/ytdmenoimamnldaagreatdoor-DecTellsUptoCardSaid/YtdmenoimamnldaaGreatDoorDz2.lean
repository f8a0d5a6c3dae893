/- Stores into boxes. -/
import Derived.Test.YtdmenoimamnldaaGreatDoorDz1
import Derived.Test.YtdmenoimamnldaaGreatDoorDz0
namespace Go.Proofs.YtdmenoimamnldaaGreatDoor
open Go.RowKit
open Dcm (P10 okD nrm)

/-- how two numbers' values stand -/
def cmpN (a s b t : Int) : Int := if nrm a s < nrm b t then -1 else if nrm a s = nrm b t then 0 else 1
/-- how two products stand -/
def cmpP (A B : Int) : Int := if A < B then -1 else if A = B then 0 else 1
theorem cmpP_N {a s b t : Int} (ha : okD a s) (hb : okD b t) : cmpP (a * P10 t) (b * P10 s) = cmpN a s b t := by
  have h1 := Dcm.lt_iff a s b t ha.1 ha.2.1 hb.1 hb.2.1
  have h2 := Dcm.eq_iff a s b t ha.1 ha.2.1 hb.1 hb.2.1
  unfold cmpP cmpN
  simp only [h1, h2]

set_option maxRecDepth 100000 in
set_option maxHeartbeats 1000000 in
theorem compared_w1 (a s b t h l k m : Int) (w : World) (a0 : 0 ≤ a) (b0 : 0 ≤ b) (h1 : h < k)
    (c1 : ∀ w, Calls Tryz.prog 35 #[.int .i64 a, .int .i64 t] w fun e w' => e = .returned (.tuple #[.int .u64 h, .int .u64 l]) ∧ w = w')
    (c2 : ∀ w, Calls Tryz.prog 35 #[.int .i64 b, .int .i64 s] w fun e w' => e = .returned (.tuple #[.int .u64 k, .int .u64 m]) ∧ w = w') :
    Calls Tryz.prog 28 #[.agg #[.int .i64 a, .int .i64 s], .agg #[.int .i64 b, .int .i64 t]] w fun e w' => e = .returned (.int .i64 (-1)) ∧ Below w.heap.size w w' := by
  have C1 := Lib.hid c1
  have C2 := Lib.hid c2
  have na : ¬ a < 0 := by omega
  have nb : ¬ b < 0 := by omega
  clear c1 c2
  go_enter Tryz.func28, Tryz.ntmps28
  go_wp2_with fail
  refine (C1.out _).mono ?_
  rintro e w' ⟨rfl, rfl⟩
  go_wp2_with fail
  refine (C2.out _).mono ?_
  rintro e w' ⟨rfl, rfl⟩
  go_wp2
  go_ret
  exact ⟨ret_int (by simp), blw_trans (blw_alloc w _) (blw_alloc _ _)⟩

set_option maxRecDepth 100000 in
set_option maxHeartbeats 1000000 in
theorem compared_w2 (a s b t h l k m : Int) (w : World) (a0 : 0 ≤ a) (b0 : 0 ≤ b) (h1 : h = k) (h2 : l < m)
    (c1 : ∀ w, Calls Tryz.prog 35 #[.int .i64 a, .int .i64 t] w fun e w' => e = .returned (.tuple #[.int .u64 h, .int .u64 l]) ∧ w = w')
    (c2 : ∀ w, Calls Tryz.prog 35 #[.int .i64 b, .int .i64 s] w fun e w' => e = .returned (.tuple #[.int .u64 k, .int .u64 m]) ∧ w = w') :
    Calls Tryz.prog 28 #[.agg #[.int .i64 a, .int .i64 s], .agg #[.int .i64 b, .int .i64 t]] w fun e w' => e = .returned (.int .i64 (-1)) ∧ Below w.heap.size w w' := by
  subst h1
  have C1 := Lib.hid c1
  have C2 := Lib.hid c2
  have na : ¬ a < 0 := by omega
  have nb : ¬ b < 0 := by omega
  clear c1 c2
  go_enter Tryz.func28, Tryz.ntmps28
  go_wp2_with fail
  refine (C1.out _).mono ?_
  rintro e w' ⟨rfl, rfl⟩
  go_wp2_with fail
  refine (C2.out _).mono ?_
  rintro e w' ⟨rfl, rfl⟩
  go_wp2
  go_ret
  exact ⟨ret_int (by simp), blw_trans (blw_alloc w _) (blw_alloc _ _)⟩

set_option maxRecDepth 100000 in
set_option maxHeartbeats 1000000 in
theorem compared_w3 (a s b t h l k m : Int) (w : World) (a0 : 0 ≤ a) (b0 : 0 ≤ b) (h1 : h = k) (h2 : l = m)
    (c1 : ∀ w, Calls Tryz.prog 35 #[.int .i64 a, .int .i64 t] w fun e w' => e = .returned (.tuple #[.int .u64 h, .int .u64 l]) ∧ w = w')
    (c2 : ∀ w, Calls Tryz.prog 35 #[.int .i64 b, .int .i64 s] w fun e w' => e = .returned (.tuple #[.int .u64 k, .int .u64 m]) ∧ w = w') :
    Calls Tryz.prog 28 #[.agg #[.int .i64 a, .int .i64 s], .agg #[.int .i64 b, .int .i64 t]] w fun e w' => e = .returned (.int .i64 (0)) ∧ Below w.heap.size w w' := by
  subst h1 h2
  have C1 := Lib.hid c1
  have C2 := Lib.hid c2
  have na : ¬ a < 0 := by omega
  have nb : ¬ b < 0 := by omega
  clear c1 c2
  go_enter Tryz.func28, Tryz.ntmps28
  go_wp2_with fail
  refine (C1.out _).mono ?_
  rintro e w' ⟨rfl, rfl⟩
  go_wp2_with fail
  refine (C2.out _).mono ?_
  rintro e w' ⟨rfl, rfl⟩
  go_wp2
  go_ret
  exact ⟨ret_int (by simp), blw_trans (blw_alloc w _) (blw_alloc _ _)⟩

set_option maxRecDepth 100000 in
set_option maxHeartbeats 1000000 in
theorem compared_w4 (a s b t h l k m : Int) (w : World) (a0 : 0 ≤ a) (b0 : 0 ≤ b) (h1 : h = k) (h2 : m < l)
    (c1 : ∀ w, Calls Tryz.prog 35 #[.int .i64 a, .int .i64 t] w fun e w' => e = .returned (.tuple #[.int .u64 h, .int .u64 l]) ∧ w = w')
    (c2 : ∀ w, Calls Tryz.prog 35 #[.int .i64 b, .int .i64 s] w fun e w' => e = .returned (.tuple #[.int .u64 k, .int .u64 m]) ∧ w = w') :
    Calls Tryz.prog 28 #[.agg #[.int .i64 a, .int .i64 s], .agg #[.int .i64 b, .int .i64 t]] w fun e w' => e = .returned (.int .i64 (1)) ∧ Below w.heap.size w w' := by
  subst h1
  have C1 := Lib.hid c1
  have C2 := Lib.hid c2
  have na : ¬ a < 0 := by omega
  have nb : ¬ b < 0 := by omega
  clear c1 c2
  go_enter Tryz.func28, Tryz.ntmps28
  go_wp2_with fail
  refine (C1.out _).mono ?_
  rintro e w' ⟨rfl, rfl⟩
  go_wp2_with fail
  refine (C2.out _).mono ?_
  rintro e w' ⟨rfl, rfl⟩
  go_wp2
  go_ret
  exact ⟨ret_int (by simp), blw_trans (blw_alloc w _) (blw_alloc _ _)⟩

set_option maxRecDepth 100000 in
set_option maxHeartbeats 1000000 in
theorem compared_w5 (a s b t h l k m : Int) (w : World) (a0 : 0 ≤ a) (b0 : 0 ≤ b) (h1 : k < h)
    (c1 : ∀ w, Calls Tryz.prog 35 #[.int .i64 a, .int .i64 t] w fun e w' => e = .returned (.tuple #[.int .u64 h, .int .u64 l]) ∧ w = w')
    (c2 : ∀ w, Calls Tryz.prog 35 #[.int .i64 b, .int .i64 s] w fun e w' => e = .returned (.tuple #[.int .u64 k, .int .u64 m]) ∧ w = w') :
    Calls Tryz.prog 28 #[.agg #[.int .i64 a, .int .i64 s], .agg #[.int .i64 b, .int .i64 t]] w fun e w' => e = .returned (.int .i64 (1)) ∧ Below w.heap.size w w' := by
  have C1 := Lib.hid c1
  have C2 := Lib.hid c2
  have na : ¬ a < 0 := by omega
  have nb : ¬ b < 0 := by omega
  clear c1 c2
  go_enter Tryz.func28, Tryz.ntmps28
  go_wp2_with fail
  refine (C1.out _).mono ?_
  rintro e w' ⟨rfl, rfl⟩
  go_wp2_with fail
  refine (C2.out _).mono ?_
  rintro e w' ⟨rfl, rfl⟩
  go_wp2
  go_ret
  exact ⟨ret_int (by simp), blw_trans (blw_alloc w _) (blw_alloc _ _)⟩

theorem compared_pos (a s b t : Int) (w : World) (ha : okD a s) (hb : okD b t) (a0 : 0 ≤ a) (b0 : 0 ≤ b) :
    Calls Tryz.prog 28 #[.agg #[.int .i64 a, .int .i64 s], .agg #[.int .i64 b, .int .i64 t]] w fun e w' => e = .returned (.int .i64 (cmpP (a * P10 t) (b * P10 s))) ∧ Below w.heap.size w w' := by
  have c1 := fun w => wide_any a t w a0 ha.2.2.2 hb.1 hb.2.1
  have c2 := fun w => wide_any b s w b0 hb.2.2.2 ha.1 ha.2.1
  have hl := @Dcm.words_lt (a * P10 t) (b * P10 s)
  have hl' := @Dcm.words_lt (b * P10 s) (a * P10 t)
  have he := @Dcm.words_eq (a * P10 t) (b * P10 s)
  unfold cmpP
  change _ ↔ hiW _ < hiW _ ∨ hiW _ = hiW _ ∧ loW _ < loW _ at hl
  change _ ↔ hiW _ < hiW _ ∨ hiW _ = hiW _ ∧ loW _ < loW _ at hl'
  change _ ↔ hiW _ = hiW _ ∧ loW _ = loW _ at he
  by_cases h1 : a * P10 t < b * P10 s
  · rw [if_pos h1]
    rcases hl.1 h1 with g | ⟨g, g'⟩
    · exact compared_w1 a s b t _ _ _ _ w a0 b0 g c1 c2
    · exact compared_w2 a s b t _ _ _ _ w a0 b0 g g' c1 c2
  · rw [if_neg h1]
    by_cases h2 : a * P10 t = b * P10 s
    · rw [if_pos h2]
      obtain ⟨g, g'⟩ := he.1 h2
      exact compared_w3 a s b t _ _ _ _ w a0 b0 g g' c1 c2
    · rw [if_neg h2]
      rcases hl'.1 (by omega) with g | ⟨g, g'⟩
      · exact compared_w5 a s b t _ _ _ _ w a0 b0 g c1 c2
      · exact compared_w4 a s b t _ _ _ _ w a0 b0 g.symm g' c1 c2

set_option maxRecDepth 100000 in
set_option maxHeartbeats 1000000 in
theorem compared_any (a s b t : Int) (w : World) (ha : okD a s) (hb : okD b t) :
    Calls Tryz.prog 28 #[.agg #[.int .i64 a, .int .i64 s], .agg #[.int .i64 b, .int .i64 t]] w fun e w' => e = .returned (.int .i64 (cmpN a s b t)) ∧ Below w.heap.size w w' := by
  rw [← cmpP_N ha hb]
  by_cases a0 : 0 ≤ a
  · by_cases b0 : 0 ≤ b
    · exact compared_pos a s b t w ha hb a0 b0
    · have e1 : cmpP (a * P10 t) (b * P10 s) = 1 := by
        have := Dcm.P10_pos s; have := Int.mul_neg_of_neg_of_pos (by omega : b < 0) this
        have := Dcm.P10_pos t; have := Int.mul_nonneg a0 (by omega : 0 ≤ P10 t)
        unfold cmpP; rw [if_neg (by omega), if_neg (by omega)]
      rw [e1]
      have na : ¬ a < 0 := by omega
      have nb : b < 0 := by omega
      clear e1 ha hb
      go_enter Tryz.func28, Tryz.ntmps28
      go_wp2
      go_ret
      exact ⟨rfl, blw_trans (blw_alloc w _) (blw_alloc _ _)⟩
  · by_cases b0 : 0 ≤ b
    · have e1 : cmpP (a * P10 t) (b * P10 s) = -1 := by
        have := Dcm.P10_pos t; have := Int.mul_neg_of_neg_of_pos (by omega : a < 0) this
        have := Dcm.P10_pos s; have := Int.mul_nonneg b0 (by omega : 0 ≤ P10 s)
        unfold cmpP; rw [if_pos (by omega)]
      rw [e1]
      have na : a < 0 := by omega
      clear e1 ha hb
      go_enter Tryz.func28, Tryz.ntmps28
      go_wp2
      go_ret
      exact ⟨rfl, blw_trans (blw_alloc w _) (blw_alloc _ _)⟩
    · have ha' := ha
      have hb' := hb
      obtain ⟨s0, s1, a1, a2⟩ := ha'
      obtain ⟨t0, t1, b1, b2⟩ := hb'
      have hc := fun w => compared_pos (-b) t (-a) s w ⟨t0, t1, by omega, by omega⟩ ⟨s0, s1, by omega, by omega⟩ (by omega) (by omega)
      have e1 : cmpP (-b * P10 s) (-a * P10 t) = cmpP (a * P10 t) (b * P10 s) := by
        rw [Int.neg_mul, Int.neg_mul]; unfold cmpP
        by_cases h1 : a * P10 t < b * P10 s
        · rw [if_pos h1, if_pos (by omega)]
        · rw [if_neg h1, if_neg (by omega)]
          by_cases h2 : a * P10 t = b * P10 s
          · rw [if_pos h2, if_pos (by omega)]
          · rw [if_neg h2, if_neg (by omega)]
      rw [e1] at hc
      have HC := Lib.hid hc
      have na : a < 0 := by omega
      have nb : b < 0 := by omega
      clear e1 ha hb hc
      go_enter Tryz.func28, Tryz.ntmps28
      go_wp2_with fail
      refine (HC.out _).mono ?_
      rintro e w' ⟨rfl, hb⟩
      go_wp2
      go_ret
      exact ⟨rfl, blw_trans (blw_trans (blw_alloc w _) (blw_alloc _ _)) hb⟩

set_option maxRecDepth 100000 in
set_option maxHeartbeats 1000000 in
theorem right_yes (a s b t : Int) (w : World) (ha : okD a s) (hb : okD b t) :
    Calls Tryz.prog 27 #[.agg #[.int .i64 a, .int .i64 s], .agg #[.int .i64 b, .int .i64 t]] w fun e w' => e = .returned (.bool true) ∧ Below w.heap.size w w' := by
  have C1 := Lib.hid fun w => dchk_yes a s w ha
  have C2 := Lib.hid fun w => dchk_yes b t w hb
  clear ha hb
  go_enter Tryz.func27, Tryz.ntmps27
  go_wp2_with fail
  refine (C1.out _).mono ?_
  rintro e w1 ⟨rfl, hb⟩
  have B := Boxed.below (Boxed.made _ #[.int .i64 b, .int .i64 t] 23) hb
  have k0 := B.cell 0 _ rfl
  have k1 := B.cell 1 _ rfl
  simp at k0 k1
  have W1 := Lib.hid (blw_trans (blw_trans (blw_alloc w _) (blw_alloc _ _)) hb)
  clear hb B
  go_wp2_with fail
  refine (C2.out _).mono ?_
  rintro e w2 ⟨rfl, hb⟩
  go_wp2
  go_ret
  exact ⟨rfl, blw_trans W1.out hb⟩
set_option maxRecDepth 100000 in
set_option maxHeartbeats 1000000 in
theorem right_no (a s b t : Int) (w : World) (h : ¬ (okD a s ∧ okD b t)) :
    Calls Tryz.prog 27 #[.agg #[.int .i64 a, .int .i64 s], .agg #[.int .i64 b, .int .i64 t]] w fun e w' => e = .returned (.bool false) ∧ Below w.heap.size w w' := by
  by_cases ha : okD a s
  · have C1 := Lib.hid fun w => dchk_yes a s w ha
    have C2 := Lib.hid fun w => dchk_no b t w fun hb => h ⟨ha, hb⟩
    clear ha h
    go_enter Tryz.func27, Tryz.ntmps27
    go_wp2_with fail
    refine (C1.out _).mono ?_
    rintro e w1 ⟨rfl, hb⟩
    have B := Boxed.below (Boxed.made _ #[.int .i64 b, .int .i64 t] 23) hb
    have k0 := B.cell 0 _ rfl
    have k1 := B.cell 1 _ rfl
    simp at k0 k1
    have W1 := Lib.hid (blw_trans (blw_trans (blw_alloc w _) (blw_alloc _ _)) hb)
    clear hb B
    go_wp2_with fail
    refine (C2.out _).mono ?_
    rintro e w2 ⟨rfl, hb⟩
    go_wp2
    go_ret
    exact ⟨rfl, blw_trans W1.out hb⟩
  · have C1 := Lib.hid fun w => dchk_no a s w ha
    clear ha h
    go_enter Tryz.func27, Tryz.ntmps27
    go_wp2_with fail
    refine (C1.out _).mono ?_
    rintro e w1 ⟨rfl, hb⟩
    go_wp2
    go_ret
    exact ⟨rfl, blw_trans (blw_trans (blw_alloc w _) (blw_alloc _ _)) hb⟩

set_option maxRecDepth 100000 in
set_option maxHeartbeats 1000000 in
theorem same_yes (a s b t : Int) (w : World) (ha : okD a s) (hb : okD b t) (h : nrm a s = nrm b t) :
    Calls Tryz.prog 12 #[.agg #[.int .i64 a, .int .i64 s], .agg #[.int .i64 b, .int .i64 t]] w fun e w' => e = .returned (.bool true) ∧ Below w.heap.size w w' := by
  have C1 := Lib.hid fun w => right_yes a s b t w ha hb
  have C2 := Lib.hid fun w => compared_any a s b t w ha hb
  have hv : cmpN a s b t = 0 := by unfold cmpN; (repeat' split) <;> omega
  generalize cmpN a s b t = v at *
  clear ha hb h
  go_enter Tryz.func12, Tryz.ntmps12
  go_wp2_with fail
  refine (C1.out _).mono ?_
  rintro e w1 ⟨rfl, hb⟩
  have B0 := Boxed.below (Boxed.alloc (Boxed.made _ #[.int .i64 a, .int .i64 s] 23) _) hb
  have B := Boxed.below (Boxed.made _ #[.int .i64 b, .int .i64 t] 23) hb
  have j0 := B0.cell 0 _ rfl
  have j1 := B0.cell 1 _ rfl
  have k0 := B.cell 0 _ rfl
  have k1 := B.cell 1 _ rfl
  simp at k0 k1
  have W1 := Lib.hid (blw_trans (blw_trans (blw_alloc w _) (blw_alloc _ _)) hb)
  clear hb B B0
  go_wp2_with fail
  refine (C2.out _).mono ?_
  rintro e w2 ⟨rfl, hb⟩
  go_wp2
  go_ret
  exact ⟨ret_bool (by simp; try omega), blw_trans W1.out hb⟩

set_option maxRecDepth 100000 in
set_option maxHeartbeats 1000000 in
theorem same_no (a s b t : Int) (w : World) (ha : okD a s) (hb : okD b t) (h : ¬ nrm a s = nrm b t) :
    Calls Tryz.prog 12 #[.agg #[.int .i64 a, .int .i64 s], .agg #[.int .i64 b, .int .i64 t]] w fun e w' => e = .returned (.bool false) ∧ Below w.heap.size w w' := by
  have C1 := Lib.hid fun w => right_yes a s b t w ha hb
  have C2 := Lib.hid fun w => compared_any a s b t w ha hb
  have hv : cmpN a s b t ≠ 0 := by unfold cmpN; (repeat' split) <;> omega
  generalize cmpN a s b t = v at *
  clear ha hb h
  go_enter Tryz.func12, Tryz.ntmps12
  go_wp2_with fail
  refine (C1.out _).mono ?_
  rintro e w1 ⟨rfl, hb⟩
  have B0 := Boxed.below (Boxed.alloc (Boxed.made _ #[.int .i64 a, .int .i64 s] 23) _) hb
  have B := Boxed.below (Boxed.made _ #[.int .i64 b, .int .i64 t] 23) hb
  have j0 := B0.cell 0 _ rfl
  have j1 := B0.cell 1 _ rfl
  have k0 := B.cell 0 _ rfl
  have k1 := B.cell 1 _ rfl
  simp at k0 k1
  have W1 := Lib.hid (blw_trans (blw_trans (blw_alloc w _) (blw_alloc _ _)) hb)
  clear hb B B0
  go_wp2_with fail
  refine (C2.out _).mono ?_
  rintro e w2 ⟨rfl, hb⟩
  go_wp2
  go_ret
  exact ⟨ret_bool (by simp; try omega), blw_trans W1.out hb⟩

set_option maxRecDepth 100000 in
set_option maxHeartbeats 1000000 in
theorem same_bad (a s b t : Int) (w : World) (h : ¬ (okD a s ∧ okD b t)) :
    Calls Tryz.prog 12 #[.agg #[.int .i64 a, .int .i64 s], .agg #[.int .i64 b, .int .i64 t]] w fun e w' => e = .returned (.bool false) ∧ Below w.heap.size w w' := by
  have C1 := Lib.hid fun w => right_no a s b t w h
  clear h
  go_enter Tryz.func12, Tryz.ntmps12
  go_wp2_with fail
  refine (C1.out _).mono ?_
  rintro e w1 ⟨rfl, hb⟩
  go_wp2
  go_ret
  exact ⟨rfl, blw_trans (blw_trans (blw_alloc w _) (blw_alloc _ _)) hb⟩
end Go.Proofs.YtdmenoimamnldaaGreatDoor
namespace Go.Proofs.YtdmenoimamnldaaGreatDoor
open Go.RowKit

theorem size_setCell (w : World) (a : Addr) (v : Value) : (w.setCell a v).heap.size = w.heap.size := by simp [World.setCell]
/-- a store into the block -/
theorem Boxed.set {w : World} {p : Nat} {vs : Array Value} (h : Boxed w p vs) (j : Nat) (v : Value) (hj : j < vs.size) : Boxed (w.setCell ⟨p, j, none⟩ v) p (vs.setIfInBounds j v) := by
  refine ⟨by rw [size_setCell]; exact h.lt, fun k u hk => ?_, fun k hk => ?_⟩
  · rw [Array.getElem?_setIfInBounds] at hk
    by_cases e : j = k
    · subst e
      rw [if_pos rfl, if_pos hj] at hk
      obtain rfl := Option.some.inj hk
      exact World.cell?_setCell_same _ _ _ (h.cell j _ (Array.getElem?_eq_getElem hj))
    · rw [if_neg e] at hk
      rw [World.cell?_setCell_other _ _ _ _ (fun g => e (by injection g))]
      exact h.cell k u hk
  · rw [World.frozen?_setCell]; exact h.free k (by simpa using hk)
/-- a store into another block -/
theorem Boxed.far {w : World} {p : Nat} {vs : Array Value} (h : Boxed w p vs) {q : Nat} (hq : q ≠ p) (j : Nat) (v : Value) : Boxed (w.setCell ⟨q, j, none⟩ v) p vs :=
  ⟨by rw [size_setCell]; exact h.lt, fun k u hk => by rw [World.cell?_setCell_other _ _ _ _ (fun g => hq (by injection g))]; exact h.cell k u hk, fun k hk => by rw [World.frozen?_setCell]; exact h.free k hk⟩
theorem Boxed.at {w : World} {p q : Nat} {vs : Array Value} (h : Boxed w p vs) (e : p = q) : Boxed w q vs := e ▸ h
end Go.Proofs.YtdmenoimamnldaaGreatDoor
