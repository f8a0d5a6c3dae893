/- The walk of ops.Of: the operands of a right number. No conditions but the argument's own. -/
import Derived.Test.YtdannkcacldhmaaDoorDchk
import Derived.Shelf.Strings.Builder1
import Derived.Shelf.Small.Strs
import Derived.Shelf.Utf8.RuneCount
import Derived.Shelf.Strings.Search1
import Derived.Shelf.Strings.Search2
import Derived.Shelf.Strings.Search3
import Derived.Shelf.Strings.Count
import Derived.Shelf.LaysM
import Derived.Shelf.Strings.Shaped
import Derived.Shelf.Bits.Mul64
import Derived.Test.YtdannkcacldhmaaDoorBoxS
import Derived.Test.YtdannkcacldhmaaDoorHeld
import Derived.Deep.LoopGhost
namespace Go.Proofs.YtdannkcacldhmaaDoor
open Go.RowKit
open Dcm (P10 okD nrm)

set_option maxRecDepth 100000 in
set_option maxHeartbeats 1000000 in
theorem ops_no (c s : Int) (w : World) (h : ¬ okD c s) :
    Calls Tryd.prog 8 #[.agg #[.int .i64 c, .int .i64 s]] w fun e w' => e = .returned (.tuple #[.agg #[.int .i64 0, .int .i64 0, .int .i64 0, .int .i64 0, .int .i64 0], errV 1]) ∧ Below w.heap.size w w' := by
  have C0 := Lib.hid fun w => dchk_no c s w h
  clear h
  go_enter Tryd.func8, Tryd.ntmps8
  go_wp2_with fail
  refine (C0.out _).mono ?_
  rintro e w1 ⟨rfl, hb⟩
  have Z1 := Boxed.at (q := w.heap.size + 1) (Boxed.below (Boxed.made _ #[.int .i64 0, .int .i64 0, .int .i64 0, .int .i64 0, .int .i64 0] 25) hb) (by simp)
  have W1 := Lib.hid (blw_trans (blw_trans (blw_alloc w _) (blw_alloc _ _)) hb)
  have k0 := Z1.cell 0 _ rfl
  have k1 := Z1.cell 1 _ rfl
  have k2 := Z1.cell 2 _ rfl
  have k3 := Z1.cell 3 _ rfl
  have k4 := Z1.cell 4 _ rfl
  have f0 := Z1.free 0 (by simp)
  have f1 := Z1.free 1 (by simp)
  have f2 := Z1.free 2 (by simp)
  have f3 := Z1.free 3 (by simp)
  have f4 := Z1.free 4 (by simp)
  clear hb C0 Z1
  go_wp2
  refine bodyPost_ret (v := .tuple #[.agg #[.int .i64 0, .int .i64 0, .int .i64 0, .int .i64 0, .int .i64 0], errV 1]) (by simp [results, Tryd.results8, go_sem, k0, k1, k2, k3, k4]) rfl ⟨rfl, ?_⟩
  repeat (first | exact W1.out | refine Below.setCell ?_ (by simp) _)

set_option maxRecDepth 100000 in
set_option maxHeartbeats 1000000 in
theorem ops_yes (c s : Int) (w : World) (h : okD c s) :
    Calls Tryd.prog 8 #[.agg #[.int .i64 c, .int .i64 s]] w fun e w' => e = .returned (.tuple #[.agg #[.int .i64 (Dcm.mag c / P10 s), .int .i64 s, .int .i64 ((Dcm.strip s.toNat (Dcm.mag c % P10 s)).1 : Int), .int .i64 (Dcm.mag c % P10 s), .int .i64 (Dcm.strip s.toNat (Dcm.mag c % P10 s)).2], .nilIface]) ∧ Below w.heap.size w w' := by
  have C0 := Lib.hid fun w => dchk_yes c s w h
  obtain ⟨s0, s1, c0, c1⟩ := h
  go_enter Tryd.func8, Tryd.ntmps8
  go_wp2_with fail
  refine (C0.out _).mono ?_
  rintro e w1 ⟨rfl, hb⟩
  have A1 := Boxed.below (Boxed.alloc (Boxed.made _ #[.int .i64 c, .int .i64 s] 23) _) hb
  have A1 := A1.at (q := w.heap.size) rfl
  have Z1 := Boxed.at (q := w.heap.size + 1) (Boxed.below (Boxed.made _ #[.int .i64 0, .int .i64 0, .int .i64 0, .int .i64 0, .int .i64 0] 25) hb) (by simp)
  have W1 := Lib.hid (blw_trans (blw_trans (blw_alloc w _) (blw_alloc _ _)) hb)
  have k0 := A1.cell 0 _ rfl
  have k1 := A1.cell 1 _ rfl
  clear hb C0
  go_wp2_with fail
  go_loop [5, 16] (fun t i => ∃ k : Int, 0 ≤ k ∧ k ≤ s ∧ i = .int .i64 k ∧ t = .int .i64 (P10 k)) (fun _ i => (s - intOf i).toNat)
  case atStart => exact ⟨0, by omega, by omega, rfl, rfl⟩
  case round =>
    obtain ⟨k, q0, q1, rfl, rfl⟩ := hrel
    have hb := Dcm.P10_bd k
    by_cases hlt : k < s
    · have hs := Lib.hid (Dcm.P10_succ k q0 (by omega))
      go_wp2
      go_round
      case rel => exact ⟨k + 1, by omega, by omega, by go_num, by rw [hs.out]⟩
      case measure => simp [intOf]; omega
    · obtain rfl : k = s := by omega
      go_wp2_with fail
      have em : max c (-c) = Dcm.mag c := by unfold Dcm.mag; split <;> omega
      have m0 := Dcm.mag_bd c
      have m1 : Dcm.mag c ≤ 1000000000000000 := by unfold Dcm.mag; split <;> omega
      rw [em]
      clear em q1 s0 hlt
      generalize gm : Dcm.mag c = m at *
      have Gm := Lib.hid gm
      clear gm
      generalize gU : P10 k = U at *
      have GU := Lib.hid gU
      clear gU
      have e0 : (U == 0) = false := beq_no (by omega)
      have e1 : ¬ U = 0 := by omega
      have e2 : IntKind.i64.wrap (m.tdiv U) = m / U := IntWalk.i64_quo m U ⟨m0, by omega, hb.1⟩
      have e3 : m.tmod U = m % U := IntWalk.rem_in m U m0
      have n1 := World.new_ne w1 _ k0
      have n2 := World.new_ne w1 _ k1
      go_region_held3 (fun w' => w'.cell? ⟨w.heap.size, 0, none⟩ = some (.int .i64 c) ∧ w'.cell? ⟨w.heap.size, 1, none⟩ = some (.int .i64 k)) (go_keep) (fail)
      have B2 := Boxed.drew (Boxed.made w1 #[.int .i64 (m / U), .int .i64 k, .int .i64 k, .int .i64 (m % U), .int .i64 (m % U)] 25)
      have Z2 := (Z1.alloc (.cells #[.int .i64 (m / U), .int .i64 k, .int .i64 k, .int .i64 (m % U), .int .i64 (m % U)] 25)).drew
      have W2 := Lib.hid (Below.drew (blw_trans W1.out (blw_alloc w1 (.cells #[.int .i64 (m / U), .int .i64 k, .int .i64 k, .int .i64 (m % U), .int .i64 (m % U)] 25))))
      have HR : Hid (Dcm.strip k.toNat (m % U) = Dcm.strip k.toNat (m % U)) := rfl
      have hne : w1.heap.size ≠ w.heap.size + 1 := Nat.ne_of_gt Z1.lt
      have hge : w.heap.size ≤ w1.heap.size := W1.out.size
      have r0 := Int.emod_nonneg m (by omega : U ≠ 0)
      have r1 := Int.emod_lt_of_pos m (by omega : 0 < U)
      generalize gF : m % U = F at *
      have GF := Lib.hid gF
      clear gF
      generalize gI : m / U = I at *
      have GI := Lib.hid gI
      clear gI
      clear e0 e1 e2 e3 n1 n2 A1 Z1 W1 k0 k1
      rename_i hHeld
      clear hHeld
      generalize hR : Dcm.strip k.toNat F = R at *
      clear HR
      have HR := Lib.hid hR
      clear hR
      generalize (w1.alloc (.cells #[.int .i64 I, .int .i64 k, .int .i64 k, .int .i64 F, .int .i64 F] 25)).drew = w2 at *
      go_wp2_with fail
      go_loopg [41] k.toNat (fun gk _p wr => ∃ wi td : Int, 0 ≤ wi ∧ wi ≤ k ∧ gk = wi.toNat ∧ 0 ≤ td ∧ td ≤ 1000000000000000 ∧ Boxed wr w1.heap.size #[.int .i64 I, .int .i64 k, .int .i64 wi, .int .i64 F, .int .i64 td] ∧ Boxed wr (w.heap.size + 1) #[.int .i64 0, .int .i64 0, .int .i64 0, .int .i64 0, .int .i64 0] ∧ Hid (Below w.heap.size w wr) ∧ Hid (Dcm.strip wi.toNat td = R))
      case atStart => exact ⟨k, F, by omega, by omega, rfl, by omega, by omega, B2, Z2, W2, HR⟩
      case round =>
        obtain ⟨wi, td, i0, i1, rfl, t0, t1, B3, Z3, W3, H3⟩ := hrel
        have q0 := B3.cell 0 _ rfl
        have q1 := B3.cell 1 _ rfl
        have q2 := B3.cell 2 _ rfl
        have q3 := B3.cell 3 _ rfl
        have q4 := B3.cell 4 _ rfl
        have f2 := B3.free 2 (by simp)
        have f4 := B3.free 4 (by simp)
        by_cases hw : 0 < wi
        · by_cases ht : td % 10 = 0
          · have d1 : decide (0 < wi) = true := dec_yes hw
            have d2 : (td % 10 == 0) = true := beq_yes ht
            have HT := Lib.hid ht
            clear ht
            have B4 := (B3.set 2 (.int .i64 (wi - 1)) (by simp)).set 4 (.int .i64 (td / 10)) (by simp)
            have Z4 := (Z3.far (q := w1.heap.size) hne 2 (.int .i64 (wi - 1))).far (q := w1.heap.size) hne 4 (.int .i64 (td / 10))
            have W4 := Lib.hid ((W3.out.setCell (p := ⟨w1.heap.size, 2, none⟩) hge (.int .i64 (wi - 1))).setCell (p := ⟨w1.heap.size, 4, none⟩) hge (.int .i64 (td / 10)))
            have H4 : Hid (Dcm.strip (wi - 1).toNat (td / 10) = R) := by
              have h := H3.out
              have e : wi.toNat = (wi - 1).toNat + 1 := by omega
              rw [e] at h
              unfold Dcm.strip at h
              rw [if_pos HT.out] at h
              exact h
            clear B3 Z3 W3 H3
            go_wp2
            go_roundg (wi - 1).toNat
            case measure => omega
            case rel => exact ⟨wi - 1, td / 10, by omega, by omega, rfl, by omega, by omega, B4, Z4, W4, H4⟩
          · have d1 : decide (0 < wi) = true := dec_yes hw
            have d2 : (td % 10 == 0) = false := beq_no ht
            have e : R = (wi.toNat, td) := by
              rw [← H3.out]
              have e : wi.toNat = (wi - 1).toNat + 1 := by omega
              rw [e]; unfold Dcm.strip; rw [if_neg ht]
            have ew : ((wi.toNat : Nat) : Int) = wi := by omega
            subst e
            have EW := Lib.hid ew
            clear ew H3 B3
            have k0 := Z3.cell 0 _ rfl
            have k1 := Z3.cell 1 _ rfl
            have k2 := Z3.cell 2 _ rfl
            have k3 := Z3.cell 3 _ rfl
            have k4 := Z3.cell 4 _ rfl
            have g0 := Z3.free 0 (by simp)
            have g1 := Z3.free 1 (by simp)
            have g2 := Z3.free 2 (by simp)
            have g3 := Z3.free 3 (by simp)
            have g4 := Z3.free 4 (by simp)
            go_wp2
            refine bodyPost_ret (v := .tuple #[.agg #[.int .i64 I, .int .i64 k, .int .i64 wi, .int .i64 F, .int .i64 td], .nilIface]) (by simp [results, Tryd.results8, go_sem, k0, k1, k2, k3, k4]) rfl ⟨by simp [EW.out, Gm.out, GU.out, GF.out, GI.out, HR.out], ?_⟩
            repeat (first | exact W3.out | refine Below.setCell ?_ (by simp) _)
        · have d1 : decide (0 < wi) = false := dec_no hw
          have e : R = (wi.toNat, td) := by
            rw [← H3.out]
            have e : wi.toNat = 0 := by omega
            rw [e]; rfl
          have ew : ((wi.toNat : Nat) : Int) = wi := by omega
          subst e
          have EW := Lib.hid ew
          clear ew H3 B3
          have k0 := Z3.cell 0 _ rfl
          have k1 := Z3.cell 1 _ rfl
          have k2 := Z3.cell 2 _ rfl
          have k3 := Z3.cell 3 _ rfl
          have k4 := Z3.cell 4 _ rfl
          have g0 := Z3.free 0 (by simp)
          have g1 := Z3.free 1 (by simp)
          have g2 := Z3.free 2 (by simp)
          have g3 := Z3.free 3 (by simp)
          have g4 := Z3.free 4 (by simp)
          go_wp2
          refine bodyPost_ret (v := .tuple #[.agg #[.int .i64 I, .int .i64 k, .int .i64 wi, .int .i64 F, .int .i64 td], .nilIface]) (by simp [results, Tryd.results8, go_sem, k0, k1, k2, k3, k4]) rfl ⟨by simp [EW.out, Gm.out, GU.out, GF.out, GI.out, HR.out], ?_⟩
          repeat (first | exact W3.out | refine Below.setCell ?_ (by simp) _)
end Go.Proofs.YtdannkcacldhmaaDoor
