/- The walk of nout.trimmed. Conditions: the number is right. -/
import Derived.Test.YtaijjffnamjhiaaGreatDoorNoutP
import Derived.Test.YtaijjffnamjhiaaGreatDoorBoxS
import Derived.Test.YtaijjffnamjhiaaGreatDoorHeld
import Derived.LoopTactic
import Derived.Test.YtaijjffnamjhiaaGreatDoorProg
namespace Go.Proofs.YtaijjffnamjhiaaGreatDoor
open Go.RowKit
open Dcm (okD)
theorem rem_ten {c : Int} : (c.tmod 10 == 0) = decide (c % 10 = 0) := by
  rw [Bool.eq_iff_iff, beq_iff_eq, decide_eq_true_iff]
  constructor <;> intro h
  · exact Int.emod_eq_zero_of_dvd (Int.dvd_of_tmod_eq_zero h)
  · exact Int.tmod_eq_zero_of_dvd (Int.dvd_of_emod_eq_zero h)
theorem quo_ten {c : Int} (h : c % 10 = 0) : c.tdiv 10 = c / 10 := by
  obtain ⟨k, rfl⟩ := Int.dvd_of_emod_eq_zero h
  rw [Int.mul_tdiv_cancel_left _ (by decide), Int.mul_ediv_cancel_left _ (by decide)]

set_option maxRecDepth 100000 in
set_option maxHeartbeats 2000000 in
theorem trimmed_any (c s : Int) (w : World) (h : okD c s) :
    Calls Tryz.prog 75 #[.agg #[.int .i64 c, .int .i64 s], .int .i64 0] w fun e w' => e = .returned (.agg #[.int .i64 (Nt.trim c s).1, .int .i64 (Nt.trim c s).2]) ∧ Below w.heap.size w w' := by
  obtain ⟨s0, s9, c0, c1⟩ := h
  obtain ⟨m, rfl⟩ : ∃ m : Nat, s = (m : Int) := ⟨s.toNat, by omega⟩
  unfold Nt.trim
  rw [Int.toNat_natCast]
  have D0 := Lib.hid ((Boxed.made w #[.int .i64 c, .int .i64 (m : Int)] 37).alloc (.cells #[.int .i64 0, .int .i64 0] 37))
  have Z0 := Lib.hid (Boxed.at (q := w.heap.size + 1) (Boxed.made (w.alloc (.cells #[.int .i64 c, .int .i64 (m : Int)] 37)) #[.int .i64 0, .int .i64 0] 37) (by simp))
  have W0 := Lib.hid (blw_trans (blw_alloc w (.cells #[.int .i64 c, .int .i64 (m : Int)] 37)) (blw_alloc _ (.cells #[.int .i64 0, .int .i64 0] 37)))
  obtain ⟨T, hT⟩ : ∃ T, T = Dcm.strip m c := ⟨_, rfl⟩
  rw [← hT]
  have HT := Lib.hid hT.symm
  clear hT
  go_enter Tryz.func75, Tryz.ntmps75
  go_wp2_with fail
  generalize (w.alloc (.cells #[.int .i64 c, .int .i64 (m : Int)] 37)).alloc (.cells #[.int .i64 0, .int .i64 0] 37) = w1 at *
  go_loopw [] (fun wr => ∃ (c' : Int) (n : Nat), Hid (Boxed wr w.heap.size #[.int .i64 c', .int .i64 (n : Int)]) ∧ Hid (Boxed wr (w.heap.size + 1) #[.int .i64 0, .int .i64 0]) ∧ Hid (Below w.heap.size w wr) ∧ Hid (Dcm.strip n c' = T) ∧ -1000000000000000 ≤ c' ∧ c' ≤ 1000000000000000 ∧ n ≤ 9) (fun wr => (RowKit.intOf ((wr.cell? ⟨w.heap.size, 1, none⟩).getD .nilIface)).toNat)
  case atStart => exact ⟨c, m, D0, Z0, W0, HT, c0, c1, by omega⟩
  case round =>
    obtain ⟨c', n, D, Z, HB, HS, b0, b1, n9⟩ := hrel
    clear D0 Z0 W0 HT c0 c1 s0 s9
    have d0 := D.out.cell 0 _ rfl
    have d1 := D.out.cell 1 _ rfl
    have df0 := D.out.free 0 (by simp)
    have df1 := D.out.free 1 (by simp)
    have dl := D.out.lt
    have z0 := Z.out.cell 0 _ rfl
    have z1 := Z.out.cell 1 _ rfl
    have zf0 := Z.out.free 0 (by simp)
    have zf1 := Z.out.free 1 (by simp)
    have zl := Z.out.lt
    cases n with
    | zero =>
      have e0 : T = (0, c') := HS.out.symm
      subst e0
      go_wp2_with fail
      refine bodyPost_ret (v := .agg #[.int .i64 c', .int .i64 0]) (by simp [results, Tryz.results75, go_sem, z0, z1]; try rfl) rfl ?_
      exact ⟨rfl, by repeat (first | exact HB.out | refine blw_drewN ?_ _ | refine Below.setCell ?_ (by first | (simp; done) | omega | (simp; omega)) _)⟩
    | succ n =>
      have hn : (0 : Int) < ((n + 1 : Nat) : Int) := by omega
      have w1' : IntKind.i64.wrap (((n + 1 : Nat) : Int) - 1) = (n : Int) := by rw [IntWalk.i64_in _ (by omega)]; omega
      by_cases h0 : c' % 10 = 0
      · have r0 : (c'.tmod 10 == 0) = true := by rw [rem_ten, decide_eq_true h0]
        have q0 : IntKind.i64.wrap (c'.tdiv 10) = c' / 10 := by rw [quo_ten h0, IntWalk.i64_in _ (by omega)]
        have HS' := Lib.hid (show Dcm.strip n (c' / 10) = T by rw [← HS.out, Dcm.strip, if_pos h0])
        have bb0 : -1000000000000000 ≤ c' / 10 := by omega
        have bb1 : c' / 10 ≤ 1000000000000000 := by omega
        have e1 : ((n + 1 : Nat) : Int) - 1 = (n : Int) := by omega
        have D2 := Lib.hid ((D.out.set 0 (.int .i64 (c' / 10)) (by simp)).set 1 (.int .i64 (n : Int)) (by simp))
        have Z2 := Lib.hid ((Z.out.far (q := w.heap.size) (by omega) 0 (.int .i64 (c' / 10))).far (q := w.heap.size) (by omega) 1 (.int .i64 (n : Int)))
        generalize c' / 10 = c2 at *
        generalize hM : ((n + 1 : Nat) : Int) = M at *
        clear h0 HS b0 b1
        go_wp2_with fail
        go_roundw
        case rel => exact ⟨c2, n, Lib.hid D2.out, Lib.hid Z2.out, Lib.hid (by repeat (first | exact HB.out | refine blw_drewN ?_ _ | refine Below.setCell ?_ (by first | (simp; done) | omega | (simp; omega)) _)), HS', bb0, bb1, by omega⟩
        case measure => simp [RowKit.intOf, go_sem, d1]; omega
      · have r0 : (c'.tmod 10 == 0) = false := by rw [rem_ten, decide_eq_false h0]
        have e0 : T = (n + 1, c') := by rw [← HS.out, Dcm.strip, if_neg h0]
        subst e0
        clear h0 HS
        go_wp2_with fail
        refine bodyPost_ret (v := .agg #[.int .i64 c', .int .i64 ((n + 1 : Nat) : Int)]) (by simp [results, Tryz.results75, go_sem, z0, z1]; try rfl) rfl ?_
        exact ⟨rfl, by repeat (first | exact HB.out | refine blw_drewN ?_ _ | refine Below.setCell ?_ (by first | (simp; done) | omega | (simp; omega)) _)⟩
end Go.Proofs.YtaijjffnamjhiaaGreatDoor
