/- The walk of rule.fine: is a relation well formed? Condition: the relation lies in memory as it says. -/
import Derived.Test.YtaijjffnamjhiaaGreatDoorRulFine
namespace Go.Proofs.YtaijjffnamjhiaaGreatDoor
open Go.RowKit

set_option maxRecDepth 100000 in
set_option maxHeartbeats 2000000 in
theorem fine_any (r : Rul.Rl) (a : Option Addr) (n c : Nat) (w : World) (hs : SlAt 2 RngC w (.slice a n c) r.rs) (hl : r.rs.length ≤ 4000000001) :
    Calls Tryz.prog 109 #[.agg #[.int .u8 (r.op.toNat : Int), .int .i64 r.mod, .bool r.no, .slice a n c]] w fun e w' => e = .returned (.bool (Rul.relOk r)) ∧ Below w.heap.size w w' := by
  obtain ⟨op, mod, no, rs⟩ := r
  dsimp only at *
  have hn : n = rs.length := by
    obtain ⟨A, cap, e, _⟩ := hs.spread
    injection e
  have CR := Lib.hid fun w => crune_any op w
  have HA := Lib.hid fun (w' : World) (hb : Below w.heap.size w w') => has_rng rs (fun p => !Rul.rngOk p) 160 #[] fine1_at (.slice a n c) w' (hs.rngs_below hb) (Lib.hid fun x _ wx _ => fine1_any x wx)
  have HR := Lib.hid (show Rul.relOk ⟨op, mod, no, rs⟩ = (Rul.opOk op && decide (0 ≤ mod) && decide (mod ≤ 1000000) && !rs.isEmpty && rs.all Rul.rngOk) from rfl)
  generalize Rul.relOk ⟨op, mod, no, rs⟩ = R at *
  generalize Rul.opOk op = O at *
  have hOB : (op.toNat : Int) < 256 := by have := op.toNat_lt; omega
  have hO0 : 0 ≤ (op.toNat : Int) := by omega
  generalize (op.toNat : Int) = opI at *
  have hX : (rs.any fun p => !Rul.rngOk p) = !(rs.all Rul.rngOk) := any_not
  rw [hX] at HA
  subst hn
  have hE : rs.isEmpty = decide ((rs.length : Int) = 0) := by cases rs <;> simp <;> omega
  rw [hE] at HR
  generalize rs.all Rul.rngOk = L at *
  have hnl : (rs.length : Int) ≤ 4000000001 := by omega
  clear hX hE hs hl
  generalize rs.length = n at *
  have ew : wrap32 opI = opI := IntWalk.wrap32_in _ ⟨by omega, by omega⟩
  go_enter Tryz.func109, Tryz.ntmps109
  go_wp2_with fail
  refine (CR.out _).mono ?_
  rintro e w1 ⟨rfl, hb⟩
  have W1 := Lib.hid (blw_trans (blw_alloc w (.cells #[.int .u8 opI, .int .i64 mod, .bool no, .slice a n c] 106)) hb)
  have B1 := Lib.hid ((Boxed.made w #[.int .u8 opI, .int .i64 mod, .bool no, .slice a n c] 106).below hb)
  have k1 := B1.out.cell 1 _ rfl
  have k3 := B1.out.cell 3 _ rfl
  clear hb CR ew
  cases O with
  | false =>
    obtain rfl : R = false := HR.out
    go_wp2_with fail
    go_ret
    exact ⟨rfl, W1.out⟩
  | true =>
    by_cases h0 : mod < 0
    · obtain rfl : R = false := by rw [HR.out, dec_no (show ¬ 0 ≤ mod by omega)]; rfl
      go_wp2_with fail
      go_ret
      exact ⟨rfl, W1.out⟩
    · by_cases h1 : 1000000 < mod
      · obtain rfl : R = false := by rw [HR.out, dec_yes (show 0 ≤ mod by omega), dec_no (show ¬ mod ≤ 1000000 by omega)]; rfl
        go_wp2_with fail
        go_ret
        exact ⟨rfl, W1.out⟩
      · by_cases h2 : (n : Int) = 0
        · obtain rfl : R = false := by rw [HR.out, dec_yes (show 0 ≤ mod by omega), dec_yes (show mod ≤ 1000000 by omega), dec_yes h2]; rfl
          have e2 : ((n : Int) == 0) = true := beq_yes h2
          go_wp2_with fail
          go_ret
          exact ⟨rfl, W1.out⟩
        · obtain rfl : R = L := by rw [HR.out, dec_yes (show 0 ≤ mod by omega), dec_yes (show mod ≤ 1000000 by omega), dec_no h2]; simp
          have e2 : ((n : Int) == 0) = false := beq_no h2
          have e1 : decide (1000000 < mod) = false := dec_no h1
          have e0 : decide (mod < 0) = false := dec_no h0
          clear h0 h1 h2 HR
          go_wp2_with fail
          refine (HA.out _ W1.out).mono ?_
          rintro e w2 ⟨rfl, hb⟩
          have W2 := Lib.hid (blw_trans W1.out hb)
          clear hb HA W1 k1 k3
          go_wp2_with fail
          go_ret
          exact ⟨ret_bool (by simp), W2.out⟩
end Go.Proofs.YtaijjffnamjhiaaGreatDoor
