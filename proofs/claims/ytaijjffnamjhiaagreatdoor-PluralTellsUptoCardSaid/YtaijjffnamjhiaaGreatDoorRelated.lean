/- The walk of rule.related: a relation's text. Conditions: the relation is sound and lies in memory as it says; the library's table of powers is laid. -/
import Derived.Test.YtaijjffnamjhiaaGreatDoorRanged
import Derived.Test.YtaijjffnamjhiaaGreatDoorRjoin
namespace Go.Proofs.YtaijjffnamjhiaaGreatDoor
open Go.RowKit

theorem op_text (c : UInt8) (h : Rul.opOk c = true) : Utf8.encode (c.toNat : Int) = ⟨#[c]⟩ := by
  have h' : c ∈ [110, 105, 118, 119, 102, 116] := by simpa [Rul.opOk] using h
  simp only [List.mem_cons, List.not_mem_nil, or_false] at h'
  rcases h' with rfl | rfl | rfl | rfl | rfl | rfl
  · show Utf8.encode 110 = ⟨#[110]⟩
    kernel_rfl
  · show Utf8.encode 105 = ⟨#[105]⟩
    kernel_rfl
  · show Utf8.encode 118 = ⟨#[118]⟩
    kernel_rfl
  · show Utf8.encode 119 = ⟨#[119]⟩
    kernel_rfl
  · show Utf8.encode 102 = ⟨#[102]⟩
    kernel_rfl
  · show Utf8.encode 116 = ⟨#[116]⟩
    kernel_rfl
theorem ranged_at (args : Array Value) (w : World) : (callFunc 113 args).run Tryz.prog w = .ok (.enter 113 args) w := enters_of Tryz.func113 (by kernel_rfl) rfl args w

set_option maxRecDepth 100000 in
set_option maxHeartbeats 2000000 in
theorem related_any (r : Rul.Rl) (a : Option Addr) (n c : Nat) (w : World) (hp : PowW w) (hs : SlAt 2 RngC w (.slice a n c) r.rs) (hl : r.rs.length ≤ 4000000001) (ht : Lst.total (r.rs.map Rul.rngT) [44] ≤ 2000000000000) (hk : Rul.relOk r = true) :
    Calls Tryz.prog 57 #[.agg #[.int .u8 (r.op.toNat : Int), .int .i64 r.mod, .bool r.no, .slice a n c]] w fun e w' => e = .returned (.string ⟨(Rul.relT r).toArray⟩) ∧ Below w.heap.size w w' := by
  obtain ⟨op, mod, no, rs⟩ := r
  simp only [Rul.relOk, Bool.and_eq_true, decide_eq_true_eq] at hk
  obtain ⟨⟨⟨⟨ho, hm0⟩, hm1⟩, _⟩, hall⟩ := hk
  dsimp only at *
  have EO := op_text op ho
  have i0 : 0 ≤ (op.toNat : Int) ∧ (op.toNat : Int) < 256 := by have := op.toNat_lt; omega
  have CM := Lib.hid fun w hp => itoa_pos mod w hp hm0 (by omega)
  have CJ := Lib.hid fun (wx : World) (hb : Below w.heap.size w wx) => joined_rng rs Rul.rngT 113 ranged_at (.slice a n c) [44] wx (hs.rngs_below hb) hl ht (Lib.hid fun x hx wy hy => ranged_any x wy ((hp.below hb).below hy) (List.all_eq_true.1 hall x hx))
  have hT := Lib.hid (show Rul.relT ⟨op, mod, no, rs⟩ = (if mod = 0 then [op] else [op] ++ Rul.pcS ++ Rul.dg mod) ++ (if no then Rul.neS else Rul.eqS) ++ Lib.join (rs.map Rul.rngT) [44] from rfl)
  generalize Rul.relT ⟨op, mod, no, rs⟩ = T at *
  have hJ : (Lib.join (rs.map Rul.rngT) [44]).length ≤ 2000000000000 := by have := Lst.join_le (rs.map Rul.rngT) [44]; omega
  generalize Lib.join (rs.map Rul.rngT) [44] = J at *
  have lm : (Lib.decDigits mod.toNat).length ≤ 100 := by have := Byt.digits_short 7 mod.toNat (by omega) (by omega); omega
  have hdg : Rul.dg mod = Lib.decDigits mod.toNat := rfl
  rw [hdg] at hT
  clear hdg
  generalize Lib.decDigits mod.toNat = DM at *
  generalize (op.toNat : Int) = opI at *
  have ew : wrap32 opI = opI := IntWalk.wrap32_in _ ⟨by omega, by omega⟩
  clear ho hm0 hm1 hall hs ht hl
  obtain ⟨SG, hSG⟩ : ∃ SG, SG = (if no then Rul.neS else Rul.eqS) := ⟨_, rfl⟩
  have hSl : SG.length ≤ 4 := by rw [hSG]; cases no <;> decide
  obtain ⟨P1, hP1⟩ : ∃ P1, P1 = Rul.pcS ++ DM := ⟨_, rfl⟩
  have lP : P1.length ≤ 103 := by rw [hP1, List.length_append]; show 3 + _ ≤ _; omega
  obtain ⟨X1, hX1⟩ : ∃ X1, X1 = (if mod = 0 then [op] else [op] ++ P1) := ⟨_, rfl⟩
  have lX : X1.length ≤ 104 := by rw [hX1]; split <;> simp <;> omega
  obtain ⟨X2, hX2⟩ : ∃ X2, X2 = X1 ++ SG := ⟨_, rfl⟩
  have lX2 : X2.length ≤ 108 := by rw [hX2, List.length_append]; omega
  have hTT := Lib.hid (show X2 ++ J = T by rw [hX2, hX1, hP1, hSG, hT.out]; simp only [List.append_assoc])
  have AP : ∀ w, (Op.stringOp .add ⟨#[32, 37, 32]⟩ ⟨DM.toArray⟩).run Tryz.prog w = .ok (.string ⟨P1.toArray⟩) w := fun w => by rw [hP1]; exact add_str (P := Tryz.prog) [32, 37, 32] DM (by simp; omega) w
  have AT : ∀ w, (Op.stringOp .add ⟨X2.toArray⟩ ⟨J.toArray⟩).run Tryz.prog w = .ok (.string ⟨T.toArray⟩) w := fun w => by rw [← hTT.out]; exact add_str (P := Tryz.prog) X2 J (by omega) w
  have B0 := Lib.hid (Boxed.made w #[.int .u8 opI, .int .i64 mod, .bool no, .slice a n c] 106)
  have W0 := Lib.hid (blw_alloc w (.cells #[.int .u8 opI, .int .i64 mod, .bool no, .slice a n c] 106))
  have P0 := Lib.hid (hp.alloc (.cells #[.int .u8 opI, .int .i64 mod, .bool no, .slice a n c] 106))
  by_cases hm : mod = 0
  · have e0 : (mod == 0) = true := beq_yes hm
    rw [if_pos hm] at hX1
    subst hX1
    cases no with
    | true =>
      have A2 : ∀ w, (Op.stringOp .add ⟨#[op]⟩ ⟨#[32, 33, 61, 32]⟩).run Tryz.prog w = .ok (.string ⟨X2.toArray⟩) w := fun w => by rw [hX2, hSG]; exact add_str (P := Tryz.prog) [op] [32, 33, 61, 32] (by simp) w
      clear hX2 hP1 hT hm hSG
      go_enter Tryz.func57, Tryz.ntmps57
      go_wp2_with fail
      refine (CJ.out _ W0.out).mono ?_
      rintro e w2 ⟨rfl, hb⟩
      have W2 := Lib.hid (blw_trans W0.out hb)
      clear hb CJ CM
      go_wp2_with fail
      go_ret
      exact ⟨rfl, W2.out⟩
    | false =>
      have A2 : ∀ w, (Op.stringOp .add ⟨#[op]⟩ ⟨#[32, 61, 32]⟩).run Tryz.prog w = .ok (.string ⟨X2.toArray⟩) w := fun w => by rw [hX2, hSG]; exact add_str (P := Tryz.prog) [op] [32, 61, 32] (by simp) w
      clear hX2 hP1 hT hm hSG
      go_enter Tryz.func57, Tryz.ntmps57
      go_wp2_with fail
      refine (CJ.out _ W0.out).mono ?_
      rintro e w2 ⟨rfl, hb⟩
      have W2 := Lib.hid (blw_trans W0.out hb)
      clear hb CJ CM
      go_wp2_with fail
      go_ret
      exact ⟨rfl, W2.out⟩
  · have e0 : (mod == 0) = false := beq_no hm
    rw [if_neg hm] at hX1
    have A1 : ∀ w, (Op.stringOp .add ⟨#[op]⟩ ⟨P1.toArray⟩).run Tryz.prog w = .ok (.string ⟨X1.toArray⟩) w := fun w => by rw [hX1]; exact add_str (P := Tryz.prog) [op] P1 (by simp; omega) w
    cases no with
    | true =>
      have A2 : ∀ w, (Op.stringOp .add ⟨X1.toArray⟩ ⟨#[32, 33, 61, 32]⟩).run Tryz.prog w = .ok (.string ⟨X2.toArray⟩) w := fun w => by rw [hX2, hSG]; exact add_str (P := Tryz.prog) X1 [32, 33, 61, 32] (by simp; omega) w
      clear hX1 hX2 hP1 hT hm hSG
      go_enter Tryz.func57, Tryz.ntmps57
      go_wp2_with fail
      refine (CM.out _ P0.out).mono ?_
      rintro e w1 ⟨rfl, hb⟩
      have W1 := Lib.hid (blw_trans W0.out hb)
      have B1 := Lib.hid (B0.out.below hb)
      have k2 := B1.out.cell 2 _ rfl
      have k3 := B1.out.cell 3 _ rfl
      clear hb CM B0 W0 P0
      go_wp2_with fail
      refine (CJ.out _ W1.out).mono ?_
      rintro e w2 ⟨rfl, hb⟩
      have W2 := Lib.hid (blw_trans W1.out hb)
      clear hb CJ
      go_wp2_with fail
      go_ret
      exact ⟨rfl, W2.out⟩
    | false =>
      have A2 : ∀ w, (Op.stringOp .add ⟨X1.toArray⟩ ⟨#[32, 61, 32]⟩).run Tryz.prog w = .ok (.string ⟨X2.toArray⟩) w := fun w => by rw [hX2, hSG]; exact add_str (P := Tryz.prog) X1 [32, 61, 32] (by simp; omega) w
      clear hX1 hX2 hP1 hT hm hSG
      go_enter Tryz.func57, Tryz.ntmps57
      go_wp2_with fail
      refine (CM.out _ P0.out).mono ?_
      rintro e w1 ⟨rfl, hb⟩
      have W1 := Lib.hid (blw_trans W0.out hb)
      have B1 := Lib.hid (B0.out.below hb)
      have k2 := B1.out.cell 2 _ rfl
      have k3 := B1.out.cell 3 _ rfl
      clear hb CM B0 W0 P0
      go_wp2_with fail
      refine (CJ.out _ W1.out).mono ?_
      rintro e w2 ⟨rfl, hb⟩
      have W2 := Lib.hid (blw_trans W1.out hb)
      clear hb CJ
      go_wp2_with fail
      go_ret
      exact ⟨rfl, W2.out⟩
end Go.Proofs.YtaijjffnamjhiaaGreatDoor
