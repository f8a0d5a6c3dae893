/- strings.ContainsRune at the letters of operands and whatever byte. -/
import Derived.Test.YtaijjffnamjhiaaGreatDoorShelfU
import Derived.Test.YtaijjffnamjhiaaGreatDoorBox
import Derived.Test.YtaijjffnamjhiaaGreatDoorStr
import Derived.Test.YtaijjffnamjhiaaGreatDoorRulP
import Derived.Laws.Runes
import Derived.OwnWalk
import Derived.LoopTactic
import Derived.BigQuiet
import Derived.WalkMore
namespace Go.Proofs.YtaijjffnamjhiaaGreatDoor
open Go.RowKit

theorem each_op (c : UInt8) : decide (0 ≤ Lib.indexByte [110, 105, 118, 119, 102, 116] c) = Rul.opOk c := by
  have key : ∀ n : Nat, n < 256 → decide (0 ≤ Lib.indexByte [110, 105, 118, 119, 102, 116] (UInt8.ofNat n)) = Rul.opOk (UInt8.ofNat n) := by decide +kernel
  have := key c.toNat c.toNat_lt
  simpa using this
theorem op_low (c : UInt8) (h : 128 ≤ c.toNat) : Rul.opOk c = false := by
  cases e : Rul.opOk c with
  | false => rfl
  | true =>
    rcases Rul.op_cases e with rfl | rfl | rfl | rfl | rfl | rfl <;> exact absurd h (by decide)
theorem enc_two (n : Int) (h0 : 128 ≤ n) (h1 : n ≤ 255) : ∃ b0 b1 : UInt8, Utf8.encode n = ⟨[b0, b1].toArray⟩ ∧ 128 ≤ b1.toNat := by
  have hv : Utf8.valid n = true := by unfold Utf8.valid; simp; omega
  refine ⟨UInt8.ofNat (0xC0 + n.toNat / 64), UInt8.ofNat (0x80 + n.toNat % 64), ?_, ?_⟩
  · unfold Utf8.encode
    simp only [hv, if_true]
    rw [if_neg (by omega), if_pos (by omega)]
  · rw [UInt8.toNat_ofNat']; omega
theorem far_two (c : UInt8) (h : 128 ≤ c.toNat) : Lib.indexByte [118, 119, 102, 116] c = -1 := by
  have key : ∀ n : Nat, n < 256 → 128 ≤ n → Lib.indexByte [118, 119, 102, 116] (UInt8.ofNat n) = -1 := by decide +kernel
  have := key c.toNat c.toNat_lt h
  simpa using this

set_option maxRecDepth 100000 in
set_option maxHeartbeats 1000000 in
theorem valid_low (r : Int) (w : World) (h0 : 0 ≤ r) (h1 : r < 55296) : Calls Tryz.prog 204 #[.int .i32 r] w fun e w' => e = .returned (.bool true) ∧ w' = w := by
  go_enter Tryz.func204, Tryz.ntmps204
  go_wp2_with fail
  go_ret
  exact ⟨rfl, rfl⟩

set_option maxRecDepth 100000 in
set_option maxHeartbeats 1000000 in
theorem irune_hi (c : Int) (w : World) (h0 : 128 ≤ c) (h1 : c ≤ 255) :
    Calls Tryz.prog 186 #[.string ⟨#[110, 105, 118, 119, 102, 116]⟩, .int .i32 c] w fun e w' => e = .returned (.int .i64 (-1)) ∧ Below w.heap.size w w' := by
  obtain ⟨b0, b1, he, hb⟩ := enc_two c h0 h1
  have CE : ∀ w, (convert 21 9 (.int .i32 c)).run Tryz.prog w = .ok (.string ⟨[b0, b1].toArray⟩) w := fun w => (run_convert_int_string (P := Tryz.prog) w 21 9 .i32 c (by rw [Tryz.underlying21]; rfl) Tryz.underlying9).trans (by rw [he])
  have CV := Lib.hid fun w => valid_low c w (by omega) (by omega)
  have I0 := fun w => index_str (P := Tryz.prog) 9 Tryz.underlying9 [110, 105, 118, 119, 102, 116] .i64 1 105 rfl w
  have I1 := fun w => index_str (P := Tryz.prog) 9 Tryz.underlying9 [b0, b1] .i64 1 b1 rfl w
  have SL := fun w => slice_from (P := Tryz.prog) 9 Tryz.underlying9 [110, 105, 118, 119, 102, 116] .i64 2 (by decide) w
  have CB := Lib.hid fun (w : World) => Tryz.strings_IndexByte ⟨#[118, 119, 102, 116]⟩ (b1.toNat : Int) w
  have e1 : Lib.indexByte (⟨#[118, 119, 102, 116]⟩ : ByteArray).data.toList ((b1.toNat : Int)).toNat.toUInt8 = -1 := by
    have : ((b1.toNat : Int)).toNat.toUInt8 = b1 := by simp
    rw [this]; exact far_two b1 hb
  rw [e1] at CB
  clear e1 he
  have hb2 := b1.toNat_lt
  go_enter Tryz.func186, Tryz.ntmps186
  go_wp2_with fail
  refine (CV.out _).mono ?_
  rintro e w' ⟨rfl, rfl⟩
  go_wp2_with fail
  go_step3
  go_wp2_with fail
  go_loopw [9] (fun i wr => i = .int .i64 1 ∧ wr = w') (fun _ _ => 0)
  case atStart => exact ⟨rfl, rfl⟩
  case round =>
    obtain ⟨rfl, rfl⟩ := hrel
    have hx : (⟨#[110, 105, 118, 119, 102, 116]⟩ : ByteArray).extract 2 6 = ⟨#[118, 119, 102, 116]⟩ := by decide
    have hy : (⟨#[b0, b1]⟩ : ByteArray)[1]'(by show 1 < 2; decide) = b1 := rfl
    have hw2 : IntKind.i64.wrap 2 = 2 := by decide
    have hz : ((⟨#[110, 105, 118, 119, 102, 116]⟩ : ByteArray)[1]'(by decide)).toNat = 105 := by decide
    have hne : ((105 : Int) == (b1.toNat : Int)) = false := beq_no (by omega)
    have hne2 : (((105 : Nat) : Int) != (b1.toNat : Int)) = true := by rw [bne, show (((105 : Nat) : Int) == (b1.toNat : Int)) = false from hne]; rfl
    go_wp2_with fail
    go_step3
    go_wp2_with fail
    go_quiet (fail)
    rename_i nq
    have HB := Lib.hid (blw_drewN (Below.refl wr.heap.size wr) nq)
    generalize wr.drewN nq = w2 at *
    go_wp2_with fail
    go_big_quiet ((go_at_call 93; exact quiet_left ((CB.out _).mono fun _ _ h => ⟨h.1, h.2.symm⟩)))
    go_wp2_with fail
    simp (config := { zetaDelta := true }) only [Exit.then, Exit.noGoto, Exit.inBlock]
    go_ret
    exact ⟨rfl, blw_drewN HB.out _⟩

set_option maxRecDepth 100000 in
set_option maxHeartbeats 1000000 in
theorem crune_hi (c : Int) (w : World) (h0 : 128 ≤ c) (h1 : c ≤ 255) :
    Calls Tryz.prog 159 #[.string ⟨#[110, 105, 118, 119, 102, 116]⟩, .int .i32 c] w fun e w' => e = .returned (.bool false) ∧ Below w.heap.size w w' := by
  have CI := Lib.hid (irune_hi c w h0 h1)
  go_enter Tryz.func159, Tryz.ntmps159
  go_wp2_with fail
  refine CI.out.mono ?_
  rintro e w' ⟨rfl, hb⟩
  go_wp2_with fail
  go_ret
  exact ⟨rfl, hb⟩
/-- is a byte an operand's letter? -/
theorem crune_any (c : UInt8) (w : World) :
    Calls Tryz.prog 159 #[.string ⟨#[110, 105, 118, 119, 102, 116]⟩, .int .i32 (c.toNat : Int)] w fun e w' => e = .returned (.bool (Rul.opOk c)) ∧ Below w.heap.size w w' := by
  by_cases h : c.toNat < 128
  · have e : ((c.toNat : Int)).toNat.toUInt8 = c := by simp
    have C := Tryz.strings_ContainsRune_ascii ⟨#[110, 105, 118, 119, 102, 116]⟩ (c.toNat : Int) w (by omega) (by omega)
    rw [e, each_op c] at C
    exact C.mono fun _ _ h => ⟨h.1, by rw [h.2]; exact Below.refl _ _⟩
  · have := c.toNat_lt
    rw [op_low c (by omega)]
    exact crune_hi _ w (by omega) (by omega)
end Go.Proofs.YtaijjffnamjhiaaGreatDoor
