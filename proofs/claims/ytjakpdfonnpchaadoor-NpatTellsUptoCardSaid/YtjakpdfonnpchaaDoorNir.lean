/- strings.IndexRune at the signs of patterns: a rune of 128 or more is not there. Condition: it is one. -/
import Derived.Test.YtjakpdfonnpchaaDoorShelfU
import Derived.Test.YtjakpdfonnpchaaDoorBox
import Derived.Test.YtjakpdfonnpchaaDoorStr
import Derived.Laws.Runes
import Derived.OwnWalk
import Derived.LoopTactic
import Derived.BigQuiet
import Derived.WalkMore
namespace Go.Proofs.YtjakpdfonnpchaaDoor
open Go.RowKit

theorem enc_two' (n : Int) (h0 : 128 ≤ n) (h1 : n < 2048) : ∃ b0 b1 : UInt8, Utf8.encode n = ⟨[b0, b1].toArray⟩ ∧ 128 ≤ b1.toNat := by
  have hv : Utf8.valid n = true := by unfold Utf8.valid; simp; omega
  refine ⟨UInt8.ofNat (0xC0 + n.toNat / 64), UInt8.ofNat (0x80 + n.toNat % 64), ?_, ?_⟩
  · unfold Utf8.encode
    simp only [hv, if_true]
    rw [if_neg (by omega), if_pos (by omega)]
  · rw [UInt8.toNat_ofNat']; omega
theorem enc_three' (n : Int) (hv : Utf8.valid n = true) (h0 : 2048 ≤ n) (h1 : n < 65536) : ∃ b0 b1 b2 : UInt8, Utf8.encode n = ⟨[b0, b1, b2].toArray⟩ ∧ 128 ≤ b2.toNat := by
  refine ⟨UInt8.ofNat (0xE0 + n.toNat / 4096), UInt8.ofNat (0x80 + n.toNat / 64 % 64), UInt8.ofNat (0x80 + n.toNat % 64), ?_, ?_⟩
  · unfold Utf8.encode
    simp only [hv, if_true]
    rw [if_neg (by omega), if_neg (by omega), if_pos (by omega)]
  · rw [UInt8.toNat_ofNat']; omega
theorem enc_four' (n : Int) (hv : Utf8.valid n = true) (h0 : 65536 ≤ n) : ∃ b0 b1 b2 b3 : UInt8, Utf8.encode n = ⟨[b0, b1, b2, b3].toArray⟩ ∧ 128 ≤ b3.toNat := by
  refine ⟨UInt8.ofNat (0xF0 + n.toNat / 262144), UInt8.ofNat (0x80 + n.toNat / 4096 % 64), UInt8.ofNat (0x80 + n.toNat / 64 % 64), UInt8.ofNat (0x80 + n.toNat % 64), ?_, ?_⟩
  · unfold Utf8.encode
    simp only [hv, if_true]
    rw [if_neg (by omega), if_neg (by omega), if_neg (by omega)]
  · rw [UInt8.toNat_ofNat']; omega
theorem far_2 (c : UInt8) (h : 128 ≤ c.toNat) : Lib.indexByte [44, 46] c = -1 := by
  have key : ∀ n : Nat, n < 256 → 128 ≤ n → Lib.indexByte [44, 46] (UInt8.ofNat n) = -1 := by decide +kernel
  have := key c.toNat c.toNat_lt h
  simpa using this
theorem far_3 (c : UInt8) (h : 128 ≤ c.toNat) : Lib.indexByte [46] c = -1 := by
  have key : ∀ n : Nat, n < 256 → 128 ≤ n → Lib.indexByte [46] (UInt8.ofNat n) = -1 := by decide +kernel
  have := key c.toNat c.toNat_lt h
  simpa using this
theorem far_4 (c : UInt8) (h : 128 ≤ c.toNat) : Lib.indexByte [] c = -1 := by
  have key : ∀ n : Nat, n < 256 → 128 ≤ n → Lib.indexByte [] (UInt8.ofNat n) = -1 := by decide +kernel
  have := key c.toNat c.toNat_lt h
  simpa using this
theorem valid_rng {r : Int} (h : Utf8.valid r = true) : (0 ≤ r ∧ r < 55296) ∨ (57344 ≤ r ∧ r ≤ 1114111) := by
  unfold Utf8.valid at h
  simp at h
  omega

set_option maxRecDepth 100000 in
set_option maxHeartbeats 1000000 in
theorem validRune_yes (r : Int) (w : World) (h : Utf8.valid r = true) : Calls Tryd.prog 41 #[.int .i32 r] w fun e w' => e = .returned (.bool true) ∧ w' = w := by
  rcases valid_rng h with ⟨h0, h1⟩ | ⟨h0, h1⟩
  · clear h
    go_enter Tryd.func41, Tryd.ntmps41
    go_wp2_with fail
    go_ret
    exact ⟨rfl, rfl⟩
  · clear h
    have d0 : decide (0 ≤ r) = true := decide_eq_true (by omega)
    have d1 : decide (r < 55296) = false := decide_eq_false (by omega)
    have d2 : decide (57343 < r) = true := decide_eq_true (by omega)
    have d3 : decide (r ≤ 1114111) = true := decide_eq_true (by omega)
    go_enter Tryd.func41, Tryd.ntmps41
    go_wp2_with fail
    go_ret
    exact ⟨rfl, rfl⟩

set_option maxRecDepth 100000 in
set_option maxHeartbeats 1000000 in
theorem nir_2 (c : Int) (w : World) (hv : Utf8.valid c = true) (h0 : 128 ≤ c) (h1 : c < 2048) :
    Calls Tryd.prog 22 #[.string ⟨#[35, 48, 44, 46]⟩, .int .i32 c] w fun e w' => e = .returned (.int .i64 (-1)) ∧ Below w.heap.size w w' := by
  have hmx : c ≤ 1114111 := by rcases valid_rng hv with h | h <;> omega
  have k0 : decide (0 ≤ c) = true := decide_eq_true (by omega)
  have k1 : decide (c < 128) = false := decide_eq_false (by omega)
  have k2 : (c == 65533) = false := beq_no (by omega)
  obtain ⟨b0, b1, he, hb⟩ := enc_two' c h0 h1
  have CE : ∀ w, (convert 21 9 (.int .i32 c)).run Tryd.prog w = .ok (.string ⟨[b0, b1].toArray⟩) w := fun w => (run_convert_int_string (P := Tryd.prog) w 21 9 .i32 c (by rw [Tryd.underlying21]; rfl) Tryd.underlying9).trans (by rw [he])
  have CV := Lib.hid fun w => validRune_yes c w hv
  have I0 := fun w => index_str (P := Tryd.prog) 9 Tryd.underlying9 [35, 48, 44, 46] .i64 1 48 rfl w
  have I1 := fun w => index_str (P := Tryd.prog) 9 Tryd.underlying9 [b0, b1] .i64 1 b1 rfl w
  have SL := fun w => slice_from (P := Tryd.prog) 9 Tryd.underlying9 [35, 48, 44, 46] .i64 2 (by decide) w
  have CB := Lib.hid fun (w : World) => Tryd.strings_IndexByte ⟨#[44, 46]⟩ (b1.toNat : Int) w
  have e1 : Lib.indexByte (⟨#[44, 46]⟩ : ByteArray).data.toList ((b1.toNat : Int)).toNat.toUInt8 = -1 := by
    have : ((b1.toNat : Int)).toNat.toUInt8 = b1 := by simp
    rw [this]; exact far_2 b1 hb
  rw [e1] at CB
  clear e1 he
  have hb2 := b1.toNat_lt
  go_enter Tryd.func22, Tryd.ntmps22
  go_wp2_with fail
  refine (CV.out _).mono ?_
  rintro e w' ⟨rfl, rfl⟩
  go_wp2_with fail
  go_step3
  go_wp2_with fail
  go_loopw [9] (fun i wr => i = .int .i64 1 ∧ wr = w') (fun _ _ => 0)
  case atStart => exact ⟨rfl, rfl⟩
  case round =>
    obtain ⟨rfl, rfl⟩ := hrel
    have hx : (⟨#[35, 48, 44, 46]⟩ : ByteArray).extract 2 4 = ⟨#[44, 46]⟩ := by decide
    have hy : (⟨#[b0, b1]⟩ : ByteArray)[1]'(by show 1 < 2; decide) = b1 := rfl
    have hw2 : IntKind.i64.wrap 2 = 2 := by decide
    have hz : ((⟨#[35, 48, 44, 46]⟩ : ByteArray)[1]'(by decide)).toNat = 48 := by decide
    have hne : ((48 : Int) == (b1.toNat : Int)) = false := beq_no (by omega)
    have hne2 : (((48 : Nat) : Int) != (b1.toNat : Int)) = true := by rw [bne, show (((48 : Nat) : Int) == (b1.toNat : Int)) = false from hne]; rfl
    go_wp2_with fail
    go_step3
    go_wp2_with fail
    go_quiet (fail)
    rename_i nq
    have HB := Lib.hid (blw_drewN (Below.refl wr.heap.size wr) nq)
    generalize wr.drewN nq = w2 at *
    go_wp2_with fail
    go_big_quiet ((go_at_call 40; exact quiet_left ((CB.out _).mono fun _ _ h => ⟨h.1, h.2.symm⟩)))
    go_wp2_with fail
    simp (config := { zetaDelta := true }) only [Exit.then, Exit.noGoto, Exit.inBlock]
    go_ret
    exact ⟨rfl, blw_drewN HB.out _⟩


set_option maxRecDepth 100000 in
set_option maxHeartbeats 1000000 in
theorem nir_3 (c : Int) (w : World) (hv : Utf8.valid c = true) (h0 : 2048 ≤ c) (h1 : c < 65536) (hne9 : c ≠ 65533) :
    Calls Tryd.prog 22 #[.string ⟨#[35, 48, 44, 46]⟩, .int .i32 c] w fun e w' => e = .returned (.int .i64 (-1)) ∧ Below w.heap.size w w' := by
  have hmx : c ≤ 1114111 := by rcases valid_rng hv with h | h <;> omega
  have k0 : decide (0 ≤ c) = true := decide_eq_true (by omega)
  have k1 : decide (c < 128) = false := decide_eq_false (by omega)
  have k2 : (c == 65533) = false := beq_no (by omega)
  obtain ⟨b0, b1, b2, he, hb⟩ := enc_three' c hv h0 h1
  have CE : ∀ w, (convert 21 9 (.int .i32 c)).run Tryd.prog w = .ok (.string ⟨[b0, b1, b2].toArray⟩) w := fun w => (run_convert_int_string (P := Tryd.prog) w 21 9 .i32 c (by rw [Tryd.underlying21]; rfl) Tryd.underlying9).trans (by rw [he])
  have CV := Lib.hid fun w => validRune_yes c w hv
  have I0 := fun w => index_str (P := Tryd.prog) 9 Tryd.underlying9 [35, 48, 44, 46] .i64 2 44 rfl w
  have I1 := fun w => index_str (P := Tryd.prog) 9 Tryd.underlying9 [b0, b1, b2] .i64 2 b2 rfl w
  have SL := fun w => slice_from (P := Tryd.prog) 9 Tryd.underlying9 [35, 48, 44, 46] .i64 3 (by decide) w
  have CB := Lib.hid fun (w : World) => Tryd.strings_IndexByte ⟨#[46]⟩ (b2.toNat : Int) w
  have e1 : Lib.indexByte (⟨#[46]⟩ : ByteArray).data.toList ((b2.toNat : Int)).toNat.toUInt8 = -1 := by
    have : ((b2.toNat : Int)).toNat.toUInt8 = b2 := by simp
    rw [this]; exact far_3 b2 hb
  rw [e1] at CB
  clear e1 he
  have hb2 := b2.toNat_lt
  go_enter Tryd.func22, Tryd.ntmps22
  go_wp2_with fail
  refine (CV.out _).mono ?_
  rintro e w' ⟨rfl, rfl⟩
  go_wp2_with fail
  go_step3
  go_wp2_with fail
  go_loopw [9] (fun i wr => i = .int .i64 2 ∧ wr = w') (fun _ _ => 0)
  case atStart => exact ⟨rfl, rfl⟩
  case round =>
    obtain ⟨rfl, rfl⟩ := hrel
    have hx : (⟨#[35, 48, 44, 46]⟩ : ByteArray).extract 3 4 = ⟨#[46]⟩ := by decide
    have hy : (⟨#[b0, b1, b2]⟩ : ByteArray)[2]'(by show 2 < 3; decide) = b2 := rfl
    have hw2 : IntKind.i64.wrap 3 = 3 := by decide
    have hz : ((⟨#[35, 48, 44, 46]⟩ : ByteArray)[2]'(by decide)).toNat = 44 := by decide
    have hne : ((44 : Int) == (b2.toNat : Int)) = false := beq_no (by omega)
    have hne2 : (((44 : Nat) : Int) != (b2.toNat : Int)) = true := by rw [bne, show (((44 : Nat) : Int) == (b2.toNat : Int)) = false from hne]; rfl
    go_wp2_with fail
    go_step3
    go_wp2_with fail
    go_quiet (fail)
    rename_i nq
    have HB := Lib.hid (blw_drewN (Below.refl wr.heap.size wr) nq)
    generalize wr.drewN nq = w2 at *
    go_wp2_with fail
    go_big_quiet ((go_at_call 40; exact quiet_left ((CB.out _).mono fun _ _ h => ⟨h.1, h.2.symm⟩)))
    go_wp2_with fail
    simp (config := { zetaDelta := true }) only [Exit.then, Exit.noGoto, Exit.inBlock]
    go_ret
    exact ⟨rfl, blw_drewN HB.out _⟩


set_option maxRecDepth 100000 in
set_option maxHeartbeats 1000000 in
theorem nir_4 (c : Int) (w : World) (hv : Utf8.valid c = true) (h0 : 65536 ≤ c) :
    Calls Tryd.prog 22 #[.string ⟨#[35, 48, 44, 46]⟩, .int .i32 c] w fun e w' => e = .returned (.int .i64 (-1)) ∧ Below w.heap.size w w' := by
  have hmx : c ≤ 1114111 := by rcases valid_rng hv with h | h <;> omega
  have k0 : decide (0 ≤ c) = true := decide_eq_true (by omega)
  have k1 : decide (c < 128) = false := decide_eq_false (by omega)
  have k2 : (c == 65533) = false := beq_no (by omega)
  obtain ⟨b0, b1, b2, b3, he, hb⟩ := enc_four' c hv h0
  have CE : ∀ w, (convert 21 9 (.int .i32 c)).run Tryd.prog w = .ok (.string ⟨[b0, b1, b2, b3].toArray⟩) w := fun w => (run_convert_int_string (P := Tryd.prog) w 21 9 .i32 c (by rw [Tryd.underlying21]; rfl) Tryd.underlying9).trans (by rw [he])
  have CV := Lib.hid fun w => validRune_yes c w hv
  have I0 := fun w => index_str (P := Tryd.prog) 9 Tryd.underlying9 [35, 48, 44, 46] .i64 3 46 rfl w
  have I1 := fun w => index_str (P := Tryd.prog) 9 Tryd.underlying9 [b0, b1, b2, b3] .i64 3 b3 rfl w
  have SL := fun w => slice_from (P := Tryd.prog) 9 Tryd.underlying9 [35, 48, 44, 46] .i64 4 (by decide) w
  have CB := Lib.hid fun (w : World) => Tryd.strings_IndexByte ⟨#[]⟩ (b3.toNat : Int) w
  have e1 : Lib.indexByte (⟨#[]⟩ : ByteArray).data.toList ((b3.toNat : Int)).toNat.toUInt8 = -1 := by
    have : ((b3.toNat : Int)).toNat.toUInt8 = b3 := by simp
    rw [this]; exact far_4 b3 hb
  rw [e1] at CB
  clear e1 he
  have hb2 := b3.toNat_lt
  go_enter Tryd.func22, Tryd.ntmps22
  go_wp2_with fail
  refine (CV.out _).mono ?_
  rintro e w' ⟨rfl, rfl⟩
  go_wp2_with fail
  go_step3
  go_wp2_with fail
  go_loopw [9] (fun i wr => i = .int .i64 3 ∧ wr = w') (fun _ _ => 0)
  case atStart => exact ⟨rfl, rfl⟩
  case round =>
    obtain ⟨rfl, rfl⟩ := hrel
    have hx : (⟨#[35, 48, 44, 46]⟩ : ByteArray).extract 4 4 = ⟨#[]⟩ := by decide
    have hy : (⟨#[b0, b1, b2, b3]⟩ : ByteArray)[3]'(by show 3 < 4; decide) = b3 := rfl
    have hw2 : IntKind.i64.wrap 4 = 4 := by decide
    have hz : ((⟨#[35, 48, 44, 46]⟩ : ByteArray)[3]'(by decide)).toNat = 46 := by decide
    have hne : ((46 : Int) == (b3.toNat : Int)) = false := beq_no (by omega)
    have hne2 : (((46 : Nat) : Int) != (b3.toNat : Int)) = true := by rw [bne, show (((46 : Nat) : Int) == (b3.toNat : Int)) = false from hne]; rfl
    go_wp2_with fail
    go_step3
    go_wp2_with fail
    go_quiet (fail)
    rename_i nq
    have HB := Lib.hid (blw_drewN (Below.refl wr.heap.size wr) nq)
    generalize wr.drewN nq = w2 at *
    go_wp2_with fail
    go_big_quiet ((go_at_call 40; exact quiet_left ((CB.out _).mono fun _ _ h => ⟨h.1, h.2.symm⟩)))
    go_wp2_with fail
    simp (config := { zetaDelta := true }) only [Exit.then, Exit.noGoto, Exit.inBlock]
    go_ret
    exact ⟨rfl, blw_drewN HB.out _⟩

set_option maxRecDepth 100000 in
set_option maxHeartbeats 1000000 in
theorem nir_err (w : World) :
    Calls Tryd.prog 22 #[.string ⟨#[35, 48, 44, 46]⟩, .int .i32 65533] w fun e w' => e = .returned (.int .i64 (-1)) ∧ Below w.heap.size w w' := by
  go_enter Tryd.func22, Tryd.ntmps22
  go_wp2_with fail
  go_loopg [5, 6] 4 (fun g _ _ wx => ∃ i : Nat, i + g = 4 ∧ wx = w.iter ⟨#[35, 48, 44, 46]⟩ i)
  case atStart => exact ⟨0, rfl, rfl⟩
  case round =>
    obtain ⟨i, hig, rfl⟩ := hrel
    cases gk with
    | zero =>
      obtain rfl : i = 4 := by omega
      have hnx := fun ty => run_next_end (P := Tryd.prog) w ⟨#[35, 48, 44, 46]⟩ 4 ty (by decide)
      go_wp2_with fail
      go_ret
      exact ⟨rfl, blw_alloc _ _⟩
    | succ g =>
      have hi : i < (⟨#[35, 48, 44, 46]⟩ : ByteArray).size := by show i < 4; omega
      obtain ⟨x, hx⟩ : ∃ x : UInt8, (⟨#[35, 48, 44, 46]⟩ : ByteArray)[i]'hi = x := ⟨_, rfl⟩
      have hx128 : x.toNat < 128 := by
        have h4 : i = 0 ∨ i = 1 ∨ i = 2 ∨ i = 3 := by omega
        rw [← hx]
        rcases h4 with rfl | rfl | rfl | rfl
        · show (35 : UInt8).toNat < 128; decide
        · show (48 : UInt8).toNat < 128; decide
        · show (44 : UInt8).toNat < 128; decide
        · show (46 : UInt8).toNat < 128; decide
      have hnx := fun ty => run_next_ascii (P := Tryd.prog) w ⟨#[35, 48, 44, 46]⟩ i ty hi (by rw [hx]; exact hx128)
      rw [hx] at hnx
      have k : ((x.toNat : Int) == 65533) = false := beq_no (by omega)
      clear hx
      go_wp2_with fail
      go_roundg g
      case measure => omega
      case rel => exact ⟨i + 1, by omega, rfl⟩
/-- no rune beyond ASCII is one of the signs -/
theorem nir_far (c : Int) (w : World) (hv : Utf8.valid c = true) (h0 : 128 ≤ c) :
    Calls Tryd.prog 22 #[.string ⟨#[35, 48, 44, 46]⟩, .int .i32 c] w fun e w' => e = .returned (.int .i64 (-1)) ∧ Below w.heap.size w w' := by
  by_cases h1 : c < 2048
  · exact nir_2 c w hv h0 h1
  by_cases h2 : c < 65536
  · by_cases h3 : c = 65533
    · subst h3; exact nir_err w
    · exact nir_3 c w hv (by omega) h2 h3
  · exact nir_4 c w hv (by omega)
end Go.Proofs.YtjakpdfonnpchaaDoor
