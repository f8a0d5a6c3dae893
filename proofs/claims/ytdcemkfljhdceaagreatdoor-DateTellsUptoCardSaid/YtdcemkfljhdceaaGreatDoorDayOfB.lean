/- The walk of linguisterref1.DayOf: a text that is no day's; a day's text. -/
import Derived.Test.YtdcemkfljhdceaaGreatDoorDayOf
import Derived.Test.YtdcemkfljhdceaaGreatDoorParse
namespace Go.Proofs.YtdcemkfljhdceaaGreatDoor
open Go.RowKit

theorem byte_of {n : Nat} {b : UInt8} (h : 48 + n = b.toNat) : UInt8.ofNat (48 + n) = b := by rw [h]; simp
theorem txt_bytes (b0 b1 b2 b3 b5 b6 b8 b9 : UInt8) (g0 : 48 ≤ (b0.toNat : Int)) (f0 : (b0.toNat : Int) ≤ 57) (g1 : 48 ≤ (b1.toNat : Int)) (f1 : (b1.toNat : Int) ≤ 57) (g2 : 48 ≤ (b2.toNat : Int)) (f2 : (b2.toNat : Int) ≤ 57) (g3 : 48 ≤ (b3.toNat : Int)) (f3 : (b3.toNat : Int) ≤ 57) (g5 : 48 ≤ (b5.toNat : Int)) (f5 : (b5.toNat : Int) ≤ 57) (g6 : 48 ≤ (b6.toNat : Int)) (f6 : (b6.toNat : Int) ≤ 57) (g8 : 48 ≤ (b8.toNat : Int)) (f8 : (b8.toNat : Int) ≤ 57) (g9 : 48 ≤ (b9.toNat : Int)) (f9 : (b9.toNat : Int) ≤ 57) (Y M D : Int) (eY : Y = (1000 * ((b0.toNat : Int) - 48) + 100 * ((b1.toNat : Int) - 48) + 10 * ((b2.toNat : Int) - 48) + ((b3.toNat : Int) - 48))) (eM : M = (10 * ((b5.toNat : Int) - 48) + ((b6.toNat : Int) - 48))) (eD : D = (10 * ((b8.toNat : Int) - 48) + ((b9.toNat : Int) - 48))) : dtxt Y M D = [b0, b1, b2, b3, 45, b5, b6, 45, b8, b9] := by
  rw [dtxt_eq, Dtx.pad4 (by omega), Dtx.pad2 (by omega), Dtx.pad2 (by omega)]
  simp only [List.cons_append, List.nil_append]
  rw [byte_of (b := b0) (by omega), byte_of (b := b1) (by omega), byte_of (b := b2) (by omega), byte_of (b := b3) (by omega), byte_of (b := b5) (by omega), byte_of (b := b6) (by omega), byte_of (b := b8) (by omega), byte_of (b := b9) (by omega)]
theorem dayof_bytes (b0 b1 b2 b3 b5 b6 b8 b9 : UInt8) (g0 : 48 ≤ (b0.toNat : Int)) (f0 : (b0.toNat : Int) ≤ 57) (g1 : 48 ≤ (b1.toNat : Int)) (f1 : (b1.toNat : Int) ≤ 57) (g2 : 48 ≤ (b2.toNat : Int)) (f2 : (b2.toNat : Int) ≤ 57) (g3 : 48 ≤ (b3.toNat : Int)) (f3 : (b3.toNat : Int) ≤ 57) (g5 : 48 ≤ (b5.toNat : Int)) (f5 : (b5.toNat : Int) ≤ 57) (g6 : 48 ≤ (b6.toNat : Int)) (f6 : (b6.toNat : Int) ≤ 57) (g8 : 48 ≤ (b8.toNat : Int)) (f8 : (b8.toNat : Int) ≤ 57) (g9 : 48 ≤ (b9.toNat : Int)) (f9 : (b9.toNat : Int) ≤ 57) (Y M D : Int) (eY : Y = (1000 * ((b0.toNat : Int) - 48) + 100 * ((b1.toNat : Int) - 48) + 10 * ((b2.toNat : Int) - 48) + ((b3.toNat : Int) - 48))) (eM : M = (10 * ((b5.toNat : Int) - 48) + ((b6.toNat : Int) - 48))) (eD : D = (10 * ((b8.toNat : Int) - 48) + ((b9.toNat : Int) - 48))) (v : Bool) (w : World)
    (CF : Hid (∀ w : World, Calls Tryz.prog 5 #[.agg #[.int .i64 Y, .int .i64 M, .int .i64 D]] w fun e w' => e = .returned (.bool (!v)) ∧ Below w.heap.size w w')) :
    Calls Tryz.prog 14 #[.string ⟨([b0, b1, b2, b3, 45, b5, b6, 45, b8, b9] : List UInt8).toArray⟩] w fun e w' => e = .returned (.tuple #[.agg #[.int .i64 Y, .int .i64 M, .int .i64 D], .bool v]) ∧ Below w.heap.size w w' :=
  dayof_digits b0 b1 b2 b3 b5 b6 b8 b9 g0 f0 g1 f1 g2 f2 g3 f3 g5 f5 g6 f6 g8 f8 g9 f9 Y M D ((b0.toNat : Int) - 48) (10 * ((b0.toNat : Int) - 48) + ((b1.toNat : Int) - 48)) (10 * (10 * ((b0.toNat : Int) - 48) + ((b1.toNat : Int) - 48)) + ((b2.toNat : Int) - 48)) ((b5.toNat : Int) - 48) ((b8.toNat : Int) - 48)
    rfl rfl rfl (by omega) rfl (by omega) rfl (by omega) _ rfl v w CF
theorem dayof_yes (y m d : Int) (w : World) (h : Cal.vld y m d) :
    Calls Tryz.prog 14 #[.string ⟨(dtxt y m d).toArray⟩] w fun e w' => e = .returned (.tuple #[.agg #[.int .i64 y, .int .i64 m, .int .i64 d], .bool true]) ∧ Below w.heap.size w w' := by
  have cf := fun w => rfault_yes y m d w h
  obtain ⟨h1, h2, h3⟩ := vld_nat h
  obtain ⟨k1, _, k3, _, k5, _⟩ := h
  rw [dtxt_eq, Dtx.pad4 h1, Dtx.pad2 h2, Dtx.pad2 h3]
  have t0 := Byt.dig_byte (u := y.toNat / 1000) (by omega)
  have t1 := Byt.dig_byte (u := y.toNat / 100 % 10) (by omega)
  have t2 := Byt.dig_byte (u := y.toNat / 10 % 10) (by omega)
  have t3 := Byt.dig_byte (u := y.toNat % 10) (by omega)
  have t5 := Byt.dig_byte (u := m.toNat / 10) (by omega)
  have t6 := Byt.dig_byte (u := m.toNat % 10) (by omega)
  have t8 := Byt.dig_byte (u := d.toNat / 10) (by omega)
  have t9 := Byt.dig_byte (u := d.toNat % 10) (by omega)
  exact dayof_bytes _ _ _ _ _ _ _ _ (by omega) (by omega) (by omega) (by omega) (by omega) (by omega) (by omega) (by omega) (by omega) (by omega) (by omega) (by omega) (by omega) (by omega) (by omega) (by omega) y m d (by omega) (by omega) (by omega) true w (Lib.hid cf)
/-- no day is told -/
def NoDay (w : World) (e : Ending) (w' : World) : Prop := ∃ a b c : Int, e = .returned (.tuple #[.agg #[.int .i64 a, .int .i64 b, .int .i64 c], .bool false]) ∧ Below w.heap.size w w'

set_option maxRecDepth 100000 in
set_option maxHeartbeats 1000000 in
theorem dayof_a (s : List UInt8) (w : World) (h : s.length ≠ 10) : Calls Tryz.prog 14 #[.string ⟨s.toArray⟩] w (NoDay w) := by
  have q1 : ((s.length : Int) == 10) = false := beq_no (by omega)
  have q2 : ((s.length : Int) != 10) = true := by rw [bne, q1]; rfl
  clear h
  go_enter Tryz.func14, Tryz.ntmps14
  go_wp2_with fail
  go_big_quiet (fail)
  go_wp2_with fail
  refine bodyPost_ret (v := .tuple #[.agg #[.int .i64 0, .int .i64 0, .int .i64 0], .bool false]) (by simp [results, Tryz.results14, go_sem]) rfl ⟨0, 0, 0, rfl, ?_⟩
  repeat (first | exact Below.refl _ _ | refine blw_drewN ?_ _ | refine Below.setCell ?_ (by simp) _ | refine Below.alloc ?_ (by first | (simp; done) | (simp; omega)) _)

set_option maxRecDepth 100000 in
set_option maxHeartbeats 1000000 in
theorem dayof_b (s : List UInt8) (c : UInt8) (w : World) (hlen : s.length = 10) (hc : s[4]? = some c) (hn : c ≠ 45) : Calls Tryz.prog 14 #[.string ⟨s.toArray⟩] w (NoDay w) := by
  have q1 : ((c.toNat : Int) == 45) = false := (byte_eq (a := c) (b := 45)).trans (beq_eq_false_iff_ne.2 hn)
  have q2 : ((c.toNat : Int) != 45) = true := by rw [bne, q1]; rfl
  have IX4 : ∀ w, (Instr.index 9 (.string ⟨s.toArray⟩) (.int .i64 4)).run Tryz.prog w = .ok (.int .u8 (c.toNat : Int)) w := fun w => index_str (P := Tryz.prog) 9 Tryz.underlying9 s .i64 4 c hc w
  clear hc hn
  go_enter Tryz.func14, Tryz.ntmps14
  go_wp2_with fail
  go_big_quiet (fail)
  go_wp2_with fail
  refine bodyPost_ret (v := .tuple #[.agg #[.int .i64 0, .int .i64 0, .int .i64 0], .bool false]) (by simp [results, Tryz.results14, go_sem]) rfl ⟨0, 0, 0, rfl, ?_⟩
  repeat (first | exact Below.refl _ _ | refine blw_drewN ?_ _ | refine Below.setCell ?_ (by simp) _ | refine Below.alloc ?_ (by first | (simp; done) | (simp; omega)) _)

set_option maxRecDepth 100000 in
set_option maxHeartbeats 1000000 in
theorem dayof_c (s : List UInt8) (c : UInt8) (w : World) (hlen : s.length = 10) (h4 : s[4]? = some 45) (hc : s[7]? = some c) (hn : c ≠ 45) : Calls Tryz.prog 14 #[.string ⟨s.toArray⟩] w (NoDay w) := by
  have q1 : ((c.toNat : Int) == 45) = false := (byte_eq (a := c) (b := 45)).trans (beq_eq_false_iff_ne.2 hn)
  have q2 : ((c.toNat : Int) != 45) = true := by rw [bne, q1]; rfl
  have IX4 : ∀ w, (Instr.index 9 (.string ⟨s.toArray⟩) (.int .i64 4)).run Tryz.prog w = .ok (.int .u8 45) w := fun w => index_str (P := Tryz.prog) 9 Tryz.underlying9 s .i64 4 45 h4 w
  have IX7 : ∀ w, (Instr.index 9 (.string ⟨s.toArray⟩) (.int .i64 7)).run Tryz.prog w = .ok (.int .u8 (c.toNat : Int)) w := fun w => index_str (P := Tryz.prog) 9 Tryz.underlying9 s .i64 7 c hc w
  clear hc hn h4
  go_enter Tryz.func14, Tryz.ntmps14
  go_wp2_with fail
  go_big_quiet (fail)
  go_wp2_with fail
  refine bodyPost_ret (v := .tuple #[.agg #[.int .i64 0, .int .i64 0, .int .i64 0], .bool false]) (by simp [results, Tryz.results14, go_sem]) rfl ⟨0, 0, 0, rfl, ?_⟩
  repeat (first | exact Below.refl _ _ | refine blw_drewN ?_ _ | refine Below.setCell ?_ (by simp) _ | refine Below.alloc ?_ (by first | (simp; done) | (simp; omega)) _)

set_option maxRecDepth 100000 in
set_option maxHeartbeats 1000000 in
theorem dayof_d (s : List UInt8) (w : World) (hlen : s.length = 10) (h4 : s[4]? = some 45) (h7 : s[7]? = some 45) (hn : onlyB (s.take 4 ++ (s.drop 5).take (7 - 5) ++ s.drop 8) [48, 49, 50, 51, 52, 53, 54, 55, 56, 57] 8 8 = false) : Calls Tryz.prog 14 #[.string ⟨s.toArray⟩] w (NoDay w) := by
  have IX4 : ∀ w, (Instr.index 9 (.string ⟨s.toArray⟩) (.int .i64 4)).run Tryz.prog w = .ok (.int .u8 45) w := fun w => index_str (P := Tryz.prog) 9 Tryz.underlying9 s .i64 4 45 h4 w
  have IX7 : ∀ w, (Instr.index 9 (.string ⟨s.toArray⟩) (.int .i64 7)).run Tryz.prog w = .ok (.int .u8 45) w := fun w => index_str (P := Tryz.prog) 9 Tryz.underlying9 s .i64 7 45 h7 w
  have P1 : ∀ w, (Instr.slice 9 (.string ⟨s.toArray⟩) none (some (.int .i64 4)) none).run Tryz.prog w = .ok (.string ⟨(s.take 4).toArray⟩) w := fun w => slice_to (P := Tryz.prog) 9 Tryz.underlying9 s .i64 4 (by omega) w
  have P2 : ∀ w, (Instr.slice 9 (.string ⟨s.toArray⟩) (some (.int .i64 5)) (some (.int .i64 7)) none).run Tryz.prog w = .ok (.string ⟨((s.drop 5).take (7 - 5)).toArray⟩) w := fun w => slice_mid (P := Tryz.prog) 9 Tryz.underlying9 s .i64 .i64 5 7 (by omega) (by omega) w
  have P3 : ∀ w, (Instr.slice 9 (.string ⟨s.toArray⟩) (some (.int .i64 8)) none none).run Tryz.prog w = .ok (.string ⟨(s.drop 8).toArray⟩) w := fun w => slice_from (P := Tryz.prog) 9 Tryz.underlying9 s .i64 8 (by omega) w
  have S1 := fun w => add_str (P := Tryz.prog) (s.take 4) ((s.drop 5).take (7 - 5)) (by simp; omega) w
  have S2 := fun w => add_str (P := Tryz.prog) (s.take 4 ++ (s.drop 5).take (7 - 5)) (s.drop 8) (by simp; omega) w
  have CO := Lib.hid fun w => only_any (s.take 4 ++ (s.drop 5).take (7 - 5) ++ s.drop 8) [48, 49, 50, 51, 52, 53, 54, 55, 56, 57] 8 8 w (by simp; omega) (by simp)
  rw [hn] at CO
  clear hn h4 h7
  generalize s.take 4 = A at *
  generalize (s.drop 5).take (7 - 5) = B at *
  generalize s.drop 8 = C at *
  generalize A ++ B = AB at *
  generalize AB ++ C = ABC at *
  go_enter Tryz.func14, Tryz.ntmps14
  go_wp2_with fail
  go_big_quiet ((go_at_call 24; exact quiet_drew (CO.out _)))
  go_wp2_with fail
  refine bodyPost_ret (v := .tuple #[.agg #[.int .i64 0, .int .i64 0, .int .i64 0], .bool false]) (by simp [results, Tryz.results14, go_sem]) rfl ⟨0, 0, 0, rfl, ?_⟩
  repeat (first | exact Below.refl _ _ | refine blw_drewN ?_ _ | refine Below.setCell ?_ (by simp) _ | refine Below.alloc ?_ (by first | (simp; done) | (simp; omega)) _)

theorem ten_of {s : List UInt8} (h : s.length = 10) : ∃ b0 b1 b2 b3 b4 b5 b6 b7 b8 b9, s = [b0, b1, b2, b3, b4, b5, b6, b7, b8, b9] := by
  match s, h with
  | [b0, b1, b2, b3, b4, b5, b6, b7, b8, b9], _ => exact ⟨b0, b1, b2, b3, b4, b5, b6, b7, b8, b9, rfl⟩
theorem dig_out (c : UInt8) (h : ([48, 49, 50, 51, 52, 53, 54, 55, 56, 57] : List UInt8).contains c = true) : 48 ≤ (c.toNat : Int) ∧ (c.toNat : Int) ≤ 57 := by
  simp at h
  rcases h with rfl | rfl | rfl | rfl | rfl | rfl | rfl | rfl | rfl | rfl <;> decide
theorem dayof_no (s : List UInt8) (w : World) (h : ¬ ∃ y m d : Int, Cal.vld y m d ∧ dtxt y m d = s) : Calls Tryz.prog 14 #[.string ⟨s.toArray⟩] w (NoDay w) := by
  by_cases hlen : s.length = 10
  · obtain ⟨b0, b1, b2, b3, b4, b5, b6, b7, b8, b9, rfl⟩ := ten_of hlen
    by_cases h4 : b4 = 45
    · subst h4
      by_cases h7 : b7 = 45
      · subst h7
        cases ho : onlyB [b0, b1, b2, b3, b5, b6, b8, b9] [48, 49, 50, 51, 52, 53, 54, 55, 56, 57] 8 8 with
        | false => exact dayof_d _ w rfl rfl rfl ho
        | true =>
          unfold onlyB at ho
          have ha := List.all_eq_true.1 (Bool.and_eq_true_iff.1 ho).1
          obtain ⟨g0, f0⟩ := dig_out b0 (ha _ (by simp))
          obtain ⟨g1, f1⟩ := dig_out b1 (ha _ (by simp))
          obtain ⟨g2, f2⟩ := dig_out b2 (ha _ (by simp))
          obtain ⟨g3, f3⟩ := dig_out b3 (ha _ (by simp))
          obtain ⟨g5, f5⟩ := dig_out b5 (ha _ (by simp))
          obtain ⟨g6, f6⟩ := dig_out b6 (ha _ (by simp))
          obtain ⟨g8, f8⟩ := dig_out b8 (ha _ (by simp))
          obtain ⟨g9, f9⟩ := dig_out b9 (ha _ (by simp))
          have hv : ¬ Cal.vld (1000 * ((b0.toNat : Int) - 48) + 100 * ((b1.toNat : Int) - 48) + 10 * ((b2.toNat : Int) - 48) + ((b3.toNat : Int) - 48)) (10 * ((b5.toNat : Int) - 48) + ((b6.toNat : Int) - 48)) (10 * ((b8.toNat : Int) - 48) + ((b9.toNat : Int) - 48)) := fun hv => h ⟨_, _, _, hv, txt_bytes b0 b1 b2 b3 b5 b6 b8 b9 g0 f0 g1 f1 g2 f2 g3 f3 g5 f5 g6 f6 g8 f8 g9 f9 _ _ _ rfl rfl rfl⟩
          refine (dayof_bytes b0 b1 b2 b3 b5 b6 b8 b9 g0 f0 g1 f1 g2 f2 g3 f3 g5 f5 g6 f6 g8 f8 g9 f9 _ _ _ rfl rfl rfl false w (Lib.hid fun w => rfault_no _ _ _ w hv)).mono ?_
          rintro e w' ⟨rfl, hb⟩
          exact ⟨_, _, _, rfl, hb⟩
      · exact dayof_c _ b7 w rfl rfl rfl h7
    · exact dayof_b _ b4 w rfl rfl h4
  · exact dayof_a s w hlen
end Go.Proofs.YtdcemkfljhdceaaGreatDoor
