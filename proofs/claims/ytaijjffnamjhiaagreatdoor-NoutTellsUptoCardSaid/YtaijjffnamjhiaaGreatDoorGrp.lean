/- The walks of group.digits and group.check. -/
import Derived.Test.YtaijjffnamjhiaaGreatDoorShelfG
import Derived.Shelf.Strings.SlTrimAscii
import Derived.Test.YtaijjffnamjhiaaGreatDoorErrs
import Derived.Test.YtaijjffnamjhiaaGreatDoorStr
namespace Go.Proofs.YtaijjffnamjhiaaGreatDoor
open Go.RowKit

abbrev NUM : List UInt8 := [48, 49, 50, 51, 52, 53, 54, 55, 56, 57]
/-- a text of digits, one at least -/
def digB (s : List UInt8) : Bool := s.all (fun c => NUM.contains c) && !s.isEmpty
theorem dropWhile_all {p : UInt8 → Bool} : ∀ {l : List UInt8}, l.dropWhile p = [] ↔ l.all p = true
  | [] => by simp
  | b :: l => by
    by_cases h : p b = true
    · simp [List.dropWhile, h, dropWhile_all]
    · simp [List.dropWhile, h]
theorem trim_nil (s : List UInt8) : Lib.trimS s NUM = [] ↔ s.all (fun c => NUM.contains c) = true := by
  unfold Lib.trimS Lib.trimLeftS Lib.trimRightS
  rw [dropWhile_all, List.all_reverse]
  constructor
  · intro h
    by_cases hs : s.all (fun c => NUM.contains c) = true
    · exact hs
    · exfalso
      have h2 : (s.reverse.dropWhile (NUM.contains ·)) ≠ [] := fun e => hs (by rw [← List.all_reverse]; exact dropWhile_all.1 e)
      cases hd : s.reverse.dropWhile (NUM.contains ·) with
      | nil => exact h2 hd
      | cons x r =>
        have hx : NUM.contains x = false := by
          have := List.head?_dropWhile_not (NUM.contains ·) s.reverse
          rw [hd] at this
          simpa using this
        rw [hd] at h
        simp only [List.all_cons, hx, Bool.false_and] at h
        cases h
  · intro h
    have e : s.reverse.dropWhile (NUM.contains ·) = [] := dropWhile_all.2 (by rw [List.all_reverse]; exact h)
    rw [e]; rfl
theorem trimN_any (s : List UInt8) (w : World) (hs : s.length ≤ 4000000000) :
    Calls Tryz.prog 107 #[.string ⟨s.toArray⟩, .string ⟨#[48, 49, 50, 51, 52, 53, 54, 55, 56, 57]⟩] w fun e w' => e = .returned (.string ⟨(Lib.trimS s NUM).toArray⟩) ∧ Below w.heap.size w w' := by
  have c := Any.strings_Trim_laid Tryz.lays160 (by kernel_rfl) ⟨s.toArray⟩ ⟨#[48, 49, 50, 51, 52, 53, 54, 55, 56, 57]⟩ w (by rw [size_mkl]; omega) (by decide) (fun j b hb => by
    have hm : b ∈ NUM := List.mem_of_getElem? (i := j) hb
    simp at hm
    rcases hm with rfl | rfl | rfl | rfl | rfl | rfl | rfl | rfl | rfl | rfl <;> decide)
  exact c

set_option maxRecDepth 100000 in
set_option maxHeartbeats 1000000 in
theorem gdigits_any (s : List UInt8) (w : World) (hs : s.length ≤ 4000000000) :
    Calls Tryz.prog 131 #[.string ⟨s.toArray⟩] w fun e w' => e = .returned (.bool (digB s)) ∧ Below w.heap.size w w' := by
  cases s with
  | nil =>
    go_enter Tryz.func131, Tryz.ntmps131
    go_wp2
    go_ret
    exact ⟨rfl, Below.refl _ _⟩
  | cons b r =>
    have CT := Lib.hid fun w => trimN_any (b :: r) w hs
    have h0 : (b :: r == []) = false := rfl
    have HD : Hid (digB (b :: r) = decide (Lib.trimS (b :: r) NUM = [])) := Lib.hid (by
      rw [Bool.eq_iff_iff, decide_eq_true_iff, trim_nil]; unfold digB; simp)
    generalize hL : b :: r = L at *
    have hL' := Lib.hid hL
    clear hL hs
    generalize Lib.trimS L NUM = T at *
    have hne : L ≠ [] := fun e => by rw [e] at hL'; cases hL'.out
    have e1 : L.isEmpty = false := by cases L with | nil => exact absurd rfl hne | cons => rfl
    cases T with
    | nil =>
      go_enter Tryz.func131, Tryz.ntmps131
      go_wp2_with fail
      refine (CT.out _).mono ?_
      rintro e w' ⟨rfl, hb⟩
      have W := Lib.hid hb
      clear hb
      go_wp2_with fail
      go_ret
      exact ⟨ret_bool (by rw [HD.out]; simp), W.out⟩
    | cons x y =>
      go_enter Tryz.func131, Tryz.ntmps131
      go_wp2_with fail
      refine (CT.out _).mono ?_
      rintro e w' ⟨rfl, hb⟩
      have W := Lib.hid hb
      clear hb
      go_wp2_with fail
      go_ret
      exact ⟨ret_bool (by rw [HD.out]; simp), W.out⟩

set_option maxRecDepth 100000 in
set_option maxHeartbeats 1000000 in
theorem gcheck_form (g g2 c : Int) (w : World) (h1 : 48 ≤ c) (h2 : c ≤ 57) :
    Calls Tryz.prog 132 #[.int .i64 g, .int .i64 g2, .int .u8 c] w fun e w' => e = .returned (errV 3) ∧ w = w' := by
  have d1 : decide (48 ≤ c) = true := dec_yes (by omega)
  have d2 : decide (c ≤ 57) = true := dec_yes (by omega)
  go_enter Tryz.func132, Tryz.ntmps132
  go_wp2
  go_ret
  exact ⟨rfl, rfl⟩

set_option maxRecDepth 100000 in
set_option maxHeartbeats 1000000 in
theorem gcheck_a1 (g g2 c : Int) (w : World) (n : c < 48) (r1 : g < 0) :
    Calls Tryz.prog 132 #[.int .i64 g, .int .i64 g2, .int .u8 c] w fun e w' => e = .returned (errV 1) ∧ w = w' := by
  have d1 : decide (48 ≤ c) = false := dec_no (by omega)
  have d3 : decide (g < 0) = true := dec_yes (by omega)
  go_enter Tryz.func132, Tryz.ntmps132
  go_wp2
  go_ret
  exact ⟨rfl, rfl⟩

set_option maxRecDepth 100000 in
set_option maxHeartbeats 1000000 in
theorem gcheck_a2 (g g2 c : Int) (w : World) (n : c < 48) (r1 : ¬ g < 0) (r2 : 4 < g) :
    Calls Tryz.prog 132 #[.int .i64 g, .int .i64 g2, .int .u8 c] w fun e w' => e = .returned (errV 1) ∧ w = w' := by
  have d1 : decide (48 ≤ c) = false := dec_no (by omega)
  have d3 : decide (g < 0) = false := dec_no (by omega)
  have d4 : decide (4 < g) = true := dec_yes (by omega)
  go_enter Tryz.func132, Tryz.ntmps132
  go_wp2
  go_ret
  exact ⟨rfl, rfl⟩

set_option maxRecDepth 100000 in
set_option maxHeartbeats 1000000 in
theorem gcheck_a3 (g g2 c : Int) (w : World) (n : c < 48) (r1 : ¬ g < 0) (r2 : ¬ 4 < g) (r3 : g2 < 0) :
    Calls Tryz.prog 132 #[.int .i64 g, .int .i64 g2, .int .u8 c] w fun e w' => e = .returned (errV 1) ∧ w = w' := by
  have d1 : decide (48 ≤ c) = false := dec_no (by omega)
  have d3 : decide (g < 0) = false := dec_no (by omega)
  have d4 : decide (4 < g) = false := dec_no (by omega)
  have d5 : decide (g2 < 0) = true := dec_yes (by omega)
  go_enter Tryz.func132, Tryz.ntmps132
  go_wp2
  go_ret
  exact ⟨rfl, rfl⟩

set_option maxRecDepth 100000 in
set_option maxHeartbeats 1000000 in
theorem gcheck_a4 (g g2 c : Int) (w : World) (n : c < 48) (r1 : ¬ g < 0) (r2 : ¬ 4 < g) (r3 : ¬ g2 < 0) (r4 : 4 < g2) :
    Calls Tryz.prog 132 #[.int .i64 g, .int .i64 g2, .int .u8 c] w fun e w' => e = .returned (errV 1) ∧ w = w' := by
  have d1 : decide (48 ≤ c) = false := dec_no (by omega)
  have d3 : decide (g < 0) = false := dec_no (by omega)
  have d4 : decide (4 < g) = false := dec_no (by omega)
  have d5 : decide (g2 < 0) = false := dec_no (by omega)
  have d6 : decide (4 < g2) = true := dec_yes (by omega)
  go_enter Tryz.func132, Tryz.ntmps132
  go_wp2
  go_ret
  exact ⟨rfl, rfl⟩

set_option maxRecDepth 100000 in
set_option maxHeartbeats 1000000 in
theorem gcheck_a0 (g g2 c : Int) (w : World) (n : c < 48) (r1 : ¬ g < 0) (r2 : ¬ 4 < g) (r3 : ¬ g2 < 0) (r4 : ¬ 4 < g2) :
    Calls Tryz.prog 132 #[.int .i64 g, .int .i64 g2, .int .u8 c] w fun e w' => e = .returned (.nilIface) ∧ w = w' := by
  have d1 : decide (48 ≤ c) = false := dec_no (by omega)
  have d3 : decide (g < 0) = false := dec_no (by omega)
  have d4 : decide (4 < g) = false := dec_no (by omega)
  have d5 : decide (g2 < 0) = false := dec_no (by omega)
  have d6 : decide (4 < g2) = false := dec_no (by omega)
  go_enter Tryz.func132, Tryz.ntmps132
  go_wp2
  go_ret
  exact ⟨rfl, rfl⟩

set_option maxRecDepth 100000 in
set_option maxHeartbeats 1000000 in
theorem gcheck_b1 (g g2 c : Int) (w : World) (n : 57 < c) (r1 : g < 0) :
    Calls Tryz.prog 132 #[.int .i64 g, .int .i64 g2, .int .u8 c] w fun e w' => e = .returned (errV 1) ∧ w = w' := by
  have d1 : decide (48 ≤ c) = true := dec_yes (by omega)
  have d2 : decide (c ≤ 57) = false := dec_no (by omega)
  have d3 : decide (g < 0) = true := dec_yes (by omega)
  go_enter Tryz.func132, Tryz.ntmps132
  go_wp2
  go_ret
  exact ⟨rfl, rfl⟩

set_option maxRecDepth 100000 in
set_option maxHeartbeats 1000000 in
theorem gcheck_b2 (g g2 c : Int) (w : World) (n : 57 < c) (r1 : ¬ g < 0) (r2 : 4 < g) :
    Calls Tryz.prog 132 #[.int .i64 g, .int .i64 g2, .int .u8 c] w fun e w' => e = .returned (errV 1) ∧ w = w' := by
  have d1 : decide (48 ≤ c) = true := dec_yes (by omega)
  have d2 : decide (c ≤ 57) = false := dec_no (by omega)
  have d3 : decide (g < 0) = false := dec_no (by omega)
  have d4 : decide (4 < g) = true := dec_yes (by omega)
  go_enter Tryz.func132, Tryz.ntmps132
  go_wp2
  go_ret
  exact ⟨rfl, rfl⟩

set_option maxRecDepth 100000 in
set_option maxHeartbeats 1000000 in
theorem gcheck_b3 (g g2 c : Int) (w : World) (n : 57 < c) (r1 : ¬ g < 0) (r2 : ¬ 4 < g) (r3 : g2 < 0) :
    Calls Tryz.prog 132 #[.int .i64 g, .int .i64 g2, .int .u8 c] w fun e w' => e = .returned (errV 1) ∧ w = w' := by
  have d1 : decide (48 ≤ c) = true := dec_yes (by omega)
  have d2 : decide (c ≤ 57) = false := dec_no (by omega)
  have d3 : decide (g < 0) = false := dec_no (by omega)
  have d4 : decide (4 < g) = false := dec_no (by omega)
  have d5 : decide (g2 < 0) = true := dec_yes (by omega)
  go_enter Tryz.func132, Tryz.ntmps132
  go_wp2
  go_ret
  exact ⟨rfl, rfl⟩

set_option maxRecDepth 100000 in
set_option maxHeartbeats 1000000 in
theorem gcheck_b4 (g g2 c : Int) (w : World) (n : 57 < c) (r1 : ¬ g < 0) (r2 : ¬ 4 < g) (r3 : ¬ g2 < 0) (r4 : 4 < g2) :
    Calls Tryz.prog 132 #[.int .i64 g, .int .i64 g2, .int .u8 c] w fun e w' => e = .returned (errV 1) ∧ w = w' := by
  have d1 : decide (48 ≤ c) = true := dec_yes (by omega)
  have d2 : decide (c ≤ 57) = false := dec_no (by omega)
  have d3 : decide (g < 0) = false := dec_no (by omega)
  have d4 : decide (4 < g) = false := dec_no (by omega)
  have d5 : decide (g2 < 0) = false := dec_no (by omega)
  have d6 : decide (4 < g2) = true := dec_yes (by omega)
  go_enter Tryz.func132, Tryz.ntmps132
  go_wp2
  go_ret
  exact ⟨rfl, rfl⟩

set_option maxRecDepth 100000 in
set_option maxHeartbeats 1000000 in
theorem gcheck_b0 (g g2 c : Int) (w : World) (n : 57 < c) (r1 : ¬ g < 0) (r2 : ¬ 4 < g) (r3 : ¬ g2 < 0) (r4 : ¬ 4 < g2) :
    Calls Tryz.prog 132 #[.int .i64 g, .int .i64 g2, .int .u8 c] w fun e w' => e = .returned (.nilIface) ∧ w = w' := by
  have d1 : decide (48 ≤ c) = true := dec_yes (by omega)
  have d2 : decide (c ≤ 57) = false := dec_no (by omega)
  have d3 : decide (g < 0) = false := dec_no (by omega)
  have d4 : decide (4 < g) = false := dec_no (by omega)
  have d5 : decide (g2 < 0) = false := dec_no (by omega)
  have d6 : decide (4 < g2) = false := dec_no (by omega)
  go_enter Tryz.func132, Tryz.ntmps132
  go_wp2
  go_ret
  exact ⟨rfl, rfl⟩

/-- the sizes and the sign are right -/
def rightG (g g2 : Int) : Prop := 0 ≤ g ∧ g ≤ 4 ∧ 0 ≤ g2 ∧ g2 ≤ 4
theorem gcheck_range (g g2 c : Int) (w : World) (hc : ¬ (48 ≤ c ∧ c ≤ 57)) (h : ¬ rightG g g2) :
    Calls Tryz.prog 132 #[.int .i64 g, .int .i64 g2, .int .u8 c] w fun e w' => e = .returned (errV 1) ∧ w = w' := by
  unfold rightG at h
  by_cases n : c < 48
  · skip
    by_cases r1 : g < 0
    · exact gcheck_a1 g g2 c w n r1
    by_cases r2 : 4 < g
    · exact gcheck_a2 g g2 c w n r1 r2
    by_cases r3 : g2 < 0
    · exact gcheck_a3 g g2 c w n r1 r2 r3
    exact gcheck_a4 g g2 c w n r1 r2 r3 (by omega)
  · skip
    by_cases r1 : g < 0
    · exact gcheck_b1 g g2 c w (by omega) r1
    by_cases r2 : 4 < g
    · exact gcheck_b2 g g2 c w (by omega) r1 r2
    by_cases r3 : g2 < 0
    · exact gcheck_b3 g g2 c w (by omega) r1 r2 r3
    exact gcheck_b4 g g2 c w (by omega) r1 r2 r3 (by omega)
theorem gcheck_ok (g g2 c : Int) (w : World) (hc : ¬ (48 ≤ c ∧ c ≤ 57)) (h : rightG g g2) :
    Calls Tryz.prog 132 #[.int .i64 g, .int .i64 g2, .int .u8 c] w fun e w' => e = .returned .nilIface ∧ w = w' := by
  obtain ⟨h1, h2, h3, h4⟩ := h
  by_cases n : c < 48
  · exact gcheck_a0 g g2 c w n (by omega) (by omega) (by omega) (by omega)
  · exact gcheck_b0 g g2 c w (by omega) (by omega) (by omega) (by omega) (by omega)
end Go.Proofs.YtaijjffnamjhiaaGreatDoor
