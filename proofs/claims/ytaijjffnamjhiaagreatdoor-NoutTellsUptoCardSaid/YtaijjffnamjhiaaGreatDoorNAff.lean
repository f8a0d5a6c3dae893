/- The walks of npat.affix; what an error's number is as a value. Conditions: none. -/
import Derived.Test.YtaijjffnamjhiaaGreatDoorNoutP
import Derived.Test.YtaijjffnamjhiaaGreatDoorGrp
import Derived.Test.YtaijjffnamjhiaaGreatDoorErrs
import Derived.Shelf.Strings.SlTrimAscii
namespace Go.Proofs.YtaijjffnamjhiaaGreatDoor
open Go.RowKit
/-- an error's number; nought: none -/
def errN (n : Int) : Value := if n = 0 then .nilIface else errV n
theorem trim_none (s cs : List UInt8) : Lib.trimS s cs = [] ↔ s.all (fun c => cs.contains c) = true := by
  unfold Lib.trimS Lib.trimLeftS Lib.trimRightS
  rw [dropWhile_all, List.all_reverse]
  constructor
  · intro h
    by_cases hs : s.all (fun c => cs.contains c) = true
    · exact hs
    · exfalso
      have h2 : (s.reverse.dropWhile (cs.contains ·)) ≠ [] := fun e => hs (by rw [← List.all_reverse]; exact dropWhile_all.1 e)
      cases hd : s.reverse.dropWhile (cs.contains ·) with
      | nil => exact h2 hd
      | cons x r =>
        have hx : cs.contains x = false := by
          have := List.head?_dropWhile_not (cs.contains ·) s.reverse
          rw [hd] at this
          simpa using this
        rw [hd] at h
        have := List.all_eq_true.1 h x (by simp)
        rw [hx] at this
        exact absurd this (by simp)
  · intro h
    rw [List.all_eq_true] at h ⊢
    intro x hx
    exact h x (List.mem_reverse.1 ((List.dropWhile_sublist _).mem hx))
theorem aff_small : ∀ b ∈ Nt.affL, b.toNat < 128 := by decide
theorem trimA_any (s : List UInt8) (w : World) (hs : s.length ≤ 4000000000) :
    Calls Tryz.prog 107 #[.string ⟨s.toArray⟩, .string ⟨#[97, 98, 99, 100, 101, 102, 103, 104, 105, 106, 107, 108, 109, 110, 111, 112, 113, 114, 115, 116, 117, 118, 119, 120, 121, 122, 65, 66, 67, 68, 69, 70, 71, 72, 73, 74, 75, 76, 77, 78, 79, 80, 81, 82, 83, 84, 85, 86, 87, 88, 89, 90, 32, 36, 37]⟩] w fun e w' => e = .returned (.string ⟨(Lib.trimS s Nt.affL).toArray⟩) ∧ Below w.heap.size w w' :=
  Any.strings_Trim_laid Tryz.lays160 (by kernel_rfl) ⟨s.toArray⟩ ⟨Nt.affL.toArray⟩ w (by rw [size_mkl]; omega) (by decide) (fun j b hb => aff_small b (List.mem_of_getElem? (i := j) hb))

set_option maxRecDepth 100000 in
set_option maxHeartbeats 1000000 in
theorem affix_any (s : List UInt8) (w : World) (hs : s.length ≤ 4000000000) :
    Calls Tryz.prog 166 #[.string ⟨s.toArray⟩] w fun e w' => e = .returned (.bool (Nt.affB s)) ∧ Below w.heap.size w w' := by
  have CT := Lib.hid fun w => trimA_any s w hs
  have HD : Hid (s.all (fun c => Nt.affL.contains c) = decide (Lib.trimS s Nt.affL = [])) := Lib.hid (by
      rw [Bool.eq_iff_iff, decide_eq_true_iff, trim_none])
  unfold Nt.affB
  generalize s.all (fun c => Nt.affL.contains c) = B at *
  generalize Lib.trimS s Nt.affL = T at *
  by_cases h5 : s.length ≤ 5
  · rw [decide_eq_true h5]
    have h6 : (s.length : Int) ≤ 5 := by omega
    clear hs h5
    cases T with
    | nil =>
      go_enter Tryz.func166, Tryz.ntmps166
      go_wp2_with fail
      refine (CT.out _).mono ?_
      rintro e w' ⟨rfl, hb⟩
      have W := Lib.hid hb
      clear hb
      go_wp2_with fail
      go_ret
      exact ⟨ret_bool (by rw [HD.out]; simp), W.out⟩
    | cons x y =>
      go_enter Tryz.func166, Tryz.ntmps166
      go_wp2_with fail
      refine (CT.out _).mono ?_
      rintro e w' ⟨rfl, hb⟩
      have W := Lib.hid hb
      clear hb
      go_wp2_with fail
      go_ret
      exact ⟨ret_bool (by rw [HD.out]; simp), W.out⟩
  · rw [decide_eq_false h5]
    have h6 : ¬ (s.length : Int) ≤ 5 := by omega
    clear hs h5 CT HD
    go_enter Tryz.func166, Tryz.ntmps166
    go_wp2_with fail
    go_ret
    exact ⟨ret_bool (by simp), Below.refl _ _⟩
end Go.Proofs.YtaijjffnamjhiaaGreatDoor
