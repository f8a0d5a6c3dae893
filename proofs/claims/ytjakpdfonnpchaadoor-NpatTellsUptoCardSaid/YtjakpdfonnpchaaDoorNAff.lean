/- The walks of npat.affix. Conditions: none. -/
import Derived.Test.YtjakpdfonnpchaaDoorNPt
import Derived.Test.YtjakpdfonnpchaaDoorShelfG
import Derived.Test.YtjakpdfonnpchaaDoorStr
import Derived.Test.YtjakpdfonnpchaaDoorTrimL
import Derived.Test.YtjakpdfonnpchaaDoorErrs
import Derived.Shelf.Strings.SlTrimAscii
namespace Go.Proofs.YtjakpdfonnpchaaDoor
open Go.RowKit
theorem aff_small : ∀ b ∈ Nt.affL, b.toNat < 128 := by decide
theorem trimA_any (s : List UInt8) (w : World) (hs : s.length ≤ 4000000000) :
    Calls Tryd.prog 39 #[.string ⟨s.toArray⟩, .string ⟨#[97, 98, 99, 100, 101, 102, 103, 104, 105, 106, 107, 108, 109, 110, 111, 112, 113, 114, 115, 116, 117, 118, 119, 120, 121, 122, 65, 66, 67, 68, 69, 70, 71, 72, 73, 74, 75, 76, 77, 78, 79, 80, 81, 82, 83, 84, 85, 86, 87, 88, 89, 90, 32, 36, 37]⟩] w fun e w' => e = .returned (.string ⟨(Lib.trimS s Nt.affL).toArray⟩) ∧ Below w.heap.size w w' :=
  Any.strings_Trim_laid Tryd.lays160 (by kernel_rfl) ⟨s.toArray⟩ ⟨Nt.affL.toArray⟩ w (by rw [size_mkl]; omega) (by decide) (fun j b hb => aff_small b (List.mem_of_getElem? (i := j) hb))

set_option maxRecDepth 100000 in
set_option maxHeartbeats 1000000 in
theorem affix_any (s : List UInt8) (w : World) (hs : s.length ≤ 4000000000) :
    Calls Tryd.prog 21 #[.string ⟨s.toArray⟩] w fun e w' => e = .returned (.bool (Nt.affB s)) ∧ Below w.heap.size w w' := by
  have CT := Lib.hid fun w => trimA_any s w hs
  have HD : Hid (s.all (fun c => Nt.affL.contains c) = decide (Lib.trimS s Nt.affL = [])) := Lib.hid (by
      rw [Bool.eq_iff_iff, decide_eq_true_iff, trim_none])
  unfold Nt.affB
  generalize s.all (fun c => Nt.affL.contains c) = B at *
  generalize Lib.trimS s Nt.affL = T at *
  by_cases h5 : s.length ≤ 5
  · rw [decide_eq_true h5]
    have h6 : (s.length : Int) ≤ 5 := by omega
    clear hs h5
    cases T with
    | nil =>
      go_enter Tryd.func21, Tryd.ntmps21
      go_wp2_with fail
      refine (CT.out _).mono ?_
      rintro e w' ⟨rfl, hb⟩
      have W := Lib.hid hb
      clear hb
      go_wp2_with fail
      go_ret
      exact ⟨ret_bool (by rw [HD.out]; simp), W.out⟩
    | cons x y =>
      go_enter Tryd.func21, Tryd.ntmps21
      go_wp2_with fail
      refine (CT.out _).mono ?_
      rintro e w' ⟨rfl, hb⟩
      have W := Lib.hid hb
      clear hb
      go_wp2_with fail
      go_ret
      exact ⟨ret_bool (by rw [HD.out]; simp), W.out⟩
  · rw [decide_eq_false h5]
    have h6 : ¬ (s.length : Int) ≤ 5 := by omega
    clear hs h5 CT HD
    go_enter Tryd.func21, Tryd.ntmps21
    go_wp2_with fail
    go_ret
    exact ⟨ret_bool (by simp), Below.refl _ _⟩
end Go.Proofs.YtjakpdfonnpchaaDoor
