/- What is left of a text of signs of a set; what an error's number is as a value. No walk. -/
import Derived.Test.YtjakpdfonnpchaaDoorErrs
import Derived.Shelf.Strings.SlTrimAscii
namespace Go.Proofs.YtjakpdfonnpchaaDoor
open Go.RowKit
/-- an error's number; nought: none -/
def errN (n : Int) : Value := if n = 0 then .nilIface else errV n
theorem dropWhile_all {p : UInt8 → Bool} : ∀ {l : List UInt8}, l.dropWhile p = [] ↔ l.all p = true
  | [] => by simp
  | b :: l => by
    by_cases h : p b = true
    · simp [List.dropWhile, h, dropWhile_all]
    · simp [List.dropWhile, h]
theorem trim_none (s cs : List UInt8) : Lib.trimS s cs = [] ↔ s.all (fun c => cs.contains c) = true := by
  unfold Lib.trimS Lib.trimLeftS Lib.trimRightS
  rw [dropWhile_all, List.all_reverse]
  constructor
  · intro h
    by_cases hs : s.all (fun c => cs.contains c) = true
    · exact hs
    · exfalso
      have h2 : (s.reverse.dropWhile (cs.contains ·)) ≠ [] := fun e => hs (by rw [← List.all_reverse]; exact dropWhile_all.1 e)
      cases hd : s.reverse.dropWhile (cs.contains ·) with
      | nil => exact h2 hd
      | cons x r =>
        have hx : cs.contains x = false := by
          have := List.head?_dropWhile_not (cs.contains ·) s.reverse
          rw [hd] at this
          simpa using this
        rw [hd] at h
        have := List.all_eq_true.1 h x (by simp)
        rw [hx] at this
        exact absurd this (by simp)
  · intro h
    rw [List.all_eq_true] at h ⊢
    intro x hx
    exact h x (List.mem_reverse.1 ((List.dropWhile_sublist _).mem hx))
end Go.Proofs.YtjakpdfonnpchaaDoor
