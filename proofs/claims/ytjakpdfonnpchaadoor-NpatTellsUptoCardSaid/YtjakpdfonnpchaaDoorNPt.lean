/- Patterns of numbers: what is wrong with one. No program. -/
import Derived.Test.YtjakpdfonnpchaaDoorErrs
namespace Go.Proofs.YtjakpdfonnpchaaDoor.Nt
open Go Go.Lib
/-- a pattern -/
structure Pt where
  pre : List UInt8
  suf : List UInt8
  mi : Int
  nf : Int
  mf : Int
  g : Int
  g2 : Int
/-- letters, a blank, two signs -/
def affL : List UInt8 := [97, 98, 99, 100, 101, 102, 103, 104, 105, 106, 107, 108, 109, 110, 111, 112, 113, 114, 115, 116, 117, 118, 119, 120, 121, 122, 65, 66, 67, 68, 69, 70, 71, 72, 73, 74, 75, 76, 77, 78, 79, 80, 81, 82, 83, 84, 85, 86, 87, 88, 89, 90, 32, 36, 37]
def affB (l : List UInt8) : Bool := l.all (fun c => affL.contains c) && decide (l.length ≤ 5)
def sizeB (p : Pt) : Bool := decide (1 ≤ p.mi) && decide (p.mi ≤ 9) && decide (0 ≤ p.mf) && decide (p.mf ≤ 6) && decide (0 ≤ p.nf) && decide (p.nf ≤ p.mf) && decide (0 ≤ p.g) && decide (p.g ≤ 4) && decide (0 ≤ p.g2) && decide (p.g2 ≤ 4)
/-- what is wrong with a pattern -/
def patE (p : Pt) : Int := if affB p.pre && affB p.suf then (if sizeB p then (if p.g2 ≠ 0 ∧ p.g = 0 then 3 else 0) else 1) else 3
theorem size_ok {p : Pt} (h : sizeB p = true) : 1 ≤ p.mi ∧ p.mi ≤ 9 ∧ 0 ≤ p.mf ∧ p.mf ≤ 6 ∧ 0 ≤ p.nf ∧ p.nf ≤ p.mf ∧ 0 ≤ p.g ∧ p.g ≤ 4 ∧ 0 ≤ p.g2 ∧ p.g2 ≤ 4 := by
  unfold sizeB at h; simpa [Bool.and_eq_true, and_assoc] using h
end Go.Proofs.YtjakpdfonnpchaaDoor.Nt
