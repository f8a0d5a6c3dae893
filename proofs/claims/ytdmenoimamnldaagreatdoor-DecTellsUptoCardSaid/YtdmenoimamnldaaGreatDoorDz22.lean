/- The walk of strings.Cut at a point. Conditions: the library's variable MaxLen holds a number. -/
import Derived.Test.YtdmenoimamnldaaGreatDoorDz20
import Derived.Test.YtdmenoimamnldaaGreatDoorDz21
namespace Go.Proofs.YtdmenoimamnldaaGreatDoor
open Go.RowKit

/-- what the walks of texts of numbers lean on -/
structure DM (w : World) : Prop where
  p : PowW w
  n : NumW w
  m : MaxW w
theorem DM.below {w w' : World} (h : DM w) (hb : Below w.heap.size w w') : DM w' := ⟨h.p.below hb, h.n.below hb, h.m.below hb⟩
end Go.Proofs.YtdmenoimamnldaaGreatDoor
namespace Go.Proofs.YtdmenoimamnldaaGreatDoor
open Go.RowKit
theorem cutp_any (t : List UInt8) (w : World) (hM : MaxW w) (ht : t.length ≤ 4000000000) :
    Calls Tryz.prog 25 #[.string ⟨t.toArray⟩, .string ⟨#[46]⟩] w fun e w' => e = .returned (.tuple #[.string ⟨(Lib.cut t [46]).1.toArray⟩, .string ⟨(Lib.cut t [46]).2.1.toArray⟩, .bool (Lib.cut t [46]).2.2]) ∧ Below w.heap.size w w' := by
  obtain ⟨m, hm⟩ := hM
  refine (Tryz.strings_Cut ⟨t.toArray⟩ ⟨#[46]⟩ m w (by rw [size_mkl]; omega) hm).mono ?_
  rintro e w' ⟨rfl, n, rfl⟩
  exact ⟨rfl, blw_drewN (Below.refl _ _) n⟩
end Go.Proofs.YtdmenoimamnldaaGreatDoor
