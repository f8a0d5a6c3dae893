/- A number's text tells that number: dec.Parse at dec.Text's own. -/
import Derived.Test.YtmmjbjoefogmoaaGreatDoorDecParse
import Derived.Test.YtmmjbjoefogmoaaGreatDoorDecRndE
namespace Go.Proofs.YtmmjbjoefogmoaaGreatDoor
open Go.RowKit
open Dcm (okD)

/-- a number's text tells that number -/
theorem dparse_back (c s : Int) (w : World) (hT : DM w) (h : okD c s) :
    Calls Tryz.prog 14 #[.string ⟨(Byt.decText c s).toArray⟩] w fun e w' => e = .returned (.tuple #[.agg #[.int .i64 c, .int .i64 s], .nilIface]) ∧ Below w.heap.size w w' := by
  have dl := Byt.dec_len c s h
  refine (dparse_any (Byt.decText c s) w hT (by omega)).mono ?_
  rintro e w' (⟨c', s', h', he, rfl, hb⟩ | ⟨hno, _⟩)
  · have a := Byt.dec_cut c s h
    have b := Byt.dec_cut c' s' h'
    rw [he] at b
    have e1 : c' = c := by
      have := b.1.symm.trans a.1
      injection this
    have e2 : s' = s := b.2.symm.trans a.2
    subst e1 e2
    exact ⟨rfl, hb⟩
  · exact absurd rfl (hno c s h)
end Go.Proofs.YtmmjbjoefogmoaaGreatDoor
