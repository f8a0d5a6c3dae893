/- The law's helper half. Conditions: none. -/
import Derived.Test.YtdmenoimamnldaaGreatDoorDz7
import Derived.Test.YtdmenoimamnldaaGreatDoorDz6
import Derived.Test.YtdmenoimamnldaaGreatDoorDz18
import Derived.Test.YtdmenoimamnldaaGreatDoorDz19
import Derived.Test.YtdmenoimamnldaaGreatDoorDz23
import Derived.Test.YtdmenoimamnldaaGreatDoorDz25
import Derived.Test.YtdmenoimamnldaaGreatDoorDz5
namespace Go.Proofs.YtdmenoimamnldaaGreatDoor
open Go.RowKit

/-- what the walk leans on -/
structure TM (w : World) : Prop where
  d : DM w
  h : HanW w
/-- the number of what is wrong with a text -/
def isE (is : Bool) : Int := match is with | true => 0 | false => 3
theorem TM.below {w w' : World} (h : TM w) (hb : Below w.heap.size w w') : TM w' := ⟨h.d.below hb, h.h.below hb⟩

end Go.Proofs.YtdmenoimamnldaaGreatDoor
namespace Go.Proofs.YtdmenoimamnldaaGreatDoor
open Go.RowKit

set_option maxRecDepth 100000 in
set_option maxHeartbeats 1000000 in
theorem half_any (w : World) : Calls Tryz.prog 4 #[] w fun e w' => e = .returned (.bool true) ∧ Below w.heap.size w w' := by
  have c := fun w => round_yes 25 1 0 5 w (by decide)
  have e1 : Dcm.rndC 25 1 0 5 = 2 := by decide
  rw [e1] at c
  have C := Lib.hid c
  clear c e1
  go_enter Tryz.func4, Tryz.ntmps4
  go_wp2_with fail
  refine (C.out _).mono ?_
  rintro e w1 ⟨rfl, hb⟩
  go_wp2
  go_ret
  exact ⟨rfl, blw_trans hb (blw_alloc _ _)⟩
end Go.Proofs.YtdmenoimamnldaaGreatDoor
