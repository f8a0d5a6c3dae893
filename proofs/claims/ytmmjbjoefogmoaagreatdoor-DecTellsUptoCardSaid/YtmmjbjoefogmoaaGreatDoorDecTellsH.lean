/- What the walk of the law DecTells leans on. -/
import Derived.Test.YtmmjbjoefogmoaaGreatDoorDecOf
import Derived.Test.YtmmjbjoefogmoaaGreatDoorDecRO
import Derived.Test.YtmmjbjoefogmoaaGreatDoorDecAO
import Derived.Test.YtmmjbjoefogmoaaGreatDoorDecPB
import Derived.Test.YtmmjbjoefogmoaaGreatDoorHan
import Derived.Test.YtmmjbjoefogmoaaGreatDoorPH
namespace Go.Proofs.YtmmjbjoefogmoaaGreatDoor
open Go.RowKit

/-- what the walk leans on -/
structure TM (w : World) : Prop where
  d : DM w
  h : HanW w
/-- the number of what is wrong with a text -/
def isE (is : Bool) : Int := match is with | true => 0 | false => 3
theorem TM.below {w w' : World} (h : TM w) (hb : Below w.heap.size w w') : TM w' := ⟨h.d.below hb, h.h.below hb⟩

end Go.Proofs.YtmmjbjoefogmoaaGreatDoor
