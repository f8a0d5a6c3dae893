/- The table of powers and the handle of errors, together. -/
import Derived.Test.YtmmjbjoefogmoaaGreatDoorItoa
import Derived.Test.YtmmjbjoefogmoaaGreatDoorAs
namespace Go.Proofs.YtmmjbjoefogmoaaGreatDoor
open Go.RowKit
structure PH (w : World) : Prop where
  p : PowW w
  h : HanW w
theorem PH.below {w w' : World} (h : PH w) (hb : Below w.heap.size w w') : PH w' := ⟨h.p.below hb, h.h.below hb⟩
theorem PH.alloc {w : World} (h : PH w) (o : Obj) : PH (w.alloc o) := h.below (blw_alloc w o)
end Go.Proofs.YtmmjbjoefogmoaaGreatDoor
