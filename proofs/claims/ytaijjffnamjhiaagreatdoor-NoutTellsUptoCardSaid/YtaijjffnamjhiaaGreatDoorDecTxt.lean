/- What the walks of texts of numbers lean on. -/
import Derived.Test.YtaijjffnamjhiaaGreatDoorDecTx
import Derived.Test.YtaijjffnamjhiaaGreatDoorAtoi
import Derived.Test.YtaijjffnamjhiaaGreatDoorMax
namespace Go.Proofs.YtaijjffnamjhiaaGreatDoor
open Go.RowKit

/-- what the walks of texts of numbers lean on -/
structure DM (w : World) : Prop where
  p : PowW w
  n : NumW w
  m : MaxW w
theorem DM.below {w w' : World} (h : DM w) (hb : Below w.heap.size w w') : DM w' := ⟨h.p.below hb, h.n.below hb, h.m.below hb⟩
end Go.Proofs.YtaijjffnamjhiaaGreatDoor
