/- Digits by groups, as told: the plain law. No program. -/
import Derived.Test.YtaijjffnamjhiaaGreatDoorGrpP
namespace Go.Proofs.YtaijjffnamjhiaaGreatDoor
/-- what is told of digits -/
def gout (s : List UInt8) (g g2 : Int) (c : UInt8) : List UInt8 := if g = 0 then s else Grp.grouped g.toNat (if g2 = 0 then g.toNat else g2.toNat) s c
theorem gout_len (s : List UInt8) (g g2 : Int) (c : UInt8) : (gout s g g2 c).length ≤ 2 * s.length := by
  unfold gout
  split
  · omega
  · exact (Grp.grouped_len s.length _ _ s c (Nat.le_refl _)).1
end Go.Proofs.YtaijjffnamjhiaaGreatDoor
