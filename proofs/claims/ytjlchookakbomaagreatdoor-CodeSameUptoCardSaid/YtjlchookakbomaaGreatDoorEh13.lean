/- The walk of the reference's NodeFault. Conditions: the message is one, of lists of at most 2000000. -/
import Derived.Test.YtjlchookakbomaaGreatDoorEh12
namespace Go.Proofs.YtjlchookakbomaaGreatDoor
open Go.RowKit
end Go.Proofs.YtjlchookakbomaaGreatDoor
