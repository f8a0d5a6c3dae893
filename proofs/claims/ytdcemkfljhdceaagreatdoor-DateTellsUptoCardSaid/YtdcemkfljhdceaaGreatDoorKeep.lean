/- A cell's mark is kept, as its value is. -/
import Derived.Test.YtdcemkfljhdceaaGreatDoorBox
namespace Go.Proofs.YtdcemkfljhdceaaGreatDoor
open Go.RowKit
theorem free_keep {w w' : World} {a : Addr} {v : Value} (hc : w.cell? a = some v) (hf : w.frozen? a = false) (hb : Below w.heap.size w w') : w'.frozen? a = false :=
  (hb.frozen (World.block_lt_of_cell? w a hc)).trans hf
end Go.Proofs.YtdcemkfljhdceaaGreatDoor
