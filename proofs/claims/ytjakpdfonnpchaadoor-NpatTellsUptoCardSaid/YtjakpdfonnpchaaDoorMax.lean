/- The library's variable MaxLen holds a number; the two errors of numerals hold each some value. -/
import Derived.Test.YtjakpdfonnpchaaDoorBox
import Derived.WalkSmall
namespace Go.Proofs.YtjakpdfonnpchaaDoor
open Go.RowKit
def MaxW (w : World) : Prop := ∃ m, w.cell? ⟨0, 0, none⟩ = some (.int .i64 m)
theorem MaxW.below {w w' : World} (h : MaxW w) (hb : Below w.heap.size w w') : MaxW w' := h.imp fun _ g => cell_keep g hb
theorem MaxW.alloc {w : World} (h : MaxW w) (o : Obj) : MaxW (w.alloc o) := h.below (blw_alloc w o)
end Go.Proofs.YtjakpdfonnpchaaDoor
