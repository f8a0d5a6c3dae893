/- The walk of linguisterlaw2.dated. Conditions: the table 'ahead' holds its numbers. -/
import Derived.Test.YtdcemkfljhdceaaGreatDoorNumb
namespace Go.Proofs.YtdcemkfljhdceaaGreatDoor
open Go.RowKit

set_option maxRecDepth 100000 in
set_option maxHeartbeats 1000000 in
theorem dated_any (w : World) (hT : TabW w) :
    Calls Tryz.prog 4 #[] w fun e w' => e = .returned (.bool true) ∧ Below w.heap.size w w' := by
  have c : ∀ w : World, TabW w → Calls Tryz.prog 10 #[.agg #[.int .i64 2000, .int .i64 3, .int .i64 1]] w fun e w' => e = .returned (.tuple #[.int .i64 730179, .nilIface]) ∧ Below w.heap.size w w' := fun w h => number_yes 2000 3 1 w (by decide) h
  have H := Lib.hid c
  clear c
  go_enter Tryz.func4, Tryz.ntmps4
  go_wp2_with (go_at_call 10; refine (H.out _ hT).mono ?_; rintro e w' ⟨rfl, hb⟩)
  go_ret
  exact ⟨rfl, hb⟩
end Go.Proofs.YtdcemkfljhdceaaGreatDoor
