/- dec.Check alone: for seats that hold no more of package dec. -/
import Derived.Test.YtainindkndjkbaaGreatDoorErrs
import Derived.Test.YtainindkndjkbaaGreatDoorProg
import Derived.Test.YtainindkndjkbaaGreatDoorBox
import Derived.Test.YtainindkndjkbaaGreatDoorDcm
namespace Go.Proofs.YtainindkndjkbaaGreatDoor
open Go.RowKit
open Dcm (P10 okD nrm)


set_option maxHeartbeats 400000 in
theorem dchk_yes (c s : Int) (w : World) (h : okD c s) :
    Calls Tryz.prog 27 #[.agg #[.int .i64 c, .int .i64 s]] w fun e w' => e = .returned .nilIface ∧ Below w.heap.size w w' := by
  obtain ⟨h1, h2, h3, h4⟩ := h
  have d1 : decide (s < 0) = false := dec_no (by omega)
  have d2 : decide (9 < s) = false := dec_no (by omega)
  have d3 : decide (c < -1000000000000000) = false := dec_no (by omega)
  have d4 : decide (1000000000000000 < c) = false := dec_no (by omega)
  go_enter Tryz.func27, Tryz.ntmps27
  go_wp2
  go_ret
  exact ⟨rfl, blw_alloc _ _⟩
set_option maxHeartbeats 1000000 in
theorem dchk_no (c s : Int) (w : World) (h : ¬ okD c s) :
    Calls Tryz.prog 27 #[.agg #[.int .i64 c, .int .i64 s]] w fun e w' => e = .returned (errV 1) ∧ Below w.heap.size w w' := by
  by_cases h1 : s < 0
  · go_enter Tryz.func27, Tryz.ntmps27
    go_wp2
    go_ret
    exact ⟨rfl, blw_alloc _ _⟩
  by_cases h2 : 9 < s
  · go_enter Tryz.func27, Tryz.ntmps27
    go_wp2
    go_ret
    exact ⟨rfl, blw_alloc _ _⟩
  by_cases h3 : c < -1000000000000000
  · go_enter Tryz.func27, Tryz.ntmps27
    go_wp2
    go_ret
    exact ⟨rfl, blw_alloc _ _⟩
  by_cases h4 : 1000000000000000 < c
  · go_enter Tryz.func27, Tryz.ntmps27
    go_wp2
    go_ret
    exact ⟨rfl, blw_alloc _ _⟩
  exact absurd ⟨by omega, by omega, by omega, by omega⟩ h
end Go.Proofs.YtainindkndjkbaaGreatDoor
