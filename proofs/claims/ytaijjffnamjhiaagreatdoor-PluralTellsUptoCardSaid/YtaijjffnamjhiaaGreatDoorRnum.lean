/- The walk of rule.number: the number that a text tells, or -1. Conditions: the library's two errors hold each some value. -/
import Derived.Test.YtaijjffnamjhiaaGreatDoorAtoi
import Derived.Test.YtaijjffnamjhiaaGreatDoorRulP
import Derived.OwnWalk
namespace Go.Proofs.YtaijjffnamjhiaaGreatDoor
open Go.RowKit

set_option maxRecDepth 100000 in
set_option maxHeartbeats 1000000 in
theorem number_any (x : List UInt8) (w : World) (hN : NumW w) (hx : x.length ≤ 4000000000) :
    Calls Tryz.prog 116 #[.string ⟨x.toArray⟩] w fun e w' => e = .returned (.int .i64 (Rul.num x)) ∧ Below w.heap.size w w' := by
  by_cases h : ∃ v, Lib.atoiAll x = .ok v
  · obtain ⟨v, h⟩ := h
    have e : Rul.num x = v := by unfold Rul.num; rw [h]
    have CA := Lib.hid fun w => atoi_yes x v w hx h
    rw [e]
    clear h e
    go_enter Tryz.func116, Tryz.ntmps116
    go_wp2_with fail
    refine (CA.out _).mono ?_
    rintro e w1 ⟨rfl, hb⟩
    go_wp2_with fail
    go_ret
    exact ⟨rfl, hb⟩
  · have e : Rul.num x = -1 := by
      unfold Rul.num
      split
      · rename_i v h'; exact absurd ⟨v, h'⟩ h
      · rfl
    have CA := Lib.hid fun w hW => atoi_no x w hW hx (fun v g => h ⟨v, g⟩)
    rw [e]
    clear h e
    go_enter Tryz.func116, Tryz.ntmps116
    go_wp2_with fail
    refine (CA.out _ hN).mono ?_
    rintro e w1 ⟨u, N, rfl, hb⟩
    go_wp2_with fail
    go_ret
    exact ⟨rfl, hb⟩
end Go.Proofs.YtaijjffnamjhiaaGreatDoor
