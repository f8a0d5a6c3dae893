/- The walks of linguisterref1.Starts and linguisterref1.NumberOf. Conditions: the texts are short of 4000000000 bytes. -/
import Derived.Test.YtainindkndjkbaaGreatDoorDecOfP
import Derived.Test.YtainindkndjkbaaGreatDoorNumOfD
import Derived.Test.YtainindkndjkbaaGreatDoorOnly
namespace Go.Proofs.YtainindkndjkbaaGreatDoor
open Go.RowKit

theorem ret_beq {a b : List UInt8} : Ending.returned (.bool (a == b)) = .returned (.bool (a == b)) := rfl
set_option maxRecDepth 100000 in
set_option maxHeartbeats 400000 in
theorem starts_any (s p : List UInt8) (w : World) :
    Calls Tryz.prog 101 #[.string ⟨s.toArray⟩, .string ⟨p.toArray⟩] w fun e w' => e = .returned (.bool (s.take p.length == p)) ∧ w' = w := by
  by_cases h : p.length ≤ s.length
  · have SL := fun w => slice_to (P := Tryz.prog) 9 Tryz.underlying9 s .i64 p.length h w
    generalize s.take p.length = T at *
    cases hb : T == p
    · have hq : T ≠ p := beq_eq_false_iff_ne.1 hb
      clear hq
      go_enter Tryz.func101, Tryz.ntmps101
      go_wp2_with fail
      go_ret
      exact ⟨rfl, rfl⟩
    · go_enter Tryz.func101, Tryz.ntmps101
      go_wp2_with fail
      go_ret
      exact ⟨rfl, rfl⟩
  · have e : (s.take p.length == p) = false := beq_eq_false_iff_ne.2 fun g => by
      have := congrArg List.length g
      rw [List.length_take] at this; omega
    rw [e]
    clear e
    go_enter Tryz.func101, Tryz.ntmps101
    go_wp2_with fail
    go_ret
    exact ⟨rfl, rfl⟩
end Go.Proofs.YtainindkndjkbaaGreatDoor
