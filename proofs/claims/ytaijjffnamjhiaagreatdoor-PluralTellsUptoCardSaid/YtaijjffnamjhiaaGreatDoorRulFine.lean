/- The walks of rule.fine and rule.check. Conditions: the rule lies in memory as it says; it has at most 1000000000 of each. -/
import Derived.Test.YtaijjffnamjhiaaGreatDoorRulRune
import Derived.Test.YtaijjffnamjhiaaGreatDoorRulFind
import Derived.Test.YtaijjffnamjhiaaGreatDoorErrs
import Derived.Test.YtaijjffnamjhiaaGreatDoorBoxS
import Derived.Lib.Hide
namespace Go.Proofs.YtaijjffnamjhiaaGreatDoor
open Go.RowKit

/-- no error, or the one of this number -/
def errR (n : Int) : Value := if n = 0 then .nilIface else errV n

set_option maxRecDepth 100000 in
set_option maxHeartbeats 1000000 in
theorem fine1_any (p : Int × Int) (w : World) :
    Calls Tryz.prog 160 (#[.agg #[.int .i64 p.1, .int .i64 p.2]] ++ #[]) w fun e w' => e = .returned (.bool (!Rul.rngOk p)) ∧ Below w.heap.size w w' := by
  obtain ⟨a, b⟩ := p
  dsimp only
  have HR := Lib.hid (show Rul.rngOk (a, b) = (decide (0 ≤ a) && decide (a ≤ b) && decide (b ≤ 1000000)) from rfl)
  generalize Rul.rngOk (a, b) = R at *
  show Calls _ _ #[_] _ _
  by_cases h0 : a < 0
  · have HF := Lib.hid (show R = false by rw [HR.out, dec_no (show ¬ 0 ≤ a by omega)]; rfl)
    go_enter Tryz.func160, Tryz.ntmps160
    go_wp2_with fail
    go_ret
    exact ⟨ret_bool (by rw [HF.out]; rfl), blw_alloc _ _⟩
  · by_cases h1 : b < a
    · have HF := Lib.hid (show R = false by rw [HR.out, dec_no (show ¬ a ≤ b by omega)]; simp)
      go_enter Tryz.func160, Tryz.ntmps160
      go_wp2_with fail
      go_ret
      exact ⟨ret_bool (by rw [HF.out]; rfl), blw_alloc _ _⟩
    · by_cases h2 : 1000000 < b
      · have HF := Lib.hid (show R = false by rw [HR.out, dec_no (show ¬ b ≤ 1000000 by omega)]; simp)
        have d2 : decide (1000000 < b) = true := dec_yes h2
        go_enter Tryz.func160, Tryz.ntmps160
        go_wp2_with fail
        go_ret
        exact ⟨ret_bool (by rw [HF.out]; first | rfl | simpa using h2), blw_alloc _ _⟩
      · have HF := Lib.hid (show R = true by rw [HR.out, dec_yes (show 0 ≤ a by omega), dec_yes (show a ≤ b by omega), dec_yes (show b ≤ 1000000 by omega)]; rfl)
        have d2 : decide (1000000 < b) = false := dec_no h2
        go_enter Tryz.func160, Tryz.ntmps160
        go_wp2_with fail
        go_ret
        exact ⟨ret_bool (by rw [HF.out]; first | rfl | simpa using h2), blw_alloc _ _⟩
theorem any_not {l : List (Int × Int)} : (l.any fun p => !Rul.rngOk p) = !(l.all Rul.rngOk) := by
  induction l with
  | nil => rfl
  | cons x r ih => rw [List.any_cons, List.all_cons, ih, Bool.not_and]
theorem fine1_at (args : Array Value) (w : World) : (callFunc 160 args).run Tryz.prog w = .ok (.enter 160 args) w := enters_of Tryz.func160 (by kernel_rfl) rfl args w
end Go.Proofs.YtaijjffnamjhiaaGreatDoor
