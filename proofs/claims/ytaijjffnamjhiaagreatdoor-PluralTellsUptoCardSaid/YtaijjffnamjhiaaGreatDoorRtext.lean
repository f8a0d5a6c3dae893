/- The walks of rule.Text's own function and of rule.Text: a rule's text, or what is wrong with it. Conditions: the rule lies in memory as it says, its text is short; the library's table of powers is laid. -/
import Derived.Test.YtaijjffnamjhiaaGreatDoorRelated
import Derived.Test.YtaijjffnamjhiaaGreatDoorRjoin2
import Derived.Test.YtaijjffnamjhiaaGreatDoorRchk
namespace Go.Proofs.YtaijjffnamjhiaaGreatDoor
open Go.RowKit

theorem related_at (args : Array Value) (w : World) : (callFunc 57 args).run Tryz.prog w = .ok (.enter 57 args) w := enters_of Tryz.func57 (by kernel_rfl) rfl args w
theorem text1_at (args : Array Value) (w : World) : (callFunc 55 args).run Tryz.prog w = .ok (.enter 55 args) w := enters_of Tryz.func55 (by kernel_rfl) rfl args w

set_option maxRecDepth 100000 in
set_option maxHeartbeats 1000000 in
theorem text1_any (l : List Rul.Rl) (a : Option Addr) (n c : Nat) (w : World) (hp : PowW w) (hs : SlAt 4 RelC w (.slice a n c) l) (hl : l.length ≤ 4000000001) (ht : Lst.total (l.map Rul.relT) [32, 97, 110, 100, 32] ≤ 2000000000000)
    (hr : ∀ x ∈ l, x.rs.length ≤ 4000000001 ∧ Lst.total (x.rs.map Rul.rngT) [44] ≤ 2000000000000 ∧ Rul.relOk x = true) :
    Calls Tryz.prog 55 #[.slice a n c] w fun e w' => e = .returned (.string ⟨(Rul.partT l).toArray⟩) ∧ Below w.heap.size w w' := by
  have CJ := Lib.hid (joined_rel l Rul.relT 57 related_at (.slice a n c) [32, 97, 110, 100, 32] w hs hl ht (Lib.hid fun x hx a n c wx hb h => related_any x a n c wx (hp.below hb) h (hr x hx).1 (hr x hx).2.1 (hr x hx).2.2))
  have hT : Rul.partT l = Lib.join (l.map Rul.relT) [32, 97, 110, 100, 32] := rfl
  rw [hT]
  generalize Lib.join (l.map Rul.relT) [32, 97, 110, 100, 32] = T at *
  clear hT hs hr ht hl hp
  go_enter Tryz.func55, Tryz.ntmps55
  go_wp2_with fail
  refine CJ.out.mono ?_
  rintro e w2 ⟨rfl, hb⟩
  go_wp2_with fail
  go_ret
  exact ⟨rfl, hb⟩

set_option maxRecDepth 100000 in
set_option maxHeartbeats 1000000 in
theorem rtext_no (r : Rul.Rule) (A : Option Addr) (n c : Nat) (w : World) (hr : SlAt 1 PartC w (.slice A n c) r) (hl : r.length ≤ 1000000000) (hc : Rul.count r ≤ 1000000000) (hrs : ∀ l ∈ r, ∀ x ∈ l, x.rs.length ≤ 4000000001) (hE : Rul.ruleE r ≠ 0) :
    Calls Tryz.prog 21 #[.slice A n c] w fun e w' => e = .returned (.tuple #[.string ⟨#[]⟩, errV (Rul.ruleE r)]) ∧ Below w.heap.size w w' := by
  have CC := Lib.hid (check_any r A n c w hr hl hc hrs)
  have e1 : errR (Rul.ruleE r) = errV (Rul.ruleE r) := if_neg hE
  rw [e1] at CC
  generalize Rul.ruleE r = E at *
  clear e1 hr hrs hE
  go_enter Tryz.func21, Tryz.ntmps21
  go_wp2_with fail
  refine CC.out.mono ?_
  rintro e w2 ⟨rfl, hb⟩
  go_wp2_with fail
  go_ret2
  exact ⟨rfl, hb⟩

theorem ruleE_zero {r : Rul.Rule} (h : Rul.ruleE r = 0) : ∀ l ∈ r, ∀ x ∈ l, Rul.relOk x = true := by
  have hs : Rul.shapeOk r = true := by
    unfold Rul.ruleE at h
    cases hq : Rul.shapeOk r with
    | true => rfl
    | false => rw [hq] at h; simp at h
  simp only [Rul.shapeOk, Rul.partOk, Bool.and_eq_true, List.all_eq_true] at hs
  exact fun l hl x hx => (hs.2 l hl).2 x hx

set_option maxRecDepth 100000 in
set_option maxHeartbeats 1000000 in
theorem rtext_yes (r : Rul.Rule) (A : Option Addr) (n c : Nat) (w : World) (hp : PowW w) (hr : SlAt 1 PartC w (.slice A n c) r) (hl : r.length ≤ 1000000000) (hc : Rul.count r ≤ 1000000000) (hrs : ∀ l ∈ r, ∀ x ∈ l, x.rs.length ≤ 4000000001) (hE : Rul.ruleE r = 0)
    (ht : Lst.total (r.map Rul.partT) [32, 111, 114, 32] ≤ 2000000000000) (hpt : ∀ l ∈ r, l.length ≤ 4000000001 ∧ Lst.total (l.map Rul.relT) [32, 97, 110, 100, 32] ≤ 2000000000000 ∧ ∀ x ∈ l, Lst.total (x.rs.map Rul.rngT) [44] ≤ 2000000000000) :
    Calls Tryz.prog 21 #[.slice A n c] w fun e w' => e = .returned (.tuple #[.string ⟨(Rul.ruleT r).toArray⟩, .nilIface]) ∧ Below w.heap.size w w' := by
  have CC := Lib.hid (check_any r A n c w hr hl hc hrs)
  have e1 : errR (Rul.ruleE r) = .nilIface := if_pos hE
  rw [e1] at CC
  have CJ := Lib.hid fun (w' : World) (hb : Below w.heap.size w w') => joined_part r Rul.partT 55 text1_at (.slice A n c) [32, 111, 114, 32] w' (hr.rule_below hb) (by omega) ht
    (Lib.hid fun l hx a n c wx hy h => text1_any l a n c wx ((hp.below hb).below hy) h (hpt l hx).1 (hpt l hx).2.1 (fun x hxl => ⟨hrs l hx x hxl, (hpt l hx).2.2 x hxl, ruleE_zero hE l hx x hxl⟩))
  have hT : Rul.ruleT r = Lib.join (r.map Rul.partT) [32, 111, 114, 32] := rfl
  rw [hT]
  generalize Lib.join (r.map Rul.partT) [32, 111, 114, 32] = T at *
  clear e1 hr hrs hE hpt ht hT hp
  go_enter Tryz.func21, Tryz.ntmps21
  go_wp2_with fail
  refine CC.out.mono ?_
  rintro e w2 ⟨rfl, hb⟩
  have W2 := Lib.hid hb
  clear hb
  go_wp2_with fail
  refine (CJ.out _ W2.out).mono ?_
  rintro e w3 ⟨rfl, hb⟩
  have W3 := Lib.hid (blw_trans W2.out hb)
  clear hb
  go_wp2_with fail
  go_ret2
  exact ⟨rfl, W3.out⟩

end Go.Proofs.YtaijjffnamjhiaaGreatDoor
