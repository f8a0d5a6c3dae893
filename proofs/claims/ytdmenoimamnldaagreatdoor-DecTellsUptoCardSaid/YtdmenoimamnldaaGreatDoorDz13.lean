/- The walks of linguisterref1.Starts and linguisterref1.NumberOf. Conditions: the texts are short of 4000000000 bytes. -/
import Derived.Test.YtdmenoimamnldaaGreatDoorProg
import Derived.Test.YtdmenoimamnldaaGreatDoorDz0
import Derived.Test.YtdmenoimamnldaaGreatDoorDz11
import Derived.Test.YtdmenoimamnldaaGreatDoorDz12
import Derived.OwnWalk
import Derived.LoopTactic
import Derived.Test.YtdmenoimamnldaaGreatDoorDz10
namespace Go.Proofs.YtdmenoimamnldaaGreatDoor
open Go.RowKit

/-- made of these bytes alone, so many -/
def onlyB (s of : List UInt8) (f t : Int) : Bool := s.all (fun c => of.contains c) && (decide (f ≤ (s.length : Int)) && decide ((s.length : Int) ≤ t))
theorem quiet_drew {P : Program} {f : FuncId} {args : Array Value} {w : World} {n : Nat} {v : Value}
    (h : Calls P f args (w.drewN n) fun e w' => e = .returned v ∧ Drew (w.drewN n) w') : Calls P f args (w.drewN n) fun e w'' => e = .returned v ∧ ∃ m, w'' = w.drewN m :=
  h.mono fun _ _ ⟨he, m, hm⟩ => ⟨he, n + m, by rw [hm, drewN_drewN]⟩
theorem byte_eq {a b : UInt8} : ((a.toNat : Int) == (b.toNat : Int)) = (a == b) := by
  by_cases h : a = b
  · subst h; simp
  · rw [beq_eq_false_iff_ne.2 h]
    exact beq_eq_false_iff_ne.2 fun g => h (UInt8.toNat_inj.1 (by omega))

set_option maxRecDepth 100000 in
set_option maxHeartbeats 1000000 in
theorem only_any (s of : List UInt8) (f t : Int) (w : World) (hs : s.length ≤ 4000000000) (ho : of.length ≤ 4000000000) :
    Calls Tryz.prog 23 #[.string ⟨s.toArray⟩, .string ⟨of.toArray⟩, .int .i64 f, .int .i64 t] w fun e w' => e = .returned (.bool (onlyB s of f t)) ∧ Drew w w' := by
  generalize HPOST : onlyB s of f t = POST
  have HP := Lib.hid HPOST
  clear HPOST
  go_enter Tryz.func23, Tryz.ntmps23
  go_wp2_with fail
  go_loopw [9, 10, 11] (fun i _ _ wr => ∃ k : Nat, i = .int .i64 k ∧ k ≤ s.length ∧ Hid (Drew w wr) ∧ Hid ((s.take k).all (fun c => of.contains c) = true)) (fun i _ _ _ => s.length - (RowKit.intOf i).toNat)
  case atStart => exact ⟨0, rfl, Nat.zero_le _, Drew.refl _, Lib.hid rfl⟩
  case round =>
    obtain ⟨k, rfl, hk, HW, HA⟩ := hrel
    by_cases hlt : k < s.length
    · obtain ⟨c, hc⟩ : ∃ c, s[k]? = some c := ⟨s[k], List.getElem?_eq_getElem hlt⟩
      have IX := fun w => index_str (P := Tryz.prog) 9 Tryz.underlying9 s .i64 k c hc w
      have HC := Lib.hid hc
      clear hc
      go_wp2_with fail
      obtain ⟨wo, hwo⟩ : ∃ wo : World, wo = wr := ⟨_, rfl⟩
      subst hwo
      go_loopw [10, 11] (fun b j wr => ∃ m : Nat, j = .int .i64 m ∧ m ≤ of.length ∧ Hid (Drew w wr) ∧ b = .bool ((of.take m).contains c)) (fun _ j _ => of.length - (RowKit.intOf j).toNat)
      case atStart => exact ⟨0, rfl, Nat.zero_le _, HW, rfl⟩
      case round =>
        obtain ⟨m, rfl, hm, HW', rfl⟩ := hrel
        clear HW
        by_cases hlm : m < of.length
        · obtain ⟨x, hx⟩ : ∃ x, of[m]? = some x := ⟨of[m], List.getElem?_eq_getElem hlm⟩
          have IX2 := fun w => index_str (P := Tryz.prog) 9 Tryz.underlying9 of .i64 m x hx w
          have HS := Lib.hid (show (of.take (m + 1)).contains c = ((of.take m).contains c || (c == x)) by
            rw [List.take_add_one, hx, Bool.eq_iff_iff]; simp [List.contains_eq_mem, List.mem_append])
          have hcx := byte_eq (a := c) (b := x)
          clear hx
          generalize (of.take m).contains c = b at *
          cases b
          · go_wp2_with fail
            go_quiet (fail)
            go_wp2_with fail
            go_roundw
            case rel => exact ⟨m + 1, by go_num, by omega, HW'.out.drewN _, by rw [HS.out]; simp⟩
            case measure => simp [RowKit.intOf]; omega
          · go_wp2_with fail
            go_quiet (fail)
            go_wp2_with fail
            go_roundw
            case rel => exact ⟨m + 1, by go_num, by omega, HW'.out.drewN _, by rw [HS.out]; simp⟩
            case measure => simp [RowKit.intOf]; omega
        · have HM := Lib.hid (show (of.take m).contains c = of.contains c by rw [List.take_of_length_le (by omega)])
          generalize (of.take m).contains c = b at *
          cases b
          · have HN := Lib.hid (show onlyB s of f t = false by
              unfold onlyB
              rw [show s.all (fun c => of.contains c) = false from List.all_eq_false.2 ⟨c, List.mem_of_getElem? HC.out, by rw [← HM.out]; decide⟩]
              rfl)
            clear HM
            go_wp2_with fail
            go_ret
            exact ⟨ret_bool (by rw [← HP.out, HN.out]), HW'.out⟩
          · have HN := Lib.hid (show (s.take (k + 1)).all (fun c => of.contains c) = true by
              rw [List.take_add_one, HC.out, List.all_append, HA.out]; simpa using HM.out.symm)
            clear HM
            go_wp2_with fail
            first | exact ⟨⟨k + 1, by go_num, by omega, HW', HN⟩, by simp [RowKit.intOf]; omega⟩ | (refine ⟨?_, ?_⟩; exact ⟨_, _, _, _, ⟨k + 1, by go_num, by omega, HW', HN⟩, rfl⟩; simp [RowKit.intOf]; omega)
    · have HN := Lib.hid (show onlyB s of f t = (decide (f ≤ (s.length : Int)) && decide ((s.length : Int) ≤ t)) by
        have h := HA.out
        rw [List.take_of_length_le (by omega)] at h
        unfold onlyB; rw [h]; rfl)
      by_cases h1 : f ≤ (s.length : Int)
      · have e1 : decide (f ≤ (s.length : Int)) = true := dec_yes h1
        go_wp2_with fail
        go_ret
        exact ⟨ret_bool (by rw [← HP.out, HN.out, e1]; first | rfl | simp), HW.out⟩
      · have e1 : decide (f ≤ (s.length : Int)) = false := dec_no h1
        go_wp2_with fail
        go_ret
        exact ⟨ret_bool (by rw [← HP.out, HN.out, e1]; first | rfl | simp), HW.out⟩
end Go.Proofs.YtdmenoimamnldaaGreatDoor
namespace Go.Proofs.YtdmenoimamnldaaGreatDoor
open Go.RowKit

theorem ret_beq {a b : List UInt8} : Ending.returned (.bool (a == b)) = .returned (.bool (a == b)) := rfl
set_option maxRecDepth 100000 in
set_option maxHeartbeats 400000 in
theorem starts_any (s p : List UInt8) (w : World) :
    Calls Tryz.prog 20 #[.string ⟨s.toArray⟩, .string ⟨p.toArray⟩] w fun e w' => e = .returned (.bool (s.take p.length == p)) ∧ w' = w := by
  by_cases h : p.length ≤ s.length
  · have SL := fun w => slice_to (P := Tryz.prog) 9 Tryz.underlying9 s .i64 p.length h w
    generalize s.take p.length = T at *
    cases hb : T == p
    · have hq : T ≠ p := beq_eq_false_iff_ne.1 hb
      clear hq
      go_enter Tryz.func20, Tryz.ntmps20
      go_wp2_with fail
      go_ret
      exact ⟨rfl, rfl⟩
    · go_enter Tryz.func20, Tryz.ntmps20
      go_wp2_with fail
      go_ret
      exact ⟨rfl, rfl⟩
  · have e : (s.take p.length == p) = false := beq_eq_false_iff_ne.2 fun g => by
      have := congrArg List.length g
      rw [List.length_take] at this; omega
    rw [e]
    clear e
    go_enter Tryz.func20, Tryz.ntmps20
    go_wp2_with fail
    go_ret
    exact ⟨rfl, rfl⟩
end Go.Proofs.YtdmenoimamnldaaGreatDoor
