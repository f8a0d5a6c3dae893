/- The walk of linguisterref1.Joined. -/
import Derived.Test.YtlhleojigcnjeaaDoorProg
import Derived.Test.YtlhleojigcnjeaaDoorRead
import Derived.Test.YtlhleojigcnjeaaDoorListP
import Derived.Test.YtlhleojigcnjeaaDoorStr
namespace Go.Proofs.YtlhleojigcnjeaaDoor
open Go.RowKit

set_option maxRecDepth 100000 in
set_option maxHeartbeats 1000000 in
theorem joined_any (l : List (List UInt8)) (v : Value) (sep : List UInt8) (w : World) (h : StrsAt w v l) (hn : l.length ≤ 2000000000000) (ht : Lst.total l sep ≤ 2000000000000) (hs : sep.length ≤ 2000000000000) :
    Calls Tryd.prog 60 #[v, .string ⟨sep.toArray⟩] w fun e w' => e = .returned (.string ⟨(Lib.join l sep).toArray⟩) ∧ w = w' := by
  rcases h with ⟨rfl, a, cap, rfl⟩ | ⟨b, off, cap, rfl, h0, hc, hm, hcell⟩
  · go_enter Tryd.func60, Tryd.ntmps60
    go_wp2_with fail
    refine wp_loop_rounds 1 ?_
    rw [rounds_succ]
    go_wp2_with fail
    go_ret
    exact ⟨rfl, rfl⟩
  · have HC := Lib.hid hcell
    have UL := Lib.hid (Lst.upto_le l sep)
    have Z := Lib.hid (Lst.upto_zero l sep)
    have E := Lib.hid (Lst.upto_all l sep)
    clear hcell
    unfold maxLen at hm
    go_enter Tryd.func60, Tryd.ntmps60
    go_wp2_with fail
    go_loop [5, 6] (fun s i => ∃ k : Nat, k ≤ l.length ∧ i = .int .i64 k ∧ s = .string ⟨(Lst.upto l sep k).toArray⟩) (fun _ i => l.length - (RowKit.intOf i).toNat)
    case atStart => exact ⟨0, Nat.zero_le _, rfl, by rw [Z.out]⟩
    case round =>
      obtain ⟨k, hk, rfl, rfl⟩ := hrel
      have hu := UL.out k
      by_cases hlt : k < l.length
      · obtain ⟨x, hx⟩ : ∃ x, l[k]? = some x := ⟨_, List.getElem?_eq_getElem hlt⟩
        have hxl := Nat.le_trans (Lst.lens_at l k x hx) (show Lib.lens l ≤ 2000000000000 by unfold Lst.total at ht; omega)
        have hcell := HC.out k x hx
        have U2 := UL.out (k + 1)
        by_cases hk0 : 0 < k
        · have US := Lib.hid (Lst.upto_succ l sep x k hk0 hx)
          have A1 := fun w => add_str (P := Tryd.prog) (Lst.upto l sep k) sep (by omega) w
          have A2 := fun w => add_str (P := Tryd.prog) (Lst.upto l sep k ++ sep) x (by rw [List.length_append]; omega) w
          clear hx U2
          go_wp2_with fail
          go_round
          case rel => exact ⟨k + 1, by omega, by go_num, by rw [US.out, List.append_assoc]⟩
          case measure => simp [RowKit.intOf]; omega
        · have hk1 : k = 0 := by omega
          subst hk1
          have US := Lib.hid (Lst.upto_one l sep x hx)
          have Z' := Z.out
          simp only [Nat.add_zero] at hcell
          have A1 := fun w => add_str (P := Tryd.prog) [] x (by simp; omega) w
          clear hx U2
          rw [Z']
          go_wp2_with fail
          go_round
          case rel => exact ⟨1, by omega, by go_num, by rw [US.out]⟩
          case measure => simp [RowKit.intOf] <;> omega
      · have e : l.length ≤ k := by omega
        have EE := Lib.hid (E.out k e)
        go_wp2_with fail
        go_ret
        exact ⟨ret_str (by rw [EE.out]), rfl⟩

end Go.Proofs.YtlhleojigcnjeaaDoor
