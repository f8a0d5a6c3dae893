/- The walk of rule.check: is a rule well formed, and how many relations has it? Conditions: the rule lies in memory as it says; it has at most 1000000000 parts and relations. -/
import Derived.Test.YtaijjffnamjhiaaGreatDoorRfine
import Derived.LoopTactic
namespace Go.Proofs.YtaijjffnamjhiaaGreatDoor
open Go.RowKit

theorem count_take {r : Rul.Rule} {k : Nat} {l : List Rul.Rl} (h : r[k]? = some l) : Rul.count (r.take (k + 1)) = Rul.count (r.take k) + l.length := by
  unfold Rul.count
  rw [List.take_add_one, h]
  simp
theorem count_le {r : Rul.Rule} {k : Nat} {l : List Rul.Rl} (h : r[k]? = some l) : Rul.count (r.take k) + l.length ≤ Rul.count r := by
  rw [← count_take h]
  unfold Rul.count
  have e : r = r.take (k + 1) ++ r.drop (k + 1) := (List.take_append_drop _ _).symm
  conv => rhs; rw [e]
  rw [List.map_append, List.sum_append]
  omega
/-- a rule with a bad part is none -/
theorem bad_part {r : Rul.Rule} {k : Nat} {l : List Rul.Rl} (h : r[k]? = some l) (hb : Rul.partOk l = false) : Rul.ruleE r = 3 := by
  have hs : Rul.shapeOk r = false := by
    unfold Rul.shapeOk
    have : r.all Rul.partOk = false := by
      rw [List.all_eq_false]
      exact ⟨l, List.mem_of_getElem? h, by rw [hb]; decide⟩
    rw [this, Bool.and_false]
  unfold Rul.ruleE
  rw [hs]; rfl
theorem bad_rel {l : List Rul.Rl} {j : Nat} {x : Rul.Rl} (h : l[j]? = some x) (hb : Rul.relOk x = false) : Rul.partOk l = false := by
  unfold Rul.partOk
  have : l.all Rul.relOk = false := by
    rw [List.all_eq_false]
    exact ⟨x, List.mem_of_getElem? h, by rw [hb]; decide⟩
  rw [this, Bool.and_false]
theorem bad_none : Rul.partOk [] = false := rfl
theorem all_take {α : Type} {p : α → Bool} {l : List α} {k : Nat} {x : α} (h : l[k]? = some x) (ha : (l.take k).all p = true) (hx : p x = true) : (l.take (k + 1)).all p = true := by
  rw [List.take_add_one, h, List.all_append, ha]
  simp [hx]
theorem ruleE_ok {r : Rul.Rule} (h0 : r.length ≠ 0) (h : r.all Rul.partOk = true) : Rul.ruleE r = if 20 < Rul.count r then 4 else 0 := by
  have hs : Rul.shapeOk r = true := by
    unfold Rul.shapeOk
    rw [h]
    cases r with
    | nil => simp at h0
    | cons => rfl
  unfold Rul.ruleE
  rw [hs]; rfl
theorem ruleE_none : Rul.ruleE [] = 3 := rfl

set_option maxRecDepth 100000 in
set_option maxHeartbeats 4000000 in
theorem check_any (r : Rul.Rule) (A : Option Addr) (n c : Nat) (w : World) (hr : SlAt 1 PartC w (.slice A n c) r) (hl : r.length ≤ 1000000000) (hc : Rul.count r ≤ 1000000000) (hrs : ∀ l ∈ r, ∀ x ∈ l, x.rs.length ≤ 4000000001) :
    Calls Tryz.prog 53 #[.slice A n c] w fun e w' => e = .returned (errR (Rul.ruleE r)) ∧ Below w.heap.size w w' := by
  obtain ⟨A', cap, e, hm, hcell⟩ := hr.spread
  injection e with e1 e2 e3
  subst e1 e2 e3
  have HLB := Lib.hid fun (wr : World) (hb : Below w.heap.size w wr) => hr.rule_below hb
  have HS := Lib.hid hrs
  clear hr hcell hrs hm
  by_cases h0 : r.length = 0
  · have e0 : ((r.length : Int) == 0) = true := beq_yes (by omega)
    obtain rfl := List.length_eq_zero_iff.1 h0
    go_enter Tryz.func53, Tryz.ntmps53
    go_wp2_with fail
    go_ret
    exact ⟨rfl, Below.refl _ _⟩
  have e0 : ((r.length : Int) == 0) = false := beq_no (by omega)
  go_enter Tryz.func53, Tryz.ntmps53
  go_wp2_with fail
  go_loopw [3, 14] (fun cn i wr => ∃ k : Nat, cn = .int .i64 (Rul.count (r.take k) : Int) ∧ i = .int .i64 (k : Int) ∧ k ≤ r.length ∧ Hid ((r.take k).all Rul.partOk = true) ∧ Hid (Below w.heap.size w wr)) (fun _ i _ => r.length - (RowKit.intOf i).toNat)
  case atStart => exact ⟨0, rfl, rfl, Nat.zero_le _, Lib.hid rfl, Lib.hid (Below.refl _ _)⟩
  case round =>
    obtain ⟨k, rfl, rfl, hk, HA, HB⟩ := hrel
    by_cases hlt : k < r.length
    · obtain ⟨l, hx⟩ : ∃ l, r[k]? = some l := ⟨r[k], List.getElem?_eq_getElem hlt⟩
      obtain ⟨A', cap', eA, _, hsp⟩ := (HLB.out wr HB.out).spread
      injection eA with e1 e2 e3
      subst e1
      obtain ⟨b, off, rfl, hxc⟩ := hsp k l hx
      clear hsp e2 e3
      obtain ⟨za, zn, zc, x0, xs⟩ := hxc
      rw [Nat.mul_one] at x0
      have HCT := Lib.hid (count_take hx)
      have hcl := count_le hx
      have HRS := Lib.hid (HS.out l (List.mem_of_getElem? hx))
      have HBP := Lib.hid fun hb => bad_part hx hb
      have HAT := Lib.hid fun hb => all_take hx HA.out hb
      have HXL := Lib.hid fun (wx : World) (hb : Below wr.heap.size wr wx) => xs.rels_below hb
      obtain ⟨A2, cap2, eA, _, _⟩ := xs.spread
      injection eA with e1 e2 e3
      subst e1 e2 e3
      clear hx xs
      cases l with
      | nil =>
        have HE := Lib.hid (HBP.out rfl)
        go_wp2_with fail
        go_ret
        exact ⟨by rw [HE.out]; rfl, HB.out⟩
      | cons y ys =>
        have e20 : (((y :: ys).length : Int) == 0) = false := beq_no (by rw [List.length_cons]; omega)
        generalize hL : y :: ys = L at *
        have hL0 : 0 < L.length := by rw [← hL, List.length_cons]; omega
        have hL1 : (0 : Int) < (L.length : Int) := by omega
        have h0 : L[0]? = some y := by rw [← hL]; rfl
        obtain ⟨A3, cap3, eA, _, hsp⟩ := (HXL.out wr (Below.refl _ _)).spread
        injection eA with e1 e2 e3
        subst e1
        obtain ⟨b2, off2, rfl, hxc⟩ := hsp 0 y h0
        clear hsp e2 e3
        rw [Nat.zero_mul, Nat.add_zero] at hxc
        obtain ⟨a, n, c', y0, y1, y2, y3, ys'⟩ := hxc
        have CF := Lib.hid fun w2 (hb : Below wr.heap.size wr w2) => fine_any y a n c' w2 (ys'.rngs_below hb) (HRS.out y (List.mem_of_getElem? h0))
        clear ys'
        cases hq : Rul.relOk y with
        | false =>
          rw [hq] at CF
          have HE := Lib.hid (HBP.out (bad_rel h0 hq))
          clear hL
          go_wp2_with fail
          refine (CF.out _ (Below.refl _ _)).mono ?_
          rintro e w2 ⟨rfl, hb⟩
          have W2 := Lib.hid (blw_trans HB.out hb)
          clear hb CF
          go_wp2_with fail
          go_ret
          exact ⟨by rw [HE.out]; rfl, W2.out⟩
        | true =>
          rw [hq] at CF
          clear hL
          go_wp2_with fail
          refine (CF.out _ (Below.refl _ _)).mono ?_
          rintro e w2 ⟨rfl, hb⟩
          have W2 := Lib.hid hb
          clear hb CF hq y0 y1 y2 y3 h0
          go_wp2_with fail
          go_loopw [3, 31] (fun cn j wx => ∃ m : Nat, cn = .int .i64 ((Rul.count (r.take k) + m : Nat) : Int) ∧ j = .int .i64 (m : Int) ∧ m ≤ L.length ∧ Hid ((L.take m).all Rul.relOk = true) ∧ Hid (Below wr.heap.size wr wx)) (fun _ j _ => L.length - (RowKit.intOf j).toNat)
          case atStart => exact ⟨0, rfl, rfl, Nat.zero_le _, Lib.hid rfl, W2⟩
          case round =>
            obtain ⟨m, rfl, rfl, hm, HM, HW⟩ := hrel
            by_cases hml : m < L.length
            · obtain ⟨x, hx⟩ : ∃ x, L[m]? = some x := ⟨L[m], List.getElem?_eq_getElem hml⟩
              obtain ⟨A4, cap4, eA, _, hsp⟩ := (HXL.out wr HW.out).spread
              injection eA with e1 e2 e3
              obtain ⟨b4, off4, e4, hxc⟩ := hsp m x hx
              rw [e4] at e1
              injection e1 with e1
              injection e1 with e5 e6 _
              subst e5 e6
              clear hsp e2 e3 e4
              obtain ⟨a4, n4, c4, z0, z1, z2, z3, zs⟩ := hxc
              have CG := Lib.hid fun w2 (hb : Below wr.heap.size wr w2) => fine_any x a4 n4 c4 w2 (zs.rngs_below hb) (HRS.out x (List.mem_of_getElem? hx))
              clear zs
              cases hq : Rul.relOk x with
              | false =>
                rw [hq] at CG
                have HE := Lib.hid (HBP.out (bad_rel hx hq))
                clear hx hq
                go_wp2_with fail
                refine (CG.out _ (blw_alloc _ _)).mono ?_
                rintro e w3 ⟨rfl, hb⟩
                have W3 := Lib.hid (blw_trans HB.out (blw_trans HW.out (blw_trans (blw_alloc _ _) hb)))
                clear hb CG
                go_wp2_with fail
                go_ret
                exact ⟨by rw [HE.out]; rfl, W3.out⟩
              | true =>
                rw [hq] at CG
                have HT := Lib.hid (all_take hx HM.out hq)
                clear hx hq
                go_wp2_with fail
                refine (CG.out _ (blw_alloc _ _)).mono ?_
                rintro e w3 ⟨rfl, hb⟩
                have W3 := Lib.hid (blw_trans HW.out (blw_trans (blw_alloc _ _) hb))
                clear hb CG z0 z1 z2 z3
                go_wp2_with fail
                exact ⟨⟨m + 1, by go_num, by go_num, by omega, HT, W3⟩, by simp [RowKit.intOf]; omega⟩
            · have HT := Lib.hid (HAT.out (by
                unfold Rul.partOk
                rw [show L.all Rul.relOk = true by rw [← List.take_of_length_le (l := L) (i := m) (by omega)]; exact HM.out]
                cases L with
                | nil => simp at hL0
                | cons => rfl))
              obtain rfl : m = L.length := by omega
              rw [← HCT.out]
              go_wp2_with fail
              exact ⟨⟨k + 1, rfl, by go_num, by omega, HT, Lib.hid (blw_trans HB.out HW.out)⟩, by simp [RowKit.intOf]; omega⟩
    · have HT := Lib.hid (ruleE_ok h0 (show r.all Rul.partOk = true by rw [← List.take_of_length_le (l := r) (i := k) (by omega)]; exact HA.out))
      rw [List.take_of_length_le (by omega)]
      by_cases h20 : 20 < Rul.count r
      · rw [if_pos h20] at HT
        have d : decide ((20 : Int) < (Rul.count r : Int)) = true := dec_yes (by omega)
        go_wp2_with fail
        go_ret
        exact ⟨by rw [HT.out]; rfl, HB.out⟩
      · rw [if_neg h20] at HT
        have d : decide ((20 : Int) < (Rul.count r : Int)) = false := dec_no (by omega)
        go_wp2_with fail
        go_ret
        exact ⟨by rw [HT.out]; rfl, HB.out⟩
end Go.Proofs.YtaijjffnamjhiaaGreatDoor
