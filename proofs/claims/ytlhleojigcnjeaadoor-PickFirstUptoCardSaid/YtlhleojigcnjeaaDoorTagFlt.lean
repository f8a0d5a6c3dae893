/- tag.Check and linguisterref1.TagFault tell the same of whatever tag. -/
import Derived.Test.YtlhleojigcnjeaaDoorTagChk
import Derived.Deep.DeepCutAuto
namespace Go.Proofs.YtlhleojigcnjeaaDoor
open Go.RowKit

theorem check_any (l s r : List UInt8) (vs : List (List UInt8)) (V : Value) (w : World) (hV : StrsAt w V vs) (bl : l.length + s.length + r.length ≤ 1000000000) (bv : ∀ x ∈ vs, x.length ≤ 1000000000) :
    Calls Tryd.prog 16 #[.agg #[.string ⟨l.toArray⟩, .string ⟨s.toArray⟩, .string ⟨r.toArray⟩, V]] w fun e w' => e = .returned (errE (tagFault l s r vs)) ∧ Below w.heap.size w w' := by
  have good : headB l s r = true → tagFault l s r vs = vf [] vs := fun h => by unfold tagFault; rw [if_pos h]
  have bad : headB l s r = false → errE (tagFault l s r vs) = errV 3 := fun h => by unfold tagFault; rw [h]; rfl
  cases hl : onlyB l LOW 2 3 with
  | false =>
    rw [bad (by unfold headB; rw [hl]; rfl)]
    exact check_bad_l l s r V w bl hl
  | true =>
    by_cases hs : s = []
    · skip
      by_cases hr : r = []
      · skip
        have hh : headB l s r = true := by unfold headB; rw [hl]; simp [hs, hr]
        rw [good hh]
        rcases hV with ⟨hv, a, cap, rfl⟩ | ⟨b, off, cap, rfl, h0, hc, hm, hcell⟩
        · rw [hv]
          exact check_none_ee l s r a cap w bl hl hs hr
        · exact check_some_ee l s r vs b off cap w bl bv h0 hc hm hcell hl hs hr
      · cases hR : regionB r with
        | true =>
          have hh : headB l s r = true := by unfold headB; rw [hl]; simp [hs, hR]
          rw [good hh]
          rcases hV with ⟨hv, a, cap, rfl⟩ | ⟨b, off, cap, rfl, h0, hc, hm, hcell⟩
          · rw [hv]
            exact check_none_ey l s r a cap w bl hl hs hr hR
          · exact check_some_ey l s r vs b off cap w bl bv h0 hc hm hcell hl hs hr hR
        | false =>
          rw [bad (by unfold headB; rw [hl]; simp [hr, hR])]
          exact check_bad_re l s r V w bl hl hs hr hR
    · cases hS : scriptB s with
      | true =>
        by_cases hr : r = []
        · skip
          have hh : headB l s r = true := by unfold headB; rw [hl]; simp [hS, hr]
          rw [good hh]
          rcases hV with ⟨hv, a, cap, rfl⟩ | ⟨b, off, cap, rfl, h0, hc, hm, hcell⟩
          · rw [hv]
            exact check_none_ye l s r a cap w bl hl hs hS hr
          · exact check_some_ye l s r vs b off cap w bl bv h0 hc hm hcell hl hs hS hr
        · cases hR : regionB r with
          | true =>
            have hh : headB l s r = true := by unfold headB; rw [hl]; simp [hS, hR]
            rw [good hh]
            rcases hV with ⟨hv, a, cap, rfl⟩ | ⟨b, off, cap, rfl, h0, hc, hm, hcell⟩
            · rw [hv]
              exact check_none_yy l s r a cap w bl hl hs hS hr hR
            · exact check_some_yy l s r vs b off cap w bl bv h0 hc hm hcell hl hs hS hr hR
          | false =>
            rw [bad (by unfold headB; rw [hl]; simp [hr, hR])]
            exact check_bad_ry l s r V w bl hl hs hS hr hR
      | false =>
        rw [bad (by unfold headB; rw [hl]; simp [hs, hS])]
        exact check_bad_s l s r V w bl hl hs hS

theorem drew_cells {w w' : World} {l s r : List UInt8} {V : Value} (h : Drew (w.alloc (.cells #[.string ⟨l.toArray⟩, .string ⟨s.toArray⟩, .string ⟨r.toArray⟩, V] 24)) w') (j : Nat) (v : Value) (hj : (#[Value.string ⟨l.toArray⟩, .string ⟨s.toArray⟩, .string ⟨r.toArray⟩, V] : Array Value)[j]? = some v) : w'.cell? ⟨w.heap.size, j, none⟩ = some v := by
  have b := Boxed.made w #[Value.string ⟨l.toArray⟩, .string ⟨s.toArray⟩, .string ⟨r.toArray⟩, V] 24
  exact (b.below h.below).cell j v hj
theorem Drew.trans {a b c : World} (h : Drew a b) (k : Drew b c) : Drew a c := by obtain ⟨n, rfl⟩ := k; exact h.drewN n
/-- the script's part, the region's part -/
theorem fault_head (l s r : List UInt8) : headB l s r = (onlyB l LOW 2 3 && ((s.isEmpty || scriptB s) && (r.isEmpty || regionB r))) := rfl

set_option maxRecDepth 100000 in
set_option maxHeartbeats 1000000 in
theorem in_any (l : List (List UInt8)) (b off k cap : Nat) (x : List UInt8) (w : World) (hk : k ≤ l.length) (hkc : k ≤ cap) (hm : cap ≤ maxLen) (hc : ∀ (j : Nat) x, l[j]? = some x → w.cell? ⟨b, off + j, none⟩ = some (.string ⟨x.toArray⟩)) :
    Calls Tryd.prog 57 #[.slice (some ⟨b, off, none⟩) k cap, .string ⟨x.toArray⟩] w fun e w' => e = .returned (.bool ((l.take k).contains x)) ∧ w = w' := by
  generalize HPOST : (l.take k).contains x = POST
  have HP := Lib.hid HPOST
  have HC := Lib.hid hc
  unfold maxLen at hm
  clear HPOST hc
  go_enter Tryd.func57, Tryd.ntmps57
  go_wp2_with fail
  go_loop [5] (fun i => ∃ m : Nat, i = .int .i64 m ∧ m ≤ k ∧ Hid ((l.take m).contains x = false)) (fun i => k - (RowKit.intOf i).toNat)
  case atStart => exact ⟨0, rfl, Nat.zero_le _, Lib.hid (by simp)⟩
  case round =>
    obtain ⟨m, rfl, hmk, HN⟩ := hrel
    by_cases hlt : m < k
    · obtain ⟨y, hy⟩ : ∃ y, l[m]? = some y := ⟨l[m]'(by omega), List.getElem?_eq_getElem (by omega)⟩
      have yc := HC.out m y hy
      have HT := Lib.hid (show (l.take (m + 1)).contains x = (x == y) by
        rw [List.take_add_one, hy, Bool.eq_iff_iff, List.contains_iff_mem]
        have hn := HN.out
        simp at hn
        simp [hn])
      have HY := Lib.hid hy
      clear hy
      by_cases e : y = x
      · subst e
        have HR := Lib.hid (show POST = true by
          rw [← HP.out, List.contains_iff_mem]
          have h1 : y ∈ l.take (m + 1) := by rw [List.take_add_one, HY.out]; simp
          exact List.take_subset_take_left l (by omega) h1)
        go_wp2_with fail
        go_ret
        exact ⟨ret_bool HR.out.symm, rfl⟩
      · have q1 : (y == x) = false := beq_eq_false_iff_ne.2 e
        have HN2 := Lib.hid (show (l.take (m + 1)).contains x = false by rw [HT.out]; exact beq_eq_false_iff_ne.2 (fun g => e g.symm))
        clear HT e
        go_wp2_with fail
        go_round
        case rel => exact ⟨m + 1, by go_num, by omega, HN2⟩
        case measure => simp [RowKit.intOf]; omega
    · obtain rfl : m = k := by omega
      go_wp2_with fail
      go_ret
      exact ⟨ret_bool (by rw [← HP.out, HN.out]), rfl⟩

set_option maxRecDepth 100000 in
set_option maxHeartbeats 4000000 in
theorem rfault_tag (l s r : List UInt8) (vs : List (List UInt8)) (V : Value) (w : World) (hV : StrsAt w V vs) (bl : l.length + s.length + r.length ≤ 1000000000) (bv : ∀ x ∈ vs, x.length ≤ 1000000000) :
    Calls Tryd.prog 25 #[.agg #[.string ⟨l.toArray⟩, .string ⟨s.toArray⟩, .string ⟨r.toArray⟩, V]] w fun e w' => e = .returned (.int .i64 (tagFault l s r vs)) ∧ Below w.heap.size w w' := by
  have HV := Lib.hid hV
  have HBV := Lib.hid bv
  have HB0 := Lib.hid (Drew.refl (w.alloc (.cells #[.string ⟨l.toArray⟩, .string ⟨s.toArray⟩, .string ⟨r.toArray⟩, V] 24)))
  clear hV bv
  go_enter Tryd.func25, Tryd.ntmps25
  go_upto_region 1 with fail
  go_cut [3] (fun v wx => v = .bool (s.isEmpty || scriptB s) ∧ Hid (Drew (w.alloc (.cells #[.string ⟨l.toArray⟩, .string ⟨s.toArray⟩, .string ⟨r.toArray⟩, V] 24)) wx))
  case first =>
    by_cases hs : s = []
    · subst hs
      go_wp2_with fail
      go_meet
      exact ⟨rfl, HB0⟩
    · have e1 : (s == []) = false := by cases s with | nil => exact absurd rfl hs | cons => rfl
      have e2 : s.isEmpty = false := by cases s with | nil => exact absurd rfl hs | cons => rfl
      by_cases h4 : s.length = 4
      · have q1 : ((s.length : Int) == 4) = true := beq_yes (by omega)
        have P1 : ∀ w, (Instr.slice 9 (.string ⟨s.toArray⟩) none (some (.int .i64 1)) none).run Tryd.prog w = .ok (.string ⟨(s.take 1).toArray⟩) w := fun w => slice_to (P := Tryd.prog) 9 Tryd.underlying9 s .i64 1 (by omega) w
        have P2 : ∀ w, (Instr.slice 9 (.string ⟨s.toArray⟩) (some (.int .i64 1)) none none).run Tryd.prog w = .ok (.string ⟨(s.drop 1).toArray⟩) w := fun w => slice_from (P := Tryd.prog) 9 Tryd.underlying9 s .i64 1 (by omega) w
        have C1 := Lib.hid fun w => only_any (s.take 1) HIGH 1 1 w (by simp; omega) (by simp)
        have C2 := Lib.hid fun w => only_any (s.drop 1) LOW 3 3 w (by simp; omega) (by simp)
        have HS := Lib.hid (show (s.isEmpty || scriptB s) = (onlyB (s.take 1) HIGH 1 1 && onlyB (s.drop 1) LOW 3 3) by unfold scriptB; rw [e2, decide_eq_true h4]; rfl)
        clear h4
        generalize (s.isEmpty || scriptB s) = B at *
        generalize onlyB (s.take 1) HIGH 1 1 = x at *
        generalize onlyB (s.drop 1) LOW 3 3 = y at *
        generalize s.take 1 = S1 at *
        generalize s.drop 1 = S2 at *
        cases x
        · go_wp2_with fail
          refine (C1.out _).mono ?_
          rintro e w1 ⟨rfl, hD⟩
          go_wp2_with fail
          go_meet
          exact ⟨congrArg Value.bool (by rw [HS.out]; rfl), Lib.hid hD⟩
        · go_wp2_with fail
          refine (C1.out _).mono ?_
          rintro e w1 ⟨rfl, hD⟩
          have k1 := drew_cells hD 1 _ rfl
          have HD1 := Lib.hid hD
          clear hD
          go_wp2_with fail
          refine (C2.out _).mono ?_
          rintro e w2 ⟨rfl, hD⟩
          have HD2 := Lib.hid (HD1.out.trans hD)
          clear hD
          go_wp2_with fail
          go_meet
          exact ⟨congrArg Value.bool (by rw [HS.out]; simp), HD2⟩
      · have q1 : ((s.length : Int) == 4) = false := beq_no (by omega)
        have HS := Lib.hid (show (s.isEmpty || scriptB s) = false by unfold scriptB; rw [e2, decide_eq_false h4]; rfl)
        clear h4
        generalize (s.isEmpty || scriptB s) = B at *
        go_wp2_with fail
        go_meet
        exact ⟨congrArg Value.bool (by rw [HS.out]), HB0⟩
  case rest =>
    obtain ⟨rfl, HD⟩ := hcut
    clear HB0
    generalize hSB : (s.isEmpty || scriptB s) = SB
    have HSB := Lib.hid hSB
    clear hSB
    have k2 := drew_cells HD.out 2 _ rfl
    go_upto_region 2 with fail
    go_cut [4] (fun v wx => v = .bool (r.isEmpty || regionB r) ∧ Hid (Drew (w.alloc (.cells #[.string ⟨l.toArray⟩, .string ⟨s.toArray⟩, .string ⟨r.toArray⟩, V] 24)) wx))
    case first =>
      by_cases hr : r = []
      · subst hr
        go_wp2_with fail
        go_meet
        exact ⟨rfl, HD⟩
      · have e1 : (r == []) = false := by cases r with | nil => exact absurd rfl hr | cons => rfl
        have e2 : r.isEmpty = false := by cases r with | nil => exact absurd rfl hr | cons => rfl
        have C1 := Lib.hid fun w => only_any r HIGH 2 2 w (by omega) (by simp)
        have C2 := Lib.hid fun w => only_any r DIG 3 3 w (by omega) (by simp)
        have HS := Lib.hid (show (r.isEmpty || regionB r) = (onlyB r HIGH 2 2 || onlyB r DIG 3 3) by unfold regionB; rw [e2]; rfl)
        generalize (r.isEmpty || regionB r) = B at *
        generalize onlyB r HIGH 2 2 = x at *
        generalize onlyB r DIG 3 3 = y at *
        cases x
        · go_wp2_with fail
          refine (C1.out _).mono ?_
          rintro e w1 ⟨rfl, hD⟩
          have HD1 := Lib.hid (HD.out.trans hD)
          clear hD k2
          have k3 := drew_cells HD1.out 2 _ rfl
          go_wp2_with fail
          refine (C2.out _).mono ?_
          rintro e w2 ⟨rfl, hD⟩
          have HD2 := Lib.hid (HD1.out.trans hD)
          clear hD
          go_wp2_with fail
          go_meet
          exact ⟨congrArg Value.bool (by rw [HS.out]; simp), HD2⟩
        · go_wp2_with fail
          refine (C1.out _).mono ?_
          rintro e w1 ⟨rfl, hD⟩
          have HD1 := Lib.hid (HD.out.trans hD)
          clear hD
          go_wp2_with fail
          go_meet
          exact ⟨congrArg Value.bool (by rw [HS.out]; simp), HD1⟩
    case rest =>
      obtain ⟨rfl, HE⟩ := hcut
      clear HD k2
      generalize hRB : (r.isEmpty || regionB r) = RB
      have HRB := Lib.hid hRB
      clear hRB
      have k0 := drew_cells HE.out 0 _ rfl
      have C1 := Lib.hid fun w => only_any l LOW 2 3 w (by omega) (by simp)
      have HH := Lib.hid (show headB l s r = (onlyB l LOW 2 3 && (SB && RB)) by rw [fault_head, HSB.out, HRB.out])
      generalize onlyB l LOW 2 3 = x at *
      cases hok : (x && (SB && RB)) with
      | false =>
        have HF := Lib.hid (show tagFault l s r vs = 3 by unfold tagFault; rw [HH.out, hok]; rfl)
        clear HH
        have HOK := Lib.hid hok
        clear hok
        cases x <;> cases SB <;> cases RB <;> first
          | (exfalso; have := HOK.out; simp at this; done)
          | (go_wp2_with fail
             refine (C1.out _).mono ?_
             rintro e w1 ⟨rfl, hD⟩
             have HD1 := Lib.hid (HE.out.trans hD)
             clear hD
             go_wp2_with fail
             go_ret
             exact ⟨ret_int HF.out.symm, blw_trans (blw_alloc w _) HD1.out.below⟩)
      | true =>
        have HF := Lib.hid (show tagFault l s r vs = vf [] vs by unfold tagFault; rw [HH.out, hok]; rfl)
        obtain ⟨rfl, hok2⟩ := Bool.and_eq_true_iff.1 hok
        obtain ⟨rfl, rfl⟩ := Bool.and_eq_true_iff.1 hok2
        clear HH hok hok2 HSB HRB
        go_wp2_with fail
        refine (C1.out _).mono ?_
        rintro e w1 ⟨rfl, hD⟩
        have HD1 := Lib.hid (HE.out.trans hD)
        clear hD HE k0 C1
        go_wp2_with fail
        rcases HV.out with ⟨hv, a, cap, rfl⟩ | ⟨b, off, cap, rfl, h0, hcap, hcm, hcell⟩
        · have HG := Lib.hid (show tagFault l s r vs = 0 by rw [HF.out, hv]; rfl)
          clear HF hv
          have k3 := drew_cells HD1.out 3 _ rfl
          refine wp_loop_rounds 1 ?_
          rw [rounds_succ]
          go_wp2_with fail
          go_ret
          exact ⟨ret_int HG.out.symm, blw_trans (blw_alloc w _) HD1.out.below⟩
        · unfold maxLen at hcm
          have HC := Lib.hid hcell
          clear hcell
          go_loopw [5] (fun i wr => ∃ k : Nat, i = .int .i64 k ∧ k ≤ vs.length ∧ Hid (Drew (w.alloc (.cells #[.string ⟨l.toArray⟩, .string ⟨s.toArray⟩, .string ⟨r.toArray⟩, .slice (some ⟨b, off, none⟩) vs.length cap] 24)) wr) ∧ Hid (vf [] vs = vf (vs.take k) (vs.drop k))) (fun i _ => vs.length - (RowKit.intOf i).toNat)
          case atStart => exact ⟨0, rfl, Nat.zero_le _, HD1, Lib.hid (by simp)⟩
          case round =>
            clear HD1
            obtain ⟨k, rfl, hk, HD1, HI⟩ := hrel
            have k3 := drew_cells HD1.out 3 _ rfl
            by_cases hlt : k < vs.length
            · obtain ⟨x, hx⟩ : ∃ x, vs[k]? = some x := ⟨vs[k], List.getElem?_eq_getElem hlt⟩
              have xb := HBV.out x (List.mem_of_getElem? hx)
              have HCR := Lib.hid (show ∀ (j : Nat) z, vs[j]? = some z → wr.cell? ⟨b, off + j, none⟩ = some (.string ⟨z.toArray⟩) from fun j z hz => cell_keep (cell_keep (HC.out j z hz) (blw_alloc w _)) HD1.out.below)
              have xc := HCR.out k x hx
              have CB : Hid (∀ w : World, Calls Tryd.prog 56 #[.string ⟨x.toArray⟩, .string ⟨#[97, 98, 99, 100, 101, 102, 103, 104, 105, 106, 107, 108, 109, 110, 111, 112, 113, 114, 115, 116, 117, 118, 119, 120, 121, 122, 48, 49, 50, 51, 52, 53, 54, 55, 56, 57]⟩, .int .i64 5, .int .i64 8] w fun e w' => e = .returned (.bool (onlyB x (LOW ++ DIG) 5 8)) ∧ Drew w w') := Lib.hid fun w => only_any x (LOW ++ DIG) 5 8 w (by omega) (by simp)
              have hd : vs.drop k = x :: vs.drop (k + 1) := by rw [List.drop_eq_getElem_cons hlt]; congr 1; exact (List.getElem?_eq_some_iff.1 hx).2
              have ht : vs.take (k + 1) = vs.take k ++ [x] := by rw [List.take_add_one, hx]; rfl
              have HI2 := Lib.hid (show vf [] vs = if onlyB x (LOW ++ DIG) 5 8 = false then 3 else if (vs.take k).contains x then 5 else vf (vs.take (k + 1)) (vs.drop (k + 1)) by rw [HI.out, hd, ht]; rfl)
              have HX := Lib.hid hx
              have CC := Lib.hid fun (w : World) hw => in_any vs b off k cap x w (by omega) (by omega) (by unfold maxLen; omega) hw
              clear hd ht hx HI
              generalize onlyB x (LOW ++ DIG) 5 8 = B at *
              generalize (vs.take k).contains x = D at *
              cases B
              · have HG := Lib.hid (show tagFault l s r vs = 3 by rw [HF.out, HI2.out]; rfl)
                clear HI2 CC
                go_wp2_with fail
                refine (CB.out _).mono ?_
                rintro e w2 ⟨rfl, hD⟩
                have HD2 := Lib.hid (HD1.out.trans hD)
                clear hD
                go_wp2_with fail
                go_ret
                exact ⟨ret_int HG.out.symm, blw_trans (blw_alloc w _) HD2.out.below⟩
              · cases D
                · have HG := Lib.hid (show vf [] vs = vf (vs.take (k + 1)) (vs.drop (k + 1)) by rw [HI2.out]; rfl)
                  clear HI2
                  go_wp2_with fail
                  refine (CB.out _).mono ?_
                  rintro e w2 ⟨rfl, hD⟩
                  have HD2 := Lib.hid (HD1.out.trans hD)
                  have HCR2 := Lib.hid (show ∀ (j : Nat) z, vs[j]? = some z → w2.cell? ⟨b, off + j, none⟩ = some (.string ⟨z.toArray⟩) from fun j z hz => cell_keep (HCR.out j z hz) hD.below)
                  clear hD k3 xc HD1
                  have xc := HCR2.out k x HX.out
                  have k3 := drew_cells HD2.out 3 _ rfl
                  go_wp2_with fail
                  go_big_quiet ((go_at_call 57; exact quiet_left (CC.out _ HCR2.out)))
                  go_wp2_with fail
                  go_roundw
                  case rel => exact ⟨k + 1, by go_num, by omega, Lib.hid (HD2.out.drewN _), HG⟩
                  case measure => simp [RowKit.intOf]; omega
                · have HG := Lib.hid (show tagFault l s r vs = 5 by rw [HF.out, HI2.out]; rfl)
                  clear HI2
                  go_wp2_with fail
                  refine (CB.out _).mono ?_
                  rintro e w2 ⟨rfl, hD⟩
                  have HD2 := Lib.hid (HD1.out.trans hD)
                  have HCR2 := Lib.hid (show ∀ (j : Nat) z, vs[j]? = some z → w2.cell? ⟨b, off + j, none⟩ = some (.string ⟨z.toArray⟩) from fun j z hz => cell_keep (HCR.out j z hz) hD.below)
                  clear hD k3 xc HD1
                  have xc := HCR2.out k x HX.out
                  have k3 := drew_cells HD2.out 3 _ rfl
                  go_wp2_with fail
                  go_big_quiet ((go_at_call 57; exact quiet_left (CC.out _ HCR2.out)))
                  go_wp2_with fail
                  go_ret
                  exact ⟨ret_int HG.out.symm, blw_trans (blw_alloc w _) (HD2.out.drewN _).below⟩
            · have HI2 := Lib.hid (show vf [] vs = if 3 < vs.length then 4 else 0 by rw [HI.out, List.take_of_length_le (by omega), List.drop_of_length_le (by omega)]; rfl)
              clear HI
              by_cases h3 : 3 < vs.length
              · have HG := Lib.hid (show tagFault l s r vs = 4 by rw [HF.out, HI2.out, if_pos h3])
                have q1 : decide ((3 : Int) < (vs.length : Int)) = true := dec_yes (by omega)
                clear HI2 HF
                go_wp2_with fail
                go_ret
                exact ⟨ret_int HG.out.symm, blw_trans (blw_alloc w _) HD1.out.below⟩
              · have HG := Lib.hid (show tagFault l s r vs = 0 by rw [HF.out, HI2.out, if_neg h3])
                have q1 : decide ((3 : Int) < (vs.length : Int)) = false := dec_no (by omega)
                clear HI2 HF
                go_wp2_with fail
                go_ret
                exact ⟨ret_int HG.out.symm, blw_trans (blw_alloc w _) HD1.out.below⟩
end Go.Proofs.YtlhleojigcnjeaaDoor
