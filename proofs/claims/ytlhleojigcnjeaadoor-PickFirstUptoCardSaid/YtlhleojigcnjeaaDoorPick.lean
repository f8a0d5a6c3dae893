/- The walk of pick.Pick. Conditions: the tags are of bulk at most 100000000, and at most 1000000000 of them. -/
import Derived.Test.YtlhleojigcnjeaaDoorPickLaw
namespace Go.Proofs.YtlhleojigcnjeaaDoor
open Go.RowKit

set_option maxRecDepth 100000 in
set_option maxHeartbeats 4000000 in
theorem pick_at (L M : List Tg) (A B : Option Addr) (ca cb : Nat) (w : World) (hn : L.length ≤ 1000000000) (hm : M.length ≤ 1000000000)
    (hL : TagsAt w (.slice A L.length ca) L) (hc : ∀ (j : Nat) t, L[j]? = some t → ∃ b off, A = some ⟨b, off, none⟩ ∧ TagCell w b (off + j * 4) t) (hb : ∀ x ∈ L, x.bulk ≤ 100000000)
    (hM : TagsAt w (.slice B M.length cb) M) (hbm : ∀ x ∈ M, x.bulk ≤ 100000000) :
    Calls Tryd.prog 23 #[.slice A L.length ca, .slice B M.length cb] w fun e w' => e = .returned (.tuple #[.int .i64 (pickI L M), errE (pickE L M)]) ∧ Below w.heap.size w w' := by
  have HL := Lib.hid hL
  have HM := Lib.hid hM
  have HC := Lib.hid hc
  have HBK := Lib.hid hb
  have CN := Lib.hid fun wx h => names_any L (.slice A L.length ca) wx h hn hb
  have CM := Lib.hid fun wx h => names_any M (.slice B M.length cb) wx h hm hbm
  have CC := Lib.hid fun (x : Tg) V wx hv hz (hx : x.bulk ≤ 100000000) => chain_any x.l x.s x.r x.vs V wx hv hz (by unfold Tg.bulk at hx; omega)
  have CT := Lib.hid fun (x : Tg) V wx hv hz (hx : x.bulk ≤ 100000000) => text_any x.l x.s x.r x.vs V wx hv hz (by unfold Tg.bulk at hx; omega)
  clear hL hM hc hb hbm
  by_cases hF : tfaults L = 0
  case neg =>
    rw [show pickE L M = tfaults L from if_neg hF, show pickI L M = 0 from if_neg fun h => hF h.1, errE_some hF]
    rw [errE_some hF] at CN
    generalize tfaults L = Fl at *
    go_enter Tryd.func23, Tryd.ntmps23
    go_wp2_with fail
    refine (CN.out _ HL.out).mono ?_
    rintro e w1 ⟨_, _, _, rfl, _, hb⟩
    go_wp2_with fail
    go_ret2
    exact ⟨rfl, hb⟩
  by_cases hG : tfaults M = 0
  case neg =>
    rw [show pickE L M = tfaults M from (if_pos hF).trans (if_neg hG), show pickI L M = 0 from if_neg fun h => hG h.2.1, errE_some hG]
    rw [errE_nil hF] at CN
    rw [errE_some hG] at CM
    generalize tfaults M = Gl at *
    go_enter Tryd.func23, Tryd.ntmps23
    go_wp2_with fail
    refine (CN.out _ HL.out).mono ?_
    rintro e w1 ⟨_, _, _, rfl, _, hb⟩
    have W1 := Lib.hid hb
    go_wp2_with fail
    refine (CM.out _ (HM.out.below W1.out)).mono ?_
    rintro e w2 ⟨_, _, _, rfl, _, hb2⟩
    go_wp2_with fail
    go_ret2
    exact ⟨rfl, blw_trans W1.out hb2⟩
  rw [errE_nil hF] at CN
  rw [errE_nil hG, namesOf_yes hG] at CM
  have HXF := Lib.hid (tfaults_ok hF)
  have HPE := Lib.hid (show (0 ≤ pickW (M.map Tg.txt) L → pickI L M = pickW (M.map Tg.txt) L ∧ pickE L M = 0) ∧ (¬ 0 ≤ pickW (M.map Tg.txt) L → pickI L M = 0 ∧ pickE L M = 2) from
    ⟨fun h => ⟨if_pos ⟨hF, hG, h⟩, (if_pos hF).trans ((if_pos hG).trans (if_pos h))⟩, fun h => ⟨if_neg fun g => h g.2.2, (if_pos hF).trans ((if_pos hG).trans (if_neg h))⟩⟩)
  generalize pickI L M = PI at *
  generalize pickE L M = PE at *
  generalize M.map Tg.txt = N at *
  clear hF hG
  go_enter Tryd.func23, Tryd.ntmps23
  go_wp2_with fail
  refine (CN.out _ HL.out).mono ?_
  rintro e w1 ⟨_, _, _, rfl, _, hb⟩
  have W1 := Lib.hid hb
  clear hb CN HL
  go_wp2_with fail
  refine (CM.out _ (HM.out.below W1.out)).mono ?_
  rintro e w2 ⟨na, nn, nc, rfl, hN, hb2⟩
  have W2 := Lib.hid (blw_trans W1.out hb2)
  have HN := Lib.hid hN
  clear hb2 hN W1 CM HM
  have CI := Lib.hid fun (x : List UInt8) wx h => index_any N (.slice na nn nc) x wx h
  go_wp2_with fail
  go_loopw [35] (fun i wr => ∃ k : Nat, i = .int .i64 k ∧ k ≤ L.length ∧ Hid (pickW N L = pickW N (L.drop k)) ∧ Hid (Below w2.heap.size w2 wr)) (fun i _ => L.length - (RowKit.intOf i).toNat)
  case atStart => exact ⟨0, rfl, Nat.zero_le _, Lib.hid rfl, Lib.hid (Below.refl _ _)⟩
  case round =>
    obtain ⟨k, rfl, hk, HP, HB⟩ := hrel
    by_cases hlt : k < L.length
    · obtain ⟨x, hx⟩ : ∃ x, L[k]? = some x := ⟨L[k], List.getElem?_eq_getElem hlt⟩
      obtain ⟨b, off, rfl, hcell⟩ := HC.out k x hx
      have hxm := List.mem_of_getElem? hx
      have hxb := HBK.out x hxm
      obtain ⟨xa, xn, xc, x0, x1, x2, x3, xs, xz⟩ := (hcell.below W2.out).below HB.out
      have HXS := Lib.hid xs
      have CX := Lib.hid fun wx hv => CC.out x (.slice xa xn xc) wx hv xz hxb
      rw [show tagFault x.l x.s x.r x.vs = 0 from HXF.out x hxm, errE_nil rfl, if_pos rfl] at CX
      have HPW := Lib.hid (HP.out.trans (pickW_step hx))
      have HCB := Lib.hid (show ∀ y ∈ x.chain, y.bulk ≤ 100000000 from fun y hy => Nat.le_trans (chain_bulk _ x rfl y hy) hxb)
      have HCL := Lib.hid (show x.chain.length ≤ 1000000010 from by
        have h := (chain_small _ x rfl).1
        have a1 : (one x.s).length ≤ 1 := by unfold one; split <;> simp
        have a2 : (one x.r).length ≤ 1 := by unfold one; split <;> simp
        have e : x.size = (one x.s).length + ((one x.r).length + x.vs.length) := rfl
        unfold Tg.bulk at hxb
        omega)
      rw [show (⟨x.l, x.s, x.r, x.vs⟩ : Tg) = x from rfl] at CX
      generalize x.chain = C at *
      clear hx xs xz hcell CC HP
      go_wp2_with fail
      refine (CX.out _ (HXS.out.alloc _)).mono ?_
      rintro e w3 ⟨da, dn, dc, rfl, hD, hb3⟩
      have W3 := Lib.hid (blw_trans (HB.out.alloc HB.out.size (.cells (tcells x (.slice xa xn xc)).toArray 24)) hb3)
      obtain ⟨D, dcap, ed, hdc⟩ := hD.spread
      injection ed with e1 e2 e3
      subst e1 e2 e3
      have HD := Lib.hid hdc
      have hcl := HCL.out
      clear hD hdc hb3 CX HXS x0 x1 x2 x3 HB
      go_wp2_with fail
      go_loopw [49] (fun i wr => ∃ j : Nat, i = .int .i64 j ∧ j ≤ C.length ∧ Hid (pickC N C = pickC N (C.drop j)) ∧ Hid (Below w3.heap.size w3 wr)) (fun i _ => C.length - (RowKit.intOf i).toNat)
      case atStart => exact ⟨0, rfl, Nat.zero_le _, Lib.hid rfl, Lib.hid (Below.refl _ _)⟩
      case round =>
        obtain ⟨j, rfl, hj, HQ, HB2⟩ := hrel
        by_cases hjt : j < C.length
        · obtain ⟨y, hy⟩ : ∃ y, C[j]? = some y := ⟨C[j], List.getElem?_eq_getElem hjt⟩
          obtain ⟨b2, off2, rfl, hcell2⟩ := HD.out j y hy
          have hyb := HCB.out y (List.mem_of_getElem? hy)
          obtain ⟨ya, yn, yc, y0, y1, y2, y3, ys, yz⟩ := hcell2.below HB2.out
          have HYS := Lib.hid ys
          have CY := Lib.hid fun wx hv => CT.out y (.slice ya yn yc) wx hv yz hyb
          have HPC := Lib.hid (HQ.out.trans (pickC_step hy))
          rw [show y.txt = tagText y.l y.s y.r y.vs from rfl] at HPC
          have CJ := Lib.hid fun wx h => CI.out (tagText y.l y.s y.r y.vs) wx h
          have HNR := Lib.hid ((HN.out.below W3.out).below HB2.out)
          clear hy ys yz hcell2 CT HQ CI
          generalize tagText y.l y.s y.r y.vs = X at *
          go_wp2_with fail
          refine (CY.out _ (HYS.out.alloc _)).mono ?_
          rintro e w4 ⟨rfl, hb4⟩
          have HB4 := Lib.hid (blw_trans (HB2.out.alloc HB2.out.size (.cells (tcells y (.slice ya yn yc)).toArray 24)) hb4)
          have HN4 := Lib.hid ((HNR.out.alloc (.cells (tcells y (.slice ya yn yc)).toArray 24)).below hb4)
          clear hb4 y0 y1 y2 y3 HYS HNR HB2 CY
          go_wp2_with fail
          refine (CJ.out _ HN4.out).mono ?_
          rintro e w5 ⟨rfl, rfl⟩
          clear HN4 CJ
          by_cases hfi : 0 ≤ fi X 0 N
          · have HR := Lib.hid (show PI = fi X 0 N ∧ PE = 0 from by
              have h1 : pickC N C = fi X 0 N := HPC.out.trans (if_pos hfi)
              have h2 : pickW N L = fi X 0 N := HPW.out.trans ((if_pos (by rw [h1]; exact hfi)).trans h1)
              have h3 := HPE.out.1 (by rw [h2]; exact hfi)
              exact ⟨h3.1.trans h2, h3.2⟩)
            clear HPE HPC HPW
            generalize fi X 0 N = R at *
            go_wp2_with fail
            go_ret2
            exact ⟨by obtain ⟨e1, e2⟩ := HR.out; subst e1 e2; rfl, blw_trans W2.out (blw_trans W3.out HB4.out)⟩
          · have HQ' := Lib.hid (show pickC N C = pickC N (C.drop (j + 1)) from HPC.out.trans (if_neg hfi))
            have hfn := fi_neg hfi
            rw [hfn]
            clear HPE HPC HPW hfi hfn
            go_wp2_with fail
            go_roundw
            case rel => exact ⟨j + 1, by go_num, by omega, HQ', HB4⟩
            case measure => simp [RowKit.intOf]; omega
        · have HPW' := Lib.hid (show pickW N L = pickW N (L.drop (k + 1)) from by
            have h1 : pickC N C = -1 := by rw [HQ.out, List.drop_eq_nil_of_le (by omega)]; rfl
            exact HPW.out.trans (if_neg (by rw [h1]; omega)))
          have HBB := Lib.hid (blw_trans W3.out HB2.out)
          clear HPE HPW HQ HB2 W3
          go_wp2_with fail
          go_roundw
          case rel => exact ⟨k + 1, by go_num, by omega, HPW', HBB⟩
          case measure => simp [RowKit.intOf]; omega
    · have HR := Lib.hid (show PI = 0 ∧ PE = 2 from by
        have h1 : pickW N L = -1 := by rw [HP.out, List.drop_eq_nil_of_le (by omega)]; rfl
        exact HPE.out.2 (by rw [h1]; omega))
      clear HPE HP
      go_wp2_with fail
      go_ret2
      exact ⟨by obtain ⟨e1, e2⟩ := HR.out; subst e1 e2; rfl, blw_trans W2.out HB.out⟩
theorem pick_any (L M : List Tg) (va vb : Value) (w : World) (hL : TagsAt w va L) (hn : L.length ≤ 1000000000) (hb : ∀ x ∈ L, x.bulk ≤ 100000000)
    (hM : TagsAt w vb M) (hm : M.length ≤ 1000000000) (hbm : ∀ x ∈ M, x.bulk ≤ 100000000) :
    Calls Tryd.prog 23 #[va, vb] w fun e w' => e = .returned (.tuple #[.int .i64 (pickI L M), errE (pickE L M)]) ∧ Below w.heap.size w w' := by
  have hL' := hL
  have hM' := hM
  obtain ⟨A, ca, rfl, hc⟩ := hL.spread
  obtain ⟨B, cb, rfl, _⟩ := hM.spread
  exact pick_at L M A B ca cb w hn hm hL' hc hb hM' hbm
end Go.Proofs.YtlhleojigcnjeaaDoor
