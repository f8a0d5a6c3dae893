/- The walk of chain.Chain: the list is a row of the call's own. Condition: the tag is of bulk at most 100000000. -/
import Derived.Test.YtghohnbajbikjaaGreatDoorTa1
namespace Go.Proofs.YtghohnbajbikjaaGreatDoor
open Go.RowKit

/-- the row v holds the tags A, and their variants lie elsewhere -/
def OwnT (base : Nat) (w : World) (v : Value) (A : List (Tg × Value)) : Prop := w.ownsRow base 29 4 v A.length (flat A) ∧ ∀ x ∈ A, StrsAt w x.2 x.1.vs ∧ Nil0 x.2 ∧ NotRow v.ownBlock x.2
set_option maxRecDepth 100000 in
set_option maxHeartbeats 4000000 in
theorem chain_own_nil (l s r : List UInt8) (w : World) (hV : StrsAt w (.slice none 0 0) []) (bt : l.length + s.length + r.length + Lib.lens ([] : List (List UInt8)) + ([] : List (List UInt8)).length ≤ 100000000) (hF : tagFault l s r [] = 0) :
    Calls Tryz.prog 7 #[.agg #[.string ⟨l.toArray⟩, .string ⟨s.toArray⟩, .string ⟨r.toArray⟩, .slice none 0 0]] w fun e w' => ∃ A ao co, e = .returned (.tuple #[.slice ao (List.length A) co, .nilIface]) ∧ A.map (·.1) = (⟨l, s, r, []⟩ : Tg).chain ∧ OwnT w.heap.size w' (.slice ao A.length co) A ∧ Below w.heap.size w w' := by
  obtain ⟨vs, hvs⟩ : ∃ vs : List (List UInt8), vs = [] := ⟨_, rfl⟩
  rw [← hvs] at hV bt hF ⊢
  obtain ⟨i0, hi, hz0, hz1, hz2⟩ := info_parts infoStr
  obtain ⟨iT, hiT, hT0, hT1, hT2⟩ := info_parts infoTag
  have CK := Lib.hid fun wx h => check_any l s r vs (.slice none 0 0) wx h (by omega) (fun x hx => by have := lens_mem hx; omega)
  rw [hF, errE_nil rfl] at CK
  have LC := Lib.hid fun t V w h h0 hl => less_any t V w h h0 hl
  have bvs : vs.length ≤ 1000000000 := by omega
  have HCS0 := Lib.hid (chain_small _ (⟨l, s, r, vs⟩ : Tg) rfl)
  have hszT : (⟨l, s, r, vs⟩ : Tg).size ≤ 1000000005 := by
    have a1 : (one s).length ≤ 1 := by unfold one; split <;> simp
    have a2 : (one r).length ≤ 1 := by unfold one; split <;> simp
    show (one s).length + ((one r).length + vs.length) ≤ _
    omega
  obtain ⟨t0, ht0⟩ : ∃ t0 : Tg, t0 = ⟨l, s, r, vs⟩ := ⟨_, rfl⟩
  have HT0 := Lib.hid (show t0.chain = (⟨l, s, r, vs⟩ : Tg).chain by rw [ht0])
  have HCS := Lib.hid (show t0.chain.length ≤ 1000000006 ∧ ∀ x ∈ t0.chain, x.vs.length ≤ vs.length by rw [ht0]; exact ⟨Nat.le_trans HCS0.out.1 (by omega), HCS0.out.2⟩)
  have bvs0 := bvs
  have HV0 := Lib.hid hV
  clear ht0 HCS0 hF hV
  go_enter Tryz.func7, Tryz.ntmps7
  go_wp2_with fail
  refine (CK.out _ (HV0.out.alloc _)).mono ?_
  rintro e w1 ⟨rfl, hb⟩
  have W1 := Lib.hid (blw_trans (blw_alloc w (.cells #[.string ⟨l.toArray⟩, .string ⟨s.toArray⟩, .string ⟨r.toArray⟩, .slice none 0 0] 29)) hb)
  have B1 := Lib.hid ((Boxed.made w #[.string ⟨l.toArray⟩, .string ⟨s.toArray⟩, .string ⟨r.toArray⟩, .slice none 0 0] 29).below hb)
  have hsz1 := hb.size
  rw [show (w.alloc (.cells #[.string ⟨l.toArray⟩, .string ⟨s.toArray⟩, .string ⟨r.toArray⟩, .slice none 0 0] 29)).heap.size = w.heap.size + 1 by simp] at hsz1
  clear hb CK
  have k0 := B1.out.cell 0 _ rfl
  have k1 := B1.out.cell 1 _ rfl
  have k2 := B1.out.cell 2 _ rfl
  have k3 := B1.out.cell 3 _ rfl
  have f3 := B1.out.free 3 (by simp)
  have S4 := Lib.hid (show Below w.heap.size w (w1.setCell ⟨w.heap.size, 3, none⟩ (.slice none 0 0)) ∧ StrsAt (w1.setCell ⟨w.heap.size, 3, none⟩ (.slice none 0 0)) (.slice none 0 0) vs ∧ Nil0 (.slice none 0 0) from
    ⟨W1.out.setCell (Nat.le_refl _) _, .inl ⟨hvs, none, 0, rfl⟩, fun n c e => by injection e with _ _ e; exact e.symm⟩)
  clear hvs
  have hl1 : w.heap.size < w1.heap.size := by omega
  have ne1 : ¬ w.heap.size = w1.heap.size := by omega
  have ne2 : ¬ w1.heap.size = w.heap.size := by omega
  go_wp2_with (at_builtin; refine wpList_append_own_none rfl _ _ 27 rfl (w.heap.size + 1) 9 i0 1 Tryz.underlying27 hi _ 0 [] rfl ⟨rfl, .inl ⟨rfl, rfl⟩⟩ rfl ?_)
  refine (LC.out ⟨l, s, r, vs⟩ (.slice none 0 0) _ (S4.out.2.1.alloc _) S4.out.2.2 bvs).mono ?_
  rintro e w6 ⟨a2, n2, c2, rfl, hs2, hz2', hf2, hb2⟩
  have M0 := Lib.hid (ChM.start S4.out.1 ⟨l, s, r, vs⟩ (.slice none 0 0) S4.out.2.1 S4.out.2.2 _ _ hb2 hs2 hz2' hf2)
  rw [size_setCell] at M0
  have HC0 := Lib.hid (show t0.chain = [((⟨l, s, r, vs⟩ : Tg), Value.slice none 0 0)].map (·.1) ++ (if (⟨l, s, r, vs⟩ : Tg).less.isSome then ((⟨l, s, r, vs⟩ : Tg).less.getD ⟨l, s, r, vs⟩).chain else []) by rw [HT0.out]; exact chain_step _)
  clear hs2 hz2' hf2 hb2 S4
  generalize (⟨l, s, r, vs⟩ : Tg).less.isSome = is0 at *
  generalize (⟨l, s, r, vs⟩ : Tg).less.getD ⟨l, s, r, vs⟩ = u0 at *
  go_wp2_with fail
  go_loopw [5, 6, 7] (fun o p b wr => ∃ (A : List (Tg × Value)) (pp : Nat) (c : Tg) (a : Option Addr) (n cp : Nat) (ao : Option Addr) (co : Nat) (is : Bool), o = .slice ao A.length co ∧ p = .pointer (some ⟨pp, 0, none⟩) ∧ b = .bool is ∧ Hid (ChM w wr (.slice ao A.length co) A pp c (.slice a n cp)) ∧ Hid (t0.chain = A.map (·.1) ++ (if is then c.chain else []))) (fun o _ _ _ => t0.chain.length - lenV o)
  case atStart => exact ⟨[(⟨l, s, r, vs⟩, .slice none 0 0)], w6.heap.size, u0, a2, n2, c2, _, 1, is0, rfl, rfl, rfl, M0, HC0⟩
  case round =>
    obtain ⟨A, pp, c, a, n, cp, ao, co, is, rfl, rfl, rfl, HM, HC⟩ := hrel
    clear M0 HC0
    cases is with
    | false =>
      have HE := Lib.hid (show t0.chain = A.map (·.1) by rw [HC.out]; simp)
      go_wp2_with fail
      go_ret2
      exact ⟨A, _, _, rfl, by rw [← HT0.out, HE.out], ⟨HM.out.own, fun x hx => HM.out.all x (List.mem_cons_of_mem _ hx)⟩, HM.out.bel⟩
    | true =>
      have hcl : A.length < t0.chain.length := by
        have e := congrArg List.length HC.out
        rw [List.length_append, List.length_map, if_pos rfl, chain_step c] at e
        rw [e]; simp
      have hcv : c.vs.length ≤ 1000000000 := Nat.le_trans (HCS.out.2 c (by rw [HC.out, if_pos rfl]; exact List.mem_append_right _ (chain_self c))) bvs0
      have hal : A.length ≤ 1000000010 := by have := HCS.out.1; omega
      have HC' := Lib.hid (show t0.chain = (A ++ [(c, Value.slice a n cp)]).map (·.1) ++ (if c.less.isSome then (c.less.getD c).chain else []) from chain_turn _ HC.out)
      have hbs := HM.out.bel.size
      have own := HM.out.own
      have k0 := HM.out.box.t0
      have k1 := HM.out.box.t1
      have k2 := HM.out.box.t2
      have k3 := HM.out.box.t3
      clear HC
      go_wp2_with (at_builtin; refine wpList_append_own_at _ rfl _ _ 33 rfl w.heap.size 29 iT _ 4 72 Tryz.underlying33 hiT hT0 hT1 hT2 rfl (by decide) _ A.length (flat A) rfl (own.alloc _) ⟨wr.heap.size, 0, none⟩ 1 1 (tcells c (.slice a n cp)) rfl rfl (cells_new _ _ _) (tcells_one _ _ _ _) (by unfold maxLen; omega) (by omega) (by simp; omega) ?_; intro o' w2 hown hgrow _ hat; have M2 := Lib.hid (HM.out.mid hown hgrow hat); obtain ⟨ao', co', rfl⟩ := row_slice hown; clear hown hgrow hat own k0 k1 k2 k3; have k0 := M2.out.box.t0; have k1 := M2.out.box.t1; have k2 := M2.out.box.t2; have k3 := M2.out.box.t3)
      refine (LC.out c (.slice a n cp) _ ((M2.out.all _ (List.mem_cons_self ..)).1.alloc _) (M2.out.all _ (List.mem_cons_self ..)).2.1 hcv).mono ?_
      rintro e w3 ⟨a3, n3, c3, rfl, hs3, hz3, hf3, hb3⟩
      have N3 := Lib.hid (M2.out.next _ (.slice a3 n3 c3) hb3 hs3 hz3 hf3)
      have B3 := Lib.hid ((Boxed.made w2 (tcells c (.slice a n cp)).toArray 29).below hb3)
      clear k0 k1 k2 k3 hs3 hz3 hf3 hb3 HM M2
      have f0 := B3.out.free 0 (by simp [tcells])
      have f1 := B3.out.free 1 (by simp [tcells])
      have f2 := B3.out.free 2 (by simp [tcells])
      have f3 := B3.out.free 3 (by simp [tcells])
      have k0 := B3.out.t0
      have k1 := B3.out.t1
      have k2 := B3.out.t2
      have k3 := B3.out.t3
      generalize c.less.isSome = is1 at *
      generalize c.less.getD c = u1 at *
      go_wp2_with fail
      go_roundw
      case rel => exact ⟨A ++ [(c, .slice a n cp)], w2.heap.size, u1, a3, n3, c3, ao', co', is1, by rw [List.length_append, List.length_singleton], rfl, rfl, Lib.hid (by have q := N3.out; rw [List.length_append, List.length_singleton]; exact q), HC'⟩
      case measure => simp [lenV]; omega

set_option maxRecDepth 100000 in
set_option maxHeartbeats 4000000 in
theorem chain_own_some (l s r : List UInt8) (vs : List (List UInt8)) (ad : Addr) (cap : Nat) (w : World) (hV : StrsAt w (.slice (some ad) vs.length cap) vs) (bt : l.length + s.length + r.length + Lib.lens vs + vs.length ≤ 100000000) (hF : tagFault l s r vs = 0) :
    Calls Tryz.prog 7 #[.agg #[.string ⟨l.toArray⟩, .string ⟨s.toArray⟩, .string ⟨r.toArray⟩, .slice (some ad) vs.length cap]] w fun e w' => ∃ A ao co, e = .returned (.tuple #[.slice ao (List.length A) co, .nilIface]) ∧ A.map (·.1) = (⟨l, s, r, vs⟩ : Tg).chain ∧ OwnT w.heap.size w' (.slice ao A.length co) A ∧ Below w.heap.size w w' := by
  obtain ⟨i0, hi, hz0, hz1, hz2⟩ := info_parts infoStr
  obtain ⟨iT, hiT, hT0, hT1, hT2⟩ := info_parts infoTag
  have CK := Lib.hid fun wx h => check_any l s r vs (.slice (some ad) vs.length cap) wx h (by omega) (fun x hx => by have := lens_mem hx; omega)
  rw [hF, errE_nil rfl] at CK
  have LC := Lib.hid fun t V w h h0 hl => less_any t V w h h0 hl
  have bvs : vs.length ≤ 1000000000 := by omega
  have HCS0 := Lib.hid (chain_small _ (⟨l, s, r, vs⟩ : Tg) rfl)
  have hszT : (⟨l, s, r, vs⟩ : Tg).size ≤ 1000000005 := by
    have a1 : (one s).length ≤ 1 := by unfold one; split <;> simp
    have a2 : (one r).length ≤ 1 := by unfold one; split <;> simp
    show (one s).length + ((one r).length + vs.length) ≤ _
    omega
  obtain ⟨t0, ht0⟩ : ∃ t0 : Tg, t0 = ⟨l, s, r, vs⟩ := ⟨_, rfl⟩
  have HT0 := Lib.hid (show t0.chain = (⟨l, s, r, vs⟩ : Tg).chain by rw [ht0])
  have HCS := Lib.hid (show t0.chain.length ≤ 1000000006 ∧ ∀ x ∈ t0.chain, x.vs.length ≤ vs.length by rw [ht0]; exact ⟨Nat.le_trans HCS0.out.1 (by omega), HCS0.out.2⟩)
  have bvs0 := bvs
  have HV0 := Lib.hid hV
  clear ht0 HCS0 hF hV
  have HNW := Lib.hid (show ∀ wx, Below w.heap.size w wx → ∀ (j : Nat) u, (vs.map txtV)[j]? = some u → wx.cell? (ad.add j) = some u from fun wx hb j u hu => by
    rcases HV0.out.open with ⟨_, e, _⟩ | ⟨ad', cap', e, hc⟩
    · cases e
    · injection e with e _ _
      injection e with e
      subst e
      exact cell_keep (hc j u hu) hb)
  have HLN := Lib.hid (show (vs.map txtV).length = vs.length * 1 by rw [List.length_map, Nat.mul_one])
  go_enter Tryz.func7, Tryz.ntmps7
  go_wp2_with fail
  refine (CK.out _ (HV0.out.alloc _)).mono ?_
  rintro e w1 ⟨rfl, hb⟩
  have W1 := Lib.hid (blw_trans (blw_alloc w (.cells #[.string ⟨l.toArray⟩, .string ⟨s.toArray⟩, .string ⟨r.toArray⟩, .slice (some ad) vs.length cap] 29)) hb)
  have B1 := Lib.hid ((Boxed.made w #[.string ⟨l.toArray⟩, .string ⟨s.toArray⟩, .string ⟨r.toArray⟩, .slice (some ad) vs.length cap] 29).below hb)
  have hsz1 := hb.size
  rw [show (w.alloc (.cells #[.string ⟨l.toArray⟩, .string ⟨s.toArray⟩, .string ⟨r.toArray⟩, .slice (some ad) vs.length cap] 29)).heap.size = w.heap.size + 1 by simp] at hsz1
  clear hb CK
  have k0 := B1.out.cell 0 _ rfl
  have k1 := B1.out.cell 1 _ rfl
  have k2 := B1.out.cell 2 _ rfl
  have k3 := B1.out.cell 3 _ rfl
  have f3 := B1.out.free 3 (by simp)
  go_wp2_with (at_builtin; refine wpList_append_own_at _ rfl _ _ 27 rfl (w.heap.size + 1) 9 i0 (.string ByteArray.empty) 1 16 Tryz.underlying27 hi hz0 hz1 hz2 rfl (by decide) (.slice none 0 0) 0 [] rfl ⟨rfl, .inl ⟨rfl, rfl⟩⟩ ad vs.length cap (vs.map txtV) rfl HLN.out (HNW.out _ W1.out) (fun x hx => by obtain ⟨y, _, rfl⟩ := List.mem_map.1 hx; rfl) (by unfold maxLen; omega) (by omega) hsz1 ?_; intro v' w2 hown hgrow _ _; have hg2 := (show World.grownBy _ _ none from hgrow); have HOW := Lib.hid hown; have B2 := Lib.hid (B1.out.grown hg2 (by simp)); have W2 := Lib.hid (W1.out.grown hg2 (by omega) (fun k hk => by cases hk)); have HN7 := Lib.hid (Nil0.of_row HOW.out); have HF7 := Lib.hid (FarV.of_row HOW.out); have HV7 := Lib.hid (show StrsAt w2 v' vs from StrsAt.of_row (by have h7 := HOW.out; rw [List.nil_append] at h7; exact h7)); clear hown hgrow hg2 HOW B1 W1 k0 k1 k2 k3 f3; obtain ⟨x0, n0, cp0, rfl⟩ := HV7.out.isSlice; have k0 := B2.out.cell 0 _ rfl; have k1 := B2.out.cell 1 _ rfl; have k2 := B2.out.cell 2 _ rfl; have k3 := B2.out.cell 3 _ rfl; have f3 := B2.out.free 3 (by simp); have hl2 := B2.out.lt; have ne1 : ¬ w.heap.size = w2.heap.size := (by omega); have ne2 : ¬ w2.heap.size = w.heap.size := (by omega); have S4 := Lib.hid (show Below w.heap.size w (w2.setCell ⟨w.heap.size, 3, none⟩ (.slice x0 n0 cp0)) ∧ StrsAt (w2.setCell ⟨w.heap.size, 3, none⟩ (.slice x0 n0 cp0)) (.slice x0 n0 cp0) vs ∧ Nil0 (.slice x0 n0 cp0) from ⟨W2.out.setCell (Nat.le_refl _) _, HV7.out.setCell HF7.out _ (by show w.heap.size < w.heap.size + 1; omega) _, HN7.out⟩); clear HN7 HF7 HV7 W2)
  refine (LC.out ⟨l, s, r, vs⟩ (.slice x0 n0 cp0) _ (S4.out.2.1.alloc _) S4.out.2.2 bvs).mono ?_
  rintro e w6 ⟨a2, n2, c2, rfl, hs2, hz2', hf2, hb2⟩
  have M0 := Lib.hid (ChM.start S4.out.1 ⟨l, s, r, vs⟩ (.slice x0 n0 cp0) S4.out.2.1 S4.out.2.2 _ _ hb2 hs2 hz2' hf2)
  rw [size_setCell] at M0
  have HC0 := Lib.hid (show t0.chain = [((⟨l, s, r, vs⟩ : Tg), Value.slice x0 n0 cp0)].map (·.1) ++ (if (⟨l, s, r, vs⟩ : Tg).less.isSome then ((⟨l, s, r, vs⟩ : Tg).less.getD ⟨l, s, r, vs⟩).chain else []) by rw [HT0.out]; exact chain_step _)
  clear hs2 hz2' hf2 hb2 S4
  generalize (⟨l, s, r, vs⟩ : Tg).less.isSome = is0 at *
  generalize (⟨l, s, r, vs⟩ : Tg).less.getD ⟨l, s, r, vs⟩ = u0 at *
  go_wp2_with fail
  go_loopw [5, 6, 7] (fun o p b wr => ∃ (A : List (Tg × Value)) (pp : Nat) (c : Tg) (a : Option Addr) (n cp : Nat) (ao : Option Addr) (co : Nat) (is : Bool), o = .slice ao A.length co ∧ p = .pointer (some ⟨pp, 0, none⟩) ∧ b = .bool is ∧ Hid (ChM w wr (.slice ao A.length co) A pp c (.slice a n cp)) ∧ Hid (t0.chain = A.map (·.1) ++ (if is then c.chain else []))) (fun o _ _ _ => t0.chain.length - lenV o)
  case atStart => exact ⟨[(⟨l, s, r, vs⟩, .slice x0 n0 cp0)], w6.heap.size, u0, a2, n2, c2, _, 1, is0, rfl, rfl, rfl, M0, HC0⟩
  case round =>
    obtain ⟨A, pp, c, a, n, cp, ao, co, is, rfl, rfl, rfl, HM, HC⟩ := hrel
    clear M0 HC0
    cases is with
    | false =>
      have HE := Lib.hid (show t0.chain = A.map (·.1) by rw [HC.out]; simp)
      go_wp2_with fail
      go_ret2
      exact ⟨A, _, _, rfl, by rw [← HT0.out, HE.out], ⟨HM.out.own, fun x hx => HM.out.all x (List.mem_cons_of_mem _ hx)⟩, HM.out.bel⟩
    | true =>
      have hcl : A.length < t0.chain.length := by
        have e := congrArg List.length HC.out
        rw [List.length_append, List.length_map, if_pos rfl, chain_step c] at e
        rw [e]; simp
      have hcv : c.vs.length ≤ 1000000000 := Nat.le_trans (HCS.out.2 c (by rw [HC.out, if_pos rfl]; exact List.mem_append_right _ (chain_self c))) bvs0
      have hal : A.length ≤ 1000000010 := by have := HCS.out.1; omega
      have HC' := Lib.hid (show t0.chain = (A ++ [(c, Value.slice a n cp)]).map (·.1) ++ (if c.less.isSome then (c.less.getD c).chain else []) from chain_turn _ HC.out)
      have hbs := HM.out.bel.size
      have own := HM.out.own
      have k0 := HM.out.box.t0
      have k1 := HM.out.box.t1
      have k2 := HM.out.box.t2
      have k3 := HM.out.box.t3
      clear HC
      go_wp2_with (at_builtin; refine wpList_append_own_at _ rfl _ _ 33 rfl w.heap.size 29 iT _ 4 72 Tryz.underlying33 hiT hT0 hT1 hT2 rfl (by decide) _ A.length (flat A) rfl (own.alloc _) ⟨wr.heap.size, 0, none⟩ 1 1 (tcells c (.slice a n cp)) rfl rfl (cells_new _ _ _) (tcells_one _ _ _ _) (by unfold maxLen; omega) (by omega) (by simp; omega) ?_; intro o' w2 hown hgrow _ hat; have M2 := Lib.hid (HM.out.mid hown hgrow hat); obtain ⟨ao', co', rfl⟩ := row_slice hown; clear hown hgrow hat own k0 k1 k2 k3; have k0 := M2.out.box.t0; have k1 := M2.out.box.t1; have k2 := M2.out.box.t2; have k3 := M2.out.box.t3)
      refine (LC.out c (.slice a n cp) _ ((M2.out.all _ (List.mem_cons_self ..)).1.alloc _) (M2.out.all _ (List.mem_cons_self ..)).2.1 hcv).mono ?_
      rintro e w3 ⟨a3, n3, c3, rfl, hs3, hz3, hf3, hb3⟩
      have N3 := Lib.hid (M2.out.next _ (.slice a3 n3 c3) hb3 hs3 hz3 hf3)
      have B3 := Lib.hid ((Boxed.made w2 (tcells c (.slice a n cp)).toArray 29).below hb3)
      clear k0 k1 k2 k3 hs3 hz3 hf3 hb3 HM M2
      have f0 := B3.out.free 0 (by simp [tcells])
      have f1 := B3.out.free 1 (by simp [tcells])
      have f2 := B3.out.free 2 (by simp [tcells])
      have f3 := B3.out.free 3 (by simp [tcells])
      have k0 := B3.out.t0
      have k1 := B3.out.t1
      have k2 := B3.out.t2
      have k3 := B3.out.t3
      generalize c.less.isSome = is1 at *
      generalize c.less.getD c = u1 at *
      go_wp2_with fail
      go_roundw
      case rel => exact ⟨A ++ [(c, .slice a n cp)], w2.heap.size, u1, a3, n3, c3, ao', co', is1, by rw [List.length_append, List.length_singleton], rfl, rfl, Lib.hid (by have q := N3.out; rw [List.length_append, List.length_singleton]; exact q), HC'⟩
      case measure => simp [lenV]; omega

/-- chain.Chain of a tag that is right -/
theorem chain_own (t : Tg) (V : Value) (w : World) (hV : StrsAt w V t.vs) (h0 : Nil0 V) (bt : t.l.length + t.s.length + t.r.length + Lib.lens t.vs + t.vs.length ≤ 100000000) (hF : t.fault = 0) :
    Calls Tryz.prog 7 #[.agg #[.string ⟨t.l.toArray⟩, .string ⟨t.s.toArray⟩, .string ⟨t.r.toArray⟩, V]] w fun e w' => ∃ A ao co, e = .returned (.tuple #[.slice ao (List.length A) co, .nilIface]) ∧ A.map (·.1) = t.chain ∧ OwnT w.heap.size w' (.slice ao A.length co) A ∧ Below w.heap.size w w' := by
  obtain ⟨l, s, r, vs⟩ := t
  have hV' := hV
  rcases hV.open with ⟨cap, rfl, e⟩ | ⟨ad, cap, rfl, _⟩
  · dsimp only at e
    subst e
    obtain rfl := h0 _ _ rfl
    exact chain_own_nil l s r w hV' bt hF
  · exact chain_own_some l s r vs ad cap w hV' bt hF
end Go.Proofs.YtghohnbajbikjaaGreatDoor
