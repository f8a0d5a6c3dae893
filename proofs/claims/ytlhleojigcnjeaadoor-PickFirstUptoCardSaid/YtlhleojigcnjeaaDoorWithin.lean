/- The walk of chain.Within. Condition: the tags are of bulk at most 100000000. -/
import Derived.Test.YtlhleojigcnjeaaDoorChainW
namespace Go.Proofs.YtlhleojigcnjeaaDoor
open Go.RowKit

def Tg.bulk (t : Tg) : Nat := t.l.length + t.s.length + t.r.length + Lib.lens t.vs + t.vs.length
theorem lens_take (k : Nat) : ∀ l : List (List UInt8), Lib.lens (l.take k) ≤ Lib.lens l := fun l => by
  have h : Lib.lens (l.take k ++ l.drop k) = Lib.lens (l.take k) + Lib.lens (l.drop k) := by unfold Lib.lens; rw [List.map_append, List.sum_append]
  rw [List.take_append_drop] at h
  omega
theorem less_bulk {t u : Tg} (h : t.less = some u) : u.bulk ≤ t.bulk := by
  unfold Tg.less at h
  split at h
  · obtain rfl := Option.some.inj h
    have := lens_take (t.vs.length - 1) t.vs
    simp only [Tg.bulk, List.length_take]; omega
  · split at h
    · split at h
      · cases h
      · obtain rfl := Option.some.inj h
        simp only [Tg.bulk, List.length_nil]; omega
    · obtain rfl := Option.some.inj h
      simp only [Tg.bulk, List.length_nil]; omega
theorem chain_bulk : ∀ (n : Nat) (t : Tg), t.size = n → ∀ x ∈ t.chain, x.bulk ≤ t.bulk
  | n, t, hn => fun x hx => by
    cases e : t.less with
    | none =>
      rw [chain_none e] at hx
      rw [List.mem_singleton.1 hx]; exact Nat.le_refl _
    | some u =>
      have hs := less_size e
      rw [chain_some e] at hx
      rcases List.mem_cons.1 hx with rfl | hx
      · exact Nat.le_refl _
      · cases n with
        | zero => omega
        | succ n => exact Nat.le_trans (chain_bulk n u (by omega) x hx) (less_bulk e)
theorem any_take {L : List Tg} {p : Tg → Bool} {k : Nat} {x : Tg} (h : L[k]? = some x) : (L.take (k + 1)).any p = ((L.take k).any p || p x) := by
  rw [List.take_add_one, h]; simp

set_option maxRecDepth 100000 in
set_option maxHeartbeats 1000000 in
theorem within_f (l s r l2 s2 r2 : List UInt8) (vs : List (List UInt8)) (a a2 : Option Addr) (n c n2 c2 : Nat) (w : World) (hV : StrsAt w (.slice a n c) vs) (h0 : Nil0 (.slice a n c)) (bt : l.length + s.length + r.length + Lib.lens vs + vs.length ≤ 100000000) (hF : tagFault l s r vs ≠ 0) :
    Calls Tryd.prog 22 #[.agg #[.string ⟨l.toArray⟩, .string ⟨s.toArray⟩, .string ⟨r.toArray⟩, .slice a n c], .agg #[.string ⟨l2.toArray⟩, .string ⟨s2.toArray⟩, .string ⟨r2.toArray⟩, .slice a2 n2 c2]] w fun e w' => e = .returned (.tuple #[.bool false, errE (tagFault l s r vs)]) ∧ Below w.heap.size w w' := by
  have CC := Lib.hid fun wx h => chain_any l s r vs (.slice a n c) wx h h0 bt
  generalize tagFault l s r vs = Fl at *
  rw [errE_some hF] at CC ⊢
  go_enter Tryd.func22, Tryd.ntmps22
  go_wp2_with fail
  refine (CC.out _ (by exact (hV.alloc _).alloc _)).mono ?_
  rintro e w1 ⟨za, zn, zc, rfl, hL, hb⟩
  have W1 := Lib.hid (blw_trans (blw_trans (blw_alloc w (.cells #[.string ⟨l.toArray⟩, .string ⟨s.toArray⟩, .string ⟨r.toArray⟩, .slice a n c] 24)) (blw_alloc _ (.cells #[.string ⟨l2.toArray⟩, .string ⟨s2.toArray⟩, .string ⟨r2.toArray⟩, .slice a2 n2 c2] 24))) hb)
  have BB := Lib.hid (((Boxed.made (w.alloc (.cells #[.string ⟨l.toArray⟩, .string ⟨s.toArray⟩, .string ⟨r.toArray⟩, .slice a n c] 24)) #[.string ⟨l2.toArray⟩, .string ⟨s2.toArray⟩, .string ⟨r2.toArray⟩, .slice a2 n2 c2] 24).at (q := w.heap.size + 1) (by simp)).below hb)
  clear hb hL BB
  go_wp2_with fail
  go_ret2
  exact ⟨rfl, W1.out⟩

set_option maxRecDepth 100000 in
set_option maxHeartbeats 1000000 in
theorem within_g (l s r l2 s2 r2 : List UInt8) (vs vs2 : List (List UInt8)) (a a2 : Option Addr) (n c n2 c2 : Nat) (w : World) (hV : StrsAt w (.slice a n c) vs) (h0 : Nil0 (.slice a n c)) (bt : l.length + s.length + r.length + Lib.lens vs + vs.length ≤ 100000000) (hV2 : StrsAt w (.slice a2 n2 c2) vs2) (bt2 : l2.length + s2.length + r2.length + Lib.lens vs2 + vs2.length ≤ 100000000) (hF : tagFault l s r vs = 0) (hG : tagFault l2 s2 r2 vs2 ≠ 0) :
    Calls Tryd.prog 22 #[.agg #[.string ⟨l.toArray⟩, .string ⟨s.toArray⟩, .string ⟨r.toArray⟩, .slice a n c], .agg #[.string ⟨l2.toArray⟩, .string ⟨s2.toArray⟩, .string ⟨r2.toArray⟩, .slice a2 n2 c2]] w fun e w' => e = .returned (.tuple #[.bool false, errE (tagFault l2 s2 r2 vs2)]) ∧ Below w.heap.size w w' := by
  have CK := Lib.hid fun wx (h : Below w.heap.size w wx) => check_any l2 s2 r2 vs2 (.slice a2 n2 c2) wx (hV2.below h) (by omega) (fun x hx => by have := lens_mem hx; omega)
  have CC := Lib.hid fun wx h => chain_any l s r vs (.slice a n c) wx h h0 bt
  rw [hF, errE_nil rfl] at CC
  generalize tagFault l2 s2 r2 vs2 = Gl at *
  rw [errE_some hG] at CK ⊢
  go_enter Tryd.func22, Tryd.ntmps22
  go_wp2_with fail
  refine (CC.out _ (by exact (hV.alloc _).alloc _)).mono ?_
  rintro e w1 ⟨za, zn, zc, rfl, hL, hb⟩
  have W1 := Lib.hid (blw_trans (blw_trans (blw_alloc w (.cells #[.string ⟨l.toArray⟩, .string ⟨s.toArray⟩, .string ⟨r.toArray⟩, .slice a n c] 24)) (blw_alloc _ (.cells #[.string ⟨l2.toArray⟩, .string ⟨s2.toArray⟩, .string ⟨r2.toArray⟩, .slice a2 n2 c2] 24))) hb)
  have BB := Lib.hid (((Boxed.made (w.alloc (.cells #[.string ⟨l.toArray⟩, .string ⟨s.toArray⟩, .string ⟨r.toArray⟩, .slice a n c] 24)) #[.string ⟨l2.toArray⟩, .string ⟨s2.toArray⟩, .string ⟨r2.toArray⟩, .slice a2 n2 c2] 24).at (q := w.heap.size + 1) (by simp)).below hb)
  have c0 := BB.out.cell 0 _ rfl
  have c1 := BB.out.cell 1 _ rfl
  have c2 := BB.out.cell 2 _ rfl
  have c3 := BB.out.cell 3 _ rfl
  clear hb hL
  go_wp2_with fail
  refine (CK.out _ W1.out).mono ?_
  rintro e w2 ⟨rfl, hb⟩
  go_wp2_with fail
  go_ret2
  exact ⟨rfl, blw_trans W1.out hb⟩

set_option maxRecDepth 100000 in
set_option maxHeartbeats 4000000 in
theorem within_ok (l s r l2 s2 r2 : List UInt8) (vs vs2 : List (List UInt8)) (a a2 : Option Addr) (n c n2 c2 : Nat) (w : World) (hV : StrsAt w (.slice a n c) vs) (h0 : Nil0 (.slice a n c)) (bt : l.length + s.length + r.length + Lib.lens vs + vs.length ≤ 100000000) (hV2 : StrsAt w (.slice a2 n2 c2) vs2) (bt2 : l2.length + s2.length + r2.length + Lib.lens vs2 + vs2.length ≤ 100000000) (hz2 : Nil0 (.slice a2 n2 c2)) (hF : tagFault l s r vs = 0) (hG : tagFault l2 s2 r2 vs2 = 0) :
    Calls Tryd.prog 22 #[.agg #[.string ⟨l.toArray⟩, .string ⟨s.toArray⟩, .string ⟨r.toArray⟩, .slice a n c], .agg #[.string ⟨l2.toArray⟩, .string ⟨s2.toArray⟩, .string ⟨r2.toArray⟩, .slice a2 n2 c2]] w fun e w' => e = .returned (.tuple #[.bool (inChain ⟨l, s, r, vs⟩ ⟨l2, s2, r2, vs2⟩), .nilIface]) ∧ Below w.heap.size w w' := by
  have CK := Lib.hid fun wx (h : Below w.heap.size w wx) => check_any l2 s2 r2 vs2 (.slice a2 n2 c2) wx (hV2.below h) (by omega) (fun x hx => by have := lens_mem hx; omega)
  have CY := Lib.hid fun wx (h : Below w.heap.size w wx) => text_any l2 s2 r2 vs2 (.slice a2 n2 c2) wx (hV2.below h) hz2 bt2
  have CX := Lib.hid fun (x : Tg) V wx hv hz (hx : x.bulk ≤ 100000000) => text_any x.l x.s x.r x.vs V wx hv hz (by unfold Tg.bulk at hx; omega)
  have CC := Lib.hid fun wx h => chain_any l s r vs (.slice a n c) wx h h0 bt
  rw [hF, errE_nil rfl, if_pos rfl] at CC
  rw [hG, errE_nil rfl] at CK
  have HBK := Lib.hid (show ∀ x ∈ (⟨l, s, r, vs⟩ : Tg).chain, x.bulk ≤ 100000000 from fun x hx => Nat.le_trans (chain_bulk _ _ rfl x hx) bt)
  have HI := Lib.hid (show inChain ⟨l, s, r, vs⟩ ⟨l2, s2, r2, vs2⟩ = (⟨l, s, r, vs⟩ : Tg).chain.any (fun x => x.txt == tagText l2 s2 r2 vs2) from rfl)
  have HNE := Lib.hid (show (⟨l, s, r, vs⟩ : Tg).chain ≠ [] by rw [chain_step]; simp)
  have HLN := Lib.hid (show (⟨l, s, r, vs⟩ : Tg).chain.length ≤ 1000000010 from by
    have h := (chain_small _ (⟨l, s, r, vs⟩ : Tg) rfl).1
    have a1 : (one s).length ≤ 1 := by unfold one; split <;> simp
    have a2 : (one r).length ≤ 1 := by unfold one; split <;> simp
    have e : (⟨l, s, r, vs⟩ : Tg).size = (one s).length + ((one r).length + vs.length) := rfl
    omega)
  generalize (⟨l, s, r, vs⟩ : Tg).chain = L at *
  generalize inChain ⟨l, s, r, vs⟩ ⟨l2, s2, r2, vs2⟩ = IC at *
  generalize tagText l2 s2 r2 vs2 = Y at *
  clear hF hG
  go_enter Tryd.func22, Tryd.ntmps22
  go_wp2_with fail
  refine (CC.out _ (by exact (hV.alloc _).alloc _)).mono ?_
  rintro e w1 ⟨za, zn, zc, rfl, hL, hb⟩
  have W1 := Lib.hid (blw_trans (blw_trans (blw_alloc w (.cells #[.string ⟨l.toArray⟩, .string ⟨s.toArray⟩, .string ⟨r.toArray⟩, .slice a n c] 24)) (blw_alloc _ (.cells #[.string ⟨l2.toArray⟩, .string ⟨s2.toArray⟩, .string ⟨r2.toArray⟩, .slice a2 n2 c2] 24))) hb)
  have BB := Lib.hid (((Boxed.made (w.alloc (.cells #[.string ⟨l.toArray⟩, .string ⟨s.toArray⟩, .string ⟨r.toArray⟩, .slice a n c] 24)) #[.string ⟨l2.toArray⟩, .string ⟨s2.toArray⟩, .string ⟨r2.toArray⟩, .slice a2 n2 c2] 24).at (q := w.heap.size + 1) (by simp)).below hb)
  rcases hL with ⟨e, _⟩ | ⟨b, off, cap, ev, hl0, hlc, hlm, hcell⟩
  · exact absurd e HNE.out
  injection ev with e1 e2 e3
  subst e1 e2 e3
  have c0 := BB.out.cell 0 _ rfl
  have c1 := BB.out.cell 1 _ rfl
  have c2 := BB.out.cell 2 _ rfl
  have c3 := BB.out.cell 3 _ rfl
  have HCL := Lib.hid hcell
  have hll := HLN.out
  clear hb hcell CC hlm
  go_wp2_with fail
  refine (CK.out _ W1.out).mono ?_
  rintro e w2 ⟨rfl, hb⟩
  have W2 := Lib.hid (blw_trans W1.out hb)
  have B2 := Lib.hid (BB.out.below hb)
  have HC2 := Lib.hid (show ∀ wx, Below w2.heap.size w2 wx → ∀ (j : Nat) t, L[j]? = some t → TagCell wx b (off + j * 4) t from fun wx hx j t ht => ((HCL.out j t ht).below hb).below hx)
  clear hb c0 c1 c2 c3 CK BB HCL W1 HNE
  have hlt2 : w.heap.size + 1 < w2.heap.size := B2.out.lt
  go_wp2_with fail
  go_loopw [26] (fun i wr => ∃ k : Nat, i = .int .i64 k ∧ k ≤ L.length ∧ Hid ((L.take k).any (fun x => x.txt == Y) = false) ∧ Hid (Below w2.heap.size w2 wr)) (fun i _ => L.length - (RowKit.intOf i).toNat)
  case atStart => exact ⟨0, rfl, Nat.zero_le _, Lib.hid rfl, Lib.hid (Below.refl _ _)⟩
  case round =>
    obtain ⟨k, rfl, hk, HA, HB⟩ := hrel
    by_cases hlt : k < L.length
    · obtain ⟨x, hx⟩ : ∃ x, L[k]? = some x := ⟨L[k], List.getElem?_eq_getElem hlt⟩
      have HX := Lib.hid (any_take (p := fun x => x.txt == Y) hx)
      have hxb := HBK.out x (List.mem_of_getElem? hx)
      obtain ⟨xa, xn, xc, x0, x1, x2, x3, xs, xz⟩ := HC2.out wr HB.out k x hx
      have HXS := Lib.hid xs
      have HXZ := Lib.hid xz
      have BR := Lib.hid (B2.out.below HB.out)
      have o0 := BR.out.cell 0 _ rfl
      have o1 := BR.out.cell 1 _ rfl
      have o2 := BR.out.cell 2 _ rfl
      have o3 := BR.out.cell 3 _ rfl
      have hwr := BR.out.lt
      have hsz := HB.out.size
      clear hx xs xz
      go_wp2_with fail
      refine wp_region_held_drew (S := fun w' => w'.cell? ⟨wr.heap.size, 0, none⟩ = some (.string ⟨x.l.toArray⟩) ∧ w'.cell? ⟨wr.heap.size, 1, none⟩ = some (.string ⟨x.s.toArray⟩) ∧ w'.cell? ⟨wr.heap.size, 2, none⟩ = some (.string ⟨x.r.toArray⟩) ∧ w'.cell? ⟨wr.heap.size, 3, none⟩ = some (.slice xa xn xc) ∧ w'.cell? ⟨w.heap.size + 1, 0, none⟩ = some (.string ⟨l2.toArray⟩) ∧ w'.cell? ⟨w.heap.size + 1, 1, none⟩ = some (.string ⟨s2.toArray⟩) ∧ w'.cell? ⟨w.heap.size + 1, 2, none⟩ = some (.string ⟨r2.toArray⟩) ∧ w'.cell? ⟨w.heap.size + 1, 3, none⟩ = some (.slice a2 n2 c2) ∧ Hid (StrsAt w' (.slice xa xn xc) x.vs) ∧ Hid (Below w2.heap.size w2 w')) (by kernel_rfl) (by exact ⟨by go_keep, by go_keep, by go_keep, by go_keep, by go_keep, by go_keep, by go_keep, by go_keep, Lib.hid (StrsAt.drewN (HXS.out.alloc _) 1), Lib.hid (Below.drew (HB.out.alloc hsz _))⟩) (fun hHeld => ?_)
      refine take_run (d := (some 30)) (v := ?v1) 0 rfl rfl (by kernel_rfl) (by kernel_rfl) (by kernel_rfl) (fun _ _ _ h => h) (by rfl) hHeld ?hy1 ?rs1
      case hy1 => (intro w hSw; (try dsimp only at hSw); go_simp) <;> (try with_reducible rfl)
      (try simp only [Act.put, List.setIfInBounds_toArray, List.set_cons_zero, List.set_cons_succ])
      refine take_run (d := (some 32)) (v := ?v2) 2 rfl rfl (by kernel_rfl) (by kernel_rfl) (by kernel_rfl) (fun _ _ _ h => h) (by rfl) hHeld ?hy2 ?rs2
      case hy2 => (intro w hSw; (try dsimp only at hSw); go_simp) <;> (try with_reducible rfl)
      (try simp only [Act.put, List.setIfInBounds_toArray, List.set_cons_zero, List.set_cons_succ])
      refine take_call 1 rfl (by kernel_rfl) (by rfl) (fun K hK => ?_)
      go_simp
      refine (CX.out x _ _ (by obtain ⟨_, _, _, _, _, _, _, _, h1, _⟩ := hHeld; exact h1.out) HXZ.out hxb).mono ?_
      rintro e w' ⟨rfl, hb⟩
      refine hK.out _ _ (by obtain ⟨h0, h1, h2, h3, h4, h5, h6, h7, h8, hw⟩ := hHeld; exact ⟨cell_keep h0 hb, cell_keep h1 hb, cell_keep h2 hb, cell_keep h3 hb, cell_keep h4 hb, cell_keep h5 hb, cell_keep h6 hb, cell_keep h7 hb, Lib.hid (h8.out.below hb), Lib.hid (blw_trans hw.out hb)⟩) (fun hHeld => ?_)
      clear hK K
      (try simp only [Act.put, List.setIfInBounds_toArray, List.set_cons_zero, List.set_cons_succ])
      refine take_call 3 rfl (by kernel_rfl) (by rfl) (fun K hK => ?_)
      go_simp
      refine (CY.out _ (by obtain ⟨_, _, _, _, _, _, _, _, _, h1⟩ := hHeld; exact blw_trans W2.out h1.out)).mono ?_
      rintro e w' ⟨rfl, hb⟩
      refine hK.out _ _ (by obtain ⟨h0, h1, h2, h3, h4, h5, h6, h7, h8, hw⟩ := hHeld; exact ⟨cell_keep h0 hb, cell_keep h1 hb, cell_keep h2 hb, cell_keep h3 hb, cell_keep h4 hb, cell_keep h5 hb, cell_keep h6 hb, cell_keep h7 hb, Lib.hid (h8.out.below hb), Lib.hid (blw_trans hw.out hb)⟩) (fun hHeld => ?_)
      clear hK K
      (try simp only [Act.put, List.setIfInBounds_toArray, List.set_cons_zero, List.set_cons_succ])
      refine take_run (d := (some 34)) (v := ?v5) 4 rfl rfl (by kernel_rfl) (by kernel_rfl) (by kernel_rfl) (fun _ _ _ h => h) (by rfl) hHeld ?hy5 ?rs5
      case hy5 => (intro w hSw; (try dsimp only at hSw); go_simp) <;> (try with_reducible rfl)
      (try simp only [Act.put, List.setIfInBounds_toArray, List.set_cons_zero, List.set_cons_succ])
      refine wpAnyH_done (by kernel_rfl) ?_ _
      obtain ⟨z0, z1, z2, z3, z4, z5, z6, z7, z8, zW⟩ := hHeld
      clear z0 z1 z2 z3 z4 z5 z6 z7 z8
      have HXT := Lib.hid (show x.txt = tagText x.l x.s x.r x.vs from rfl)
      by_cases hq : tagText x.l x.s x.r x.vs = Y
      · have qe : (tagText x.l x.s x.r x.vs == Y) = true := by rw [hq]; simp
        have HT := Lib.hid (show IC = true by
          rw [HI.out]
          have h1 : (L.take (k + 1)).any (fun x => x.txt == Y) = true := by rw [HX.out, HXT.out, qe]; simp
          obtain ⟨y, hy, e⟩ := List.any_eq_true.1 h1
          exact List.any_eq_true.2 ⟨y, List.mem_of_mem_take hy, e⟩)
        clear hq
        rw [qe]
        generalize tagText x.l x.s x.r x.vs = X at *
        go_wp2_with fail
        go_ret2
        exact ⟨by have e := HT.out; subst e; rfl, blw_trans W2.out zW.out⟩
      · have qe : (tagText x.l x.s x.r x.vs == Y) = false := beq_eq_false_iff_ne.2 hq
        have HA' := Lib.hid (show (L.take (k + 1)).any (fun x => x.txt == Y) = false by rw [HX.out, HXT.out, qe, HA.out]; rfl)
        clear hq
        rw [qe]
        generalize tagText x.l x.s x.r x.vs = X at *
        go_wp2_with fail
        go_roundw
        case rel => exact ⟨k + 1, by go_num, by omega, HA', zW⟩
        case measure => simp [RowKit.intOf]; omega
    · have HE := Lib.hid (show IC = false by
        rw [HI.out, ← List.take_of_length_le (l := L) (i := k) (by omega)]; exact HA.out)
      go_wp2_with fail
      go_ret2
      exact ⟨by have e := HE.out; subst e; rfl, blw_trans W2.out HB.out⟩

/-- chain.Within: the error of the one, or of the other; is one in the other's chain? -/
theorem within_any (t of : Tg) (V V2 : Value) (w : World) (hV : StrsAt w V t.vs) (h0 : Nil0 V) (bt : t.bulk ≤ 100000000) (hV2 : StrsAt w V2 of.vs) (hz2 : Nil0 V2) (bt2 : of.bulk ≤ 100000000) :
    Calls Tryd.prog 22 #[.agg #[.string ⟨t.l.toArray⟩, .string ⟨t.s.toArray⟩, .string ⟨t.r.toArray⟩, V], .agg #[.string ⟨of.l.toArray⟩, .string ⟨of.s.toArray⟩, .string ⟨of.r.toArray⟩, V2]] w fun e w' => e = .returned (.tuple #[.bool (decide (t.fault = 0) && (decide (of.fault = 0) && inChain t of)), errE (if t.fault = 0 then of.fault else t.fault)]) ∧ Below w.heap.size w w' := by
  obtain ⟨a, n, c, rfl⟩ := hV.isSlice
  obtain ⟨a2, n2, c2, rfl⟩ := hV2.isSlice
  obtain ⟨l, s, r, vs⟩ := t
  obtain ⟨l2, s2, r2, vs2⟩ := of
  by_cases hF : (⟨l, s, r, vs⟩ : Tg).fault = 0
  · by_cases hG : (⟨l2, s2, r2, vs2⟩ : Tg).fault = 0
    · rw [hF, hG, if_pos rfl, errE_nil rfl]
      exact within_ok l s r l2 s2 r2 vs vs2 a a2 n c n2 c2 w hV h0 bt hV2 bt2 hz2 hF hG
    · rw [hF, if_pos rfl, decide_eq_false hG]
      exact within_g l s r l2 s2 r2 vs vs2 a a2 n c n2 c2 w hV h0 bt hV2 bt2 hF hG
  · rw [if_neg hF, decide_eq_false hF]
    exact within_f l s r l2 s2 r2 vs a a2 n c n2 c2 w hV h0 bt hF
end Go.Proofs.YtlhleojigcnjeaaDoor
