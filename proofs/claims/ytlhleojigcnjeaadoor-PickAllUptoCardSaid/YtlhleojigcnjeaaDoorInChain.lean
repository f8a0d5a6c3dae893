/- The walks of linguisterref1.InChain and linguistersame.Tags. Condition: the tags are of bulk at most 100000000. -/
import Derived.Test.YtlhleojigcnjeaaDoorWithin
import Derived.Test.YtlhleojigcnjeaaDoorRchain
import Derived.Test.YtlhleojigcnjeaaDoorSameTag
namespace Go.Proofs.YtlhleojigcnjeaaDoor
open Go.RowKit

set_option maxRecDepth 100000 in
set_option maxHeartbeats 4000000 in
theorem inchain_ok (l s r l2 s2 r2 : List UInt8) (vs vs2 : List (List UInt8)) (a a2 : Option Addr) (n c n2 c2 : Nat) (w : World) (hV : StrsAt w (.slice a n c) vs) (h0 : Nil0 (.slice a n c)) (bt : l.length + s.length + r.length + Lib.lens vs + vs.length ≤ 100000000) (hV2 : StrsAt w (.slice a2 n2 c2) vs2) (bt2 : l2.length + s2.length + r2.length + Lib.lens vs2 + vs2.length ≤ 100000000) (hz2 : Nil0 (.slice a2 n2 c2)) :
    Calls Tryd.prog 31 #[.agg #[.string ⟨l.toArray⟩, .string ⟨s.toArray⟩, .string ⟨r.toArray⟩, .slice a n c], .agg #[.string ⟨l2.toArray⟩, .string ⟨s2.toArray⟩, .string ⟨r2.toArray⟩, .slice a2 n2 c2]] w fun e w' => e = .returned (.bool (inChain ⟨l, s, r, vs⟩ ⟨l2, s2, r2, vs2⟩)) ∧ Below w.heap.size w w' := by
  have CY := Lib.hid fun wx (h : Below w.heap.size w wx) => rtext_any l2 s2 r2 vs2 (.slice a2 n2 c2) wx (hV2.below h) hz2 bt2
  have CX := Lib.hid fun (x : Tg) V wx hv hz (hx : x.bulk ≤ 100000000) => rtext_any x.l x.s x.r x.vs V wx hv hz (by unfold Tg.bulk at hx; omega)
  have CC := Lib.hid fun wx h => rchain_any _ ⟨l, s, r, vs⟩ (.slice a n c) wx rfl h h0 (by show vs.length ≤ _; omega)
  have HBK := Lib.hid (show ∀ x ∈ (⟨l, s, r, vs⟩ : Tg).chain, x.bulk ≤ 100000000 from fun x hx => Nat.le_trans (chain_bulk _ _ rfl x hx) bt)
  have HI := Lib.hid (show inChain ⟨l, s, r, vs⟩ ⟨l2, s2, r2, vs2⟩ = (⟨l, s, r, vs⟩ : Tg).chain.any (fun x => x.txt == tagText l2 s2 r2 vs2) from rfl)
  have HNE := Lib.hid (show (⟨l, s, r, vs⟩ : Tg).chain ≠ [] by rw [chain_step]; simp)
  have HLN := Lib.hid (show (⟨l, s, r, vs⟩ : Tg).chain.length ≤ 1000000010 from by
    have h := (chain_small _ (⟨l, s, r, vs⟩ : Tg) rfl).1
    have a1 : (one s).length ≤ 1 := by unfold one; split <;> simp
    have a2 : (one r).length ≤ 1 := by unfold one; split <;> simp
    have e : (⟨l, s, r, vs⟩ : Tg).size = (one s).length + ((one r).length + vs.length) := rfl
    omega)
  generalize hLc : (⟨l, s, r, vs⟩ : Tg).chain = L at *
  have HLc := Lib.hid hLc
  clear hLc
  generalize inChain ⟨l, s, r, vs⟩ ⟨l2, s2, r2, vs2⟩ = IC at *
  generalize tagText l2 s2 r2 vs2 = Y at *
  go_enter Tryd.func31, Tryd.ntmps31
  go_wp2_with fail
  refine (CC.out _ (by exact (hV.alloc _).alloc _)).mono ?_
  rintro e w1 ⟨zg, zc, LV, rfl, hrow, hch, htg, _, hb⟩
  have W1 := Lib.hid (blw_trans (blw_trans (blw_alloc w (.cells #[.string ⟨l.toArray⟩, .string ⟨s.toArray⟩, .string ⟨r.toArray⟩, .slice a n c] 24)) (blw_alloc _ (.cells #[.string ⟨l2.toArray⟩, .string ⟨s2.toArray⟩, .string ⟨r2.toArray⟩, .slice a2 n2 c2] 24))) hb)
  have BB := Lib.hid (((Boxed.made (w.alloc (.cells #[.string ⟨l.toArray⟩, .string ⟨s.toArray⟩, .string ⟨r.toArray⟩, .slice a n c] 24)) #[.string ⟨l2.toArray⟩, .string ⟨s2.toArray⟩, .string ⟨r2.toArray⟩, .slice a2 n2 c2] 24).at (q := w.heap.size + 1) (by simp)).below hb)
  have hL : TagsAt w1 (.slice (some ⟨zg, 0, none⟩) LV.length zc) L := by have h := TagsAt.of_row hrow htg; rw [hch, HLc.out] at h; exact h
  generalize LV.length = zn at *
  clear hrow hch htg
  rcases hL with ⟨e, _⟩ | ⟨b, off, cap, ev, hl0, hlc, hlm, hcell⟩
  · exact absurd e HNE.out
  injection ev with e1 e2 e3
  injection e1 with e1
  injection e1 with e1 e4 _
  subst e1 e2 e3 e4
  have HCL := Lib.hid hcell
  have hll := HLN.out
  clear hb hcell CC hlm
  have hlt2 : w.heap.size + 1 < w1.heap.size := BB.out.lt
  have HC2 := Lib.hid (show ∀ wx, Below w1.heap.size w1 wx → ∀ (j : Nat) t, L[j]? = some t → TagCell wx zg (j * 4) t from fun wx hx j t ht => by have h := (HCL.out j t ht).below hx; rw [Nat.zero_add] at h; exact h)
  clear HCL HNE
  go_wp2_with fail
  go_loopw [6] (fun i wr => ∃ k : Nat, i = .int .i64 k ∧ k ≤ L.length ∧ Hid ((L.take k).any (fun x => x.txt == Y) = false) ∧ Hid (Below w1.heap.size w1 wr)) (fun i _ => L.length - (RowKit.intOf i).toNat)
  case atStart => exact ⟨0, rfl, Nat.zero_le _, Lib.hid rfl, Lib.hid (Below.refl _ _)⟩
  case round =>
    obtain ⟨k, rfl, hk, HA, HB⟩ := hrel
    by_cases hlt : k < L.length
    · obtain ⟨x, hx⟩ : ∃ x, L[k]? = some x := ⟨L[k], List.getElem?_eq_getElem hlt⟩
      have HX := Lib.hid (any_take (p := fun x => x.txt == Y) hx)
      have hxb := HBK.out x (List.mem_of_getElem? hx)
      obtain ⟨xa, xn, xc, x0, x1, x2, x3, xs, xz⟩ := HC2.out wr HB.out k x hx
      have HXS := Lib.hid xs
      have HXZ := Lib.hid xz
      have BR := Lib.hid (BB.out.below HB.out)
      have o0 := BR.out.cell 0 _ rfl
      have o1 := BR.out.cell 1 _ rfl
      have o2 := BR.out.cell 2 _ rfl
      have o3 := BR.out.cell 3 _ rfl
      have hwr := BR.out.lt
      have hsz := HB.out.size
      clear hx xs xz
      go_wp2_with fail
      refine wp_region_held_drew (S := fun w' => w'.cell? ⟨zg, k * 4, none⟩ = some (.string ⟨x.l.toArray⟩) ∧ w'.cell? ⟨zg, k * 4 + 1, none⟩ = some (.string ⟨x.s.toArray⟩) ∧ w'.cell? ⟨zg, k * 4 + 2, none⟩ = some (.string ⟨x.r.toArray⟩) ∧ w'.cell? ⟨zg, k * 4 + 3, none⟩ = some (.slice xa xn xc) ∧ w'.cell? ⟨w.heap.size + 1, 0, none⟩ = some (.string ⟨l2.toArray⟩) ∧ w'.cell? ⟨w.heap.size + 1, 1, none⟩ = some (.string ⟨s2.toArray⟩) ∧ w'.cell? ⟨w.heap.size + 1, 2, none⟩ = some (.string ⟨r2.toArray⟩) ∧ w'.cell? ⟨w.heap.size + 1, 3, none⟩ = some (.slice a2 n2 c2) ∧ Hid (StrsAt w' (.slice xa xn xc) x.vs) ∧ Hid (Below w1.heap.size w1 w')) (by kernel_rfl) (by exact ⟨by go_keep, by go_keep, by go_keep, by go_keep, by go_keep, by go_keep, by go_keep, by go_keep, Lib.hid (StrsAt.drewN HXS.out 1), Lib.hid (Below.drew HB.out)⟩) (fun hHeld => ?_)
      refine take_run (d := (some 15)) (v := ?v1) 0 rfl rfl (by kernel_rfl) (by kernel_rfl) (by kernel_rfl) (fun _ _ _ h => h) (by rfl) hHeld ?hy1 ?rs1
      case hy1 => (intro w hSw; (try dsimp only at hSw); go_simp) <;> (try with_reducible rfl)
      (try simp only [Act.put, List.setIfInBounds_toArray, List.set_cons_zero, List.set_cons_succ])
      refine take_run (d := (some 16)) (v := ?v2) 1 rfl rfl (by kernel_rfl) (by kernel_rfl) (by kernel_rfl) (fun _ _ _ h => h) (by rfl) hHeld ?hy2 ?rs2
      case hy2 => (intro w hSw; (try dsimp only at hSw); go_simp) <;> (try with_reducible rfl)
      (try simp only [Act.put, List.setIfInBounds_toArray, List.set_cons_zero, List.set_cons_succ])
      refine take_run (d := (some 17)) (v := ?v3) 2 rfl rfl (by kernel_rfl) (by kernel_rfl) (by kernel_rfl) (fun _ _ _ h => h) (by rfl) hHeld ?hy3 ?rs3
      case hy3 => (intro w hSw; (try dsimp only at hSw); go_simp) <;> (try with_reducible rfl)
      (try simp only [Act.put, List.setIfInBounds_toArray, List.set_cons_zero, List.set_cons_succ])
      refine take_run (d := (some 18)) (v := ?v4) 3 rfl rfl (by kernel_rfl) (by kernel_rfl) (by kernel_rfl) (fun _ _ _ h => h) (by rfl) hHeld ?hy4 ?rs4
      case hy4 => (intro w hSw; (try dsimp only at hSw); go_simp) <;> (try with_reducible rfl)
      (try simp only [Act.put, List.setIfInBounds_toArray, List.set_cons_zero, List.set_cons_succ])
      refine take_run (d := (some 20)) (v := ?v5) 5 rfl rfl (by kernel_rfl) (by kernel_rfl) (by kernel_rfl) (fun _ _ _ h => h) (by rfl) hHeld ?hy5 ?rs5
      case hy5 => (intro w hSw; (try dsimp only at hSw); go_simp) <;> (try with_reducible rfl)
      (try simp only [Act.put, List.setIfInBounds_toArray, List.set_cons_zero, List.set_cons_succ])
      refine take_call 4 rfl (by kernel_rfl) (by rfl) (fun K hK => ?_)
      go_simp
      refine (CX.out x _ _ (by obtain ⟨_, _, _, _, _, _, _, _, h1, _⟩ := hHeld; exact h1.out) HXZ.out hxb).mono ?_
      rintro e w' ⟨rfl, hb⟩
      refine hK.out _ _ (by obtain ⟨h0, h1, h2, h3, h4, h5, h6, h7, h8, hw⟩ := hHeld; exact ⟨cell_keep h0 hb, cell_keep h1 hb, cell_keep h2 hb, cell_keep h3 hb, cell_keep h4 hb, cell_keep h5 hb, cell_keep h6 hb, cell_keep h7 hb, Lib.hid (h8.out.below hb), Lib.hid (blw_trans hw.out hb)⟩) (fun hHeld => ?_)
      clear hK K
      (try simp only [Act.put, List.setIfInBounds_toArray, List.set_cons_zero, List.set_cons_succ])
      refine take_call 6 rfl (by kernel_rfl) (by rfl) (fun K hK => ?_)
      go_simp
      refine (CY.out _ (by obtain ⟨_, _, _, _, _, _, _, _, _, h1⟩ := hHeld; exact blw_trans W1.out h1.out)).mono ?_
      rintro e w' ⟨rfl, hb⟩
      refine hK.out _ _ (by obtain ⟨h0, h1, h2, h3, h4, h5, h6, h7, h8, hw⟩ := hHeld; exact ⟨cell_keep h0 hb, cell_keep h1 hb, cell_keep h2 hb, cell_keep h3 hb, cell_keep h4 hb, cell_keep h5 hb, cell_keep h6 hb, cell_keep h7 hb, Lib.hid (h8.out.below hb), Lib.hid (blw_trans hw.out hb)⟩) (fun hHeld => ?_)
      clear hK K
      (try simp only [Act.put, List.setIfInBounds_toArray, List.set_cons_zero, List.set_cons_succ])
      refine take_run (d := (some 22)) (v := ?v8) 7 rfl rfl (by kernel_rfl) (by kernel_rfl) (by kernel_rfl) (fun _ _ _ h => h) (by rfl) hHeld ?hy8 ?rs8
      case hy8 => (intro w hSw; (try dsimp only at hSw); go_simp) <;> (try with_reducible rfl)
      (try simp only [Act.put, List.setIfInBounds_toArray, List.set_cons_zero, List.set_cons_succ])
      refine wpAnyH_done (by kernel_rfl) ?_ _
      obtain ⟨z0, z1, z2, z3, z4, z5, z6, z7, z8, zW⟩ := hHeld
      clear z0 z1 z2 z3 z4 z5 z6 z7 z8
      have HXT := Lib.hid (show x.txt = tagText x.l x.s x.r x.vs from rfl)
      by_cases hq : tagText x.l x.s x.r x.vs = Y
      · have qe : (tagText x.l x.s x.r x.vs == Y) = true := by rw [hq]; simp
        have HT := Lib.hid (show IC = true by
          rw [HI.out]
          have h1 : (L.take (k + 1)).any (fun x => x.txt == Y) = true := by rw [HX.out, HXT.out, qe]; simp
          obtain ⟨y, hy, e⟩ := List.any_eq_true.1 h1
          exact List.any_eq_true.2 ⟨y, List.mem_of_mem_take hy, e⟩)
        clear hq
        rw [qe]
        generalize tagText x.l x.s x.r x.vs = X at *
        go_wp2_with fail
        go_ret
        exact ⟨by have e := HT.out; subst e; rfl, blw_trans W1.out zW.out⟩
      · have qe : (tagText x.l x.s x.r x.vs == Y) = false := beq_eq_false_iff_ne.2 hq
        have HA' := Lib.hid (show (L.take (k + 1)).any (fun x => x.txt == Y) = false by rw [HX.out, HXT.out, qe, HA.out]; rfl)
        clear hq
        rw [qe]
        generalize tagText x.l x.s x.r x.vs = X at *
        go_wp2_with fail
        go_roundw
        case rel => exact ⟨k + 1, by go_num, by omega, HA', zW⟩
        case measure => simp [RowKit.intOf]; omega
    · have HE := Lib.hid (show IC = false by
        rw [HI.out, ← List.take_of_length_le (l := L) (i := k) (by omega)]; exact HA.out)
      go_wp2_with fail
      go_ret
      exact ⟨by have e := HE.out; subst e; rfl, blw_trans W1.out HB.out⟩

theorem inchain_any (t of : Tg) (V V2 : Value) (w : World) (hV : StrsAt w V t.vs) (h0 : Nil0 V) (bt : t.bulk ≤ 100000000) (hV2 : StrsAt w V2 of.vs) (hz2 : Nil0 V2) (bt2 : of.bulk ≤ 100000000) :
    Calls Tryd.prog 31 #[.agg #[.string ⟨t.l.toArray⟩, .string ⟨t.s.toArray⟩, .string ⟨t.r.toArray⟩, V], .agg #[.string ⟨of.l.toArray⟩, .string ⟨of.s.toArray⟩, .string ⟨of.r.toArray⟩, V2]] w fun e w' => e = .returned (.bool (inChain t of)) ∧ Below w.heap.size w w' := by
  obtain ⟨a, n, c, rfl⟩ := hV.isSlice
  obtain ⟨a2, n2, c2, rfl⟩ := hV2.isSlice
  obtain ⟨l, s, r, vs⟩ := t
  obtain ⟨l2, s2, r2, vs2⟩ := of
  exact inchain_ok l s r l2 s2 r2 vs vs2 a a2 n c n2 c2 w hV h0 bt hV2 bt2 hz2

theorem stags_none (a b : Option Addr) (ca cb : Nat) (w : World) :
    Calls Tryd.prog 30 #[.slice a 0 ca, .slice b 0 cb] w fun e w' => e = .returned (.bool true) ∧ Below w.heap.size w w' := by
  go_enter Tryd.func30, Tryd.ntmps30
  go_wp2_with fail
  go_loopw [5] (fun i wr => i = .int .i64 0 ∧ wr = w) (fun _ _ => 0)
  case atStart => exact ⟨rfl, rfl⟩
  case round =>
    obtain ⟨rfl, rfl⟩ := hrel
    go_wp2_with fail
    go_ret
    exact ⟨rfl, Below.refl _ _⟩

set_option maxRecDepth 100000 in
set_option maxHeartbeats 2000000 in
theorem stags_some (L : List Tg) (b b' off off' cap cap' : Nat) (w : World) (hl : L.length ≤ 1000000010) (hb : ∀ x ∈ L, x.vs.length ≤ 1000000000)
    (h1 : ∀ (j : Nat) t, L[j]? = some t → TagCell w b (off + j * 4) t) (h2 : ∀ (j : Nat) t, L[j]? = some t → TagCell w b' (off' + j * 4) t) :
    Calls Tryd.prog 30 #[.slice (some ⟨b, off, none⟩) L.length cap, .slice (some ⟨b', off', none⟩) L.length cap'] w fun e w' => e = .returned (.bool true) ∧ Below w.heap.size w w' := by
  have HC := Lib.hid (show ∀ wx, Below w.heap.size w wx → ∀ (j : Nat) t, L[j]? = some t → TagCell wx b (off + j * 4) t ∧ TagCell wx b' (off' + j * 4) t from fun wx hx j t ht => ⟨(h1 j t ht).below hx, (h2 j t ht).below hx⟩)
  have HBK := Lib.hid hb
  have CS := Lib.hid fun (x : Tg) a n c a' n' c' wx hv hv' (h : x.vs.length ≤ 1000000000) => sameTag_any x.l x.s x.r x.l x.s x.r x.vs x.vs (.slice a n c) (.slice a' n' c') wx hv hv' (by unfold maxLen; omega) (by unfold maxLen; omega)
  clear h1 h2 hb
  go_enter Tryd.func30, Tryd.ntmps30
  go_wp2_with fail
  go_loopw [5] (fun i wr => ∃ k : Nat, i = .int .i64 k ∧ k ≤ L.length ∧ Hid (Below w.heap.size w wr)) (fun i _ => L.length - (RowKit.intOf i).toNat)
  case atStart => exact ⟨0, rfl, Nat.zero_le _, Lib.hid (Below.refl _ _)⟩
  case round =>
    obtain ⟨k, rfl, hk, HB⟩ := hrel
    by_cases hlt : k < L.length
    · obtain ⟨x, hx⟩ : ∃ x, L[k]? = some x := ⟨L[k], List.getElem?_eq_getElem hlt⟩
      have hxb := HBK.out x (List.mem_of_getElem? hx)
      obtain ⟨⟨xa, xn, xc, x0, x1, x2, x3, xs, _⟩, ya, yn, yc, y0, y1, y2, y3, ys, _⟩ := HC.out wr HB.out k x hx
      have HXS := Lib.hid xs
      have HYS := Lib.hid ys
      have CX := Lib.hid fun wx hv hv' => CS.out x xa xn xc ya yn yc wx hv hv' hxb
      simp only [decide_true, beq_self_eq_true, Bool.and_self] at CX
      clear hx xs ys CS
      go_wp2_with fail
      refine wp_region_held_drew (S := fun w' => w'.cell? ⟨b, off + k * 4, none⟩ = some (.string ⟨x.l.toArray⟩) ∧ w'.cell? ⟨b, off + k * 4 + 1, none⟩ = some (.string ⟨x.s.toArray⟩) ∧ w'.cell? ⟨b, off + k * 4 + 2, none⟩ = some (.string ⟨x.r.toArray⟩) ∧ w'.cell? ⟨b, off + k * 4 + 3, none⟩ = some (.slice xa xn xc) ∧ w'.cell? ⟨b', off' + k * 4, none⟩ = some (.string ⟨x.l.toArray⟩) ∧ w'.cell? ⟨b', off' + k * 4 + 1, none⟩ = some (.string ⟨x.s.toArray⟩) ∧ w'.cell? ⟨b', off' + k * 4 + 2, none⟩ = some (.string ⟨x.r.toArray⟩) ∧ w'.cell? ⟨b', off' + k * 4 + 3, none⟩ = some (.slice ya yn yc) ∧ Hid (StrsAt w' (.slice xa xn xc) x.vs) ∧ Hid (StrsAt w' (.slice ya yn yc) x.vs) ∧ Hid (Below w.heap.size w w')) (by kernel_rfl) (by exact ⟨by go_keep, by go_keep, by go_keep, by go_keep, by go_keep, by go_keep, by go_keep, by go_keep, Lib.hid (StrsAt.drewN HXS.out 1), Lib.hid (StrsAt.drewN HYS.out 1), Lib.hid (Below.drew HB.out)⟩) (fun hHeld => ?_)
      refine take_run (d := (some 18)) (v := ?v9) 0 rfl rfl (by kernel_rfl) (by kernel_rfl) (by kernel_rfl) (fun _ _ _ h => h) (by rfl) hHeld ?hy9 ?rs9
      case hy9 => (intro w hSw; (try dsimp only at hSw); go_simp) <;> (try with_reducible rfl)
      (try simp only [Act.put, List.setIfInBounds_toArray, List.set_cons_zero, List.set_cons_succ])
      refine take_run (d := (some 19)) (v := ?v10) 1 rfl rfl (by kernel_rfl) (by kernel_rfl) (by kernel_rfl) (fun _ _ _ h => h) (by rfl) hHeld ?hy10 ?rs10
      case hy10 => (intro w hSw; (try dsimp only at hSw); go_simp) <;> (try with_reducible rfl)
      (try simp only [Act.put, List.setIfInBounds_toArray, List.set_cons_zero, List.set_cons_succ])
      refine take_run (d := (some 20)) (v := ?v11) 2 rfl rfl (by kernel_rfl) (by kernel_rfl) (by kernel_rfl) (fun _ _ _ h => h) (by rfl) hHeld ?hy11 ?rs11
      case hy11 => (intro w hSw; (try dsimp only at hSw); go_simp) <;> (try with_reducible rfl)
      (try simp only [Act.put, List.setIfInBounds_toArray, List.set_cons_zero, List.set_cons_succ])
      refine take_run (d := (some 21)) (v := ?v12) 3 rfl rfl (by kernel_rfl) (by kernel_rfl) (by kernel_rfl) (fun _ _ _ h => h) (by rfl) hHeld ?hy12 ?rs12
      case hy12 => (intro w hSw; (try dsimp only at hSw); go_simp) <;> (try with_reducible rfl)
      (try simp only [Act.put, List.setIfInBounds_toArray, List.set_cons_zero, List.set_cons_succ])
      refine take_run (d := (some 22)) (v := ?v13) 4 rfl rfl (by kernel_rfl) (by kernel_rfl) (by kernel_rfl) (fun _ _ _ h => h) (by rfl) hHeld ?hy13 ?rs13
      case hy13 => (intro w hSw; (try dsimp only at hSw); go_simp) <;> (try with_reducible rfl)
      (try simp only [Act.put, List.setIfInBounds_toArray, List.set_cons_zero, List.set_cons_succ])
      refine take_run (d := (some 23)) (v := ?v14) 5 rfl rfl (by kernel_rfl) (by kernel_rfl) (by kernel_rfl) (fun _ _ _ h => h) (by rfl) hHeld ?hy14 ?rs14
      case hy14 => (intro w hSw; (try dsimp only at hSw); go_simp) <;> (try with_reducible rfl)
      (try simp only [Act.put, List.setIfInBounds_toArray, List.set_cons_zero, List.set_cons_succ])
      refine take_run (d := (some 24)) (v := ?v15) 6 rfl rfl (by kernel_rfl) (by kernel_rfl) (by kernel_rfl) (fun _ _ _ h => h) (by rfl) hHeld ?hy15 ?rs15
      case hy15 => (intro w hSw; (try dsimp only at hSw); go_simp) <;> (try with_reducible rfl)
      (try simp only [Act.put, List.setIfInBounds_toArray, List.set_cons_zero, List.set_cons_succ])
      refine take_run (d := (some 25)) (v := ?v16) 7 rfl rfl (by kernel_rfl) (by kernel_rfl) (by kernel_rfl) (fun _ _ _ h => h) (by rfl) hHeld ?hy16 ?rs16
      case hy16 => (intro w hSw; (try dsimp only at hSw); go_simp) <;> (try with_reducible rfl)
      (try simp only [Act.put, List.setIfInBounds_toArray, List.set_cons_zero, List.set_cons_succ])
      refine take_call 8 rfl (by kernel_rfl) (by rfl) (fun K hK => ?_)
      go_simp
      refine (CX.out _ (by obtain ⟨_, _, _, _, _, _, _, _, h1, _⟩ := hHeld; exact h1.out) (by obtain ⟨_, _, _, _, _, _, _, _, _, h1, _⟩ := hHeld; exact h1.out)).mono ?_
      rintro e w' ⟨rfl, hb⟩
      refine hK.out _ _ (by obtain ⟨h0, h1, h2, h3, h4, h5, h6, h7, h8, h9, hw⟩ := hHeld; exact ⟨cell_keep h0 hb, cell_keep h1 hb, cell_keep h2 hb, cell_keep h3 hb, cell_keep h4 hb, cell_keep h5 hb, cell_keep h6 hb, cell_keep h7 hb, Lib.hid (h8.out.below hb), Lib.hid (h9.out.below hb), Lib.hid (blw_trans hw.out hb)⟩) (fun hHeld => ?_)
      clear hK K
      (try simp only [Act.put, List.setIfInBounds_toArray, List.set_cons_zero, List.set_cons_succ])
      refine take_run (d := (some 6)) (v := ?v18) 9 rfl rfl (by kernel_rfl) (by kernel_rfl) (by kernel_rfl) (fun _ _ _ h => h) (by rfl) hHeld ?hy18 ?rs18
      case hy18 => (intro w hSw; (try dsimp only at hSw); go_simp) <;> (try with_reducible rfl)
      (try simp only [Act.put, List.setIfInBounds_toArray, List.set_cons_zero, List.set_cons_succ])
      refine wpAnyH_done (by kernel_rfl) ?_ _
      obtain ⟨z0, z1, z2, z3, z4, z5, z6, z7, z8, z9, zW⟩ := hHeld
      clear z0 z1 z2 z3 z4 z5 z6 z7 z8 z9
      go_wp2_with fail
      go_roundw
      case rel => exact ⟨k + 1, by go_num, by omega, zW⟩
      case measure => simp [RowKit.intOf]; omega
    · go_wp2_with fail
      go_ret
      exact ⟨rfl, HB.out⟩
theorem stags_any (L : List Tg) (va vb : Value) (w : World) (ha : TagsAt w va L) (hb : TagsAt w vb L) (hl : L.length ≤ 1000000010) (hx : ∀ x ∈ L, x.vs.length ≤ 1000000000) :
    Calls Tryd.prog 30 #[va, vb] w fun e w' => e = .returned (.bool true) ∧ Below w.heap.size w w' := by
  rcases ha with ⟨rfl, a, ca, rfl⟩ | ⟨b, off, cap, rfl, h0, _, _, hcell⟩
  · rcases hb with ⟨_, b, cb, rfl⟩ | ⟨_, _, _, _, h0, _⟩
    · exact stags_none a b ca cb w
    · simp at h0
  · rcases hb with ⟨rfl, _⟩ | ⟨b', off', cap', rfl, _, _, _, hcell'⟩
    · simp at h0
    · exact stags_some L b b' off off' cap cap' w hl hx hcell hcell'
end Go.Proofs.YtlhleojigcnjeaaDoor
