/- The walk of the law TopNear. Conditions: the bundles lie in memory as they say, their texts short; the library's variable MaxLen holds a number; the server says hello. -/
import Derived.Test.YtghohnbajbikjaaGreatDoorUnI
namespace Go.Proofs.YtghohnbajbikjaaGreatDoor
open Go.RowKit
namespace Tn
theorem inR_nil {B : List Bd} {name key : List UInt8} (h : (inR B name key).1 ≠ 0) : (inR B name key).2.1 = 0 := by
  unfold inR at h ⊢
  split
  · split
    · split
      · split
        · next h1 h2 h3 _ _ e => rw [if_pos h1, if_pos h2, if_pos h3, e] at h; exact absurd rfl h
        · rfl
      · rfl
    · rfl
  · rfl
theorem inR_ok {B : List Bd} {name key : List UInt8} (h : (inR B name key).1 = 0) : tagB name = true ∧ (readT name).fault = 0 ∧ findL key B (askL name) = some (inR B name key).2 := by
  unfold inR at h ⊢
  split at h
  · split at h
    · split at h
      · split at h
        · next h1 h2 h3 _ _ e => rw [if_pos h1, if_pos h2, if_pos h3, e]; exact ⟨h2, h3, rfl⟩
        · cases h
      · next h3 => exact absurd h h3
    · cases h
  · next h3 => exact absurd h h3

set_option maxRecDepth 100000 in
set_option maxHeartbeats 8000000 in
theorem top_any (B : List Bd) (name key : List UInt8) (a : Option Addr) (n c : Nat) (w : World) (hM : MaxW w) (hB : SlAt 2 BdC w (.slice a n c) B) (hS : ∀ x ∈ B, BdS x) (hl : B.length ≤ 100000000) (hn : name.length ≤ 10000000)
    (hV : ∀ wx, Below w.heap.size w wx → Calls Tryz.prog 6 #[] wx fun e w' => e = .returned (.bool true) ∧ Below wx.heap.size wx w') :
    Calls Tryz.prog 3 #[.slice a n c, .string ⟨name.toArray⟩, .string ⟨key.toArray⟩] w fun e w' => e = .returned (.bool true) ∧ Below w.heap.size w w' := by
  have CF := Lib.hid (tfind_any B name key a n c w hM hB hS hl hn)
  have CS := Lib.hid hV
  have HM := Lib.hid fun wx (hb : Below w.heap.size w wx) => hM.below hb
  have HBL := Lib.hid (show ∀ wx, Below w.heap.size w wx → SlAt 2 BdC wx (.slice a n c) B from fun wx hb => bds_below hB hb)
  have HSS := Lib.hid hS
  have HNI := Lib.hid (inR_nil (B := B) (name := name) (key := key))
  have HOK := Lib.hid (inR_ok (B := B) (name := name) (key := key))
  have HAB := Lib.hid (ask_bulk name hn (readT_bulk name))
  have hrb := readT_bulk name
  obtain ⟨R, hR⟩ : ∃ R, inR B name key = R := ⟨_, rfl⟩
  rw [hR] at CF HNI HOK
  clear hR
  obtain ⟨en, ix, tx⟩ := R
  dsimp only at CF HNI HOK
  obtain ⟨ok, hok⟩ : ∃ ok, readOk name = ok := ⟨_, rfl⟩
  have HTB := Lib.hid (show tagB name = true → ok = true by rw [← hok]; exact fun h => (Bool.and_eq_true_iff.1 h).1)
  obtain ⟨E1, hE1⟩ : ∃ E1, errE (if ok then 0 else 3) = E1 := ⟨_, rfl⟩
  have CP := Lib.hid fun wx hM => parse_at name (readT name) E1 rfl (by rw [hok, hE1]) wx hM hn
  have HE1 := Lib.hid (show ok = true → E1 = .nilIface from fun h => by rw [← hE1, h]; rfl)
  obtain ⟨A0, cap, e1, hm, _⟩ := hB.spread
  injection e1 with e1 e2 e3
  subst e1 e2 e3
  have HAL := Lib.hid (show askL name = (readT name).chain ++ [enT] from rfl)
  clear hM hB hS hV hok hE1
  generalize hN : B.length = N at *
  generalize askL name = L at *
  generalize readT name = t at *
  go_enter Tryz.func3, Tryz.ntmps3
  go_wp2_with fail
  refine CF.out.mono ?_
  rintro e w1 ⟨rfl, hb⟩
  have W1 := Lib.hid hb
  clear hb CF
  go_wp2_with fail
  refine (CP.out _ (HM.out _ W1.out)).mono ?_
  rintro e w2 ⟨ta, tn, tc, rfl, hv, hz, hb⟩
  have W2 := Lib.hid ((blw_trans W1.out hb).alloc (blw_trans W1.out hb).size (.cells #[.string ⟨t.l.toArray⟩, .string ⟨t.s.toArray⟩, .string ⟨t.r.toArray⟩, .slice ta tn tc] 29))
  have BT := Lib.hid (Boxed.made w2 #[.string ⟨t.l.toArray⟩, .string ⟨t.s.toArray⟩, .string ⟨t.r.toArray⟩, .slice ta tn tc] 29)
  have HV := Lib.hid (hv.alloc (.cells #[.string ⟨t.l.toArray⟩, .string ⟨t.s.toArray⟩, .string ⟨t.r.toArray⟩, .slice ta tn tc] 29))
  have HZ := Lib.hid hz
  clear hb CP W1 hv hz
  go_wp2_with fail
  refine (CS.out _ W2.out).mono ?_
  rintro e w3 ⟨rfl, hb⟩
  have W3 := Lib.hid (blw_trans W2.out hb)
  have BT3 := Lib.hid (BT.out.below hb)
  have HV3 := Lib.hid (HV.out.below hb)
  have c0 := BT3.out.cell 0 _ rfl
  have c1 := BT3.out.cell 1 _ rfl
  have c2 := BT3.out.cell 2 _ rfl
  have c3 := BT3.out.cell 3 _ rfl
  have cl := BT3.out.lt
  clear hb CS W2 BT HV
  by_cases he : en = 0
  case neg =>
    obtain rfl : ix = 0 := HNI.out he
    rw [errE_num he]
    clear HOK HTB HAB HAL HE1
    go_wp2_with fail
    go_ret
    exact ⟨by rfl, W3.out⟩
  subst he
  obtain ⟨hT, hf, hF⟩ := HOK.out rfl
  obtain rfl : E1 = .nilIface := HE1.out (HTB.out hT)
  rw [show errE 0 = .nilIface from rfl]
  have HF := Lib.hid hF
  have CC := Lib.hid fun wx h => chain_own t (.slice ta tn tc) wx h HZ.out (by unfold Tg.bulk at hrb; omega) hf
  clear hT hf hF HOK HNI HTB HE1
  obtain ⟨iT, hiT, hT0, hT1, hT2⟩ := info_parts infoTagI
  have hs3 := W3.out.size
  go_wp2_with fail
  refine (CC.out _ HV3.out).mono ?_
  rintro e w5 ⟨A, ao, co, rfl, hAm, hO, hb⟩
  have W5 := Lib.hid (blw_trans W3.out hb)
  obtain ⟨base, hb1, hb2, HO⟩ : ∃ base, w.heap.size ≤ base ∧ base ≤ w5.heap.size ∧ Hid (OwnT base w5 (.slice ao A.length co) A) := ⟨_, hs3, hb.size, Lib.hid hO⟩
  have hLl : L.length = A.length + 1 := by rw [HAL.out, ← hAm]; simp
  have HAL := Lib.hid (show L = A.map (·.1) ++ [enT] by rw [HAL.out, hAm])
  have hLb := HAB.out.1
  have HLB := Lib.hid HAB.out.2
  have hAl : A.length ≤ 100000000 := by omega
  have own := HO.out.1
  clear hb CC HAB W3 hAm hO HV3 HZ BT3 c0 c1 c2 c3 cl
  go_wp2_with (at_builtin; refine wpList_append_own_at _ rfl _ _ 33 rfl base 29 iT _ 4 72 Tryz.underlying33 hiT hT0 hT1 hT2 rfl (by decide) _ A.length (flat A) rfl (own.alloc _) ⟨w5.heap.size, 0, none⟩ 1 1 (tcells enT (.slice none 0 0)) rfl rfl (cellsI_new _ _ _) enT_one (by unfold maxLen; omega) (by omega) (by simp; omega) ?_; intro o' w6 hown hgrow _ hat; have HT6 := Lib.hid (HO.out.app hown hgrow); have W6 := Lib.hid (HO.out.bel hb1 W5.out hgrow); obtain ⟨ao', co', rfl⟩ := row_is hown; clear hown hgrow own hat)
  rw [← HAL.out] at HT6
  rcases HT6.out with ⟨e, _⟩ | ⟨b, off, cap, ev, hl0, hlc, hlm, hcell⟩
  · rw [e] at hLl; simp at hLl
  injection ev with e1 e2 e3
  subst e1 e3
  have HCL := Lib.hid hcell
  have HF0 := Lib.hid (show findL key B (L.drop 0) = some (ix, tx) from HF.out)
  have CX := Lib.hid fun (x : Tg) V wx hv hz (hx : x.bulk ≤ 100000000) => text_any x.l x.s x.r x.vs V wx hv hz (by unfold Tg.bulk at hx; omega)
  clear hcell HT6 e2 HO HAL hlm HF
  generalize hMM : A.length + 1 = M at *
  have hMI : (((A.length : Nat) : Int) + 1) = (M : Int) := by omega
  go_wp2_with fail
  go_loopw [15] (fun vi wr => ∃ k : Nat, vi = .int .i64 (k : Int) ∧ k ≤ M ∧ Hid (findL key B (L.drop k) = some (ix, tx)) ∧ Hid (Below w6.heap.size w6 wr)) (fun vi _ => M - (RowKit.intOf vi).toNat)
  case atStart => exact ⟨0, rfl, Nat.zero_le _, HF0, Lib.hid (Below.refl _ _)⟩
  case round =>
    obtain ⟨k, rfl, hk, HS, HB⟩ := hrel
    clear HF0
    by_cases hlt : k < M
    · have hk' : (k : Int) < (M : Int) := by omega
      have hk0 : (0 : Int) ≤ (k : Int) := by omega
      rename World => wo
      obtain ⟨x, hxk⟩ : ∃ x, L[k]? = some x := ⟨L[k]'(by omega), List.getElem?_eq_getElem (by omega)⟩
      obtain ⟨xa, xn, xc, p0, p1, p2, p3, hxs, hxz⟩ := HCL.out k x hxk
      have hxb := HLB.out x (List.mem_of_getElem? hxk)
      have wk : IntKind.i64.wrap ((k : Int) + 1) = (k : Int) + 1 := IntWalk.i64_in _ (by omega)
      have HQ1 := Lib.hid fun r => findL_hit (k := key) (B := B) (r := r) hxk
      have HQ2 := Lib.hid (findL_miss (k := key) (B := B) hxk)
      have HFB0 := Lib.hid (show findB key x.txt 0 B = findB key x.txt 0 (B.drop 0) from rfl)
      have HXC := Lib.hid (show ∀ wx, Below w6.heap.size w6 wx → TagCell wx b (off + k * 4) x from fun wx hb => (HCL.out k x hxk).below hb)
      have HXZ := Lib.hid hxz
      have HS2 := Lib.hid HS.out
      have HBO := Lib.hid HB.out
      have WQ := Lib.hid (blw_trans W6.out HB.out)
      clear p0 p1 p2 p3 hxs hxz hxk HB HS
      go_wp2_with fail
      go_loopw [16] (fun vi wr => ∃ j : Nat, vi = .int .i64 (j : Int) ∧ j ≤ N ∧ Hid (findB key x.txt 0 B = findB key x.txt j (B.drop j)) ∧ Hid (Below wo.heap.size wo wr)) (fun vi _ => N - (RowKit.intOf vi).toNat)
      case atStart => exact ⟨0, rfl, Nat.zero_le _, HFB0, Lib.hid (Below.refl _ _)⟩
      case round =>
        obtain ⟨j, rfl, hj, HS, HB⟩ := hrel
        clear HFB0
        by_cases hlj : j < N
        · have hj' : (j : Int) < (N : Int) := by omega
          have hj0 : (0 : Int) ≤ (j : Int) := by omega
          obtain ⟨y, hyj⟩ : ∃ y, B[j]? = some y := ⟨B[j]'(by omega), List.getElem?_eq_getElem (by omega)⟩
          obtain ⟨A', cap', eA, _, hsp⟩ := (HBL.out wr (blw_trans WQ.out HB.out)).spread
          injection eA with e1 e2 e3
          subst e1
          obtain ⟨b2, off2, rfl, za, zn, zc, y0, y1, ys⟩ := hsp j y hyj
          have wj : IntKind.i64.wrap ((j : Int) + 1) = (j : Int) + 1 := IntWalk.i64_in _ (by omega)
          have lb2 := World.block_lt_of_cell? _ _ y0
          have HYS := Lib.hid ys
          have hyb := (HSS.out y (List.mem_of_getElem? hyj)).2.1
          have HQ3 := Lib.hid (findB_other (k := key) (t := x.txt) hyj)
          have HQ4 := Lib.hid (findB_miss (k := key) (t := x.txt) hyj)
          have HQ5 := Lib.hid fun r => findB_hit (k := key) (t := x.txt) (x := r) hyj
          obtain ⟨ua, un, uc, o0, o1, o2, o3, os, oz⟩ := HXC.out wr (blw_trans HBO.out HB.out)
          have HOS := Lib.hid os
          have HOZ := Lib.hid oz
          have lb3 := World.block_lt_of_cell? _ _ o0
          have hsz := HB.out.size
          obtain ⟨ty, es⟩ := y
          dsimp only at y0 y1 hyb HYS HQ3 HQ4 HQ5
          clear hsp hyj ys e2 e3 os oz
          go_wp2_with fail
          refine wp_region_held_drew (S := fun w' => w'.cell? ⟨b2, off2 + j * 2, none⟩ = some (.string ⟨ty.toArray⟩) ∧ w'.cell? ⟨b2, off2 + j * 2 + 1, none⟩ = some (.slice za zn zc) ∧ w'.cell? ⟨b, off + k * 4, none⟩ = some (.string ⟨x.l.toArray⟩) ∧ w'.cell? ⟨b, off + k * 4 + 1, none⟩ = some (.string ⟨x.s.toArray⟩) ∧ w'.cell? ⟨b, off + k * 4 + 2, none⟩ = some (.string ⟨x.r.toArray⟩) ∧ w'.cell? ⟨b, off + k * 4 + 3, none⟩ = some (.slice ua un uc) ∧ Hid (StrsAt w' (.slice ua un uc) x.vs) ∧ Hid (SlAt 2 EnC w' (.slice za zn zc) es) ∧ Hid (Below wo.heap.size wo w')) (by kernel_rfl) (by exact ⟨by go_keep, by go_keep, by go_keep, by go_keep, by go_keep, by go_keep, Lib.hid (StrsAt.drewN HOS.out 1), Lib.hid (ens_drewN HYS.out 1), Lib.hid (Below.drew HB.out)⟩) (fun hHeld => ?_)
          refine take_run (d := (some 65)) (v := ?v1) 0 rfl rfl (by kernel_rfl) (by kernel_rfl) (by kernel_rfl) (fun _ _ _ h => h) (by rfl) hHeld ?hy1 ?rs1
          case hy1 => (intro w hSw; (try dsimp only at hSw); go_simp) <;> (try with_reducible rfl)
          (try simp only [Act.put, List.setIfInBounds_toArray, List.set_cons_zero, List.set_cons_succ])
          refine take_run (d := (some 66)) (v := ?v2) 1 rfl rfl (by kernel_rfl) (by kernel_rfl) (by kernel_rfl) (fun _ _ _ h => h) (by rfl) hHeld ?hy2 ?rs2
          case hy2 => (intro w hSw; (try dsimp only at hSw); go_simp) <;> (try with_reducible rfl)
          (try simp only [Act.put, List.setIfInBounds_toArray, List.set_cons_zero, List.set_cons_succ])
          refine take_run (d := (some 67)) (v := ?v3) 2 rfl rfl (by kernel_rfl) (by kernel_rfl) (by kernel_rfl) (fun _ _ _ h => h) (by rfl) hHeld ?hy3 ?rs3
          case hy3 => (intro w hSw; (try dsimp only at hSw); go_simp) <;> (try with_reducible rfl)
          (try simp only [Act.put, List.setIfInBounds_toArray, List.set_cons_zero, List.set_cons_succ])
          refine take_run (d := (some 68)) (v := ?v4) 3 rfl rfl (by kernel_rfl) (by kernel_rfl) (by kernel_rfl) (fun _ _ _ h => h) (by rfl) hHeld ?hy4 ?rs4
          case hy4 => (intro w hSw; (try dsimp only at hSw); go_simp) <;> (try with_reducible rfl)
          (try simp only [Act.put, List.setIfInBounds_toArray, List.set_cons_zero, List.set_cons_succ])
          refine take_run (d := (some 69)) (v := ?v5) 4 rfl rfl (by kernel_rfl) (by kernel_rfl) (by kernel_rfl) (fun _ _ _ h => h) (by rfl) hHeld ?hy5 ?rs5
          case hy5 => (intro w hSw; (try dsimp only at hSw); go_simp) <;> (try with_reducible rfl)
          (try simp only [Act.put, List.setIfInBounds_toArray, List.set_cons_zero, List.set_cons_succ])
          refine take_run (d := (some 70)) (v := ?v6) 5 rfl rfl (by kernel_rfl) (by kernel_rfl) (by kernel_rfl) (fun _ _ _ h => h) (by rfl) hHeld ?hy6 ?rs6
          case hy6 => (intro w hSw; (try dsimp only at hSw); go_simp) <;> (try with_reducible rfl)
          (try simp only [Act.put, List.setIfInBounds_toArray, List.set_cons_zero, List.set_cons_succ])
          refine take_run (d := (some 71)) (v := ?v7) 6 rfl rfl (by kernel_rfl) (by kernel_rfl) (by kernel_rfl) (fun _ _ _ h => h) (by rfl) hHeld ?hy7 ?rs7
          case hy7 => (intro w hSw; (try dsimp only at hSw); go_simp) <;> (try with_reducible rfl)
          (try simp only [Act.put, List.setIfInBounds_toArray, List.set_cons_zero, List.set_cons_succ])
          refine take_run (d := (some 72)) (v := ?v8) 7 rfl rfl (by kernel_rfl) (by kernel_rfl) (by kernel_rfl) (fun _ _ _ h => h) (by rfl) hHeld ?hy8 ?rs8
          case hy8 => (intro w hSw; (try dsimp only at hSw); go_simp) <;> (try with_reducible rfl)
          (try simp only [Act.put, List.setIfInBounds_toArray, List.set_cons_zero, List.set_cons_succ])
          refine take_run (d := (some 73)) (v := ?v9) 8 rfl rfl (by kernel_rfl) (by kernel_rfl) (by kernel_rfl) (fun _ _ _ h => h) (by rfl) hHeld ?hy9 ?rs9
          case hy9 => (intro w hSw; (try dsimp only at hSw); go_simp) <;> (try with_reducible rfl)
          (try simp only [Act.put, List.setIfInBounds_toArray, List.set_cons_zero, List.set_cons_succ])
          refine take_call 9 rfl (by kernel_rfl) (by rfl) (fun K hK => ?_)
          go_simp
          refine (CX.out x _ _ (by obtain ⟨_, _, _, _, _, _, h1, _⟩ := hHeld; exact h1.out) HOZ.out hxb).mono ?_
          rintro e w' ⟨rfl, hb⟩
          refine hK.out _ _ (by obtain ⟨h0, h1, h2, h3, h4, h5, h6, h7, hw⟩ := hHeld; exact ⟨cell_keep h0 hb, cell_keep h1 hb, cell_keep h2 hb, cell_keep h3 hb, cell_keep h4 hb, cell_keep h5 hb, Lib.hid (h6.out.below hb), Lib.hid (ens_below h7.out hb), Lib.hid (blw_trans hw.out hb)⟩) (fun hHeld => ?_)
          clear hK K
          (try simp only [Act.put, List.setIfInBounds_toArray, List.set_cons_zero, List.set_cons_succ])
          refine take_run (d := (some 75)) (v := ?v11) 10 rfl rfl (by kernel_rfl) (by kernel_rfl) (by kernel_rfl) (fun _ _ _ h => h) (by rfl) hHeld ?hy11 ?rs11
          case hy11 => (intro w hSw; (try dsimp only at hSw); go_simp) <;> (try with_reducible rfl)
          (try simp only [Act.put, List.setIfInBounds_toArray, List.set_cons_zero, List.set_cons_succ])
          refine wpAnyH_done (by kernel_rfl) ?_ _
          obtain ⟨z0, z1, z2, z3, z4, z5, z6, z7, zW⟩ := hHeld
          have hYT : tagText x.l x.s x.r x.vs = x.txt := rfl
          rw [hYT]
          clear z2 z3 z4 z5 z6 y0 y1 o0 o1 o2 o3 lb2 lb3 hHeld HOS
          cases hq : (ty == x.txt) with
          | false =>
            have HS3 := Lib.hid (HS.out.trans (HQ3.out hq))
            have hne : (ty != x.txt) = true := by simp only [bne, hq]; rfl
            clear HQ3 HQ4 HQ5 HQ1 HQ2 HS z0 z1 z7
            go_wp2_with fail
            go_roundw
            case rel => exact ⟨j + 1, by go_num, by omega, HS3, zW⟩
            case measure => simp [RowKit.intOf]; omega
          | true =>
            have hne : (ty != x.txt) = false := by simp only [bne, hq]; rfl
            have HQ4 := Lib.hid (HQ4.out hq)
            have HQ5 := Lib.hid fun r => HQ5.out r hq
            have HFE0 := Lib.hid (show findE key es = findE key (es.drop 0) from rfl)
            have zl := World.block_lt_of_cell? _ _ z1
            clear HQ3 z0
            obtain ⟨A4, cap4, e4, _, _⟩ := z7.out.spread
            injection e4 with e1 e2 e3
            subst e1 e2 e3
            generalize hEl : es.length = E at *
            go_wp2_with fail
            go_loopw [17] (fun vi wr => ∃ d : Nat, vi = .int .i64 (d : Int) ∧ d ≤ E ∧ Hid (findE key es = findE key (es.drop d)) ∧ Hid (Below w'.heap.size w' wr)) (fun vi _ => E - (RowKit.intOf vi).toNat)
            case atStart => exact ⟨0, rfl, Nat.zero_le _, HFE0, Lib.hid (Below.refl _ _)⟩
            case round =>
              obtain ⟨d, rfl, hd, HSe, HBe⟩ := hrel
              clear HFE0
              have y1 := cell_keep z1 HBe.out
              have lb5 := World.block_lt_of_cell? _ _ y1
              by_cases hld : d < E
              · have hd' : (d : Int) < (E : Int) := by omega
                have hd0 : (0 : Int) ≤ (d : Int) := by omega
                obtain ⟨en, hen⟩ : ∃ en, es[d]? = some en := ⟨es[d]'(by omega), List.getElem?_eq_getElem (by omega)⟩
                obtain ⟨A', cap', eA, _, hsp⟩ := (ens_below z7.out HBe.out).spread
                rw [hEl] at eA
                injection eA with e1 e2 e3
                subst e1
                obtain ⟨b4, off4, rfl, s0, _⟩ := hsp d en hen
                have wd : IntKind.i64.wrap ((d : Int) + 1) = (d : Int) + 1 := IntWalk.i64_in _ (by omega)
                have lb4 := World.block_lt_of_cell? _ _ s0
                have HE1 := Lib.hid (findE_hit (k := key) hen)
                have HE2 := Lib.hid (findE_miss (k := key) hen)
                obtain ⟨ky, tk⟩ := en
                dsimp only at s0 HE1 HE2
                clear hsp hen e2 e3
                cases hqk : (ky == key) with
                | true =>
                  have e0 : findE key es = some tk := HSe.out.trans (HE1.out hqk)
                  have e1 : findB key x.txt 0 B = some (j, tk) := HS.out.trans (HQ5.out tk e0)
                  have e2 : some (j, tk) = some (ix, tx) := (HQ1.out _ e1).symm.trans HS2.out
                  injection e2 with e2
                  injection e2 with e2 e3
                  subst e2
                  have WE := Lib.hid (blw_trans HBO.out (blw_trans zW.out HBe.out))
                  clear HE1 HE2 HQ1 HQ2 HQ4 HQ5 e0 e1 e3 HS HSe HS2
                  go_wp2_with fail
                  go_ret
                  exact ⟨ret_bool (by simp), blw_trans W6.out WE.out⟩
                | false =>
                  have HSe2 := Lib.hid (HSe.out.trans (HE2.out hqk))
                  clear HE1 HE2 HQ1 HQ2 HQ4 HQ5 HSe HS HS2
                  go_wp2_with fail
                  go_roundw
                  case rel => exact ⟨d + 1, by go_num, by omega, HSe2, HBe⟩
                  case measure => simp [RowKit.intOf]; omega
              · have h5 : ¬ (d : Int) < (E : Int) := by omega
                have e0 : findE key es = none := by rw [HSe.out]; exact findE_end (by omega)
                have HS3 := Lib.hid (HS.out.trans (HQ4.out e0))
                have HB3 := Lib.hid (blw_trans zW.out HBe.out)
                clear HQ1 HQ2 HQ4 HQ5 HSe HS HS2 e0
                go_wp2_with fail
                go_roundw
                case rel => exact ⟨j + 1, by go_num, by omega, HS3, HB3⟩
                case measure => simp [RowKit.intOf]; omega
        · have h3 : ¬ (j : Int) < (N : Int) := by omega
          have hN0 : findB key x.txt 0 B = none := by rw [HS.out]; exact findB_end (by omega)
          have HS3 := Lib.hid ((HQ2.out hN0).symm.trans HS2.out)
          have HB3 := Lib.hid (blw_trans HBO.out HB.out)
          clear HQ1 HQ2 HS hN0
          go_wp2_with fail
          go_roundw
          case rel => exact ⟨k + 1, by go_num, by omega, HS3, HB3⟩
          case measure => simp [RowKit.intOf]; omega
    · have e := HS.out
      rw [findL_end (by omega)] at e
      cases e
end Tn
end Go.Proofs.YtghohnbajbikjaaGreatDoor

