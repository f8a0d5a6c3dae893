/- The walk of find.In: where a key is found. Conditions: the bundles lie in memory as they say, their texts short; the library's variable MaxLen holds a number. -/
import Derived.Test.YtghohnbajbikjaaGreatDoorUnC
import Derived.Test.YtghohnbajbikjaaGreatDoorUnF
import Derived.Test.YtghohnbajbikjaaGreatDoorUnA
import Derived.Test.YtghohnbajbikjaaGreatDoorTa1
import Derived.Maps.AppendAt
namespace Go.Proofs.YtghohnbajbikjaaGreatDoor
open Go.RowKit
namespace Tn
theorem sl_take {α : Type} {m : Nat} {C : World → Nat → Nat → α → Prop} {w : World} {a : Option Addr} {n c : Nat} {l : List α} (h : SlAt m C w (.slice a n c) l) (k : Nat) (hk : k ≤ l.length) : SlAt m C w (.slice a k c) (l.take k) := by
  by_cases h0 : k = 0
  · subst h0; exact .inl ⟨rfl, _, _, rfl⟩
  · rcases h with ⟨rfl, _⟩ | ⟨b, off, cap, e, h2, h3, h4, h5⟩
    · simp at hk; omega
    · injection e with e1 e2 e3
      subst e1 e3
      have e0 : (l.take k).length = k := by rw [List.length_take]; omega
      refine .inr ⟨b, off, _, by rw [e0], by omega, by omega, h4, fun j x hx => h5 j x ?_⟩
      rw [List.getElem?_take] at hx
      split at hx
      · exact hx
      · cases hx
set_option maxRecDepth 100000 in
set_option maxHeartbeats 1000000 in
theorem clos_any (x : Bd) (tg : List UInt8) (q : Nat) (a : Option Addr) (n c : Nat) (w : World) (hq : w.cell? ⟨q, 0, none⟩ = some (.string ⟨tg.toArray⟩)) :
    Calls Tryz.prog 11 (#[.agg #[.string ⟨x.tag.toArray⟩, .slice a n c]] ++ #[.pointer (some ⟨q, 0, none⟩)]) w fun e w' => e = .returned (.bool (x.tag == tg)) ∧ Below w.heap.size w w' := by
  obtain ⟨tx, es⟩ := x
  dsimp only
  have hl := World.block_lt_of_cell? _ _ hq
  dsimp only at hl
  show Calls _ _ #[_, _] _ _
  go_enter Tryz.func11, Tryz.ntmps11
  go_wp2_with fail
  go_ret
  exact ⟨ret_bool (by simp [bytes_list, eq_comm]), blw_alloc _ _⟩
theorem ens_drewN {w : World} {v : Value} {l : List En} (h : SlAt 2 EnC w v l) (n : Nat) : SlAt 2 EnC (w.drewN n) v l := h.imp fun _ _ _ _ g => g
theorem clos_at (args : Array Value) (w : World) : (callFunc 11 args).run Tryz.prog w = .ok (.enter 11 args) w := enters_of Tryz.func11 (by kernel_rfl) rfl args w
theorem infoTagI : (Tryz.prog.info? 29).map (fun i => (i.zero, i.size, i.bytes)) = some (some (.agg #[.string ByteArray.empty, .string ByteArray.empty, .string ByteArray.empty, .slice none 0 0]), 4, 72) := by kernel_rfl
theorem cellsI_new (w : World) (xs : List Value) (t : TypeId) : ∀ j u, xs[j]? = some u → (w.alloc (.cells xs.toArray t)).cell? ((⟨w.heap.size, 0, none⟩ : Addr).add j) = some u := by
  intro j u hj
  have c := (Boxed.made w xs.toArray t).cell j u (by simpa using hj)
  cases j with
  | zero => simpa [Addr.add] using c
  | succ j => simpa [Addr.add] using c
theorem enT_one : ∀ u ∈ tcells enT (.slice none 0 0), u.oneCell' = true := by decide
theorem row_is {w : World} {base n k : Nat} {e : TypeId} {v : Value} {xs : List Value} (h : w.ownsRow base e k v n xs) : ∃ a c, v = .slice a n c := by
  rcases h.2 with ⟨rfl, rfl⟩ | ⟨g, cap, cur, rfl, _⟩
  · exact ⟨_, _, rfl⟩
  · exact ⟨_, _, rfl⟩
section
variable {B : List Bd} {name key : List UInt8}
theorem inR_bad (h : bsN [] B ≠ 0) : inR B name key = (bsN [] B, 0, []) := by unfold inR; rw [if_neg h]
theorem inR_form (h : bsN [] B = 0) (h1 : tagB name = false) : inR B name key = (3, 0, []) := by unfold inR; rw [if_pos h, if_neg (by rw [h1]; simp)]
theorem inR_fault (h : bsN [] B = 0) (h1 : tagB name = true) (h2 : (readT name).fault ≠ 0) : inR B name key = ((readT name).fault, 0, []) := by unfold inR; rw [if_pos h, if_pos h1, if_neg h2]
theorem inR_hit (h : bsN [] B = 0) (h1 : tagB name = true) (h2 : (readT name).fault = 0) {r : Nat × List UInt8} (h3 : findL key B (askL name) = some r) : inR B name key = (0, r) := by unfold inR; rw [if_pos h, if_pos h1, if_pos h2, h3]
theorem inR_none (h : bsN [] B = 0) (h1 : tagB name = true) (h2 : (readT name).fault = 0) (h3 : findL key B (askL name) = none) : inR B name key = (2, 0, []) := by unfold inR; rw [if_pos h, if_pos h1, if_pos h2, h3]
end
theorem errE_none {n : Int} (h : n = 0) : errE n = .nilIface := by rw [h]; rfl
theorem errE_num {n : Int} (h : n ≠ 0) : errE n = errV n := by unfold errE; rw [if_neg h]

set_option maxRecDepth 100000 in
set_option maxHeartbeats 8000000 in
theorem tfind_any (B : List Bd) (name key : List UInt8) (a : Option Addr) (n c : Nat) (w : World) (hM : MaxW w) (hB : SlAt 2 BdC w (.slice a n c) B) (hS : ∀ x ∈ B, BdS x) (hl : B.length ≤ 100000000) (hn : name.length ≤ 10000000) :
    Calls Tryz.prog 4 #[.slice a n c, .string ⟨name.toArray⟩, .string ⟨key.toArray⟩] w fun e w' => e = .returned (.tuple #[.int .i64 ((inR B name key).2.1 : Int), .string ⟨(inR B name key).2.2.toArray⟩, errE (inR B name key).1]) ∧ Below w.heap.size w w' := by
  have HM := Lib.hid fun wx (hb : Below w.heap.size w wx) => hM.below hb
  have HBL := Lib.hid (show ∀ wx, Below w.heap.size w wx → SlAt 2 BdC wx (.slice a n c) B from fun wx hb => bds_below hB hb)
  have HSS := Lib.hid hS
  have HR1 := Lib.hid (inR_bad (B := B) (name := name) (key := key))
  have HR2 := Lib.hid (inR_form (B := B) (name := name) (key := key))
  have HR3 := Lib.hid (inR_fault (B := B) (name := name) (key := key))
  have HR4 := Lib.hid fun h h1 h2 r h3 => (inR_hit (B := B) (name := name) (key := key) h h1 h2 (r := r) h3)
  have HR5 := Lib.hid (inR_none (B := B) (name := name) (key := key))
  have HB0 := Lib.hid (show bsN [] B = bsN (B.take 0) (B.drop 0) from rfl)
  have HAB := Lib.hid (ask_bulk name hn (readT_bulk name))
  have hrb := readT_bulk name
  have CT := Lib.hid fun wx (h : MaxW wx) => ptag_any name wx h hn
  generalize inR B name key = R at *
  obtain ⟨A0, cap, e1, hm, _⟩ := hB.spread
  injection e1 with e1 e2 e3
  subst e1 e2 e3
  have hcap : B.length ≤ c ∨ B.length = 0 := by
    rcases hB with ⟨e, _⟩ | ⟨_, _, _, e, _, q, _, _⟩
    · exact .inr (by rw [e]; rfl)
    · injection e with _ _ e; exact .inl (by omega)
  clear hM hB hS
  have hmf : ∀ (fn : Fn) (first cap : Array Value) (w : World), (Instr.makeFunc fn first cap).run Tryz.prog w = .ok (.func fn first cap) w := fun _ _ _ _ => rfl
  generalize hN : B.length = N at *
  go_enter Tryz.func4, Tryz.ntmps4
  go_wp2_with fail
  go_loopw [23] (fun vi wr => ∃ i : Nat, vi = .int .i64 (i : Int) ∧ i ≤ N ∧ Hid (bsN [] B = bsN (B.take i) (B.drop i)) ∧ Hid (Below w.heap.size w wr)) (fun vi _ => N - (RowKit.intOf vi).toNat)
  case atStart => exact ⟨0, rfl, Nat.zero_le _, HB0, Lib.hid (Below.refl _ _)⟩
  case round =>
    obtain ⟨i, rfl, hi, HS, HB⟩ := hrel
    clear HB0
    by_cases hlt : i < N
    · have hi' : (i : Int) < (N : Int) := by omega
      have hic : (i : Int) ≤ (c : Int) := by omega
      have hi0 : (0 : Int) ≤ (i : Int) := by omega
      obtain ⟨x, hxi⟩ : ∃ x, B[i]? = some x := ⟨B[i]'(by omega), List.getElem?_eq_getElem (by omega)⟩
      have hBr := HBL.out wr HB.out
      have HTK := Lib.hid (show ∀ wx, Below wr.heap.size wr wx → SlAt 2 BdC wx (.slice a i c) (B.take i) from fun wx hb => sl_take (HBL.out wx (blw_trans HB.out hb)) i (by omega))
      obtain ⟨A', cap', eA, _, hsp⟩ := hBr.spread
      injection eA with e1 e2 e3
      subst e1
      obtain ⟨b, off, rfl, za, zn, zc, x0, x1, xs⟩ := hsp i x hxi
      have wi : IntKind.i64.wrap ((i : Int) + 1) = (i : Int) + 1 := IntWalk.i64_in _ (by omega)
      have lb := World.block_lt_of_cell? _ _ x0
      have hxb := HSS.out x (List.mem_of_getElem? hxi)
      have CK := Lib.hid fun wx (hb : Below wr.heap.size wr wx) => pchk_any x za zn zc wx (HM.out wx (blw_trans HB.out hb)) hxb (ens_below xs hb)
      have HC := Lib.hid fun wx q (hb : Below wr.heap.size wr wx) (hq : wx.cell? ⟨q, 0, none⟩ = some (.string ⟨x.tag.toArray⟩)) => has_bd (B.take i) (fun y => y.tag == x.tag) 11 #[.pointer (some ⟨q, 0, none⟩)] clos_at (.slice (some ⟨b, off, none⟩) i c) wx (HTK.out wx hb) (Lib.hid fun y _ ua un uc wy hy => clos_any y x.tag q ua un uc wy (cell_keep hq hy))
      have HQ1 := Lib.hid (bsN_bad hxi)
      have HQ2 := Lib.hid (bsN_twice hxi)
      have HQ3 := Lib.hid (bsN_next hxi)
      clear hBr hsp hxi xs HTK hxb e2 e3
      generalize (B.take i).any (fun y => y.tag == x.tag) = AN at *
      obtain ⟨tg, es⟩ := x
      dsimp only at x0 x1 CK HC
      have BX := Lib.hid (Boxed.made wr #[.string ⟨tg.toArray⟩, .slice za zn zc] 38)
      have hs0 := HB.out.size
      have W0 := Lib.hid (blw_alloc wr (.cells #[.string ⟨tg.toArray⟩, .slice za zn zc] 38))
      go_wp2_with fail
      refine (CK.out _ W0.out).mono ?_
      rintro e w3 ⟨rfl, hb⟩
      have BX3 := Lib.hid (BX.out.below hb)
      have W3 := Lib.hid (blw_trans W0.out hb)
      have y0 := BX3.out.cell 0 _ rfl
      have yl := BX3.out.lt
      clear hb CK BX W0
      by_cases hz : bdN ⟨tg, es⟩ = 0
      case neg =>
        have e0 := HQ1.out hz
        have h0 : bsN [] B ≠ 0 := by rw [HS.out, e0]; exact hz
        obtain rfl : R = (bdN ⟨tg, es⟩, 0, []) := by rw [HR1.out h0, HS.out, e0]
        rw [errE_num hz]
        clear HQ1 HQ2 HQ3 HC e0 h0
        go_wp2_with fail
        go_ret3
        exact ⟨by show _ = Ending.returned (.tuple #[_, _, errE (bdN ⟨tg, es⟩)]); rw [errE_num hz]; rfl, blw_trans HB.out W3.out⟩
      rw [errE_none hz]
      have WW3 := Lib.hid (blw_trans HB.out W3.out)
      generalize wr.heap.size = q at *
      go_wp2_with fail
      refine (HC.out _ q W3.out y0).mono ?_
      rintro e w4 ⟨rfl, hb⟩
      have W4 := Lib.hid (blw_trans WW3.out hb)
      clear hb HC
      cases hA : AN with
      | true =>
        have e0 := HQ2.out hz hA
        have h0 : bsN [] B ≠ 0 := by rw [HS.out, e0]; decide
        obtain rfl : R = (5, 0, []) := by rw [HR1.out h0, HS.out, e0]
        clear HQ1 HQ2 HQ3 e0 h0
        go_wp2_with fail
        go_ret3
        exact ⟨rfl, W4.out⟩
      | false =>
        have HS2 := Lib.hid (HS.out.trans (HQ3.out hz hA))
        clear HQ1 HQ2 HQ3 HS HB
        go_wp2_with fail
        go_roundw
        case rel => exact ⟨i + 1, by go_num, by omega, HS2, W4⟩
        case measure => simp [RowKit.intOf]; omega
    · have h2 : ¬ (i : Int) < (N : Int) := by omega
      have h0 : bsN [] B = 0 := by rw [HS.out]; exact bsN_end (by omega)
      have W1 := Lib.hid HB.out
      clear HS HB HR1
      go_wp2_with fail
      refine (CT.out _ (HM.out _ W1.out)).mono ?_
      rintro e w2 ⟨rfl, hb⟩
      have W2 := Lib.hid (blw_trans W1.out hb)
      clear hb CT W1
      cases hT : tagB name with
      | false =>
        obtain rfl : R = (3, 0, []) := HR2.out h0 hT
        clear HR3 HR4 HR5 HAB
        go_wp2_with fail
        go_ret3
        exact ⟨rfl, W2.out⟩
      | true =>
        have hok : readOk name = true := by
          unfold tagB at hT
          exact (Bool.and_eq_true_iff.1 hT).1
        have HR3 := Lib.hid (HR3.out h0 hT)
        have HR4 := Lib.hid (HR4.out h0 hT)
        have HR5 := Lib.hid (HR5.out h0 hT)
        have HAL := Lib.hid (show askL name = (readT name).chain ++ [enT] from rfl)
        have CP := Lib.hid fun wx hM => parse_at name (readT name) .nilIface rfl (readE_yes hok) wx hM hn
        clear HR2 hok hT
        generalize askL name = L at *
        generalize readT name = t at *
        go_wp2_with fail
        refine (CP.out _ (HM.out _ W2.out)).mono ?_
        rintro e w3 ⟨ta, tn, tc, rfl, hv, hz, hb⟩
        have W3 := Lib.hid (blw_trans W2.out hb)
        have HV := Lib.hid hv
        have HZ := Lib.hid hz
        clear hb CP W2 hv hz
        by_cases hf : t.fault = 0
        case neg =>
          obtain rfl : R = (t.fault, 0, []) := HR3.out hf
          have CC := Lib.hid fun wx h => chain_any t.l t.s t.r t.vs (.slice ta tn tc) wx h HZ.out (by unfold Tg.bulk at hrb; omega)
          rw [show tagFault t.l t.s t.r t.vs = t.fault from rfl, errE_num hf] at CC
          clear HR3 HR4 HR5 HAB HAL
          go_wp2_with fail
          refine (CC.out _ (HV.out.alloc _)).mono ?_
          rintro e w5 ⟨za, zn, zc, rfl, _, hb⟩
          have W5 := Lib.hid (blw_trans (W3.out.alloc W3.out.size _) hb)
          clear hb CC
          go_wp2_with fail
          go_ret3
          exact ⟨by show _ = Ending.returned (.tuple #[_, _, errE t.fault]); rw [errE_num hf]; rfl, W5.out⟩
        have HR4 := Lib.hid (HR4.out hf)
        have HR5 := Lib.hid (HR5.out hf)
        have CC := Lib.hid fun wx h => chain_own t (.slice ta tn tc) wx h HZ.out (by unfold Tg.bulk at hrb; omega) hf
        clear HR3 hf
        obtain ⟨iT, hiT, hT0, hT1, hT2⟩ := info_parts infoTagI
        have hs3 := W3.out.size
        go_wp2_with fail
        refine (CC.out _ (HV.out.alloc _)).mono ?_
        rintro e w5 ⟨A, ao, co, rfl, hAm, hO, hb⟩
        have W5 := Lib.hid (blw_trans (W3.out.alloc W3.out.size _) hb)
        obtain ⟨base, hb1, hb2, HO⟩ : ∃ base, w.heap.size ≤ base ∧ base ≤ w5.heap.size ∧ Hid (OwnT base w5 (.slice ao A.length co) A) := ⟨_, by simp; omega, hb.size, Lib.hid hO⟩
        have hLl : L.length = A.length + 1 := by rw [HAL.out, ← hAm]; simp
        have HAL := Lib.hid (show L = A.map (·.1) ++ [enT] by rw [HAL.out, hAm])
        have hLb := HAB.out.1
        have HLB := Lib.hid HAB.out.2
        have hAl : A.length ≤ 100000000 := by omega
        have own := HO.out.1
        clear hb CC HAB W3 hAm hO HV HZ
        go_wp2_with (at_builtin; refine wpList_append_own_at _ rfl _ _ 33 rfl base 29 iT _ 4 72 Tryz.underlying33 hiT hT0 hT1 hT2 rfl (by decide) _ A.length (flat A) rfl (own.alloc _) ⟨w5.heap.size, 0, none⟩ 1 1 (tcells enT (.slice none 0 0)) rfl rfl (cellsI_new _ _ _) enT_one (by unfold maxLen; omega) (by omega) (by simp; omega) ?_; intro o' w6 hown hgrow _ hat; have HT6 := Lib.hid (HO.out.app hown hgrow); have W6 := Lib.hid (HO.out.bel hb1 W5.out hgrow); obtain ⟨ao', co', rfl⟩ := row_is hown; clear hown hgrow own hat)
        rw [← HAL.out] at HT6
        rcases HT6.out with ⟨e, _⟩ | ⟨b, off, cap, ev, hl0, hlc, hlm, hcell⟩
        · rw [e] at hLl; simp at hLl
        injection ev with e1 e2 e3
        subst e1 e3
        have HCL := Lib.hid hcell
        have HF0 := Lib.hid (show findL key B L = findL key B (L.drop 0) from rfl)
        have CX := Lib.hid fun (x : Tg) V wx hv hz (hx : x.bulk ≤ 100000000) => text_any x.l x.s x.r x.vs V wx hv hz (by unfold Tg.bulk at hx; omega)
        have HXT := Lib.hid (show ∀ x : Tg, tagText x.l x.s x.r x.vs = x.txt from fun _ => rfl)
        clear hcell HT6 e2 HO HAL hlm
        generalize hM : A.length + 1 = M at *
        have hMI : (((A.length : Nat) : Int) + 1) = (M : Int) := by omega
        go_loopw [65] (fun vi wr => ∃ k : Nat, vi = .int .i64 (k : Int) ∧ k ≤ M ∧ Hid (findL key B L = findL key B (L.drop k)) ∧ Hid (Below w6.heap.size w6 wr)) (fun vi _ => M - (RowKit.intOf vi).toNat)
        case atStart => exact ⟨0, rfl, Nat.zero_le _, HF0, Lib.hid (Below.refl _ _)⟩
        case round =>
          obtain ⟨k, rfl, hk, HS, HB⟩ := hrel
          clear HF0
          by_cases hlt : k < M
          · have hk' : (k : Int) < (M : Int) := by omega
            obtain ⟨x, hxk⟩ : ∃ x, L[k]? = some x := ⟨L[k]'(by omega), List.getElem?_eq_getElem (by omega)⟩
            obtain ⟨xa, xn, xc, p0, p1, p2, p3, hxs, hxz⟩ := HCL.out k x hxk
            have g0 := cell_keep p0 HB.out
            have g1 := cell_keep p1 HB.out
            have g2 := cell_keep p2 HB.out
            have g3 := cell_keep p3 HB.out
            have lb := World.block_lt_of_cell? _ _ g0
            have hxb := HLB.out x (List.mem_of_getElem? hxk)
            have wk : IntKind.i64.wrap ((k : Int) + 1) = (k : Int) + 1 := IntWalk.i64_in _ (by omega)
            have HQ1 := Lib.hid fun r => findL_hit (k := key) (B := B) (r := r) hxk
            have HQ2 := Lib.hid (findL_miss (k := key) (B := B) hxk)
            have HFB0 := Lib.hid (show findB key x.txt 0 B = findB key x.txt 0 (B.drop 0) from rfl)
            have BT := Lib.hid (Boxed.made wr #[.string ⟨x.l.toArray⟩, .string ⟨x.s.toArray⟩, .string ⟨x.r.toArray⟩, .slice xa xn xc] 29)
            have WA := Lib.hid (blw_trans HB.out (blw_alloc wr (.cells #[.string ⟨x.l.toArray⟩, .string ⟨x.s.toArray⟩, .string ⟨x.r.toArray⟩, .slice xa xn xc] 29)))
            have HXS := Lib.hid ((hxs.below HB.out).alloc (.cells #[.string ⟨x.l.toArray⟩, .string ⟨x.s.toArray⟩, .string ⟨x.r.toArray⟩, .slice xa xn xc] 29))
            have HXZ := Lib.hid hxz
            have HS2 := Lib.hid HS.out
            clear p0 p1 p2 p3 hxs hxz hxk HB HS
            go_wp2_with fail
            generalize wr.alloc (.cells #[.string ⟨x.l.toArray⟩, .string ⟨x.s.toArray⟩, .string ⟨x.r.toArray⟩, .slice xa xn xc] 29) = wq at *
            generalize wr.heap.size = qt at *
            have WQ := Lib.hid (blw_trans W6.out WA.out)
            clear g0 g1 g2 g3 lb
            go_loopw [71] (fun vi wr => ∃ j : Nat, vi = .int .i64 (j : Int) ∧ j ≤ N ∧ Hid (findB key x.txt 0 B = findB key x.txt j (B.drop j)) ∧ Hid (Below wq.heap.size wq wr)) (fun vi _ => N - (RowKit.intOf vi).toNat)
            case atStart => exact ⟨0, rfl, Nat.zero_le _, HFB0, Lib.hid (Below.refl _ _)⟩
            case round =>
              obtain ⟨j, rfl, hj, HS, HB⟩ := hrel
              clear HFB0
              by_cases hlj : j < N
              · have hj' : (j : Int) < (N : Int) := by omega
                obtain ⟨y, hyj⟩ : ∃ y, B[j]? = some y := ⟨B[j]'(by omega), List.getElem?_eq_getElem (by omega)⟩
                obtain ⟨A', cap', eA, _, hsp⟩ := (HBL.out wr (blw_trans WQ.out HB.out)).spread
                injection eA with e1 e2 e3
                subst e1
                obtain ⟨b2, off2, rfl, za, zn, zc, y0, y1, ys⟩ := hsp j y hyj
                have wj : IntKind.i64.wrap ((j : Int) + 1) = (j : Int) + 1 := IntWalk.i64_in _ (by omega)
                have lb2 := World.block_lt_of_cell? _ _ y0
                have HYS := Lib.hid ys
                have hyb := (HSS.out y (List.mem_of_getElem? hyj)).2.1
                have HQ3 := Lib.hid (findB_other (k := key) (t := x.txt) hyj)
                have HQ4 := Lib.hid (findB_miss (k := key) (t := x.txt) hyj)
                have HQ5 := Lib.hid fun r => findB_hit (k := key) (t := x.txt) (x := r) hyj
                have BTr := Lib.hid (BT.out.below HB.out)
                have o0 := BTr.out.cell 0 _ rfl
                have o1 := BTr.out.cell 1 _ rfl
                have o2 := BTr.out.cell 2 _ rfl
                have o3 := BTr.out.cell 3 _ rfl
                have hot := BTr.out.lt
                have HXSr := Lib.hid (HXS.out.below HB.out)
                have hsz := HB.out.size
                obtain ⟨ty, es⟩ := y
                dsimp only at y0 y1 hyb HYS HQ3 HQ4 HQ5
                clear hsp hyj ys e2 e3
                go_wp2_with fail
                refine wp_region_held_drew (S := fun w' => w'.cell? ⟨wr.heap.size, 0, none⟩ = some (.string ⟨ty.toArray⟩) ∧ w'.cell? ⟨wr.heap.size, 1, none⟩ = some (.slice za zn zc) ∧ w'.cell? ⟨qt, 0, none⟩ = some (.string ⟨x.l.toArray⟩) ∧ w'.cell? ⟨qt, 1, none⟩ = some (.string ⟨x.s.toArray⟩) ∧ w'.cell? ⟨qt, 2, none⟩ = some (.string ⟨x.r.toArray⟩) ∧ w'.cell? ⟨qt, 3, none⟩ = some (.slice xa xn xc) ∧ Hid (StrsAt w' (.slice xa xn xc) x.vs) ∧ Hid (SlAt 2 EnC w' (.slice za zn zc) es) ∧ Hid (Below wq.heap.size wq w')) (by kernel_rfl) (by exact ⟨by go_keep, by go_keep, by go_keep, by go_keep, by go_keep, by go_keep, Lib.hid (StrsAt.drewN (HXSr.out.alloc _) 1), Lib.hid (ens_drewN (ens_below HYS.out (blw_alloc _ _)) 1), Lib.hid (Below.drew (HB.out.alloc hsz _))⟩) (fun hHeld => ?_)
                refine take_run (d := (some 76)) (v := ?v1) 0 rfl rfl (by kernel_rfl) (by kernel_rfl) (by kernel_rfl) (fun _ _ _ h => h) (by rfl) hHeld ?hy1 ?rs1
                case hy1 => (intro w hSw; (try dsimp only at hSw); go_simp) <;> (try with_reducible rfl)
                (try simp only [Act.put, List.setIfInBounds_toArray, List.set_cons_zero, List.set_cons_succ])
                refine take_run (d := (some 77)) (v := ?v2) 1 rfl rfl (by kernel_rfl) (by kernel_rfl) (by kernel_rfl) (fun _ _ _ h => h) (by rfl) hHeld ?hy2 ?rs2
                case hy2 => (intro w hSw; (try dsimp only at hSw); go_simp) <;> (try with_reducible rfl)
                (try simp only [Act.put, List.setIfInBounds_toArray, List.set_cons_zero, List.set_cons_succ])
                refine take_run (d := (some 78)) (v := ?v3) 2 rfl rfl (by kernel_rfl) (by kernel_rfl) (by kernel_rfl) (fun _ _ _ h => h) (by rfl) hHeld ?hy3 ?rs3
                case hy3 => (intro w hSw; (try dsimp only at hSw); go_simp) <;> (try with_reducible rfl)
                (try simp only [Act.put, List.setIfInBounds_toArray, List.set_cons_zero, List.set_cons_succ])
                refine take_call 3 rfl (by kernel_rfl) (by rfl) (fun K hK => ?_)
                go_simp
                refine (CX.out x _ _ (by obtain ⟨_, _, _, _, _, _, h1, _⟩ := hHeld; exact h1.out) HXZ.out hxb).mono ?_
                rintro e w' ⟨rfl, hb⟩
                refine hK.out _ _ (by obtain ⟨h0, h1, h2, h3, h4, h5, h6, h7, hw⟩ := hHeld; exact ⟨cell_keep h0 hb, cell_keep h1 hb, cell_keep h2 hb, cell_keep h3 hb, cell_keep h4 hb, cell_keep h5 hb, Lib.hid (h6.out.below hb), Lib.hid (ens_below h7.out hb), Lib.hid (blw_trans hw.out hb)⟩) (fun hHeld => ?_)
                clear hK K
                (try simp only [Act.put, List.setIfInBounds_toArray, List.set_cons_zero, List.set_cons_succ])
                refine take_run (d := (some 80)) (v := ?v5) 4 rfl rfl (by kernel_rfl) (by kernel_rfl) (by kernel_rfl) (fun _ _ _ h => h) (by rfl) hHeld ?hy5 ?rs5
                case hy5 => (intro w hSw; (try dsimp only at hSw); go_simp) <;> (try with_reducible rfl)
                (try simp only [Act.put, List.setIfInBounds_toArray, List.set_cons_zero, List.set_cons_succ])
                refine wpAnyH_done (by kernel_rfl) ?_ _
                obtain ⟨z0, z1, z2, z3, z4, z5, z6, z7, zW⟩ := hHeld
                have hYT : tagText x.l x.s x.r x.vs = x.txt := rfl
                rw [hYT]
                clear z2 z3 z4 z5 z6 y0 y1 o0 o1 o2 o3 HXSr BTr lb2 hot hHeld
                cases hq : (ty == x.txt) with
                | false =>
                  have HS3 := Lib.hid (HS.out.trans (HQ3.out hq))
                  have hne : (ty != x.txt) = true := by simp only [bne, hq]; rfl
                  clear HQ3 HQ4 HQ5 HQ1 HQ2 HS z0 z1 z7
                  go_wp2_with fail
                  go_roundw
                  case rel => exact ⟨j + 1, by go_num, by omega, HS3, zW⟩
                  case measure => simp [RowKit.intOf]; omega
                | true =>
                  have hne : (ty != x.txt) = false := by simp only [bne, hq]; rfl
                  have HQ4 := Lib.hid (HQ4.out hq)
                  have HQ5 := Lib.hid fun r => HQ5.out r hq
                  have HFE0 := Lib.hid (show findE key es = findE key (es.drop 0) from rfl)
                  have zl := World.block_lt_of_cell? _ _ z1
                  clear HQ3 z0
                  have WE := Lib.hid (blw_trans WA.out zW.out)
                  obtain ⟨A4, cap4, e4, _, _⟩ := z7.out.spread
                  injection e4 with e1 e2 e3
                  subst e1 e2 e3
                  generalize hEl : es.length = E at *
                  go_wp2_with fail
                  go_loopw [84] (fun vi wr => ∃ d : Nat, vi = .int .i64 (d : Int) ∧ d ≤ E ∧ Hid (findE key es = findE key (es.drop d)) ∧ Hid (Below w'.heap.size w' wr)) (fun vi _ => E - (RowKit.intOf vi).toNat)
                  case atStart => exact ⟨0, rfl, Nat.zero_le _, HFE0, Lib.hid (Below.refl _ _)⟩
                  case round =>
                    obtain ⟨d, rfl, hd, HSe, HBe⟩ := hrel
                    clear HFE0
                    by_cases hld : d < E
                    · have hd' : (d : Int) < (E : Int) := by omega
                      obtain ⟨en, hen⟩ : ∃ en, es[d]? = some en := ⟨es[d]'(by omega), List.getElem?_eq_getElem (by omega)⟩
                      obtain ⟨A', cap', eA, _, hsp⟩ := (ens_below z7.out HBe.out).spread
                      rw [hEl] at eA
                      injection eA with e1 e2 e3
                      subst e1
                      obtain ⟨b4, off4, rfl, s0, s1⟩ := hsp d en hen
                      have wd : IntKind.i64.wrap ((d : Int) + 1) = (d : Int) + 1 := IntWalk.i64_in _ (by omega)
                      have lb4 := World.block_lt_of_cell? _ _ s0
                      have HE1 := Lib.hid (findE_hit (k := key) hen)
                      have HE2 := Lib.hid (findE_miss (k := key) hen)
                      have hsz4 := HBe.out.size
                      obtain ⟨ky, tx⟩ := en
                      dsimp only at s0 s1 HE1 HE2
                      clear hsp hen e2 e3
                      cases hqk : (ky == key) with
                      | true =>
                        have e0 : findE key es = some tx := HSe.out.trans (HE1.out hqk)
                        have e1 : findB key x.txt 0 B = some (j, tx) := HS.out.trans (HQ5.out tx e0)
                        have e2 : findL key B L = some (j, tx) := HS2.out.trans (HQ1.out _ e1)
                        obtain rfl : R = (0, (j, tx)) := HR4.out _ e2
                        have WF := Lib.hid ((blw_trans WE.out HBe.out).alloc (by have := WE.out.size; omega) (.cells #[.string ⟨ky.toArray⟩, .string ⟨tx.toArray⟩] 41))
                        clear HE1 HE2 HQ1 HQ2 HQ4 HQ5 HR4 HR5 e0 e1 e2 HS HSe HS2
                        go_wp2_with fail
                        go_quiet (fail)
                        go_wp2_with fail
                        go_ret3
                        exact ⟨rfl, blw_drewN (blw_trans W6.out WF.out) _⟩
                      | false =>
                        have HSe2 := Lib.hid (HSe.out.trans (HE2.out hqk))
                        have HBe2 := Lib.hid (HBe.out.alloc hsz4 (.cells #[.string ⟨ky.toArray⟩, .string ⟨tx.toArray⟩] 41))
                        clear HE1 HE2 HQ1 HQ2 HQ4 HQ5 HR4 HR5 HSe HS HS2
                        go_wp2_with fail
                        go_roundw
                        case rel => exact ⟨d + 1, by go_num, by omega, HSe2, HBe2⟩
                        case measure => simp [RowKit.intOf]; omega
                    · have h5 : ¬ (d : Int) < (E : Int) := by omega
                      have e0 : findE key es = none := by rw [HSe.out]; exact findE_end (by omega)
                      have HS3 := Lib.hid (HS.out.trans (HQ4.out e0))
                      have HB3 := Lib.hid (blw_trans zW.out HBe.out)
                      clear HQ1 HQ2 HQ4 HQ5 HR4 HR5 HSe HS HS2 e0
                      go_wp2_with fail
                      go_roundw
                      case rel => exact ⟨j + 1, by go_num, by omega, HS3, HB3⟩
                      case measure => simp [RowKit.intOf]; omega
              · have h3 : ¬ (j : Int) < (N : Int) := by omega
                have hN0 : findB key x.txt 0 B = none := by rw [HS.out]; exact findB_end (by omega)
                have HS3 := Lib.hid (HS2.out.trans (HQ2.out hN0))
                have HB3 := Lib.hid (blw_trans WA.out HB.out)
                clear HQ1 HQ2 HS hN0
                go_wp2_with fail
                go_roundw
                case rel =>
                  refine ⟨_, _, _, _, _, _, _, _, ⟨k + 1, ?_, by omega, HS3⟩, rfl, rfl, rfl, rfl, rfl, rfl, rfl, rfl⟩
                  go_num
                case measure => simp [RowKit.intOf]; omega
          · have h3 : ¬ (k : Int) < (M : Int) := by omega
            have hN : findL key B L = none := by rw [HS.out]; exact findL_end (by omega)
            obtain rfl : R = (2, 0, []) := HR5.out hN
            go_wp2_with fail
            go_ret3
            exact ⟨rfl, blw_trans W6.out HB.out⟩
end Tn
end Go.Proofs.YtghohnbajbikjaaGreatDoor

