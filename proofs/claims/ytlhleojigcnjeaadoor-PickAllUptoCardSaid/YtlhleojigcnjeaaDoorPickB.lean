/- The walks of pick.All and linguistersame.Ints. Conditions: the tags are of bulk at most 100000000, and at most 1000000000 of them. -/
import Derived.Test.YtlhleojigcnjeaaDoorPickA
namespace Go.Proofs.YtlhleojigcnjeaaDoor
open Go.RowKit

def intV (i : Nat) : Value := .int .i64 (i : Int)
/-- those whose chain has the tag -/
def idxs (L : List Tg) (t : Tg) (k : Nat) : List Nat := (List.range k).filter fun i => match L[i]? with
  | some x => inChain x t
  | none => false
theorem idxs_yes {L : List Tg} {t x : Tg} {k : Nat} (h : L[k]? = some x) (hi : inChain x t = true) : idxs L t (k + 1) = idxs L t k ++ [k] := by
  unfold idxs
  rw [List.range_succ, List.filter_append]
  simp [h, hi]
theorem idxs_no {L : List Tg} {t x : Tg} {k : Nat} (h : L[k]? = some x) (hi : inChain x t = false) : idxs L t (k + 1) = idxs L t k := by
  unfold idxs
  rw [List.range_succ, List.filter_append]
  simp [h, hi]
theorem idxs_len (L : List Tg) (t : Tg) (k : Nat) : (idxs L t k).length ≤ k := by
  have := List.length_filter_le (fun i => match L[i]? with
    | some x => inChain x t
    | none => false) (List.range k)
  rw [List.length_range] at this
  exact this
def IntsAt (w : World) (v : Value) (l : List Nat) : Prop :=
  (l = [] ∧ ∃ a cap, v = .slice a 0 cap) ∨
  ∃ b off cap, v = .slice (some ⟨b, off, none⟩) l.length cap ∧ 0 < l.length ∧ ∀ (j : Nat) x, l[j]? = some x → w.cell? ⟨b, off + j, none⟩ = some (.int .i64 (x : Int))
theorem IntsAt.below {w w' : World} {v : Value} {l : List Nat} (h : IntsAt w v l) (hb : Below w.heap.size w w') : IntsAt w' v l := by
  rcases h with h | ⟨b, off, cap, h1, h2, h5⟩
  · exact .inl h
  · exact .inr ⟨b, off, cap, h1, h2, fun j x hx => cell_keep (h5 j x hx) hb⟩
theorem IntsAt.alloc {w : World} {v : Value} {l : List Nat} (h : IntsAt w v l) (o : Obj) : IntsAt (w.alloc o) v l := h.below (blw_alloc w o)
theorem IntsAt.drewN {w : World} {v : Value} {l : List Nat} (h : IntsAt w v l) (n : Nat) : IntsAt (w.drewN n) v l := h
theorem IntsAt.of_row {w : World} {base : Nat} {e : TypeId} {v : Value} {n : Nat} {l : List Nat} (h : w.ownsRow base e 1 v n (l.map intV)) : IntsAt w v l := by
  obtain ⟨hl, h⟩ := h
  rw [List.length_map, Nat.mul_one] at hl
  subst hl
  rcases h with ⟨rfl, h0⟩ | ⟨g, cap, cur, rfl, _, hg, h1, h2, h3, h4⟩
  · exact .inl ⟨List.length_eq_zero_iff.1 h0, none, 0, rfl⟩
  · by_cases h0 : l.length = 0
    · exact .inl ⟨List.length_eq_zero_iff.1 h0, _, _, by rw [h0]⟩
    · refine .inr ⟨g, 0, cap, rfl, by omega, fun j x hx => ?_⟩
      have hj : j < l.length := (List.getElem?_eq_some_iff.1 hx).1
      have hc : cur[j]? = some (intV x) := by
        have e : (cur.toList.take (l.length * 1))[j]? = some (intV x) := by rw [h4]; simp [hx]
        rw [Nat.mul_one, List.getElem?_take, if_pos hj] at e
        simpa using e
      simp [World.cell?, hg, hc, intV]
theorem infoInt : (Tryd.prog.info? 3).map (fun i => (i.zero, i.size, i.bytes)) = some (some (.int .i64 0), 1, 8) := by kernel_rfl
/-- what pick.All tells -/
def allOf (L : List Tg) (t : Tg) : List Nat := if t.fault = 0 ∧ tfaults L = 0 then idxs L t L.length else []
def allErr (L : List Tg) (t : Tg) : Int := if t.fault = 0 then tfaults L else t.fault

set_option maxRecDepth 100000 in
set_option maxHeartbeats 4000000 in
theorem all_at (t : Tg) (a : Option Addr) (n c : Nat) (L : List Tg) (A : Option Addr) (cap : Nat) (w : World) (hV : StrsAt w (.slice a n c) t.vs) (h0 : Nil0 (.slice a n c)) (bt : t.bulk ≤ 100000000) (hn : L.length ≤ 1000000000)
    (hL : TagsAt w (.slice A L.length cap) L) (hc : ∀ (j : Nat) t, L[j]? = some t → ∃ b off, A = some ⟨b, off, none⟩ ∧ TagCell w b (off + j * 4) t) (hb : ∀ x ∈ L, x.bulk ≤ 100000000) :
    Calls Tryd.prog 33 #[.agg #[.string ⟨t.l.toArray⟩, .string ⟨t.s.toArray⟩, .string ⟨t.r.toArray⟩, .slice a n c], .slice A L.length cap] w fun e w' => ∃ v, e = .returned (.tuple #[v, errE (allErr L t)]) ∧ IntsAt w' v (allOf L t) ∧ Below w.heap.size w w' := by
  obtain ⟨iI, hiI, hI0, hI1, hI2⟩ := info_parts infoInt
  have HV := Lib.hid hV
  have HL := Lib.hid hL
  have HC := Lib.hid hc
  have HBK := Lib.hid hb
  have CK := Lib.hid fun wx h => check_any t.l t.s t.r t.vs (.slice a n c) wx h (by unfold Tg.bulk at bt; omega) (fun y hy => by have := lens_mem hy; unfold Tg.bulk at bt; omega)
  rw [show tagFault t.l t.s t.r t.vs = t.fault from rfl] at CK
  have CN := Lib.hid fun wx h => names_any L (.slice A L.length cap) wx h hn hb
  have CW := Lib.hid fun (x : Tg) V wx hv hz hx hv2 => within_any x t V (.slice a n c) wx hv hz hx hv2 h0 bt
  have HY := Lib.hid fun (x : Tg) k (h : L[k]? = some x) hi => idxs_yes (t := t) h hi
  have HN := Lib.hid fun (x : Tg) k (h : L[k]? = some x) hi => idxs_no (t := t) h hi
  have HAY := Lib.hid (show t.fault = 0 → tfaults L = 0 → allOf L t = idxs L t L.length ∧ allErr L t = 0 from fun h1 h2 => ⟨if_pos ⟨h1, h2⟩, by unfold allErr; rw [if_pos h1, h2]⟩)
  have HAN := Lib.hid (show t.fault = 0 → tfaults L ≠ 0 → allOf L t = [] ∧ allErr L t = tfaults L from fun h1 h2 => ⟨if_neg fun h => h2 h.2, by unfold allErr; rw [if_pos h1]⟩)
  have HAF := Lib.hid (show t.fault ≠ 0 → allOf L t = [] ∧ allErr L t = t.fault from fun h1 => ⟨if_neg fun h => h1 h.1, by unfold allErr; rw [if_neg h1]⟩)
  have HOK := Lib.hid (show tfaults L = 0 → ∀ x ∈ L, x.fault = 0 from tfaults_ok)
  clear hV hL hc hb
  generalize allOf L t = AL at *
  generalize allErr L t = AE at *
  generalize namesOf L = NL at *
  by_cases hF : t.fault = 0
  case neg =>
    rw [errE_some hF] at CK
    obtain ⟨e1, e2⟩ := HAF.out hF
    subst e1 e2
    rw [errE_some hF]
    generalize t.fault = Fl at *
    go_enter Tryd.func33, Tryd.ntmps33
    go_wp2_with fail
    refine (CK.out _ (HV.out.alloc _)).mono ?_
    rintro e w1 ⟨rfl, hb⟩
    go_wp2_with fail
    go_ret2
    exact ⟨_, rfl, .inl ⟨rfl, none, 0, rfl⟩, blw_trans (blw_alloc _ _) hb⟩
  rw [hF, errE_nil rfl] at CK
  by_cases hG : tfaults L = 0
  case neg =>
    rw [errE_some hG] at CN
    obtain ⟨e1, e2⟩ := HAN.out hF hG
    subst e1 e2
    rw [errE_some hG]
    generalize tfaults L = Gl at *
    go_enter Tryd.func33, Tryd.ntmps33
    go_wp2_with fail
    refine (CK.out _ (HV.out.alloc _)).mono ?_
    rintro e w1 ⟨rfl, hb⟩
    have W1 := Lib.hid (blw_trans (blw_alloc w (.cells (tcells t (.slice a n c)).toArray 24)) hb)
    go_wp2_with fail
    refine (CN.out _ (HL.out.below W1.out)).mono ?_
    rintro e w2 ⟨_, _, _, rfl, _, hb2⟩
    go_wp2_with fail
    go_ret2
    exact ⟨_, rfl, .inl ⟨rfl, none, 0, rfl⟩, blw_trans W1.out hb2⟩
  rw [errE_nil hG] at CN
  obtain ⟨e1, e2⟩ := HAY.out hF hG
  subst e1 e2
  rw [errE_nil rfl]
  have HXF := Lib.hid (HOK.out hG)
  have HTF := Lib.hid hF
  clear HAY HAN HAF HOK hF hG
  go_enter Tryd.func33, Tryd.ntmps33
  go_wp2_with fail
  refine (CK.out _ (HV.out.alloc _)).mono ?_
  rintro e w1 ⟨rfl, hb⟩
  have W1 := Lib.hid (blw_trans (blw_alloc w (.cells (tcells t (.slice a n c)).toArray 24)) hb)
  have B1 := Lib.hid ((Boxed.made w (tcells t (.slice a n c)).toArray 24).below hb)
  clear hb CK
  go_wp2_with fail
  refine (CN.out _ (HL.out.below W1.out)).mono ?_
  rintro e w2 ⟨na, nn, nc, rfl, _, hb2⟩
  have W2 := Lib.hid (blw_trans W1.out hb2)
  have B2 := Lib.hid (B1.out.below hb2)
  clear hb2 B1 W1 CN HL
  have hlt2 := B2.out.lt
  go_wp2_with fail
  go_loopw [9, 29] (fun o i wr => ∃ (k m : Nat) (oa : Option Addr) (oc : Nat), i = .int .i64 k ∧ o = .slice oa m oc ∧ k ≤ L.length ∧ Hid (m = (idxs L t k).length) ∧ Hid (wr.ownsRow w2.heap.size 3 1 (.slice oa m oc) m ((idxs L t k).map intV)) ∧ Hid (Below w2.heap.size w2 wr)) (fun _ i _ => L.length - (RowKit.intOf i).toNat)
  case atStart => exact ⟨0, 0, none, 0, rfl, rfl, Nat.zero_le _, Lib.hid rfl, Lib.hid ⟨rfl, .inl ⟨rfl, rfl⟩⟩, Lib.hid (Below.refl _ _)⟩
  case round =>
    obtain ⟨k, m, oa, oc, rfl, rfl, hk, HM, HO, HB⟩ := hrel
    by_cases hlt : k < L.length
    · obtain ⟨x, hx⟩ : ∃ x, L[k]? = some x := ⟨L[k], List.getElem?_eq_getElem hlt⟩
      obtain ⟨b, off, rfl, hcell⟩ := HC.out k x hx
      have hxb := HBK.out x (List.mem_of_getElem? hx)
      obtain ⟨xa, xn, xc, x0, x1, x2, x3, xs, xz⟩ := (hcell.below W2.out).below HB.out
      have HXS := Lib.hid xs
      have CX := Lib.hid fun wx hv hv2 => CW.out x (.slice xa xn xc) wx hv xz hxb hv2
      rw [HXF.out x (List.mem_of_getElem? hx), HTF.out] at CX
      simp only [if_pos, errE_nil, decide_true, Bool.true_and] at CX
      have HYX := Lib.hid fun hi => HY.out x k hx hi
      have HNX := Lib.hid fun hi => HN.out x k hx hi
      have BR := Lib.hid (B2.out.below HB.out)
      have k0 := BR.out.t0
      have k1 := BR.out.t1
      have k2 := BR.out.t2
      have k3 := BR.out.t3
      have hwr := BR.out.lt
      have HVR := Lib.hid ((HV.out.below W2.out).below HB.out)
      clear hx xs xz hcell HY HN CW
      go_wp2_with fail
      refine (CX.out _ (HXS.out.alloc _) (HVR.out.alloc _)).mono ?_
      rintro e w3 ⟨rfl, hb3⟩
      have HB3 := Lib.hid (blw_trans (HB.out.alloc HB.out.size (.cells (tcells x (.slice xa xn xc)).toArray 24)) hb3)
      have HO3 := Lib.hid ((HO.out.alloc (.cells (tcells x (.slice xa xn xc)).toArray 24)).kept (grown_below hb3 none) (by cases oa <;> simp [Value.ownBlock]))
      clear hb3 x0 x1 x2 x3 k0 k1 k2 k3 HXS HVR HB HO CX BR
      have hml : m ≤ 1000000000 := by have := idxs_len L t k; have := HM.out; omega
      cases hi : inChain x t with
      | false =>
        have HNI := Lib.hid (HNX.out hi)
        go_wp2_with fail
        go_roundw
        case rel => exact ⟨k + 1, m, oa, oc, by go_num, rfl, by omega, Lib.hid (by rw [HNI.out]; exact HM.out), Lib.hid (by rw [HNI.out]; exact HO3.out), HB3⟩
        case measure => simp [RowKit.intOf]; omega
      | true =>
        have HYI := Lib.hid (HYX.out hi)
        have own := HO3.out
        have hbs := HB3.out.size
        generalize idxs L t k = P at *
        go_wp2_with (at_builtin; refine wpList_append_own _ rfl _ _ 56 rfl w2.heap.size 3 iI (.int .i64 0) 1 8 Tryd.underlying56 hiI hI0 hI1 hI2 rfl (by decide) _ m (P.map intV) rfl (own.alloc _) ⟨w3.heap.size, 0, none⟩ 1 1 [.int .i64 (k : Int)] rfl rfl (cell_one_new _ _ _) (fun x hx => by simp at hx; subst hx; rfl) (by unfold maxLen; omega) (by omega) (by simp; omega) ?_; intro v' w4 hown hgrow _; have HO4 := Lib.hid hown; have HB4 := Lib.hid (show Below w2.heap.size w2 w4 from (HB3.out.alloc hbs _).grown hgrow (by simp; omega) (fun k hk => (own.lt k hk).1)); obtain ⟨oa', oc', rfl⟩ := row_slice HO4.out; clear hown hgrow own)
        go_roundw
        case rel => exact ⟨k + 1, m + 1, oa', oc', by go_num, rfl, by omega, Lib.hid (by rw [HYI.out, List.length_append, HM.out]; rfl), Lib.hid (by rw [HYI.out, List.map_append]; exact HO4.out), HB4⟩
        case measure => simp [RowKit.intOf]; omega
    · obtain rfl : k = L.length := by omega
      go_wp2_with fail
      go_ret2
      exact ⟨.slice oa m oc, rfl, IntsAt.of_row HO.out, blw_trans W2.out HB.out⟩
theorem all_any (t : Tg) (V : Value) (L : List Tg) (v : Value) (w : World) (hV : StrsAt w V t.vs) (h0 : Nil0 V) (bt : t.bulk ≤ 100000000) (hL : TagsAt w v L) (hn : L.length ≤ 1000000000) (hb : ∀ x ∈ L, x.bulk ≤ 100000000) :
    Calls Tryd.prog 33 #[.agg #[.string ⟨t.l.toArray⟩, .string ⟨t.s.toArray⟩, .string ⟨t.r.toArray⟩, V], v] w fun e w' => ∃ a n c, e = .returned (.tuple #[.slice a n c, errE (allErr L t)]) ∧ IntsAt w' (.slice a n c) (allOf L t) ∧ Below w.heap.size w w' := by
  obtain ⟨a, n, c, rfl⟩ := hV.isSlice
  have hL' := hL
  obtain ⟨A, cap, rfl, hc⟩ := hL.spread
  refine (all_at t a n c L A cap w hV h0 bt hn hL' hc hb).mono ?_
  rintro e w' ⟨v, rfl, hs, hb⟩
  have hs' := hs
  rcases hs with ⟨_, a, cap, rfl⟩ | ⟨_, _, cap, rfl, _⟩
  · exact ⟨_, _, _, rfl, hs', hb⟩
  · exact ⟨_, _, _, rfl, hs', hb⟩

theorem sints_none (a b : Option Addr) (ca cb : Nat) (w : World) :
    Calls Tryd.prog 34 #[.slice a 0 ca, .slice b 0 cb] w fun e w' => e = .returned (.bool true) ∧ Below w.heap.size w w' := by
  go_enter Tryd.func34, Tryd.ntmps34
  go_wp2_with fail
  go_loopw [5] (fun i wr => i = .int .i64 0 ∧ wr = w) (fun _ _ => 0)
  case atStart => exact ⟨rfl, rfl⟩
  case round =>
    obtain ⟨rfl, rfl⟩ := hrel
    go_wp2_with fail
    go_ret
    exact ⟨rfl, Below.refl _ _⟩
set_option maxRecDepth 100000 in
set_option maxHeartbeats 2000000 in
theorem sints_some (L : List Nat) (b b' off off' cap cap' : Nat) (w : World) (hl : L.length ≤ 1000000010)
    (h1 : ∀ (j : Nat) x, L[j]? = some x → w.cell? ⟨b, off + j, none⟩ = some (.int .i64 (x : Int))) (h2 : ∀ (j : Nat) x, L[j]? = some x → w.cell? ⟨b', off' + j, none⟩ = some (.int .i64 (x : Int))) :
    Calls Tryd.prog 34 #[.slice (some ⟨b, off, none⟩) L.length cap, .slice (some ⟨b', off', none⟩) L.length cap'] w fun e w' => e = .returned (.bool true) ∧ Below w.heap.size w w' := by
  have HC := Lib.hid (show ∀ wx, Below w.heap.size w wx → ∀ (j : Nat) x, L[j]? = some x → wx.cell? ⟨b, off + j, none⟩ = some (.int .i64 (x : Int)) ∧ wx.cell? ⟨b', off' + j, none⟩ = some (.int .i64 (x : Int)) from fun wx hx j x ht => ⟨cell_keep (h1 j x ht) hx, cell_keep (h2 j x ht) hx⟩)
  clear h1 h2
  go_enter Tryd.func34, Tryd.ntmps34
  go_wp2_with fail
  go_loopw [5] (fun i wr => ∃ k : Nat, i = .int .i64 k ∧ k ≤ L.length ∧ Hid (Below w.heap.size w wr)) (fun i _ => L.length - (RowKit.intOf i).toNat)
  case atStart => exact ⟨0, rfl, Nat.zero_le _, Lib.hid (Below.refl _ _)⟩
  case round =>
    obtain ⟨k, rfl, hk, HB⟩ := hrel
    by_cases hlt : k < L.length
    · obtain ⟨x, hx⟩ : ∃ x, L[k]? = some x := ⟨L[k], List.getElem?_eq_getElem hlt⟩
      obtain ⟨x0, y0⟩ := HC.out wr HB.out k x hx
      clear hx
      go_wp2_with fail
      go_big_quiet (fail)
      go_wp2_with fail
      go_roundw
      case rel => exact ⟨k + 1, by go_num, by omega, Lib.hid (blw_drewN HB.out _)⟩
      case measure => simp [RowKit.intOf]; omega
    · go_wp2_with fail
      go_ret
      exact ⟨rfl, HB.out⟩
theorem sints_any (L : List Nat) (va vb : Value) (w : World) (ha : IntsAt w va L) (hb : IntsAt w vb L) (hl : L.length ≤ 1000000010) :
    Calls Tryd.prog 34 #[va, vb] w fun e w' => e = .returned (.bool true) ∧ Below w.heap.size w w' := by
  rcases ha with ⟨rfl, a, ca, rfl⟩ | ⟨b, off, cap, rfl, h0, hcell⟩
  · rcases hb with ⟨_, b, cb, rfl⟩ | ⟨_, _, _, _, h0, _⟩
    · exact sints_none a b ca cb w
    · simp at h0
  · rcases hb with ⟨rfl, _⟩ | ⟨b', off', cap', rfl, _, hcell'⟩
    · simp at h0
    · exact sints_some L b b' off off' cap cap' w hl hcell hcell'
end Go.Proofs.YtlhleojigcnjeaaDoor
