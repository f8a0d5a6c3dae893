/- The walks of pick.names and linguisterref1.TagsFault. Conditions: the tags are of bulk at most 100000000, and at most 1000000000 of them. -/
import Derived.Test.YtlhleojigcnjeaaDoorWithin
namespace Go.Proofs.YtlhleojigcnjeaaDoor
open Go.RowKit

/-- the first fault of some tags -/
def tfaults : List Tg → Int
  | [] => 0
  | t :: r => if t.fault = 0 then tfaults r else t.fault
theorem tfaults_hit : ∀ {L : List Tg} {k : Nat} {x : Tg}, L[k]? = some x → tfaults (L.take k) = 0 → x.fault ≠ 0 → tfaults L = x.fault
  | [], k, x, h, _, _ => by simp at h
  | y :: r, 0, x, h, _, hf => by
    obtain rfl : y = x := by simpa using h
    unfold tfaults; rw [if_neg hf]
  | y :: r, k + 1, x, h, h0, hf => by
    rw [List.take_succ_cons] at h0
    unfold tfaults at h0 ⊢
    by_cases hy : y.fault = 0
    · rw [if_pos hy] at h0 ⊢; exact tfaults_hit (by simpa using h) h0 hf
    · rw [if_neg hy] at h0; exact absurd h0 hy
theorem tfaults_step : ∀ {L : List Tg} {k : Nat} {x : Tg}, L[k]? = some x → tfaults (L.take k) = 0 → x.fault = 0 → tfaults (L.take (k + 1)) = 0
  | [], k, x, h, _, _ => by simp at h
  | y :: r, 0, x, h, _, hf => by
    obtain rfl : y = x := by simpa using h
    rw [List.take_succ_cons, List.take_zero]
    unfold tfaults; rw [if_pos hf]; rfl
  | y :: r, k + 1, x, h, h0, hf => by
    rw [List.take_succ_cons] at h0 ⊢
    unfold tfaults at h0 ⊢
    by_cases hy : y.fault = 0
    · rw [if_pos hy] at h0 ⊢; exact tfaults_step (by simpa using h) h0 hf
    · rw [if_neg hy] at h0; exact absurd h0 hy
theorem tfaults_ok : ∀ {L : List Tg}, tfaults L = 0 → ∀ x ∈ L, x.fault = 0
  | [], _, x, hx => by simp at hx
  | y :: r, h, x, hx => by
    unfold tfaults at h
    by_cases hy : y.fault = 0
    · rw [if_pos hy] at h
      rcases List.mem_cons.1 hx with rfl | hx
      · exact hy
      · exact tfaults_ok h x hx
    · rw [if_neg hy] at h; exact absurd h hy
/-- the names of right tags -/
def namesOf (L : List Tg) : List (List UInt8) := if tfaults L = 0 then L.map Tg.txt else []
theorem namesOf_yes {L : List Tg} (h : tfaults L = 0) : namesOf L = L.map Tg.txt := if_pos h
theorem namesOf_no {L : List Tg} (h : tfaults L ≠ 0) : namesOf L = [] := if_neg h
theorem TagsAt.spread {w : World} {v : Value} {L : List Tg} (h : TagsAt w v L) : ∃ A cap, v = .slice A L.length cap ∧ ∀ (j : Nat) t, L[j]? = some t → ∃ b off, A = some ⟨b, off, none⟩ ∧ TagCell w b (off + j * 4) t := by
  rcases h with ⟨rfl, a, cap, rfl⟩ | ⟨b, off, cap, rfl, _, _, _, hc⟩
  · exact ⟨a, cap, rfl, fun j t h => by simp at h⟩
  · exact ⟨_, cap, rfl, fun j t h => ⟨b, off, rfl, hc j t h⟩⟩

set_option maxRecDepth 100000 in
set_option maxHeartbeats 2000000 in
theorem rfaults_at (L : List Tg) (A : Option Addr) (cap : Nat) (w : World) (hn : L.length ≤ 1000000000) (hc : ∀ (j : Nat) t, L[j]? = some t → ∃ b off, A = some ⟨b, off, none⟩ ∧ TagCell w b (off + j * 4) t) (hb : ∀ x ∈ L, x.bulk ≤ 100000000) :
    Calls Tryd.prog 32 #[.slice A L.length cap] w fun e w' => e = .returned (.int .i64 (tfaults L)) ∧ Below w.heap.size w w' := by
  have HC := Lib.hid hc
  have HBK := Lib.hid hb
  have CF := Lib.hid fun (x : Tg) V wx hv (hx : x.bulk ≤ 100000000) => rfault_tag x.l x.s x.r x.vs V wx hv (by unfold Tg.bulk at hx; omega) (fun y hy => by have := lens_mem hy; unfold Tg.bulk at hx; omega)
  have HE := Lib.hid (show ∀ k, L.length ≤ k → tfaults (L.take k) = 0 → tfaults L = 0 from fun k hk h => by rw [List.take_of_length_le hk] at h; exact h)
  have HH := Lib.hid fun k x (h : L[k]? = some x) h0 hf => tfaults_hit h h0 hf
  have HS := Lib.hid fun k x (h : L[k]? = some x) h0 hf => tfaults_step h h0 hf
  clear hc hb
  generalize tfaults L = TF at *
  go_enter Tryd.func32, Tryd.ntmps32
  go_wp2_with fail
  go_loopw [3] (fun i wr => ∃ k : Nat, i = .int .i64 k ∧ k ≤ L.length ∧ Hid (tfaults (L.take k) = 0) ∧ Hid (Below w.heap.size w wr)) (fun i _ => L.length - (RowKit.intOf i).toNat)
  case atStart => exact ⟨0, rfl, Nat.zero_le _, Lib.hid rfl, Lib.hid (Below.refl _ _)⟩
  case round =>
    obtain ⟨k, rfl, hk, HA, HB⟩ := hrel
    by_cases hlt : k < L.length
    · obtain ⟨x, hx⟩ : ∃ x, L[k]? = some x := ⟨L[k], List.getElem?_eq_getElem hlt⟩
      obtain ⟨b, off, rfl, hcell⟩ := HC.out k x hx
      have hxb := HBK.out x (List.mem_of_getElem? hx)
      obtain ⟨xa, xn, xc, x0, x1, x2, x3, xs, _⟩ := hcell.below HB.out
      have HXS := Lib.hid xs
      have CX := Lib.hid fun wx hv => CF.out x (.slice xa xn xc) wx hv hxb
      have HHX := Lib.hid fun hf => HH.out k x hx HA.out hf
      have HSX := Lib.hid fun hf => HS.out k x hx HA.out hf
      have HXF := Lib.hid (show x.fault = tagFault x.l x.s x.r x.vs from rfl)
      clear hx xs hcell HH HS CF
      go_wp2_with fail
      refine (CX.out _ HXS.out).mono ?_
      rintro e w1 ⟨rfl, hb1⟩
      have y0 := cell_keep x0 hb1
      have y1 := cell_keep x1 hb1
      have y2 := cell_keep x2 hb1
      have y3 := cell_keep x3 hb1
      have HXS1 := Lib.hid (HXS.out.below hb1)
      have HB1 := Lib.hid (blw_trans HB.out hb1)
      clear hb1 x0 x1 x2 x3 HXS
      by_cases hf : tagFault x.l x.s x.r x.vs = 0
      · have HN := Lib.hid (HSX.out (HXF.out.trans hf))
        rw [hf] at CX ⊢
        go_wp2_with fail
        go_roundw
        case rel => exact ⟨k + 1, by go_num, by omega, HN, HB1⟩
        case measure => simp [RowKit.intOf]; omega
      · have HR := Lib.hid (HHX.out (by rw [HXF.out]; exact hf))
        rw [HXF.out] at HR
        generalize tagFault x.l x.s x.r x.vs = Fx at *
        have q1 : (Fx == 0) = false := beq_no hf
        have q2 : (Fx != 0) = true := by rw [bne, q1]; rfl
        go_wp2_with fail
        refine (CX.out _ HXS1.out).mono ?_
        rintro e w2 ⟨rfl, hb2⟩
        go_wp2_with fail
        go_ret
        exact ⟨by have e := HR.out; subst e; rfl, blw_trans HB1.out hb2⟩
    · have HR := Lib.hid (HE.out k (by omega) HA.out)
      go_wp2_with fail
      go_ret
      exact ⟨by have e := HR.out; subst e; rfl, HB.out⟩
theorem rfaults_any (L : List Tg) (v : Value) (w : World) (hL : TagsAt w v L) (hn : L.length ≤ 1000000000) (hb : ∀ x ∈ L, x.bulk ≤ 100000000) :
    Calls Tryd.prog 32 #[v] w fun e w' => e = .returned (.int .i64 (tfaults L)) ∧ Below w.heap.size w w' := by
  obtain ⟨A, cap, rfl, hc⟩ := hL.spread
  exact rfaults_at L A cap w hn hc hb

theorem map_take {L : List Tg} {k : Nat} {x : Tg} (h : L[k]? = some x) : (L.take (k + 1)).map (fun x => txtV x.txt) = (L.take k).map (fun x => txtV x.txt) ++ [txtV x.txt] := by
  rw [List.take_add_one, h]; simp
set_option maxRecDepth 100000 in
set_option maxHeartbeats 2000000 in
theorem names_at (L : List Tg) (A : Option Addr) (cap : Nat) (w : World) (hn : L.length ≤ 1000000000) (hc : ∀ (j : Nat) t, L[j]? = some t → ∃ b off, A = some ⟨b, off, none⟩ ∧ TagCell w b (off + j * 4) t) (hb : ∀ x ∈ L, x.bulk ≤ 100000000) :
    Calls Tryd.prog 54 #[.slice A L.length cap] w fun e w' => ∃ v, e = .returned (.tuple #[v, errE (tfaults L)]) ∧ StrsAt w' v (namesOf L) ∧ Below w.heap.size w w' := by
  obtain ⟨i0, hi, hz0, hz1, hz2⟩ := info_parts infoStr
  have HC := Lib.hid hc
  have HBK := Lib.hid hb
  have CF := Lib.hid fun (x : Tg) V wx hv (hx : x.bulk ≤ 100000000) => check_any x.l x.s x.r x.vs V wx hv (by unfold Tg.bulk at hx; omega) (fun y hy => by have := lens_mem hy; unfold Tg.bulk at hx; omega)
  have CT := Lib.hid fun (x : Tg) V wx hv hz (hx : x.bulk ≤ 100000000) => text_any x.l x.s x.r x.vs V wx hv hz (by unfold Tg.bulk at hx; omega)
  have HE := Lib.hid (show ∀ k, L.length ≤ k → tfaults (L.take k) = 0 → tfaults L = 0 from fun k hk h => by rw [List.take_of_length_le hk] at h; exact h)
  have HH := Lib.hid fun k x (h : L[k]? = some x) h0 hf => tfaults_hit h h0 hf
  have HS := Lib.hid fun k x (h : L[k]? = some x) h0 hf => tfaults_step h h0 hf
  have HP := Lib.hid fun k x (h : L[k]? = some x) => map_take h
  have HNY := Lib.hid (show tfaults L = 0 → namesOf L = L.map Tg.txt from namesOf_yes)
  have HNN := Lib.hid (show tfaults L ≠ 0 → namesOf L = [] from namesOf_no)
  have HF := Lib.hid (show ∀ k, L.length ≤ k → (L.take k).map (fun x => txtV x.txt) = (L.map Tg.txt).map txtV from fun k hk => by rw [List.take_of_length_le hk, List.map_map]; rfl)
  clear hc hb
  generalize namesOf L = NL at *
  generalize tfaults L = TF at *
  go_enter Tryd.func54, Tryd.ntmps54
  go_wp2_with fail
  go_loopw [4, 10] (fun o i wr => ∃ (k : Nat) (oa : Option Addr) (oc : Nat), i = .int .i64 k ∧ o = .slice oa k oc ∧ k ≤ L.length ∧ Hid (tfaults (L.take k) = 0) ∧ Hid (wr.ownsRow w.heap.size 9 1 (.slice oa k oc) k ((L.take k).map fun x => txtV x.txt)) ∧ Hid (Below w.heap.size w wr)) (fun _ i _ => L.length - (RowKit.intOf i).toNat)
  case atStart => exact ⟨0, none, 0, rfl, rfl, Nat.zero_le _, Lib.hid rfl, Lib.hid ⟨rfl, .inl ⟨rfl, rfl⟩⟩, Lib.hid (Below.refl _ _)⟩
  case round =>
    obtain ⟨k, oa, oc, rfl, rfl, hk, HA, HO, HB⟩ := hrel
    by_cases hlt : k < L.length
    · obtain ⟨x, hx⟩ : ∃ x, L[k]? = some x := ⟨L[k], List.getElem?_eq_getElem hlt⟩
      obtain ⟨b, off, rfl, hcell⟩ := HC.out k x hx
      have hxb := HBK.out x (List.mem_of_getElem? hx)
      obtain ⟨xa, xn, xc, x0, x1, x2, x3, xs, xz⟩ := hcell.below HB.out
      have HXS := Lib.hid xs
      have CX := Lib.hid fun wx hv => CF.out x (.slice xa xn xc) wx hv hxb
      have CY := Lib.hid fun wx hv => CT.out x (.slice xa xn xc) wx hv xz hxb
      have HHX := Lib.hid fun hf => HH.out k x hx HA.out hf
      have HSX := Lib.hid fun hf => HS.out k x hx HA.out hf
      have HXF := Lib.hid (show x.fault = tagFault x.l x.s x.r x.vs from rfl)
      have HPX := Lib.hid (HP.out k x hx)
      rw [show x.txt = tagText x.l x.s x.r x.vs from rfl] at HPX
      clear hx xs xz hcell HH HS CF CT HP HA
      go_wp2_with fail
      refine (CX.out _ (HXS.out.alloc _)).mono ?_
      rintro e w1 ⟨rfl, hb1⟩
      have BX := Lib.hid ((Boxed.made wr (tcells x (.slice xa xn xc)).toArray 24).below hb1)
      have HXS1 := Lib.hid ((HXS.out.alloc (.cells (tcells x (.slice xa xn xc)).toArray 24)).below hb1)
      have HB1 := Lib.hid (blw_trans (HB.out.alloc HB.out.size (.cells (tcells x (.slice xa xn xc)).toArray 24)) hb1)
      have HO1 := Lib.hid ((HO.out.alloc (.cells (tcells x (.slice xa xn xc)).toArray 24)).kept (grown_below hb1 none) (by cases oa <;> simp [Value.ownBlock]))
      clear hb1 x0 x1 x2 x3 HXS HB HO CX
      have x0 := BX.out.t0
      have x1 := BX.out.t1
      have x2 := BX.out.t2
      have x3 := BX.out.t3
      by_cases hf : tagFault x.l x.s x.r x.vs = 0
      · have HN := Lib.hid (HSX.out (HXF.out.trans hf))
        rw [hf, errE_nil rfl]
        go_wp2_with fail
        refine (CY.out _ HXS1.out).mono ?_
        rintro e w2 ⟨rfl, hb2⟩
        have HB2 := Lib.hid (blw_trans HB1.out hb2)
        have HO2 := Lib.hid (HO1.out.kept (grown_below hb2 none) (by cases oa <;> simp [Value.ownBlock]))
        generalize tagText x.l x.s x.r x.vs = X at *
        clear hb2 x0 x1 x2 x3 BX HXS1 CY HB1 HO1
        have hbs := HB2.out.size
        have hkl : k ≤ 1000000000 := by omega
        have own := HO2.out
        generalize (L.take k).map (fun x => txtV x.txt) = P at *
        go_wp2_with (at_builtin; refine wpList_append_own _ rfl _ _ 22 rfl w.heap.size 9 i0 (.string ByteArray.empty) 1 16 Tryd.underlying22 hi hz0 hz1 hz2 rfl (by decide) _ k P rfl (own.alloc _) ⟨w2.heap.size, 0, none⟩ 1 1 [txtV X] rfl rfl (cell_one_new _ _ _) (fun x hx => by simp at hx; subst hx; rfl) (by unfold maxLen; omega) (by omega) (by simp; omega) ?_; intro v' w3 hown hgrow _; have HO3 := Lib.hid hown; have HB3 := Lib.hid (show Below w.heap.size w w3 from (HB2.out.alloc hbs _).grown hgrow (by simp; omega) (fun k hk => (own.lt k hk).1)); obtain ⟨oa', oc', rfl⟩ := row_slice HO3.out; clear hown hgrow own)
        go_roundw
        case rel => exact ⟨k + 1, oa', oc', by go_num, rfl, by omega, HN, Lib.hid (by rw [HPX.out]; exact HO3.out), HB3⟩
        case measure => simp [RowKit.intOf]; omega
      · have HR := Lib.hid (HHX.out (by rw [HXF.out]; exact hf))
        rw [HXF.out] at HR
        rw [errE_some hf]
        generalize tagFault x.l x.s x.r x.vs = Fx at *
        go_wp2_with fail
        go_ret2
        exact ⟨.slice none 0 0, by have e := HR.out; subst e; rw [errE_some hf] <;> rfl, by rw [HNN.out (by rw [HR.out]; exact hf)]; exact .inl ⟨rfl, none, 0, rfl⟩, HB1.out⟩
    · have HR := Lib.hid (HE.out k (by omega) HA.out)
      have HK := Lib.hid (HF.out k (by omega))
      go_wp2_with fail
      go_ret2
      exact ⟨.slice oa k oc, by have e := HR.out; subst e; rfl, by rw [HNY.out HR.out]; have h := HO.out; rw [HK.out] at h; exact StrsAt.of_row h, HB.out⟩
theorem names_any (L : List Tg) (v : Value) (w : World) (hL : TagsAt w v L) (hn : L.length ≤ 1000000000) (hb : ∀ x ∈ L, x.bulk ≤ 100000000) :
    Calls Tryd.prog 54 #[v] w fun e w' => ∃ a n c, e = .returned (.tuple #[.slice a n c, errE (tfaults L)]) ∧ StrsAt w' (.slice a n c) (namesOf L) ∧ Below w.heap.size w w' := by
  obtain ⟨A, cap, rfl, hc⟩ := hL.spread
  refine (names_at L A cap w hn hc hb).mono ?_
  rintro e w' ⟨v, rfl, hs, hb⟩
  obtain ⟨a, n, c, rfl⟩ := hs.isSlice
  exact ⟨a, n, c, rfl, hs, hb⟩
end Go.Proofs.YtlhleojigcnjeaaDoor
