/- The walk of date.Parse: it tells the day of a text, or that it is none. Conditions: the tables hold their numbers; the text is short of 4000000000 bytes. -/
import Derived.Test.YtdcemkfljhdceaaGreatDoorAtoi
import Derived.Test.YtdcemkfljhdceaaGreatDoorMax
import Derived.Test.YtdcemkfljhdceaaGreatDoorBy
import Derived.Test.YtdcemkfljhdceaaGreatDoorRead
import Derived.Test.YtdcemkfljhdceaaGreatDoorDateTxt
import Derived.Test.YtdcemkfljhdceaaGreatDoorBoxS
namespace Go.Proofs.YtdcemkfljhdceaaGreatDoor
open Go.RowKit

theorem vld_nat {y m d : Int} (h : Cal.vld y m d) : y.toNat < 10000 ∧ m.toNat < 100 ∧ d.toNat < 100 := by
  have hm := Cal.bef_step y m h.2.2.1 h.2.2.2.1
  obtain ⟨h1, h2, h3, h4, h5, h6⟩ := h
  omega
theorem dtxt_eq (y m d : Int) : dtxt y m d = Dtx.pad 4 y.toNat ++ 45 :: (Dtx.pad 2 m.toNat ++ 45 :: Dtx.pad 2 d.toNat) := by
  unfold dtxt; simp
theorem dtxt_len {y m d : Int} (h : Cal.vld y m d) : (dtxt y m d).length = 10 := by
  obtain ⟨h1, h2, h3⟩ := vld_nat h
  rw [dtxt_eq, Dtx.pad4 h1, Dtx.pad2 h2, Dtx.pad2 h3]; rfl
theorem dtxt_parts {y m d : Int} (h : Cal.vld y m d) : Lib.splitN (dtxt y m d) [45] 3 = [Dtx.pad 4 y.toNat, Dtx.pad 2 m.toNat, Dtx.pad 2 d.toNat] := by
  obtain ⟨h1, h2, h3⟩ := vld_nat h
  unfold Lib.splitN
  rw [dtxt_len h, show min 3 (10 + 1) - 1 = 1 + 1 from rfl, dtxt_eq, Byt.splitK_hit _ _ (Byt.no_dash4 h1), Byt.splitK_hit _ _ (Byt.no_dash2 h2)]
  rfl
/-- a text that is a day's: its parts tell that day -/
theorem dtxt_nums {y m d : Int} (h : Cal.vld y m d) {L : List (List UInt8)} (hL : Lib.splitN (dtxt y m d) [45] 3 = L) : L.length = 3 ∧ (∀ (j : Nat) x, L[j]? = some x → ∃ v, Lib.atoiAll x = .ok v) ∧ atoiV (L.getD 0 []) = y ∧ atoiV (L.getD 1 []) = m ∧ atoiV (L.getD 2 []) = d := by
  obtain ⟨h1, h2, h3⟩ := vld_nat h
  rw [dtxt_parts h] at hL
  subst hL
  have a1 := Byt.atoi_pad4 h1; have a2 := Byt.atoi_pad2 h2; have a3 := Byt.atoi_pad2 h3
  obtain ⟨g1, _, g3, _, g5, _⟩ := h
  refine ⟨rfl, fun j x hx => ?_, ?_, ?_, ?_⟩
  · match j, hx with
    | 0, hx => obtain rfl := Option.some.inj hx; exact ⟨_, a1⟩
    | 1, hx => obtain rfl := Option.some.inj hx; exact ⟨_, a2⟩
    | 2, hx => obtain rfl := Option.some.inj hx; exact ⟨_, a3⟩
  · show atoiV (Dtx.pad 4 y.toNat) = y
    rw [atoiV_ok a1]; omega
  · show atoiV (Dtx.pad 2 m.toNat) = m
    rw [atoiV_ok a2]; omega
  · show atoiV (Dtx.pad 2 d.toNat) = d
    rw [atoiV_ok a3]; omega
theorem splitN_len3 (s : List UInt8) : (Lib.splitN s [45] 3).length ≤ 3 ∧ 0 < (Lib.splitN s [45] 3).length := by
  have h : ∀ (k : Nat) (s : List UInt8), (Lib.splitK [45] 0 k s).length ≤ k + 1 ∧ 0 < (Lib.splitK [45] 0 k s).length := by
    intro k
    induction k with
    | zero => intro s; exact ⟨Nat.le_refl _, Nat.one_pos⟩
    | succ k ih =>
      intro s
      unfold Lib.splitK
      split
      · simp
      · have := ih (s.drop ((Lib.index s [45]).toNat + 1))
        simp only [List.length_cons]
        exact ⟨by have := this.1; simp only [List.length_nil, Nat.zero_add]; omega, by omega⟩
  have := h (min 3 (s.length + 1) - 1) s
  unfold Lib.splitN
  exact ⟨by omega, this.2⟩
theorem splitN_short (s : List UInt8) {x : List UInt8} (hx : x ∈ Lib.splitN s [45] 3) : x.length ≤ s.length := by
  have h : ∀ (k : Nat) (s : List UInt8) (x : List UInt8), x ∈ Lib.splitK [45] 0 k s → x.length ≤ s.length := by
    intro k
    induction k with
    | zero => intro s x hx; simp [Lib.splitK] at hx; rw [hx]; omega
    | succ k ih =>
      intro s x hx
      unfold Lib.splitK at hx
      split at hx
      · simp at hx; rw [hx]; omega
      · rcases List.mem_cons.1 hx with rfl | hx
        · simp; omega
        · have := ih _ x hx
          simp at this; omega
  exact h _ s x hx
/-- a call that gives these texts in a new block -/
def NewStrs (w : World) (l : List (List UInt8)) (e : Ending) (w' : World) : Prop := ∃ b cap, e = .returned (.slice (some ⟨b, 0, none⟩) l.length cap) ∧ w.heap.size ≤ b ∧ l.length ≤ cap ∧ cap ≤ maxLen ∧ (∀ (j : Nat) x, l[j]? = some x → w'.cell? ⟨b, j, none⟩ = some (.string ⟨x.toArray⟩)) ∧ Below w.heap.size w w'
theorem splitN_any (s : List UInt8) (w : World) (hM : MaxW w) (hs : s.length ≤ 4000000000) :
    Calls Tryz.prog 25 #[.string ⟨s.toArray⟩, .string ⟨#[45]⟩, .int .i64 3] w (NewStrs w (Lib.splitN s [45] 3)) := by
  obtain ⟨m, hm⟩ := hM
  have hz : (⟨s.toArray⟩ : ByteArray).size = s.length := size_mkl s
  have hd := Lib.splitB_data ⟨#[45]⟩ 0 (min 3 (s.length + 1) - 1) ⟨s.toArray⟩
  have hl3 := splitN_len3 s
  have hlen := Lib.splitB_length_le ⟨#[45]⟩ 0 (min 3 (s.length + 1) - 1) ⟨s.toArray⟩
  refine (Tryz.strings_SplitN ⟨s.toArray⟩ ⟨#[45]⟩ 3 m w (by rw [hz]; omega) hm (by decide) (by omega) (by omega)).mono ?_
  rw [hz]
  have hd' : (Lib.splitB ⟨#[45]⟩ 0 (min 3 (s.length + 1) - 1) ⟨s.toArray⟩).map (·.data.toList) = Lib.splitN s [45] 3 := by rw [hd]; rfl
  generalize Lib.splitB ⟨#[45]⟩ 0 (min 3 (s.length + 1) - 1) ⟨s.toArray⟩ = Q at *
  rw [← hd'] at hl3 ⊢
  rw [List.length_map] at hl3
  rintro e w' ⟨rfl, rfl⟩
  refine ⟨w.heap.size, _, by rw [List.length_map], Nat.le_refl _, ?_, by unfold maxLen; omega, ?_, blw_alloc _ _⟩
  · rw [List.length_map]; omega
  · intro j x hx
    rw [List.getElem?_map] at hx
    obtain ⟨q, hq, rfl⟩ := Option.map_eq_some_iff.1 hx
    have hj : j < Q.length := (List.getElem?_eq_some_iff.1 hq).1
    have hc : (Lib.cellsOf Q (min 3 (s.length + 1)))[j]? = some (.string q) := by
      unfold Lib.cellsOf
      rw [List.getElem?_toArray, List.getElem?_append_left (by simpa using hj)]
      simp [hq]
    simp [go_sem, hc]
/-- the right day of a text, or none -/
def IsParse (s : List UInt8) (w : World) (e : Ending) (w' : World) : Prop :=
  (∃ y m d : Int, Cal.vld y m d ∧ dtxt y m d = s ∧ e = .returned (.tuple #[.agg #[.int .i64 y, .int .i64 m, .int .i64 d], .nilIface]) ∧ Below w.heap.size w w') ∨
  ((∀ y m d : Int, Cal.vld y m d → dtxt y m d ≠ s) ∧ e = .returned (.tuple #[.agg #[.int .i64 0, .int .i64 0, .int .i64 0], errV 3]) ∧ Below w.heap.size w w')
structure PM (w : World) : Prop where
  t : TabW w
  p : PowW w
  m : MaxW w
  n : NumW w
theorem PM.below {w w' : World} (h : PM w) (hb : Below w.heap.size w w') : PM w' := ⟨h.t.below hb, h.p.below hb, h.m.below hb, h.n.below hb⟩

set_option maxRecDepth 100000 in
set_option maxHeartbeats 2000000 in
theorem dparse_any (s : List UInt8) (w : World) (hT : PM w) (hs : s.length ≤ 4000000000) :
    Calls Tryz.prog 15 #[.string ⟨s.toArray⟩] w (IsParse s w) := by
  have CS := Lib.hid fun w hM => splitN_any s w hM hs
  have h3 := splitN_len3 s
  have HM := Lib.hid fun x hx => splitN_short s (x := x) hx
  have HP := Lib.hid (fun (y m d : Int) (h : Cal.vld y m d) (e : dtxt y m d = s) => dtxt_nums h (L := Lib.splitN s [45] 3) (by rw [e]))
  obtain ⟨l3, l0⟩ := h3
  generalize Lib.splitN s [45] 3 = L at *
  generalize HPOST : IsParse s w = POST
  have HPO := Lib.hid HPOST
  clear HPOST
  go_enter Tryz.func15, Tryz.ntmps15
  go_wp2_with fail
  refine (CS.out _ (hT.m.below ((Below.alloc (Below.alloc (Below.refl _ _) (Nat.le_refl _) _) (by simp) _)))).mono ?_
  rintro e w1 ⟨b, cap, rfl, hbn, hcap, hcm, hcell, hb⟩
  have W1 := Lib.hid (blw_trans (show Below w.heap.size w _ from (Below.alloc (Below.alloc (Below.refl _ _) (Nat.le_refl _) _) (by simp) _)) hb)
  have R1 := Lib.hid (((Boxed.made w #[.int .i64 0, .int .i64 0, .int .i64 0] 23).alloc (.cells #[.int .i64 0, .int .i64 0, .int .i64 0] 50)).below hb)
  have N1 := Lib.hid (Boxed.at (q := w.heap.size + 1) ((Boxed.made (w.alloc (.cells #[.int .i64 0, .int .i64 0, .int .i64 0] 23)) #[.int .i64 0, .int .i64 0, .int .i64 0] 50).below hb) (by simp))
  have HC := Lib.hid hcell
  have hbn' : w.heap.size + 2 ≤ b := by simpa using hbn
  have HCM := Lib.hid hcm
  unfold maxLen at hcm
  clear hcell hbn hb CS
  go_wp2_with fail
  go_loopw [15] (fun t wr => ∃ k : Nat, t = .int .i64 k ∧ k ≤ L.length ∧ Hid (Below w.heap.size w wr) ∧ Hid (Boxed wr w.heap.size #[.int .i64 0, .int .i64 0, .int .i64 0]) ∧
      Hid (Boxed wr (w.heap.size + 1) #[.int .i64 (if 0 < k then atoiV (L.getD 0 []) else 0), .int .i64 (if 1 < k then atoiV (L.getD 1 []) else 0), .int .i64 (if 2 < k then atoiV (L.getD 2 []) else 0)]) ∧
      Hid (∀ (j : Nat) x, L[j]? = some x → wr.cell? ⟨b, j, none⟩ = some (.string ⟨x.toArray⟩)) ∧ Hid (∀ (j : Nat) x, j < k → L[j]? = some x → ∃ v, Lib.atoiAll x = .ok v)) (fun t _ => 3 - (RowKit.intOf t).toNat)
  case atStart => exact ⟨0, rfl, Nat.zero_le _, W1, R1, Lib.hid (by simpa using N1.out), HC, Lib.hid (fun j x h => absurd h (Nat.not_lt_zero _))⟩
  case round =>
    obtain ⟨k, rfl, hk, HW, HR, HN, HCK, HA⟩ := hrel
    clear W1 R1 N1 HC
    by_cases hlt : k < L.length
    · obtain ⟨x, hx⟩ : ∃ x, L[k]? = some x := ⟨L[k], List.getElem?_eq_getElem hlt⟩
      have xl := HM.out x (List.mem_of_getElem? hx)
      have hxd : L.getD k [] = x := by rw [List.getD_eq_getElem?_getD, hx]; rfl
      have xb := atoiV_bd x
      have hk3 : k = 0 ∨ k = 1 ∨ k = 2 := by omega
      rcases hk3 with rfl | rfl | rfl
      · have N := HN.out
        simp at N
        have HX := Lib.hid hx
        have HXD := Lib.hid hxd
        have xc := HCK.out 0 x hx
        have nc := N.cell 0 _ rfl
        have nf := N.free 0 (by simp)
        have rc0 := HR.out.cell 0 _ rfl
        have rc1 := HR.out.cell 1 _ rfl
        have rc2 := HR.out.cell 2 _ rfl
        have rf0 := HR.out.free 0 (by simp)
        have rf1 := HR.out.free 1 (by simp)
        have rf2 := HR.out.free 2 (by simp)
        have HNN := Lib.hid N
        clear N hx hxd HN
        by_cases hv : ∃ v, Lib.atoiAll x = .ok v
        · obtain ⟨v, hv⟩ := hv
          have CA := Lib.hid fun w => atoi_yes x v w (by omega) hv
          have vb := Lib.atoiAll_bounds hv
          have HV := Lib.hid (show atoiV (L.getD 0 []) = v by rw [HXD.out]; exact atoiV_ok hv)
          have HOK := Lib.hid (show ∀ (j : Nat) z, j < 0 + 1 → L[j]? = some z → ∃ v, Lib.atoiAll z = .ok v from fun j z hj hz => by
            by_cases e : j = 0
            · subst e; exact ⟨v, by rw [Option.some.inj (hz.symm.trans HX.out)]; exact hv⟩
            · exact HA.out j z (by omega) hz)
          clear hv
          have HNC := Lib.hid nc
          have HNF := Lib.hid nf
          clear nc nf rc0 rc1 rc2 rf0 rf1 rf2
          go_wp2_with fail
          refine (CA.out _).mono ?_
          rintro e w2 ⟨rfl, hb⟩
          have HW2 := Lib.hid (blw_trans HW.out hb)
          have HR2 := Lib.hid (HR.out.below hb)
          have HN2 := Lib.hid (HNN.out.below hb)
          have HC2 := Lib.hid (show ∀ (j : Nat) z, L[j]? = some z → w2.cell? ⟨b, j, none⟩ = some (.string ⟨z.toArray⟩) from fun j z hz => cell_keep (HCK.out j z hz) hb)
          clear hb HW HR HNN HCK xc HNC HNF
          have nc := HN2.out.cell 0 _ rfl
          have nf := HN2.out.free 0 (by simp)
          go_wp2_with fail
          go_roundw
          case rel => exact ⟨0 + 1, by go_num, by omega, Lib.hid (HW2.out.setCell (by simp) _), Lib.hid (HR2.out.far (by simp) _ _), Lib.hid (by have z := HN2.out.set 0 (.int .i64 v) (by simp); rw [← HV.out] at z ⊢; simpa using z), Lib.hid (fun j z hz => (World.cell?_setCell_other _ _ _ _ (fun e => by have e1 := congrArg Addr.block e; dsimp only at e1; omega)).trans (HC2.out j z hz)), HOK⟩
          case measure => simp [RowKit.intOf]
        · have CA := Lib.hid fun w hW => atoi_no x w hW (by omega) (fun v e => hv ⟨v, e⟩)
          have HNO := Lib.hid (show ∀ y m d : Int, Cal.vld y m d → dtxt y m d ≠ s from fun y m d h e => hv ((HP.out y m d h e).2.1 0 x HX.out))
          clear hv nc nf rc0 rc1 rc2 rf0 rf1 rf2
          go_wp2_with fail
          refine (CA.out _ (hT.n.below HW.out)).mono ?_
          rintro e w2 ⟨u, N, rfl, hb⟩
          have HW2 := Lib.hid (blw_trans HW.out hb)
          have HR2 := Lib.hid (HR.out.below hb)
          clear hb HW HR HNN HCK xc
          have rc0 := HR2.out.cell 0 _ rfl
          have rc1 := HR2.out.cell 1 _ rfl
          have rc2 := HR2.out.cell 2 _ rfl
          have rf0 := HR2.out.free 0 (by simp)
          have rf1 := HR2.out.free 1 (by simp)
          have rf2 := HR2.out.free 2 (by simp)
          go_wp2_with fail
          refine bodyPost_ret (v := .tuple #[.agg #[.int .i64 0, .int .i64 0, .int .i64 0], errV 3]) (by simp [results, Tryz.results15, go_sem, rc0, rc1, rc2]) rfl ?_
          rw [← HPO.out]
          refine .inr ⟨HNO.out, rfl, ?_⟩
          repeat (first | exact HW2.out | refine Below.setCell ?_ (by simp) _)
      · have N := HN.out
        simp at N
        have HX := Lib.hid hx
        have HXD := Lib.hid hxd
        have xc := HCK.out 1 x hx
        have nc := N.cell 1 _ rfl
        have nf := N.free 1 (by simp)
        have rc0 := HR.out.cell 0 _ rfl
        have rc1 := HR.out.cell 1 _ rfl
        have rc2 := HR.out.cell 2 _ rfl
        have rf0 := HR.out.free 0 (by simp)
        have rf1 := HR.out.free 1 (by simp)
        have rf2 := HR.out.free 2 (by simp)
        have HNN := Lib.hid N
        clear N hx hxd HN
        by_cases hv : ∃ v, Lib.atoiAll x = .ok v
        · obtain ⟨v, hv⟩ := hv
          have CA := Lib.hid fun w => atoi_yes x v w (by omega) hv
          have vb := Lib.atoiAll_bounds hv
          have HV := Lib.hid (show atoiV (L.getD 1 []) = v by rw [HXD.out]; exact atoiV_ok hv)
          have HOK := Lib.hid (show ∀ (j : Nat) z, j < 1 + 1 → L[j]? = some z → ∃ v, Lib.atoiAll z = .ok v from fun j z hj hz => by
            by_cases e : j = 1
            · subst e; exact ⟨v, by rw [Option.some.inj (hz.symm.trans HX.out)]; exact hv⟩
            · exact HA.out j z (by omega) hz)
          clear hv
          have HNC := Lib.hid nc
          have HNF := Lib.hid nf
          clear nc nf rc0 rc1 rc2 rf0 rf1 rf2
          go_wp2_with fail
          refine (CA.out _).mono ?_
          rintro e w2 ⟨rfl, hb⟩
          have HW2 := Lib.hid (blw_trans HW.out hb)
          have HR2 := Lib.hid (HR.out.below hb)
          have HN2 := Lib.hid (HNN.out.below hb)
          have HC2 := Lib.hid (show ∀ (j : Nat) z, L[j]? = some z → w2.cell? ⟨b, j, none⟩ = some (.string ⟨z.toArray⟩) from fun j z hz => cell_keep (HCK.out j z hz) hb)
          clear hb HW HR HNN HCK xc HNC HNF
          have nc := HN2.out.cell 1 _ rfl
          have nf := HN2.out.free 1 (by simp)
          go_wp2_with fail
          go_roundw
          case rel => exact ⟨1 + 1, by go_num, by omega, Lib.hid (HW2.out.setCell (by simp) _), Lib.hid (HR2.out.far (by simp) _ _), Lib.hid (by have z := HN2.out.set 1 (.int .i64 v) (by simp); rw [← HV.out] at z ⊢; simpa using z), Lib.hid (fun j z hz => (World.cell?_setCell_other _ _ _ _ (fun e => by have e1 := congrArg Addr.block e; dsimp only at e1; omega)).trans (HC2.out j z hz)), HOK⟩
          case measure => simp [RowKit.intOf]
        · have CA := Lib.hid fun w hW => atoi_no x w hW (by omega) (fun v e => hv ⟨v, e⟩)
          have HNO := Lib.hid (show ∀ y m d : Int, Cal.vld y m d → dtxt y m d ≠ s from fun y m d h e => hv ((HP.out y m d h e).2.1 1 x HX.out))
          clear hv nc nf rc0 rc1 rc2 rf0 rf1 rf2
          go_wp2_with fail
          refine (CA.out _ (hT.n.below HW.out)).mono ?_
          rintro e w2 ⟨u, N, rfl, hb⟩
          have HW2 := Lib.hid (blw_trans HW.out hb)
          have HR2 := Lib.hid (HR.out.below hb)
          clear hb HW HR HNN HCK xc
          have rc0 := HR2.out.cell 0 _ rfl
          have rc1 := HR2.out.cell 1 _ rfl
          have rc2 := HR2.out.cell 2 _ rfl
          have rf0 := HR2.out.free 0 (by simp)
          have rf1 := HR2.out.free 1 (by simp)
          have rf2 := HR2.out.free 2 (by simp)
          go_wp2_with fail
          refine bodyPost_ret (v := .tuple #[.agg #[.int .i64 0, .int .i64 0, .int .i64 0], errV 3]) (by simp [results, Tryz.results15, go_sem, rc0, rc1, rc2]) rfl ?_
          rw [← HPO.out]
          refine .inr ⟨HNO.out, rfl, ?_⟩
          repeat (first | exact HW2.out | refine Below.setCell ?_ (by simp) _)
      · have N := HN.out
        simp at N
        have HX := Lib.hid hx
        have HXD := Lib.hid hxd
        have xc := HCK.out 2 x hx
        have nc := N.cell 2 _ rfl
        have nf := N.free 2 (by simp)
        have rc0 := HR.out.cell 0 _ rfl
        have rc1 := HR.out.cell 1 _ rfl
        have rc2 := HR.out.cell 2 _ rfl
        have rf0 := HR.out.free 0 (by simp)
        have rf1 := HR.out.free 1 (by simp)
        have rf2 := HR.out.free 2 (by simp)
        have HNN := Lib.hid N
        clear N hx hxd HN
        by_cases hv : ∃ v, Lib.atoiAll x = .ok v
        · obtain ⟨v, hv⟩ := hv
          have CA := Lib.hid fun w => atoi_yes x v w (by omega) hv
          have vb := Lib.atoiAll_bounds hv
          have HV := Lib.hid (show atoiV (L.getD 2 []) = v by rw [HXD.out]; exact atoiV_ok hv)
          have HOK := Lib.hid (show ∀ (j : Nat) z, j < 2 + 1 → L[j]? = some z → ∃ v, Lib.atoiAll z = .ok v from fun j z hj hz => by
            by_cases e : j = 2
            · subst e; exact ⟨v, by rw [Option.some.inj (hz.symm.trans HX.out)]; exact hv⟩
            · exact HA.out j z (by omega) hz)
          clear hv
          have HNC := Lib.hid nc
          have HNF := Lib.hid nf
          clear nc nf rc0 rc1 rc2 rf0 rf1 rf2
          go_wp2_with fail
          refine (CA.out _).mono ?_
          rintro e w2 ⟨rfl, hb⟩
          have HW2 := Lib.hid (blw_trans HW.out hb)
          have HR2 := Lib.hid (HR.out.below hb)
          have HN2 := Lib.hid (HNN.out.below hb)
          have HC2 := Lib.hid (show ∀ (j : Nat) z, L[j]? = some z → w2.cell? ⟨b, j, none⟩ = some (.string ⟨z.toArray⟩) from fun j z hz => cell_keep (HCK.out j z hz) hb)
          clear hb HW HR HNN HCK xc HNC HNF
          have nc := HN2.out.cell 2 _ rfl
          have nf := HN2.out.free 2 (by simp)
          go_wp2_with fail
          go_roundw
          case rel => exact ⟨2 + 1, by go_num, by omega, Lib.hid (HW2.out.setCell (by simp) _), Lib.hid (HR2.out.far (by simp) _ _), Lib.hid (by have z := HN2.out.set 2 (.int .i64 v) (by simp); rw [← HV.out] at z ⊢; simpa using z), Lib.hid (fun j z hz => (World.cell?_setCell_other _ _ _ _ (fun e => by have e1 := congrArg Addr.block e; dsimp only at e1; omega)).trans (HC2.out j z hz)), HOK⟩
          case measure => simp [RowKit.intOf]
        · have CA := Lib.hid fun w hW => atoi_no x w hW (by omega) (fun v e => hv ⟨v, e⟩)
          have HNO := Lib.hid (show ∀ y m d : Int, Cal.vld y m d → dtxt y m d ≠ s from fun y m d h e => hv ((HP.out y m d h e).2.1 2 x HX.out))
          clear hv nc nf rc0 rc1 rc2 rf0 rf1 rf2
          go_wp2_with fail
          refine (CA.out _ (hT.n.below HW.out)).mono ?_
          rintro e w2 ⟨u, N, rfl, hb⟩
          have HW2 := Lib.hid (blw_trans HW.out hb)
          have HR2 := Lib.hid (HR.out.below hb)
          clear hb HW HR HNN HCK xc
          have rc0 := HR2.out.cell 0 _ rfl
          have rc1 := HR2.out.cell 1 _ rfl
          have rc2 := HR2.out.cell 2 _ rfl
          have rf0 := HR2.out.free 0 (by simp)
          have rf1 := HR2.out.free 1 (by simp)
          have rf2 := HR2.out.free 2 (by simp)
          go_wp2_with fail
          refine bodyPost_ret (v := .tuple #[.agg #[.int .i64 0, .int .i64 0, .int .i64 0], errV 3]) (by simp [results, Tryz.results15, go_sem, rc0, rc1, rc2]) rfl ?_
          rw [← HPO.out]
          refine .inr ⟨HNO.out, rfl, ?_⟩
          repeat (first | exact HW2.out | refine Below.setCell ?_ (by simp) _)
    · have e0 : (if 0 < k then atoiV (L.getD 0 []) else 0) = atoiV (L.getD 0 []) := by rw [if_pos (by omega)]
      have e1 : (if 1 < k then atoiV (L.getD 1 []) else 0) = atoiV (L.getD 1 []) := by
        split
        · rfl
        · rw [List.getD_eq_getElem?_getD, List.getElem?_eq_none (by omega)]; rfl
      have e2 : (if 2 < k then atoiV (L.getD 2 []) else 0) = atoiV (L.getD 2 []) := by
        split
        · rfl
        · rw [List.getD_eq_getElem?_getD, List.getElem?_eq_none (by omega)]; rfl
      rw [e0, e1, e2] at HN
      have HQ := Lib.hid (show ∀ y m d : Int, Cal.vld y m d → dtxt y m d = s → atoiV (L.getD 0 []) = y ∧ atoiV (L.getD 1 []) = m ∧ atoiV (L.getD 2 []) = d from fun y m d h e => (HP.out y m d h e).2.2)
      have b0 := atoiV_bd (L.getD 0 [])
      have b1 := atoiV_bd (L.getD 1 [])
      have b2 := atoiV_bd (L.getD 2 [])
      generalize atoiV (L.getD 0 []) = a0 at *
      generalize atoiV (L.getD 1 []) = a1 at *
      generalize atoiV (L.getD 2 []) = a2 at *
      clear e0 e1 e2 HA HCK HP
      have nc0 := HN.out.cell 0 _ rfl
      have nc1 := HN.out.cell 1 _ rfl
      have nc2 := HN.out.cell 2 _ rfl
      by_cases hv : Cal.vld a0 a1 a2
      · have ct := fun w (hT : PM w) => dtext_yes a0 a1 a2 w hT.t hT.p hv
        by_cases hx : dtxt a0 a1 a2 = s
        · rw [hx] at ct
          have CT := Lib.hid ct
          have HF := Lib.hid (And.intro hv hx)
          clear ct hv hx
          go_wp2_with fail
          refine (CT.out _ (hT.below (by exact HW.out.alloc HW.out.size _))).mono ?_
          rintro e w2 ⟨rfl, hb⟩
          have HW2 := Lib.hid (blw_trans (show Below w.heap.size w _ from HW.out.alloc HW.out.size _) hb)
          have HR2 := Lib.hid ((HR.out.alloc _).below hb)
          have HD2 := Lib.hid ((Boxed.made wr #[.int .i64 a0, .int .i64 a1, .int .i64 a2] 23).below hb)
          clear hb HW HR HN nc0 nc1 nc2
          have rc0 := HR2.out.cell 0 _ rfl
          have rc1 := HR2.out.cell 1 _ rfl
          have rc2 := HR2.out.cell 2 _ rfl
          have rf0 := HR2.out.free 0 (by simp)
          have rf1 := HR2.out.free 1 (by simp)
          have rf2 := HR2.out.free 2 (by simp)
          have dc0 := HD2.out.cell 0 _ rfl
          have dc1 := HD2.out.cell 1 _ rfl
          have dc2 := HD2.out.cell 2 _ rfl
          go_wp2_with fail
          refine bodyPost_ret (v := .tuple #[.agg #[.int .i64 a0, .int .i64 a1, .int .i64 a2], .nilIface]) (by simp [results, Tryz.results15, go_sem, rc0, rc1, rc2]) rfl ?_
          rw [← HPO.out]
          refine .inl ⟨a0, a1, a2, HF.out.1, HF.out.2, rfl, ?_⟩
          repeat (first | exact HW2.out | refine Below.setCell ?_ (by simp) _)
        · have HNO := Lib.hid (show ∀ y m d : Int, Cal.vld y m d → dtxt y m d ≠ s from fun y m d h e => by
            obtain ⟨rfl, rfl, rfl⟩ := HQ.out y m d h e
            exact hx e)
          have q1 : (dtxt a0 a1 a2 == s) = false := beq_eq_false_iff_ne.2 hx
          have q2 : (dtxt a0 a1 a2 != s) = true := by rw [bne, q1]; rfl
          have CT := Lib.hid ct
          clear ct hv hx
          generalize dtxt a0 a1 a2 = X at *
          go_wp2_with fail
          refine (CT.out _ (hT.below (by exact HW.out.alloc HW.out.size _))).mono ?_
          rintro e w2 ⟨rfl, hb⟩
          have HW2 := Lib.hid (blw_trans (show Below w.heap.size w _ from HW.out.alloc HW.out.size _) hb)
          have HR2 := Lib.hid ((HR.out.alloc _).below hb)
          have HD2 := Lib.hid ((Boxed.made wr #[.int .i64 a0, .int .i64 a1, .int .i64 a2] 23).below hb)
          clear hb HW HR HN nc0 nc1 nc2
          have rc0 := HR2.out.cell 0 _ rfl
          have rc1 := HR2.out.cell 1 _ rfl
          have rc2 := HR2.out.cell 2 _ rfl
          have rf0 := HR2.out.free 0 (by simp)
          have rf1 := HR2.out.free 1 (by simp)
          have rf2 := HR2.out.free 2 (by simp)
          have dc0 := HD2.out.cell 0 _ rfl
          have dc1 := HD2.out.cell 1 _ rfl
          have dc2 := HD2.out.cell 2 _ rfl
          go_wp2_with fail
          refine bodyPost_ret (v := .tuple #[.agg #[.int .i64 0, .int .i64 0, .int .i64 0], errV 3]) (by simp [results, Tryz.results15, go_sem, rc0, rc1, rc2]) rfl ?_
          rw [← HPO.out]
          refine .inr ⟨HNO.out, rfl, ?_⟩
          repeat (first | exact HW2.out | refine Below.setCell ?_ (by simp) _)
      · have HNO := Lib.hid (show ∀ y m d : Int, Cal.vld y m d → dtxt y m d ≠ s from fun y m d h e => by
          obtain ⟨rfl, rfl, rfl⟩ := HQ.out y m d h e
          exact hv h)
        have CT := Lib.hid fun w (hT : PM w) => dtext_no a0 a1 a2 w hT.t hv
        clear hv
        go_wp2_with fail
        refine (CT.out _ (hT.below (by exact HW.out.alloc HW.out.size _))).mono ?_
        rintro e w2 ⟨rfl, hb⟩
        have HW2 := Lib.hid (blw_trans (show Below w.heap.size w _ from HW.out.alloc HW.out.size _) hb)
        have HR2 := Lib.hid ((HR.out.alloc _).below hb)
        have HD2 := Lib.hid ((Boxed.made wr #[.int .i64 a0, .int .i64 a1, .int .i64 a2] 23).below hb)
        clear hb HW HR HN nc0 nc1 nc2
        have rc0 := HR2.out.cell 0 _ rfl
        have rc1 := HR2.out.cell 1 _ rfl
        have rc2 := HR2.out.cell 2 _ rfl
        have rf0 := HR2.out.free 0 (by simp)
        have rf1 := HR2.out.free 1 (by simp)
        have rf2 := HR2.out.free 2 (by simp)
        have dc0 := HD2.out.cell 0 _ rfl
        have dc1 := HD2.out.cell 1 _ rfl
        have dc2 := HD2.out.cell 2 _ rfl
        go_wp2_with fail
        refine bodyPost_ret (v := .tuple #[.agg #[.int .i64 0, .int .i64 0, .int .i64 0], errV 3]) (by simp [results, Tryz.results15, go_sem, rc0, rc1, rc2]) rfl ?_
        rw [← HPO.out]
        refine .inr ⟨HNO.out, rfl, ?_⟩
        repeat (first | exact HW2.out | refine Below.setCell ?_ (by simp) _)
end Go.Proofs.YtdcemkfljhdceaaGreatDoor
