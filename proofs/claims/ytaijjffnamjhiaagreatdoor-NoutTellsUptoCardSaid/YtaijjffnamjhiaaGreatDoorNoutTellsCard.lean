/- The law NoutTells, proved where what it reads is of bulk at most 1048576: the call returns true of every input, and turns nothing that was there. Conditions: the row's own (the listed variables hold what the program's text lays; the card ties them). -/
import Derived.Test.YtaijjffnamjhiaaGreatDoorNtA
import Derived.Test.YtaijjffnamjhiaaGreatDoorRfM
import Derived.Test.YtaijjffnamjhiaaGreatDoorAs
import Derived.Test.YtaijjffnamjhiaaGreatDoorBox
import Derived.Stop.Joined
import Derived.Lib.SmallJoins
import Derived.OpenShut
import Derived.Test.YtaijjffnamjhiaaGreatDoorRows
import Derived.Test.YtaijjffnamjhiaaGreatDoorItoa
import Derived.LaidSub
import Derived.MakeChecks
import Derived.Test.YtaijjffnamjhiaaGreatDoorFrame
import Derived.LaidLaws
import Derived.LaidHandle
import Derived.Lay
import Derived.LaidMore
import Derived.Test.YtaijjffnamjhiaaGreatDoorCards
import Derived.Test.YtaijjffnamjhiaaGreatDoorTie
import Derived.Deep.DeepHandedRow
import Derived.Deep.DeepWitnessRowRef
namespace Go.Proofs.YtaijjffnamjhiaaGreatDoor
open Go.RowKit
open Dcm (okD)
theorem Bx.drewN' {w0 w : World} {pv yv : Array Value} {c s : Value} (h : Bx w0 pv yv c s w) (n : Nat) : Bx w0 pv yv c s (w.drewN n) := h.drewN n

set_option maxRecDepth 100000 in
set_option maxHeartbeats 4000000 in
theorem readof_any (p : Nt.Pt) (pt cm : UInt8) (t : List UInt8) (w : World) (h1 : p.pre.length ≤ 100000000) (h2 : p.suf.length ≤ 100000000) (ht : t.length ≤ 1000000000) (hp : Nt.patE p = 0) (hy : Nt.symB pt cm = true) :
    Calls Tryz.prog 41 #[pV p, yV pt cm, .string ⟨t.toArray⟩] w (Nt.ReadPost p pt cm t (.bool false) (.bool true) w) := by
  obtain ⟨Q', hQ'⟩ : ∃ Q', Q' = Nt.ReadPost p pt cm t (.bool false) (.bool true) w := ⟨_, rfl⟩
  rw [← hQ']
  have HQ0 := Lib.hid fun (hn : Nt.candR p pt t = none) w' (hb : Below w.heap.size w w') => (show Q' (.returned (.tuple #[.agg #[.int .i64 0, .int .i64 0], .bool false])) w' by
    rw [hQ']; exact .inr ⟨fun c s gd => (by rw [Nt.rgood_cand hp hy gd] at hn; exact absurd hn (by simp)), rfl, hb⟩)
  have HQ1 := Lib.hid fun c s (hc : Nt.candR p pt t = some (c, s)) (hd : okD c s) (hs : Nt.shown p pt cm c s = t) w' (hb : Below w.heap.size w w') => (show Q' (.returned (.tuple #[.agg #[.int .i64 c, .int .i64 s], .bool true])) w' by
    rw [hQ']; exact .inl ⟨c, s, Nt.rgood_of hp hy hd hc hs, rfl, hb⟩)
  have HQ2 := Lib.hid fun c s (hc : Nt.candR p pt t = some (c, s)) (hs : ¬ (s ≤ p.mf ∧ okD c s ∧ Nt.shown p pt cm c s = t)) w' (hb : Below w.heap.size w w') => (show Q' (.returned (.tuple #[.agg #[.int .i64 0, .int .i64 0], .bool false])) w' by
    rw [hQ']
    refine .inr ⟨fun c' s' gd => hs ?_, rfl, hb⟩
    have h := Nt.rgood_cand hp hy gd
    rw [hc] at h
    obtain ⟨e1, e2⟩ := Prod.mk.inj (Option.some.inj h)
    rw [e1, e2]
    exact ⟨Nt.good_mf hp gd, gd.1, gd.2.1⟩)
  clear hQ'
  have CH := Lib.hid fun (c s : Int) (hd : okD c s) (wx : World) => rshown_any p pt cm c s wx (by omega) (by omega) hp hd
  have CS := Lib.hid fun wx => starts_any t [45] wx
  obtain ⟨M, hM⟩ : ∃ M, M = Lib.hasPrefix t [45] := ⟨_, rfl⟩
  rw [show ([45] : List UInt8).length = 1 from rfl, Nt.pre_take, ← hM] at CS
  obtain ⟨R0, hR0⟩ : ∃ R0, R0 = Lib.trimPrefix t [45] := ⟨_, rfl⟩
  have HR0 := Lib.hid (show (M = true → R0 = t.drop 1 ∧ 1 ≤ t.length) ∧ (M = false → R0 = t) from by
    rw [hR0, hM]; unfold Lib.trimPrefix
    refine ⟨fun h => ⟨by rw [if_pos h]; rfl, ?_⟩, fun h => by rw [h]; rfl⟩
    cases t with
    | nil => exact absurd h (by decide)
    | cons x r => simp)
  obtain ⟨SG, hSG⟩ : ∃ SG : Int, SG = if M then -1 else 1 := ⟨_, rfl⟩
  have HSG := Lib.hid hSG
  have bSG : -1 ≤ SG ∧ SG ≤ 1 := by rw [hSG]; split <;> omega
  obtain ⟨MID, hMID⟩ : ∃ MID, MID = Nt.midOf p t := ⟨_, rfl⟩
  have HAT := Lib.hid fun k x (h : MID[k]? = some x) => (show R0[p.pre.length + k]? = some x by rw [hR0]; rw [hMID] at h; exact Nt.mid_at h)
  have lM : MID.length = R0.length - p.suf.length - p.pre.length := by rw [hMID, hR0]; exact Nt.mid_len p t
  have lR : R0.length ≤ 1000000000 := by rw [hR0]; have := Lib.trimPrefix_le t [45]; omega
  have HTS := Lib.hid fun k x (h : MID[k]? = some x) => Nt.take_step (pt := pt) h (false, [], 0)
  have SK := Lib.hid fun k => Nt.scan_keeps (pt := pt) (MID.take k) (false, [], 0) (fun x hx => by simp at hx) (Nat.zero_le _)
  obtain ⟨RZ, hRZ⟩ : ∃ RZ, RZ = Nt.rzs (Nt.scan pt MID).2.2 (Nt.scan pt MID).2.1 := ⟨_, rfl⟩
  have HRZ := Lib.hid hRZ
  obtain ⟨HN, hHN⟩ : ∃ HN, HN = Nt.horn 0 RZ.1 := ⟨_, rfl⟩
  have HHN := Lib.hid hHN
  have HCN := Lib.hid (show Nt.candR p pt t = HN.map fun n => (SG * n, (RZ.2 : Int)) from by rw [hHN, hRZ, hMID, hSG, hM]; rfl)
  have kz : Byt.AllDig RZ.1 ∧ RZ.1.length ≤ 1000000000 ∧ RZ.2 ≤ 1000000000 := by
    have h := Nt.scan_keeps (pt := pt) MID (false, [], 0) (fun x hx => by simp at hx) (Nat.zero_le _)
    simp only [List.length_nil] at h
    have h' := Nt.rzs_keeps (Nt.scan pt MID).2.2 (Nt.scan pt MID).2.1 h.1
    have e1 : (Nt.scan pt MID).2.2 = (MID.foldl (Nt.step pt) (false, [], 0)).2.2 := rfl
    have e2 : (Nt.scan pt MID).2.1.length = (MID.foldl (Nt.step pt) (false, [], 0)).2.1.length := rfl
    rw [hRZ]
    exact ⟨h'.1, by omega, by omega⟩
  have HDG := Lib.hid kz.1
  have lz1 := kz.2.1
  have lz2 := kz.2.2
  clear kz hR0 hM hSG hMID hRZ hHN hp hy
  unfold pV yV at *
  obtain ⟨pre, suf, mi, nf, mf, g, g2⟩ := p
  simp only at *
  generalize hP : pre.length = PL at *
  generalize hS : suf.length = SL at *
  have X0 := Lib.hid (Bx.made w #[.string ⟨pre.toArray⟩, .string ⟨suf.toArray⟩, .int .i64 mi, .int .i64 nf, .int .i64 mf, .int .i64 g, .int .i64 g2] #[.int .u8 (pt.toNat : Int), .int .u8 (cm.toNat : Int)] (.int .i64 0) (.int .i64 0) 69 71 37)
  go_enter Tryz.func41, Tryz.ntmps41
  go_wp2_with fail
  refine (CS.out _).mono ?_
  rintro e w' ⟨rfl, rfl⟩
  clear CS
  generalize hw1 : ((w.alloc (.cells #[.string ⟨pre.toArray⟩, .string ⟨suf.toArray⟩, .int .i64 mi, .int .i64 nf, .int .i64 mf, .int .i64 g, .int .i64 g2] 69)).alloc (.cells #[.int .u8 (pt.toNat : Int), .int .u8 (cm.toNat : Int)] 71)).alloc (.cells #[.int .i64 0, .int .i64 0] 37) = w1 at *
  clear hw1
  have cp0 := X0.out.p.cell 0 _ rfl
  have cp1 := X0.out.p.cell 1 _ rfl
  have cp2 := X0.out.p.cell 2 _ rfl
  have cp3 := X0.out.p.cell 3 _ rfl
  have cp4 := X0.out.p.cell 4 _ rfl
  have cp5 := X0.out.p.cell 5 _ rfl
  have cp6 := X0.out.p.cell 6 _ rfl
  have cy0 := X0.out.y.cell 0 _ rfl
  have cy1 := X0.out.y.cell 1 _ rfl
  have cd0 := X0.out.d.cell 0 _ rfl
  have cd1 := X0.out.d.cell 1 _ rfl
  have clp := X0.out.p.lt
  have cly := X0.out.y.lt
  have cld := X0.out.d.lt
  go_upto_if 19 with fail
  go_cut [8, 9] from 8 (fun sa sb wx => sa = .int .i64 SG ∧ sb = .string ⟨R0.toArray⟩ ∧ w1 = wx)
  case first =>
    obtain ⟨h0, h1'⟩ := HR0.out
    have hsg := HSG.out
    cases M with
    | true =>
      obtain ⟨e1, e2⟩ := h0 rfl
      have SL1 := fun w => slice_fromI (P := Tryz.prog) 9 Tryz.underlying9 t 1 1 rfl e2 w
      rw [← e1] at SL1
      have esg : SG = -1 := hsg
      subst esg
      clear e1 e2 h0 h1' hsg
      go_wp2_with fail
      go_meet
      exact ⟨rfl, rfl, rfl⟩
    | false =>
      have e1 := h1' rfl
      have esg : SG = 1 := hsg
      subst esg
      subst e1
      go_wp2_with fail
      go_meet
      exact ⟨rfl, rfl, rfl⟩
  case rest =>
    obtain ⟨rfl, rfl, rfl⟩ := hcut
    clear HR0 HSG
    have hPi : ((⟨pre.toArray⟩ : ByteArray).size : Int) = (PL : Int) := by rw [size_mkl]; omega
    go_wp2_with fail
    go_loopw [10, 11, 12, 13] (fun vd vs vb vi wr => ∃ k j : Nat, j = PL + k ∧ vi = .int .i64 (j : Int) ∧ k ≤ MID.length ∧ vd = .string ⟨((MID.take k).foldl (Nt.step pt) (false, [], 0)).2.1.toArray⟩ ∧ vs = .int .i64 (((MID.take k).foldl (Nt.step pt) (false, [], 0)).2.2 : Int) ∧ vb = .bool ((MID.take k).foldl (Nt.step pt) (false, [], 0)).1 ∧ Hid (Bx w #[.string ⟨pre.toArray⟩, .string ⟨suf.toArray⟩, .int .i64 mi, .int .i64 nf, .int .i64 mf, .int .i64 g, .int .i64 g2] #[.int .u8 (pt.toNat : Int), .int .u8 (cm.toNat : Int)] (.int .i64 0) (.int .i64 0) wr)) (fun _ _ _ vi _ => (PL + MID.length) - (RowKit.intOf vi).toNat)
    case atStart => exact ⟨0, PL, by omega, by first | rfl | (rw [hP]), Nat.zero_le _, rfl, rfl, rfl, X0⟩
    case round =>
      obtain ⟨k, j, hj, rfl, hk, rfl, rfl, rfl, XR⟩ := hrel
      clear X0 cp0 cp1 cp2 cp3 cp4 cp5 cp6 cy0 cy1 cd0 cd1 clp cly cld
      have cp0 := XR.out.p.cell 0 _ rfl
      have cp1 := XR.out.p.cell 1 _ rfl
      have cp2 := XR.out.p.cell 2 _ rfl
      have cp3 := XR.out.p.cell 3 _ rfl
      have cp4 := XR.out.p.cell 4 _ rfl
      have cp5 := XR.out.p.cell 5 _ rfl
      have cp6 := XR.out.p.cell 6 _ rfl
      have cy0 := XR.out.y.cell 0 _ rfl
      have cy1 := XR.out.y.cell 1 _ rfl
      have clp := XR.out.p.lt
      have cly := XR.out.y.lt
      have sk := SK.out k
      have sk1 := SK.out (k + 1)
      simp only [List.length_nil] at sk sk1
      have lk : (MID.take k).length ≤ 1000000000 := by rw [List.length_take]; omega
      have lk1 : (MID.take (k + 1)).length ≤ 1000000000 := by rw [List.length_take]; omega
      by_cases hlt : k < MID.length
      · obtain ⟨x, hx⟩ : ∃ x, MID[k]? = some x := ⟨MID[k], List.getElem?_eq_getElem hlt⟩
        have hxr := HAT.out k x hx
        rw [← hj] at hxr
        have hst := HTS.out k x hx
        have IX := fun w => index_str (P := Tryz.prog) 9 Tryz.underlying9 R0 .i64 j x hxr w
        have jl : j < R0.length := (List.getElem?_eq_some_iff.1 hxr).1
        have SLx := fun w => slice_mid (P := Tryz.prog) 9 Tryz.underlying9 R0 .i64 .i64 j (j + 1) (by omega) (by omega) w
        rw [show (R0.drop j).take (j + 1 - j) = [x] from by
          rw [show j + 1 - j = 1 by omega, List.take_one, List.head?_drop, hxr]; rfl] at SLx
        rw [show ((j + 1 : Nat) : Int) = (j : Int) + 1 by omega] at SLx
        have hcond : (j : Int) < (R0.length : Int) - (SL : Int) := by omega
        have iw1 : IntKind.i64.wrap ((R0.length : Int) - (SL : Int)) = (R0.length : Int) - (SL : Int) := IntWalk.i64_in _ (by omega)
        have iw2 : IntKind.i64.wrap ((j : Int) + 1) = (j : Int) + 1 := IntWalk.i64_in _ (by omega)
        rw [hst] at sk1
        obtain ⟨ac, hac⟩ : ∃ ac, (MID.take k).foldl (Nt.step pt) (false, [], 0) = ac := ⟨_, rfl⟩
        rw [hac] at sk sk1 hst ⊢
        have HST := Lib.hid hst
        have HJ := Lib.hid hj
        clear hj
        clear hst hac hx hxr HQ0 HQ1 HQ2 CH HCN HHN HRZ HDG HTS HAT
        obtain ⟨bb, DG, SC⟩ := ac
        simp only at *
        have hxe := byteN_eq x pt
        have xb := x.toNat_lt
        obtain ⟨X, hX⟩ : ∃ X : Int, (x.toNat : Int) = X := ⟨_, rfl⟩
        have HX := Lib.hid hX
        rw [hX] at IX hxe
        clear hX
        have iw3 : IntKind.i64.wrap ((SC : Int) + 1) = (SC : Int) + 1 := IntWalk.i64_in _ (by omega)
        have AD : ∀ w, (Op.stringOp .add ⟨DG.toArray⟩ ⟨[x].toArray⟩).run Tryz.prog w = .ok (.string ⟨(DG ++ [x]).toArray⟩) w := fun w => add_str (P := Tryz.prog) DG [x] (by simp; omega) w
        obtain ⟨DX, hDX⟩ : ∃ DX, DX = DG ++ [x] := ⟨_, rfl⟩
        rw [← hDX] at AD
        have HDX := Lib.hid hDX
        clear hDX sk sk1 lk lk1
        have hXx := HX.out
        rcases Nat.lt_or_ge x.toNat 48 with hlo | hlo
        · have q0 : Nt.isDig x = false := by unfold Nt.isDig; rw [decide_eq_false (by omega)]; rfl
          have d0 : decide ((48 : Int) ≤ X) = false := dec_no (by omega)
          clear hXx xb
          clear hlo AD SLx
          cases bb with
          | true =>
            go_wp2_with fail
            go_big_quiet (fail)
            go_wp2_with fail
            go_roundw
            case rel => exact ⟨k + 1, j + 1, by have := HJ.out; omega, by go_num, by omega, by rw [HST.out]; unfold Nt.step; simp [q0], by rw [HST.out]; unfold Nt.step; simp [q0], by rw [HST.out]; unfold Nt.step; simp, Lib.hid (by repeat (first | exact XR.out | refine Bx.drewN ?_ _))⟩
            case measure => (have := HJ.out; simp [RowKit.intOf]; omega)
          | false =>
            generalize hE : (X == (pt.toNat : Int)) = E at *
            go_wp2_with fail
            go_big_quiet (fail)
            go_wp2_with fail
            go_roundw
            case rel => exact ⟨k + 1, j + 1, by have := HJ.out; omega, by go_num, by omega, by rw [HST.out]; unfold Nt.step; simp [q0], by rw [HST.out]; unfold Nt.step; simp [q0], by rw [HST.out]; unfold Nt.step; simp [← hxe], Lib.hid (by repeat (first | exact XR.out | refine Bx.drewN ?_ _))⟩
            case measure => (have := HJ.out; simp [RowKit.intOf]; omega)
        · have d0 : decide ((48 : Int) ≤ X) = true := dec_yes (by omega)
          rcases Nat.lt_or_ge 57 x.toNat with hhi | hhi
          · have q0 : Nt.isDig x = false := by unfold Nt.isDig; rw [decide_eq_false (show ¬ x.toNat ≤ 57 by omega), Bool.and_false]
            have d1 : decide (X ≤ 57) = false := dec_no (by omega)
            clear hlo hhi AD SLx hXx xb
            cases bb with
            | true =>
              go_wp2_with fail
              go_big_quiet (fail)
              go_wp2_with fail
              go_roundw
              case rel => exact ⟨k + 1, j + 1, by have := HJ.out; omega, by go_num, by omega, by rw [HST.out]; unfold Nt.step; simp [q0], by rw [HST.out]; unfold Nt.step; simp [q0], by rw [HST.out]; unfold Nt.step; simp, Lib.hid (by repeat (first | exact XR.out | refine Bx.drewN ?_ _))⟩
              case measure => (have := HJ.out; simp [RowKit.intOf]; omega)
            | false =>
              generalize hE : (X == (pt.toNat : Int)) = E at *
              go_wp2_with fail
              go_big_quiet (fail)
              go_wp2_with fail
              go_roundw
              case rel => exact ⟨k + 1, j + 1, by have := HJ.out; omega, by go_num, by omega, by rw [HST.out]; unfold Nt.step; simp [q0], by rw [HST.out]; unfold Nt.step; simp [q0], by rw [HST.out]; unfold Nt.step; simp [← hxe], Lib.hid (by repeat (first | exact XR.out | refine Bx.drewN ?_ _))⟩
              case measure => (have := HJ.out; simp [RowKit.intOf]; omega)
          · have q0 : Nt.isDig x = true := by unfold Nt.isDig; rw [decide_eq_true (show x.toNat ≤ 57 by omega), decide_eq_true (show 48 ≤ x.toNat by omega)]; rfl
            have d1 : decide (X ≤ 57) = true := dec_yes (by omega)
            clear hlo hhi hXx xb
            cases bb with
            | true =>
              go_wp2_with fail
              go_big_quiet (fail)
              go_wp2_with fail
              go_roundw
              case rel => exact ⟨k + 1, j + 1, by have := HJ.out; omega, by go_num, by omega, by rw [HST.out, HDX.out]; unfold Nt.step; simp [q0], by rw [HST.out]; unfold Nt.step; simp [q0], by rw [HST.out]; unfold Nt.step; simp, Lib.hid (by repeat (first | exact XR.out | refine Bx.drewN ?_ _))⟩
              case measure => (have := HJ.out; simp [RowKit.intOf]; omega)
            | false =>
              cases hE : (x == pt) with
              | true =>
                rw [hE] at hxe
                go_wp2_with fail
                go_big_quiet (fail)
                go_wp2_with fail
                go_roundw
                case rel => exact ⟨k + 1, j + 1, by have := HJ.out; omega, by go_num, by omega, by rw [HST.out, HDX.out]; unfold Nt.step; simp [q0], by rw [HST.out]; unfold Nt.step; simp [q0, hE], by rw [HST.out]; unfold Nt.step; simp [hE], Lib.hid (by repeat (first | exact XR.out | refine Bx.drewN ?_ _))⟩
                case measure => (have := HJ.out; simp [RowKit.intOf]; omega)
              | false =>
                rw [hE] at hxe
                go_wp2_with fail
                go_big_quiet (fail)
                go_wp2_with fail
                go_roundw
                case rel => exact ⟨k + 1, j + 1, by have := HJ.out; omega, by go_num, by omega, by rw [HST.out, HDX.out]; unfold Nt.step; simp [q0], by rw [HST.out]; unfold Nt.step; simp [q0, hE], by rw [HST.out]; unfold Nt.step; simp [hE], Lib.hid (by repeat (first | exact XR.out | refine Bx.drewN ?_ _))⟩
                case measure => (have := HJ.out; simp [RowKit.intOf]; omega)
      · have hkk : k = MID.length := by omega
        have e1 : (MID.take k).foldl (Nt.step pt) (false, [], 0) = Nt.scan pt MID := by rw [hkk, List.take_length]; rfl
        have hcond : ¬ (j : Int) < (R0.length : Int) - (SL : Int) := by omega
        have iw1 : IntKind.i64.wrap ((R0.length : Int) - (SL : Int)) = (R0.length : Int) - (SL : Int) := IntWalk.i64_in _ (by omega)
        rw [e1] at sk ⊢
        have HRZ2 := Lib.hid (show Nt.rzs (Nt.scan pt MID).2.2 (Nt.scan pt MID).2.1 = RZ from HRZ.out.symm)
        have d0len : (Nt.scan pt MID).2.1.length ≤ 1000000000 := by omega
        have d0le : (Nt.scan pt MID).2.2 ≤ (Nt.scan pt MID).2.1.length := sk.2.1
        clear sk sk1 lk lk1 HRZ HTS HAT SK e1 hkk hlt hk hj
        generalize (Nt.scan pt MID).2.2 = SC0 at *
        generalize (Nt.scan pt MID).2.1 = D0 at *
        generalize (Nt.scan pt MID).1 = B0 at *
        go_wp2_with fail
        generalize hwr : wr = wr0 at *
        clear hwr
        have cd0 := XR.out.d.cell 0 _ rfl
        have cd1 := XR.out.d.cell 1 _ rfl
        have cld := XR.out.d.lt
        have cf0 := XR.out.d.free 0 (by simp)
        have cf1 := XR.out.d.free 1 (by simp)
        have iwn := Lib.hid iw1
        clear iw1 hcond
        go_loopw [10, 11] (fun vd vs wr => ∃ (D : List UInt8) (n : Nat), vd = .string ⟨D.toArray⟩ ∧ vs = .int .i64 (n : Int) ∧ Hid (Nt.rzs n D = RZ) ∧ n ≤ D.length ∧ D.length ≤ 1000000000 ∧ wr0 = wr) (fun _ vs _ => (RowKit.intOf vs).toNat)
        case atStart => exact ⟨D0, SC0, rfl, rfl, HRZ2, d0le, d0len, rfl⟩
        case round =>
          obtain ⟨D, n, rfl, rfl, HZ, hnD, lD, rfl⟩ := hrel
          clear HRZ2 d0le d0len
          have step2 : ¬ (n = 0 ∨ D.getLast? ≠ some 48) → True := fun _ => trivial
          clear step2
          by_cases hn : 0 < n
          · obtain ⟨x, hx, hlx⟩ := Nt.last_at (l := D) (by omega)
            have IX := fun w => index_str (P := Tryz.prog) 9 Tryz.underlying9 D .i64 (D.length - 1) x hx w
            rw [show ((D.length - 1 : Nat) : Int) = (D.length : Int) - 1 by omega] at IX
            have SLx := fun w => slice_to (P := Tryz.prog) 9 Tryz.underlying9 D .i64 (D.length - 1) (by omega) w
            rw [show ((D.length - 1 : Nat) : Int) = (D.length : Int) - 1 by omega, ← List.dropLast_eq_take] at SLx
            have iw : IntKind.i64.wrap ((D.length : Int) - 1) = (D.length : Int) - 1 := IntWalk.i64_in _ (by omega)
            have iw5 : IntKind.i64.wrap ((n : Int) - 1) = (n : Int) - 1 := IntWalk.i64_in _ (by omega)
            have hn' : (0 : Int) < (n : Int) := by omega
            obtain ⟨m, rfl⟩ : ∃ m, n = m + 1 := ⟨n - 1, by omega⟩
            have hz := HZ.out
            rw [Nt.rzs_succ, hlx] at hz
            by_cases h48 : x = 48
            · subst h48
              rw [if_pos rfl] at hz
              have HZ2 := Lib.hid hz
              have ldl : D.dropLast.length = D.length - 1 := List.length_dropLast
              clear hz HZ hx hlx hn
              generalize D.dropLast = D' at *
              go_wp2_with fail
              go_roundw
              case rel => exact ⟨D', m, rfl, by go_num, HZ2, by omega, by omega, by first | rfl | trivial⟩
              case measure => simp [RowKit.intOf]
            · rw [if_neg (fun e => h48 (Option.some.inj e))] at hz
              have q0 : ((x.toNat : Int) == 48) = false := beq_no (fun e => h48 (UInt8.toNat.inj (by show x.toNat = 48; omega)))
              clear HZ hx hlx hn SLx h48
              subst hz
              simp only at *
              generalize hMM : ((m + 1 : Nat) : Int) = MM at *
              go_wp2_with fail
              go_loopw [14, 15] (fun vm vk wr => ∃ (k : Nat) (m : Int), vm = .int .i64 m ∧ vk = .int .i64 (k : Int) ∧ k ≤ D.length ∧ Hid (Nt.horn m (D.drop k) = HN) ∧ 0 ≤ m ∧ m ≤ 1000000000000000 ∧ wr0 = wr) (fun _ vk _ => D.length - (RowKit.intOf vk).toNat)
              case atStart => exact ⟨0, 0, rfl, rfl, Nat.zero_le _, Lib.hid (by rw [List.drop_zero]; exact HHN.out.symm), by omega, by omega, rfl⟩
              case round =>
                obtain ⟨k, m, rfl, rfl, hk, HM, m0, m1, rfl⟩ := hrel
                by_cases hlt : k < D.length
                · obtain ⟨x, hx⟩ : ∃ x, D[k]? = some x := ⟨D[k], List.getElem?_eq_getElem hlt⟩
                  have hdg := HDG.out x (List.mem_of_getElem? hx)
                  have IX := fun w => index_str (P := Tryz.prog) 9 Tryz.underlying9 D .i64 k x hx w
                  have hm := HM.out
                  rw [List.drop_eq_getElem_cons hlt, show D[k] = x from (List.getElem?_eq_some_iff.1 hx).2, Nt.horn_cons] at hm
                  have us : IntKind.u8.wrap ((x.toNat : Int) - 48) = (x.toNat : Int) - 48 := by
                    have := hdg.1; have := hdg.2
                    show ((x.toNat : Int) - 48) % 256 = _
                    omega
                  have wm : IntKind.i64.wrap (10 * m) = 10 * m := IntWalk.i64_in _ (by omega)
                  have wc : IntKind.i64.wrap ((x.toNat : Int) - 48) = (x.toNat : Int) - 48 := IntWalk.i64_in _ (by omega)
                  have wa : IntKind.i64.wrap (10 * m + ((x.toNat : Int) - 48)) = 10 * m + ((x.toNat : Int) - 48) := IntWalk.i64_in _ (by omega)
                  have wk : IntKind.i64.wrap ((k : Int) + 1) = (k : Int) + 1 := IntWalk.i64_in _ (by omega)
                  have hl' : (k : Int) < (D.length : Int) := by omega
                  obtain ⟨N, hN⟩ : ∃ N, N = 10 * m + ((x.toNat : Int) - 48) := ⟨_, rfl⟩
                  have n0 : 0 ≤ N := by rw [hN]; have := hdg.1; omega
                  rw [← hN] at wa hm
                  have hN2 : 10 * m + ((x.toNat : Int) - 48) = N := hN.symm
                  clear hx HM hN
                  by_cases hbig : 1000000000000000 < N
                  · rw [if_pos hbig] at hm
                    have d0 : decide (1000000000000000 < N) = true := dec_yes hbig
                    have q := HQ0.out (by rw [HCN.out, ← hm]; rfl)
                    clear HQ0 HQ1 HQ2 HCN HHN hm hbig
                    go_wp2_with fail
                    refine bodyPost_ret (v := .tuple #[.agg #[.int .i64 0, .int .i64 0], .bool false]) (by simp [results, Tryz.results41, go_sem, cd0, cd1]; try rfl) rfl ?_
                    refine q _ ?_
                    repeat (first | exact XR.out.b | refine blw_drewN ?_ _ | refine Below.setCell ?_ (by first | (simp; done) | omega | (simp; omega)) _ | refine Below.alloc ?_ (by first | (simp; done) | omega | (simp; omega)) _)
                  · rw [if_neg hbig] at hm
                    have d0 : decide (1000000000000000 < N) = false := dec_no hbig
                    have HM2 := Lib.hid hm
                    clear hm
                    go_wp2_with fail
                    go_roundw
                    case rel => exact ⟨k + 1, N, rfl, by go_num, by omega, HM2, n0, by omega, by first | rfl | trivial⟩
                    case measure => simp [RowKit.intOf]; omega
                · have hkk : k = D.length := by omega
                  have hm := HM.out
                  rw [hkk, List.drop_length, Nt.horn] at hm
                  have hl' : ¬ (k : Int) < (D.length : Int) := by omega
                  have hcn := HCN.out
                  rw [← hm] at hcn
                  simp only [Option.map_some] at hcn
                  have bp : -1000000000000000 ≤ SG * m ∧ SG * m ≤ 1000000000000000 := by
                    have : SG = -1 ∨ SG = 0 ∨ SG = 1 := by omega
                    rcases this with rfl | rfl | rfl <;> omega
                  have wp : IntKind.i64.wrap (SG * m) = SG * m := IntWalk.i64_in _ (by omega)
                  have HQ1' := Lib.hid fun hd hs w' hb => HQ1.out (SG * m) (MM) hcn hd hs w' hb
                  have HQ2' := Lib.hid fun hs w' hb => HQ2.out (SG * m) (MM) hcn hs w' hb
                  have CH' := Lib.hid fun hd wx => CH.out (SG * m) (MM) hd wx
                  clear HQ0 HQ1 HQ2 HCN HHN CH hcn hm HM hkk
                  obtain ⟨c, hc⟩ : ∃ c, SG * m = c := ⟨_, rfl⟩
                  rw [hc] at wp HQ1' HQ2' CH' bp
                  have X3 := Lib.hid (XR.out.alloc (.cells #[.int .i64 c, .int .i64 (MM)] 37))
                  have D3 := Lib.hid (Boxed.made wr0 #[.int .i64 c, .int .i64 (MM)] 37)
                  have ne0 : w.heap.size + 2 < wr0.heap.size := XR.out.lt
                  by_cases hmf : mf < (MM)
                  · have dm : decide (mf < (MM)) = true := dec_yes hmf
                    have q := HQ2'.out (fun h => by omega)
                    clear HQ1' HQ2' CH' hmf
                    go_wp2_with fail
                    refine bodyPost_ret (v := .tuple #[.agg #[.int .i64 0, .int .i64 0], .bool false]) (by simp [results, Tryz.results41, go_sem, cd0, cd1, cld]; try rfl) rfl ?_
                    refine q _ ?_
                    repeat (first | exact XR.out.b | refine blw_drewN ?_ _ | refine Below.setCell ?_ (by first | (simp; done) | omega | (simp; omega)) _ | refine Below.alloc ?_ (by first | (simp; done) | omega | (simp; omega)) _)
                  · have dm : decide (mf < (MM)) = false := dec_no hmf
                    by_cases hd : okD c (MM)
                    · have CD := Lib.hid fun wx => dflt_no c (MM) wx hd
                      have CHh := Lib.hid fun wx => CH'.out hd wx
                      have HQ1h := Lib.hid fun hs w' hb => HQ1'.out hd hs w' hb
                      have HQ2h := Lib.hid fun (hs : ¬ Nt.shown ⟨pre, suf, mi, nf, mf, g, g2⟩ pt cm c (MM) = t) w' hb => HQ2'.out (fun h => hs h.2.2) w' hb
                      clear HQ1' HQ2' CH' hd
                      generalize Nt.shown ⟨pre, suf, mi, nf, mf, g, g2⟩ pt cm c (MM) = SH at *
                      go_wp2_with fail
                      refine (CD.out _).mono ?_
                      rintro e w5 ⟨rfl, hb⟩
                      have X5 := Lib.hid (X3.out.below hb)
                      have D5 := Lib.hid (D3.out.below hb)
                      clear hb X3 D3 CD XR cp0 cp1 cp2 cp3 cp4 cp5 cp6 cy0 cy1 cd0 cd1 cf0 cf1 clp cly cld
                      have cp0 := X5.out.p.cell 0 _ rfl
                      have cp1 := X5.out.p.cell 1 _ rfl
                      have cp2 := X5.out.p.cell 2 _ rfl
                      have cp3 := X5.out.p.cell 3 _ rfl
                      have cp4 := X5.out.p.cell 4 _ rfl
                      have cp5 := X5.out.p.cell 5 _ rfl
                      have cp6 := X5.out.p.cell 6 _ rfl
                      have cy0 := X5.out.y.cell 0 _ rfl
                      have cy1 := X5.out.y.cell 1 _ rfl
                      have cd0 := X5.out.d.cell 0 _ rfl
                      have cd1 := X5.out.d.cell 1 _ rfl
                      have cf0 := X5.out.d.free 0 (by simp)
                      have cf1 := X5.out.d.free 1 (by simp)
                      have clp := X5.out.p.lt
                      have cly := X5.out.y.lt
                      have cld := X5.out.d.lt
                      have e50 := D5.out.cell 0 _ rfl
                      have e51 := D5.out.cell 1 _ rfl
                      have e5l := D5.out.lt
                      go_wp2_with fail
                      refine (CHh.out _).mono ?_
                      rintro e w6 ⟨rfl, hb⟩
                      have X6 := Lib.hid (X5.out.below hb)
                      have D6 := Lib.hid (D5.out.below hb)
                      clear hb X5 D5 CHh e50 e51 e5l cp0 cp1 cp2 cp3 cp4 cp5 cp6 cy0 cy1 cd0 cd1 cf0 cf1 clp cly cld
                      have cp0 := X6.out.p.cell 0 _ rfl
                      have cp1 := X6.out.p.cell 1 _ rfl
                      have cp2 := X6.out.p.cell 2 _ rfl
                      have cp3 := X6.out.p.cell 3 _ rfl
                      have cp4 := X6.out.p.cell 4 _ rfl
                      have cp5 := X6.out.p.cell 5 _ rfl
                      have cp6 := X6.out.p.cell 6 _ rfl
                      have cy0 := X6.out.y.cell 0 _ rfl
                      have cy1 := X6.out.y.cell 1 _ rfl
                      have cd0 := X6.out.d.cell 0 _ rfl
                      have cd1 := X6.out.d.cell 1 _ rfl
                      have cf0 := X6.out.d.free 0 (by simp)
                      have cf1 := X6.out.d.free 1 (by simp)
                      have clp := X6.out.p.lt
                      have cly := X6.out.y.lt
                      have cld := X6.out.d.lt
                      have e60 := D6.out.cell 0 _ rfl
                      have e61 := D6.out.cell 1 _ rfl
                      have e6l := D6.out.lt
                      have ne1 : ¬ wr0.heap.size = w.heap.size + 2 := by omega
                      have ne2 : ¬ w.heap.size + 2 = wr0.heap.size := by omega
                      by_cases hs : SH = t
                      · subst hs
                        have q := HQ1h.out rfl
                        clear HQ1h HQ2h
                        go_wp2_with fail
                        refine bodyPost_ret (v := .tuple #[.agg #[.int .i64 c, .int .i64 (MM)], .bool true]) (by simp [results, Tryz.results41, go_sem, cd0, cd1]; try rfl) rfl ?_
                        refine q _ ?_
                        repeat (first | exact X6.out.b | refine blw_drewN ?_ _ | refine Below.setCell ?_ (by first | (simp; done) | omega | (simp; omega)) _ | refine Below.alloc ?_ (by first | (simp; done) | omega | (simp; omega)) _)
                      · have b0 : (SH == t) = false := beq_eq_false_iff_ne.2 hs
                        have b1 : (SH != t) = true := by rw [bne, b0]; rfl
                        have q := HQ2h.out hs
                        clear HQ1h HQ2h hs
                        go_wp2_with fail
                        refine bodyPost_ret (v := .tuple #[.agg #[.int .i64 0, .int .i64 0], .bool false]) (by simp [results, Tryz.results41, go_sem, cd0, cd1]; try rfl) rfl ?_
                        refine q _ ?_
                        repeat (first | exact X6.out.b | refine blw_drewN ?_ _ | refine Below.setCell ?_ (by first | (simp; done) | omega | (simp; omega)) _ | refine Below.alloc ?_ (by first | (simp; done) | omega | (simp; omega)) _)
                    · have CD := Lib.hid fun wx => dflt_yes c (MM) wx hd
                      have q := HQ2'.out (fun h => hd h.2.1)
                      clear HQ1' HQ2' CH' hd
                      go_wp2_with fail
                      refine (CD.out _).mono ?_
                      rintro e w5 ⟨rfl, hb⟩
                      have X5 := Lib.hid (X3.out.below hb)
                      clear hb X3 D3 CD XR cp0 cp1 cp2 cp3 cp4 cp5 cp6 cy0 cy1 cd0 cd1 cf0 cf1 clp cly cld
                      have cp0 := X5.out.p.cell 0 _ rfl
                      have cp1 := X5.out.p.cell 1 _ rfl
                      have cp2 := X5.out.p.cell 2 _ rfl
                      have cp3 := X5.out.p.cell 3 _ rfl
                      have cp4 := X5.out.p.cell 4 _ rfl
                      have cp5 := X5.out.p.cell 5 _ rfl
                      have cp6 := X5.out.p.cell 6 _ rfl
                      have cy0 := X5.out.y.cell 0 _ rfl
                      have cy1 := X5.out.y.cell 1 _ rfl
                      have cd0 := X5.out.d.cell 0 _ rfl
                      have cd1 := X5.out.d.cell 1 _ rfl
                      have cf0 := X5.out.d.free 0 (by simp)
                      have cf1 := X5.out.d.free 1 (by simp)
                      have clp := X5.out.p.lt
                      have cly := X5.out.y.lt
                      have cld := X5.out.d.lt
                      go_wp2_with fail
                      refine bodyPost_ret (v := .tuple #[.agg #[.int .i64 0, .int .i64 0], .bool false]) (by simp [results, Tryz.results41, go_sem, cd0, cd1]; try rfl) rfl ?_
                      refine q _ ?_
                      repeat (first | exact X5.out.b | refine blw_drewN ?_ _ | refine Below.setCell ?_ (by first | (simp; done) | omega | (simp; omega)) _ | refine Below.alloc ?_ (by first | (simp; done) | omega | (simp; omega)) _)
          · obtain rfl : n = 0 := by omega
            have hz := HZ.out
            unfold Nt.rzs at hz
            have d0 : decide ((0 : Int) < ((0 : Nat) : Int)) = false := by decide
            clear HZ hn
            subst hz
            simp only at *
            go_wp2_with fail
            go_loopw [14, 15] (fun vm vk wr => ∃ (k : Nat) (m : Int), vm = .int .i64 m ∧ vk = .int .i64 (k : Int) ∧ k ≤ D.length ∧ Hid (Nt.horn m (D.drop k) = HN) ∧ 0 ≤ m ∧ m ≤ 1000000000000000 ∧ wr0 = wr) (fun _ vk _ => D.length - (RowKit.intOf vk).toNat)
            case atStart => exact ⟨0, 0, rfl, rfl, Nat.zero_le _, Lib.hid (by rw [List.drop_zero]; exact HHN.out.symm), by omega, by omega, rfl⟩
            case round =>
              obtain ⟨k, m, rfl, rfl, hk, HM, m0, m1, rfl⟩ := hrel
              by_cases hlt : k < D.length
              · obtain ⟨x, hx⟩ : ∃ x, D[k]? = some x := ⟨D[k], List.getElem?_eq_getElem hlt⟩
                have hdg := HDG.out x (List.mem_of_getElem? hx)
                have IX := fun w => index_str (P := Tryz.prog) 9 Tryz.underlying9 D .i64 k x hx w
                have hm := HM.out
                rw [List.drop_eq_getElem_cons hlt, show D[k] = x from (List.getElem?_eq_some_iff.1 hx).2, Nt.horn_cons] at hm
                have us : IntKind.u8.wrap ((x.toNat : Int) - 48) = (x.toNat : Int) - 48 := by
                  have := hdg.1; have := hdg.2
                  show ((x.toNat : Int) - 48) % 256 = _
                  omega
                have wm : IntKind.i64.wrap (10 * m) = 10 * m := IntWalk.i64_in _ (by omega)
                have wc : IntKind.i64.wrap ((x.toNat : Int) - 48) = (x.toNat : Int) - 48 := IntWalk.i64_in _ (by omega)
                have wa : IntKind.i64.wrap (10 * m + ((x.toNat : Int) - 48)) = 10 * m + ((x.toNat : Int) - 48) := IntWalk.i64_in _ (by omega)
                have wk : IntKind.i64.wrap ((k : Int) + 1) = (k : Int) + 1 := IntWalk.i64_in _ (by omega)
                have hl' : (k : Int) < (D.length : Int) := by omega
                obtain ⟨N, hN⟩ : ∃ N, N = 10 * m + ((x.toNat : Int) - 48) := ⟨_, rfl⟩
                have n0 : 0 ≤ N := by rw [hN]; have := hdg.1; omega
                rw [← hN] at wa hm
                have hN2 : 10 * m + ((x.toNat : Int) - 48) = N := hN.symm
                clear hx HM hN
                by_cases hbig : 1000000000000000 < N
                · rw [if_pos hbig] at hm
                  have d0 : decide (1000000000000000 < N) = true := dec_yes hbig
                  have q := HQ0.out (by rw [HCN.out, ← hm]; rfl)
                  clear HQ0 HQ1 HQ2 HCN HHN hm hbig
                  go_wp2_with fail
                  refine bodyPost_ret (v := .tuple #[.agg #[.int .i64 0, .int .i64 0], .bool false]) (by simp [results, Tryz.results41, go_sem, cd0, cd1]; try rfl) rfl ?_
                  refine q _ ?_
                  repeat (first | exact XR.out.b | refine blw_drewN ?_ _ | refine Below.setCell ?_ (by first | (simp; done) | omega | (simp; omega)) _ | refine Below.alloc ?_ (by first | (simp; done) | omega | (simp; omega)) _)
                · rw [if_neg hbig] at hm
                  have d0 : decide (1000000000000000 < N) = false := dec_no hbig
                  have HM2 := Lib.hid hm
                  clear hm
                  go_wp2_with fail
                  go_roundw
                  case rel => exact ⟨k + 1, N, rfl, by go_num, by omega, HM2, n0, by omega, by first | rfl | trivial⟩
                  case measure => simp [RowKit.intOf]; omega
              · have hkk : k = D.length := by omega
                have hm := HM.out
                rw [hkk, List.drop_length, Nt.horn] at hm
                have hl' : ¬ (k : Int) < (D.length : Int) := by omega
                have hcn := HCN.out
                rw [← hm] at hcn
                simp only [Option.map_some] at hcn
                have bp : -1000000000000000 ≤ SG * m ∧ SG * m ≤ 1000000000000000 := by
                  have : SG = -1 ∨ SG = 0 ∨ SG = 1 := by omega
                  rcases this with rfl | rfl | rfl <;> omega
                have wp : IntKind.i64.wrap (SG * m) = SG * m := IntWalk.i64_in _ (by omega)
                have HQ1' := Lib.hid fun hd hs w' hb => HQ1.out (SG * m) (0) hcn hd hs w' hb
                have HQ2' := Lib.hid fun hs w' hb => HQ2.out (SG * m) (0) hcn hs w' hb
                have CH' := Lib.hid fun hd wx => CH.out (SG * m) (0) hd wx
                clear HQ0 HQ1 HQ2 HCN HHN CH hcn hm HM hkk
                obtain ⟨c, hc⟩ : ∃ c, SG * m = c := ⟨_, rfl⟩
                rw [hc] at wp HQ1' HQ2' CH' bp
                have X3 := Lib.hid (XR.out.alloc (.cells #[.int .i64 c, .int .i64 (0)] 37))
                have D3 := Lib.hid (Boxed.made wr0 #[.int .i64 c, .int .i64 (0)] 37)
                have ne0 : w.heap.size + 2 < wr0.heap.size := XR.out.lt
                by_cases hmf : mf < (0)
                · have dm : decide (mf < (0)) = true := dec_yes hmf
                  have q := HQ2'.out (fun h => by omega)
                  clear HQ1' HQ2' CH' hmf
                  go_wp2_with fail
                  refine bodyPost_ret (v := .tuple #[.agg #[.int .i64 0, .int .i64 0], .bool false]) (by simp [results, Tryz.results41, go_sem, cd0, cd1, cld]; try rfl) rfl ?_
                  refine q _ ?_
                  repeat (first | exact XR.out.b | refine blw_drewN ?_ _ | refine Below.setCell ?_ (by first | (simp; done) | omega | (simp; omega)) _ | refine Below.alloc ?_ (by first | (simp; done) | omega | (simp; omega)) _)
                · have dm : decide (mf < (0)) = false := dec_no hmf
                  by_cases hd : okD c (0)
                  · have CD := Lib.hid fun wx => dflt_no c (0) wx hd
                    have CHh := Lib.hid fun wx => CH'.out hd wx
                    have HQ1h := Lib.hid fun hs w' hb => HQ1'.out hd hs w' hb
                    have HQ2h := Lib.hid fun (hs : ¬ Nt.shown ⟨pre, suf, mi, nf, mf, g, g2⟩ pt cm c (0) = t) w' hb => HQ2'.out (fun h => hs h.2.2) w' hb
                    clear HQ1' HQ2' CH' hd
                    generalize Nt.shown ⟨pre, suf, mi, nf, mf, g, g2⟩ pt cm c (0) = SH at *
                    go_wp2_with fail
                    refine (CD.out _).mono ?_
                    rintro e w5 ⟨rfl, hb⟩
                    have X5 := Lib.hid (X3.out.below hb)
                    have D5 := Lib.hid (D3.out.below hb)
                    clear hb X3 D3 CD XR cp0 cp1 cp2 cp3 cp4 cp5 cp6 cy0 cy1 cd0 cd1 cf0 cf1 clp cly cld
                    have cp0 := X5.out.p.cell 0 _ rfl
                    have cp1 := X5.out.p.cell 1 _ rfl
                    have cp2 := X5.out.p.cell 2 _ rfl
                    have cp3 := X5.out.p.cell 3 _ rfl
                    have cp4 := X5.out.p.cell 4 _ rfl
                    have cp5 := X5.out.p.cell 5 _ rfl
                    have cp6 := X5.out.p.cell 6 _ rfl
                    have cy0 := X5.out.y.cell 0 _ rfl
                    have cy1 := X5.out.y.cell 1 _ rfl
                    have cd0 := X5.out.d.cell 0 _ rfl
                    have cd1 := X5.out.d.cell 1 _ rfl
                    have cf0 := X5.out.d.free 0 (by simp)
                    have cf1 := X5.out.d.free 1 (by simp)
                    have clp := X5.out.p.lt
                    have cly := X5.out.y.lt
                    have cld := X5.out.d.lt
                    have e50 := D5.out.cell 0 _ rfl
                    have e51 := D5.out.cell 1 _ rfl
                    have e5l := D5.out.lt
                    go_wp2_with fail
                    refine (CHh.out _).mono ?_
                    rintro e w6 ⟨rfl, hb⟩
                    have X6 := Lib.hid (X5.out.below hb)
                    have D6 := Lib.hid (D5.out.below hb)
                    clear hb X5 D5 CHh e50 e51 e5l cp0 cp1 cp2 cp3 cp4 cp5 cp6 cy0 cy1 cd0 cd1 cf0 cf1 clp cly cld
                    have cp0 := X6.out.p.cell 0 _ rfl
                    have cp1 := X6.out.p.cell 1 _ rfl
                    have cp2 := X6.out.p.cell 2 _ rfl
                    have cp3 := X6.out.p.cell 3 _ rfl
                    have cp4 := X6.out.p.cell 4 _ rfl
                    have cp5 := X6.out.p.cell 5 _ rfl
                    have cp6 := X6.out.p.cell 6 _ rfl
                    have cy0 := X6.out.y.cell 0 _ rfl
                    have cy1 := X6.out.y.cell 1 _ rfl
                    have cd0 := X6.out.d.cell 0 _ rfl
                    have cd1 := X6.out.d.cell 1 _ rfl
                    have cf0 := X6.out.d.free 0 (by simp)
                    have cf1 := X6.out.d.free 1 (by simp)
                    have clp := X6.out.p.lt
                    have cly := X6.out.y.lt
                    have cld := X6.out.d.lt
                    have e60 := D6.out.cell 0 _ rfl
                    have e61 := D6.out.cell 1 _ rfl
                    have e6l := D6.out.lt
                    have ne1 : ¬ wr0.heap.size = w.heap.size + 2 := by omega
                    have ne2 : ¬ w.heap.size + 2 = wr0.heap.size := by omega
                    by_cases hs : SH = t
                    · subst hs
                      have q := HQ1h.out rfl
                      clear HQ1h HQ2h
                      go_wp2_with fail
                      refine bodyPost_ret (v := .tuple #[.agg #[.int .i64 c, .int .i64 (0)], .bool true]) (by simp [results, Tryz.results41, go_sem, cd0, cd1]; try rfl) rfl ?_
                      refine q _ ?_
                      repeat (first | exact X6.out.b | refine blw_drewN ?_ _ | refine Below.setCell ?_ (by first | (simp; done) | omega | (simp; omega)) _ | refine Below.alloc ?_ (by first | (simp; done) | omega | (simp; omega)) _)
                    · have b0 : (SH == t) = false := beq_eq_false_iff_ne.2 hs
                      have b1 : (SH != t) = true := by rw [bne, b0]; rfl
                      have q := HQ2h.out hs
                      clear HQ1h HQ2h hs
                      go_wp2_with fail
                      refine bodyPost_ret (v := .tuple #[.agg #[.int .i64 0, .int .i64 0], .bool false]) (by simp [results, Tryz.results41, go_sem, cd0, cd1]; try rfl) rfl ?_
                      refine q _ ?_
                      repeat (first | exact X6.out.b | refine blw_drewN ?_ _ | refine Below.setCell ?_ (by first | (simp; done) | omega | (simp; omega)) _ | refine Below.alloc ?_ (by first | (simp; done) | omega | (simp; omega)) _)
                  · have CD := Lib.hid fun wx => dflt_yes c (0) wx hd
                    have q := HQ2'.out (fun h => hd h.2.1)
                    clear HQ1' HQ2' CH' hd
                    go_wp2_with fail
                    refine (CD.out _).mono ?_
                    rintro e w5 ⟨rfl, hb⟩
                    have X5 := Lib.hid (X3.out.below hb)
                    clear hb X3 D3 CD XR cp0 cp1 cp2 cp3 cp4 cp5 cp6 cy0 cy1 cd0 cd1 cf0 cf1 clp cly cld
                    have cp0 := X5.out.p.cell 0 _ rfl
                    have cp1 := X5.out.p.cell 1 _ rfl
                    have cp2 := X5.out.p.cell 2 _ rfl
                    have cp3 := X5.out.p.cell 3 _ rfl
                    have cp4 := X5.out.p.cell 4 _ rfl
                    have cp5 := X5.out.p.cell 5 _ rfl
                    have cp6 := X5.out.p.cell 6 _ rfl
                    have cy0 := X5.out.y.cell 0 _ rfl
                    have cy1 := X5.out.y.cell 1 _ rfl
                    have cd0 := X5.out.d.cell 0 _ rfl
                    have cd1 := X5.out.d.cell 1 _ rfl
                    have cf0 := X5.out.d.free 0 (by simp)
                    have cf1 := X5.out.d.free 1 (by simp)
                    have clp := X5.out.p.lt
                    have cly := X5.out.y.lt
                    have cld := X5.out.d.lt
                    go_wp2_with fail
                    refine bodyPost_ret (v := .tuple #[.agg #[.int .i64 0, .int .i64 0], .bool false]) (by simp [results, Tryz.results41, go_sem, cd0, cd1]; try rfl) rfl ?_
                    refine q _ ?_
                    repeat (first | exact X5.out.b | refine blw_drewN ?_ _ | refine Below.setCell ?_ (by first | (simp; done) | omega | (simp; omega)) _ | refine Below.alloc ?_ (by first | (simp; done) | omega | (simp; omega)) _)
end Go.Proofs.YtaijjffnamjhiaaGreatDoor
namespace Go.Proofs.YtaijjffnamjhiaaGreatDoor
open Go.RowKit
open Dcm (okD)
theorem errNo_of (n : Int) : ErrNo (errN n) n := by
  unfold errN
  split
  · rename_i h; rw [h]; exact ErrNo.nil
  · exact ErrNo.no n

set_option maxRecDepth 100000 in
set_option maxHeartbeats 4000000 in
theorem ntells_any (p : Nt.Pt) (pt cm : UInt8) (c s : Int) (t : List UInt8) (w : World) (hD : DM w) (hH : HanW w) (h1 : p.pre.length ≤ 100000000) (h2 : p.suf.length ≤ 100000000) (ht : t.length ≤ 1000000000) :
    Calls Tryz.prog 8 #[pV p, yV pt cm, .agg #[.int .i64 c, .int .i64 s], .string ⟨t.toArray⟩] w fun e w' => e = .returned (.bool true) ∧ Below w.heap.size w w' := by
  have C0 := Lib.hid fun (wx : World) (hb : Below w.heap.size w wx) => fact_any wx (hD.below hb).p (hD.below hb).m
  have C1 := Lib.hid fun (wx : World) => pfl_any p wx (by omega) (by omega)
  have C2 := Lib.hid fun (wx : World) => symf_any pt cm wx
  have C3 := Lib.hid fun (wx : World) => nck_any pt cm wx
  have C4 := Lib.hid fun (n : Int) (wx : World) (hb : Below w.heap.size w wx) => sameErr_yes (errNo_of n) wx (hH.below hb)
  have C5 := Lib.hid fun (wx : World) (hb : Below w.heap.size w wx) => fmt_any p pt cm c s wx (hD.below hb).p (hD.below hb).m (by omega) (by omega)
  have C6 := Lib.hid fun (hE : Nt.fmtE p pt cm c s = 0) (wx : World) => rshown_any p pt cm c s wx (by omega) (by omega) (Nt.fmt_ok hE).1 (Nt.fmt_ok hE).2.2
  have C7 := Lib.hid fun (hd : okD c s) (wx : World) => dflt_no c s wx hd
  have C8 := Lib.hid fun (hd : ¬ okD c s) (wx : World) => dflt_yes c s wx hd
  have HTX := Lib.hid (And.intro (show Nt.fmtE p pt cm c s = 0 → ftxt p pt cm c s = Nt.shown p pt cm c s from fun h => if_pos h) (show Nt.fmtE p pt cm c s ≠ 0 → ftxt p pt cm c s = [] from fun h => if_neg h))
  have HRD : ∃ rc rs RE : Int, (∀ wx, Below w.heap.size w wx → Calls Tryz.prog 34 #[pV p, yV pt cm, .string ⟨t.toArray⟩] wx fun e w' => e = .returned (.tuple #[.agg #[.int .i64 rc, .int .i64 rs], errN RE]) ∧ Below wx.heap.size wx w') ∧
      (Nt.allE p pt cm = 0 → (RE = 0 ∨ RE = 3) ∧ ∀ wx, Calls Tryz.prog 41 #[pV p, yV pt cm, .string ⟨t.toArray⟩] wx fun e w' => e = .returned (.tuple #[.agg #[.int .i64 rc, .int .i64 rs], .bool (decide (RE = 0))]) ∧ Below wx.heap.size wx w') ∧
      (Nt.allE p pt cm ≠ 0 → RE = Nt.allE p pt cm ∧ rc = 0 ∧ rs = 0) := by
    by_cases hA : Nt.allE p pt cm = 0
    · have hp : Nt.patE p = 0 := by unfold Nt.allE at hA; split at hA <;> omega
      have hy : Nt.symB pt cm = true := by
        unfold Nt.allE at hA; rw [if_neg (by omega)] at hA
        split at hA
        · assumption
        · omega
      by_cases hG : ∃ a b, Nt.Good p pt cm t a b
      · obtain ⟨a, b, gd⟩ := hG
        refine ⟨a, b, 0, fun wx hb => ?_, fun _ => ⟨.inl rfl, fun wx => ?_⟩, fun h => absurd hA h⟩
        · refine (read_fine p pt cm t wx (hD.below hb) (by omega) (by omega) ht hA).mono ?_
          rintro e w' (⟨c', s', gd', rfl, hb'⟩ | ⟨hn, _, _⟩)
          · obtain ⟨e1, e2⟩ := Nt.good_uniq hp hy gd gd'
            rw [e1, e2]; exact ⟨rfl, hb'⟩
          · exact absurd gd (hn _ _)
        · refine (readof_any p pt cm t wx h1 h2 ht hp hy).mono ?_
          rintro e w' (⟨c', s', gd', rfl, hb'⟩ | ⟨hn, _, _⟩)
          · obtain ⟨e1, e2⟩ := Nt.good_uniq hp hy gd gd'
            rw [e1, e2]; exact ⟨rfl, hb'⟩
          · exact absurd gd (hn _ _)
      · refine ⟨0, 0, 3, fun wx hb => ?_, fun _ => ⟨.inr rfl, fun wx => ?_⟩, fun h => absurd hA h⟩
        · refine (read_fine p pt cm t wx (hD.below hb) (by omega) (by omega) ht hA).mono ?_
          rintro e w' (⟨c', s', gd', _, _⟩ | ⟨_, rfl, hb'⟩)
          · exact absurd ⟨_, _, gd'⟩ hG
          · exact ⟨rfl, hb'⟩
        · refine (readof_any p pt cm t wx h1 h2 ht hp hy).mono ?_
          rintro e w' (⟨c', s', gd', _, _⟩ | ⟨_, rfl, hb'⟩)
          · exact absurd ⟨_, _, gd'⟩ hG
          · exact ⟨rfl, hb'⟩
    · refine ⟨0, 0, Nt.allE p pt cm, fun wx _ => ?_, fun h => absurd h hA, fun _ => ⟨rfl, rfl, rfl⟩⟩
      rw [show errN (Nt.allE p pt cm) = errV (Nt.allE p pt cm) from if_neg hA]
      exact read_bad p pt cm t wx (by omega) (by omega) hA
  obtain ⟨rc, rs, RE, C9, C10, HRE⟩ := HRD
  have C9 := Lib.hid C9
  have C10 := Lib.hid C10
  have HRE := Lib.hid HRE
  have HAL := Lib.hid (show Nt.allE p pt cm = if Nt.patE p ≠ 0 then Nt.patE p else if Nt.symB pt cm then 0 else 3 from rfl)
  have HFE := Lib.hid (show Nt.fmtE p pt cm c s = if Nt.allE p pt cm ≠ 0 then Nt.allE p pt cm else if okD c s then 0 else 1 from rfl)
  clear h1 h2 ht hD hH
  generalize Nt.shown p pt cm c s = SH at *
  generalize ftxt p pt cm c s = TX at *
  generalize Nt.fmtE p pt cm c s = FE at *
  generalize Nt.allE p pt cm = AE at *
  generalize hPE : Nt.patE p = PE at *
  clear hPE
  generalize Nt.symB pt cm = SB at *
  obtain ⟨F1, hF1⟩ : ∃ F1 : Int, F1 = if SB then 0 else 3 := ⟨_, rfl⟩
  rw [← hF1] at C3 HAL
  have HF1 := Lib.hid hF1
  clear hF1
  unfold pV yV at *
  obtain ⟨pre, suf, mi, nf, mf, g, g2⟩ := p
  simp only at *
  have X0 := Lib.hid (Bx.made w #[.string ⟨pre.toArray⟩, .string ⟨suf.toArray⟩, .int .i64 mi, .int .i64 nf, .int .i64 mf, .int .i64 g, .int .i64 g2] #[.int .u8 (pt.toNat : Int), .int .u8 (cm.toNat : Int)] (.int .i64 c) (.int .i64 s) 69 71 37)
  go_enter Tryz.func8, Tryz.ntmps8
  go_wp2_with fail
  refine (C0.out _ X0.out.b).mono ?_
  rintro e w1 ⟨rfl, hb⟩
  have X1 := Lib.hid (X0.out.below hb)
  clear hb X0 C0
  have cp0 := X1.out.p.cell 0 _ rfl
  have cp1 := X1.out.p.cell 1 _ rfl
  have cp2 := X1.out.p.cell 2 _ rfl
  have cp3 := X1.out.p.cell 3 _ rfl
  have cp4 := X1.out.p.cell 4 _ rfl
  have cp5 := X1.out.p.cell 5 _ rfl
  have cp6 := X1.out.p.cell 6 _ rfl
  have cy0 := X1.out.y.cell 0 _ rfl
  have cy1 := X1.out.y.cell 1 _ rfl
  have cd0 := X1.out.d.cell 0 _ rfl
  have cd1 := X1.out.d.cell 1 _ rfl
  have clp := X1.out.p.lt
  have cly := X1.out.y.lt
  have cld := X1.out.d.lt
  go_wp2_with fail
  refine (C1.out _).mono ?_
  rintro e w2 ⟨rfl, hb⟩
  have X2 := Lib.hid (X1.out.below hb)
  clear hb X1 C1
  clear cp0 cp1 cp2 cp3 cp4 cp5 cp6 cy0 cy1 cd0 cd1 clp cly cld
  have cp0 := X2.out.p.cell 0 _ rfl
  have cp1 := X2.out.p.cell 1 _ rfl
  have cp2 := X2.out.p.cell 2 _ rfl
  have cp3 := X2.out.p.cell 3 _ rfl
  have cp4 := X2.out.p.cell 4 _ rfl
  have cp5 := X2.out.p.cell 5 _ rfl
  have cp6 := X2.out.p.cell 6 _ rfl
  have cy0 := X2.out.y.cell 0 _ rfl
  have cy1 := X2.out.y.cell 1 _ rfl
  have cd0 := X2.out.d.cell 0 _ rfl
  have cd1 := X2.out.d.cell 1 _ rfl
  have clp := X2.out.p.lt
  have cly := X2.out.y.lt
  have cld := X2.out.d.lt
  go_wp2_with fail
  refine (C2.out _).mono ?_
  rintro e w3 ⟨rfl, hb⟩
  have X3 := Lib.hid (X2.out.below hb)
  clear hb X2 C2
  clear cp0 cp1 cp2 cp3 cp4 cp5 cp6 cy0 cy1 cd0 cd1 clp cly cld
  have cp0 := X3.out.p.cell 0 _ rfl
  have cp1 := X3.out.p.cell 1 _ rfl
  have cp2 := X3.out.p.cell 2 _ rfl
  have cp3 := X3.out.p.cell 3 _ rfl
  have cp4 := X3.out.p.cell 4 _ rfl
  have cp5 := X3.out.p.cell 5 _ rfl
  have cp6 := X3.out.p.cell 6 _ rfl
  have cy0 := X3.out.y.cell 0 _ rfl
  have cy1 := X3.out.y.cell 1 _ rfl
  have cd0 := X3.out.d.cell 0 _ rfl
  have cd1 := X3.out.d.cell 1 _ rfl
  have clp := X3.out.p.lt
  have cly := X3.out.y.lt
  have cld := X3.out.d.lt
  go_upto_if 26 with fail
  go_cut [11] from 11 (fun v wx => v = .int .i64 F1 ∧ w3 = wx)
  case first =>
    have hf := HF1.out
    cases SB with
    | true =>
      have e : F1 = 0 := hf
      subst e
      simp only [Bool.not_true]
      go_wp2_with fail
      go_meet
      exact ⟨rfl, rfl⟩
    | false =>
      have e : F1 = 3 := hf
      subst e
      simp only [Bool.not_false]
      go_wp2_with fail
      go_meet
      exact ⟨rfl, rfl⟩
  case rest =>
    obtain ⟨rfl, rfl⟩ := hcut
    clear HF1
    go_wp2_with fail
    refine (C3.out _).mono ?_
    rintro e w4 ⟨rfl, hb⟩
    have X4 := Lib.hid (X3.out.below hb)
    clear hb X3 C3
    clear cp0 cp1 cp2 cp3 cp4 cp5 cp6 cy0 cy1 cd0 cd1 clp cly cld
    have cp0 := X4.out.p.cell 0 _ rfl
    have cp1 := X4.out.p.cell 1 _ rfl
    have cp2 := X4.out.p.cell 2 _ rfl
    have cp3 := X4.out.p.cell 3 _ rfl
    have cp4 := X4.out.p.cell 4 _ rfl
    have cp5 := X4.out.p.cell 5 _ rfl
    have cp6 := X4.out.p.cell 6 _ rfl
    have cy0 := X4.out.y.cell 0 _ rfl
    have cy1 := X4.out.y.cell 1 _ rfl
    have cd0 := X4.out.d.cell 0 _ rfl
    have cd1 := X4.out.d.cell 1 _ rfl
    have clp := X4.out.p.lt
    have cly := X4.out.y.lt
    have cld := X4.out.d.lt
    go_wp2_with fail
    refine (C4.out F1 _ X4.out.b).mono ?_
    rintro e w5 ⟨rfl, hb⟩
    have X5 := Lib.hid (X4.out.below hb)
    clear hb X4 
    clear cp0 cp1 cp2 cp3 cp4 cp5 cp6 cy0 cy1 cd0 cd1 clp cly cld
    have cp0 := X5.out.p.cell 0 _ rfl
    have cp1 := X5.out.p.cell 1 _ rfl
    have cp2 := X5.out.p.cell 2 _ rfl
    have cp3 := X5.out.p.cell 3 _ rfl
    have cp4 := X5.out.p.cell 4 _ rfl
    have cp5 := X5.out.p.cell 5 _ rfl
    have cp6 := X5.out.p.cell 6 _ rfl
    have cy0 := X5.out.y.cell 0 _ rfl
    have cy1 := X5.out.y.cell 1 _ rfl
    have cd0 := X5.out.d.cell 0 _ rfl
    have cd1 := X5.out.d.cell 1 _ rfl
    have clp := X5.out.p.lt
    have cly := X5.out.y.lt
    have cld := X5.out.d.lt
    go_upto_if 32 with fail
    go_cut [10, 12] from 10 (fun a b wx => a = .int .i64 AE ∧ b = .bool true ∧ w5 = wx)
    case first =>
      have ha := HAL.out
      by_cases h0 : PE = 0
      · rw [if_neg (fun h => h h0)] at ha
        subst ha
        subst h0
        try simp only [beq_self_eq_true]
        go_wp2_with fail
        go_meet
        exact ⟨rfl, rfl, rfl⟩
      · rw [if_pos h0] at ha
        subst ha
        have b0 : (AE == 0) = false := beq_no h0
        try simp only [b0]
        go_wp2_with fail
        go_meet
        exact ⟨rfl, rfl, rfl⟩
    case rest =>
      obtain ⟨rfl, rfl, rfl⟩ := hcut
      clear HAL
      have hfe := HFE.out
      have cuts : True := trivial
      clear cuts
      by_cases hA : AE = 0
      · rw [if_neg (fun h => h hA)] at hfe
        subst hA
        by_cases hd : okD c s
        · rw [if_pos hd] at hfe
          subst hfe
          have CD := Lib.hid (C7.out hd)
          have CH := Lib.hid (C6.out rfl)
          have eT := HTX.out.1 rfl
          subst eT
          obtain ⟨hre, CRw⟩ := C10.out rfl
          have CR := Lib.hid CRw
          clear CRw
          clear C6 C7 C8 HTX C10 HRE HFE hd
          go_wp2_with fail
          refine (CD.out _).mono ?_
          rintro e w6 ⟨rfl, hb⟩
          have X6 := Lib.hid (X5.out.below hb)
          clear hb X5 CD cp0 cp1 cp2 cp3 cp4 cp5 cp6 cy0 cy1 cd0 cd1 clp cly cld
          have cp0 := X6.out.p.cell 0 _ rfl
          have cp1 := X6.out.p.cell 1 _ rfl
          have cp2 := X6.out.p.cell 2 _ rfl
          have cp3 := X6.out.p.cell 3 _ rfl
          have cp4 := X6.out.p.cell 4 _ rfl
          have cp5 := X6.out.p.cell 5 _ rfl
          have cp6 := X6.out.p.cell 6 _ rfl
          have cy0 := X6.out.y.cell 0 _ rfl
          have cy1 := X6.out.y.cell 1 _ rfl
          have cd0 := X6.out.d.cell 0 _ rfl
          have cd1 := X6.out.d.cell 1 _ rfl
          have clp := X6.out.p.lt
          have cly := X6.out.y.lt
          have cld := X6.out.d.lt
          go_wp2_with fail
          refine (CH.out _).mono ?_
          rintro e w7 ⟨rfl, hb⟩
          have X7 := Lib.hid (X6.out.below hb)
          clear hb X6 CH cp0 cp1 cp2 cp3 cp4 cp5 cp6 cy0 cy1 cd0 cd1 clp cly cld
          have cp0 := X7.out.p.cell 0 _ rfl
          have cp1 := X7.out.p.cell 1 _ rfl
          have cp2 := X7.out.p.cell 2 _ rfl
          have cp3 := X7.out.p.cell 3 _ rfl
          have cp4 := X7.out.p.cell 4 _ rfl
          have cp5 := X7.out.p.cell 5 _ rfl
          have cp6 := X7.out.p.cell 6 _ rfl
          have cy0 := X7.out.y.cell 0 _ rfl
          have cy1 := X7.out.y.cell 1 _ rfl
          have cd0 := X7.out.d.cell 0 _ rfl
          have cd1 := X7.out.d.cell 1 _ rfl
          have clp := X7.out.p.lt
          have cly := X7.out.y.lt
          have cld := X7.out.d.lt
          go_wp2_with fail
          refine (C5.out _ X7.out.b).mono ?_
          rintro e w8 ⟨rfl, hb⟩
          have X8 := Lib.hid (X7.out.below hb)
          clear hb X7 C5 cp0 cp1 cp2 cp3 cp4 cp5 cp6 cy0 cy1 cd0 cd1 clp cly cld
          have cp0 := X8.out.p.cell 0 _ rfl
          have cp1 := X8.out.p.cell 1 _ rfl
          have cp2 := X8.out.p.cell 2 _ rfl
          have cp3 := X8.out.p.cell 3 _ rfl
          have cp4 := X8.out.p.cell 4 _ rfl
          have cp5 := X8.out.p.cell 5 _ rfl
          have cp6 := X8.out.p.cell 6 _ rfl
          have cy0 := X8.out.y.cell 0 _ rfl
          have cy1 := X8.out.y.cell 1 _ rfl
          have cd0 := X8.out.d.cell 0 _ rfl
          have cd1 := X8.out.d.cell 1 _ rfl
          have clp := X8.out.p.lt
          have cly := X8.out.y.lt
          have cld := X8.out.d.lt
          go_wp2_with fail
          refine (C4.out (0) _ X8.out.b).mono ?_
          rintro e w9 ⟨rfl, hb⟩
          have X9 := Lib.hid (X8.out.below hb)
          clear hb X8  cp0 cp1 cp2 cp3 cp4 cp5 cp6 cy0 cy1 cd0 cd1 clp cly cld
          have cp0 := X9.out.p.cell 0 _ rfl
          have cp1 := X9.out.p.cell 1 _ rfl
          have cp2 := X9.out.p.cell 2 _ rfl
          have cp3 := X9.out.p.cell 3 _ rfl
          have cp4 := X9.out.p.cell 4 _ rfl
          have cp5 := X9.out.p.cell 5 _ rfl
          have cp6 := X9.out.p.cell 6 _ rfl
          have cy0 := X9.out.y.cell 0 _ rfl
          have cy1 := X9.out.y.cell 1 _ rfl
          have cd0 := X9.out.d.cell 0 _ rfl
          have cd1 := X9.out.d.cell 1 _ rfl
          have clp := X9.out.p.lt
          have cly := X9.out.y.lt
          have cld := X9.out.d.lt
          have N0 := Lib.hid (Boxed.made w9 #[.int .i64 0, .int .i64 0] 37)
          have XA := Lib.hid (X9.out.alloc (.cells #[.int .i64 0, .int .i64 0] 37))
          have ltN := X9.out.lt
          rcases hre with rfl | rfl
          · simp only [decide_true] at CR
            go_wp2_with fail
            refine (CR.out _).mono ?_
            rintro e wr ⟨rfl, hb⟩
            have XB := Lib.hid (XA.out.below hb)
            have N1 := Lib.hid (N0.out.below hb)
            clear hb XA N0 CR X9 cp0 cp1 cp2 cp3 cp4 cp5 cp6 cy0 cy1 cd0 cd1 clp cly cld
            have cp0 := XB.out.p.cell 0 _ rfl
            have cp1 := XB.out.p.cell 1 _ rfl
            have cp2 := XB.out.p.cell 2 _ rfl
            have cp3 := XB.out.p.cell 3 _ rfl
            have cp4 := XB.out.p.cell 4 _ rfl
            have cp5 := XB.out.p.cell 5 _ rfl
            have cp6 := XB.out.p.cell 6 _ rfl
            have cy0 := XB.out.y.cell 0 _ rfl
            have cy1 := XB.out.y.cell 1 _ rfl
            have cd0 := XB.out.d.cell 0 _ rfl
            have cd1 := XB.out.d.cell 1 _ rfl
            have clp := XB.out.p.lt
            have cly := XB.out.y.lt
            have cld := XB.out.d.lt
            have nn0 := N1.out.cell 0 _ rfl
            have nn1 := N1.out.cell 1 _ rfl
            have nf0 := N1.out.free 0 (by simp)
            have nf1 := N1.out.free 1 (by simp)
            have nnl := N1.out.lt
            have XC := XB
            have N2 := Lib.hid (((N1.out.set 0 (.int .i64 rc) (by simp)).set 1 (.int .i64 rs) (by simp)).alloc (.cells #[.int .i64 rc, .int .i64 rs] 37))
            have ne1 : ¬ w9.heap.size = wr.heap.size := by omega
            have ne2 : ¬ wr.heap.size = w9.heap.size := by omega
            go_wp2_with fail
            have XD := Lib.hid (Bx.alloc (show Bx w #[.string ⟨pre.toArray⟩, .string ⟨suf.toArray⟩, .int .i64 mi, .int .i64 nf, .int .i64 mf, .int .i64 g, .int .i64 g2] #[.int .u8 (pt.toNat : Int), .int .u8 (cm.toNat : Int)] (.int .i64 c) (.int .i64 s) _ from ⟨Below.setCell (Below.setCell XC.out.b (by simp; omega) (.int .i64 rc)) (by simp; omega) (.int .i64 rs), (XC.out.p.far (q := w9.heap.size) (by omega) 0 (.int .i64 rc)).far (q := w9.heap.size) (by omega) 1 (.int .i64 rs), (XC.out.y.far (q := w9.heap.size) (by omega) 0 (.int .i64 rc)).far (q := w9.heap.size) (by omega) 1 (.int .i64 rs), (XC.out.d.far (q := w9.heap.size) (by omega) 0 (.int .i64 rc)).far (q := w9.heap.size) (by omega) 1 (.int .i64 rs)⟩) (.cells #[.int .i64 rc, .int .i64 rs] 37))
            refine (C9.out _ XD.out.b).mono ?_
            rintro e wq ⟨rfl, hb⟩
            have XE := Lib.hid (XD.out.below hb)
            have N3 := Lib.hid (N2.out.below hb)
            clear hb XD N2 C9
            have nn0 := N3.out.cell 0 _ rfl
            have nn1 := N3.out.cell 1 _ rfl
            have nnl := N3.out.lt
            have XF := Lib.hid (XE.out.alloc (.cells #[.int .i64 rc, .int .i64 rs] 37))
            have N4 := Lib.hid (N3.out.alloc (.cells #[.int .i64 rc, .int .i64 rs] 37))
            have M4 := Lib.hid (Boxed.made wq #[.int .i64 rc, .int .i64 rs] 37)
            go_wp2_with fail
            refine (C4.out (0) _ XF.out.b).mono ?_
            rintro e wz ⟨rfl, hb⟩
            have XG := Lib.hid (XF.out.below hb)
            have N5 := Lib.hid (N4.out.below hb)
            have M5 := Lib.hid (M4.out.below hb)
            clear hb XF N4 M4 nn0 nn1 nnl C4
            have nn0 := N5.out.cell 0 _ rfl
            have nn1 := N5.out.cell 1 _ rfl
            have nnl := N5.out.lt
            have mm0 := M5.out.cell 0 _ rfl
            have mm1 := M5.out.cell 1 _ rfl
            have mml := M5.out.lt
            go_wp2_with fail
            go_ret
            exact ⟨ret_bool (by simp), by repeat (first | exact XG.out.b | refine blw_drewN ?_ _)⟩
          · simp only [show decide ((3 : Int) = 0) = false from rfl] at CR
            go_wp2_with fail
            refine (CR.out _).mono ?_
            rintro e wr ⟨rfl, hb⟩
            have XB := Lib.hid (XA.out.below hb)
            have N1 := Lib.hid (N0.out.below hb)
            clear hb XA N0 CR X9 cp0 cp1 cp2 cp3 cp4 cp5 cp6 cy0 cy1 cd0 cd1 clp cly cld
            have cp0 := XB.out.p.cell 0 _ rfl
            have cp1 := XB.out.p.cell 1 _ rfl
            have cp2 := XB.out.p.cell 2 _ rfl
            have cp3 := XB.out.p.cell 3 _ rfl
            have cp4 := XB.out.p.cell 4 _ rfl
            have cp5 := XB.out.p.cell 5 _ rfl
            have cp6 := XB.out.p.cell 6 _ rfl
            have cy0 := XB.out.y.cell 0 _ rfl
            have cy1 := XB.out.y.cell 1 _ rfl
            have cd0 := XB.out.d.cell 0 _ rfl
            have cd1 := XB.out.d.cell 1 _ rfl
            have clp := XB.out.p.lt
            have cly := XB.out.y.lt
            have cld := XB.out.d.lt
            have nn0 := N1.out.cell 0 _ rfl
            have nn1 := N1.out.cell 1 _ rfl
            have nf0 := N1.out.free 0 (by simp)
            have nf1 := N1.out.free 1 (by simp)
            have nnl := N1.out.lt
            have XC := XB
            have N2 := Lib.hid (((N1.out.set 0 (.int .i64 rc) (by simp)).set 1 (.int .i64 rs) (by simp)).alloc (.cells #[.int .i64 rc, .int .i64 rs] 37))
            have ne1 : ¬ w9.heap.size = wr.heap.size := by omega
            have ne2 : ¬ wr.heap.size = w9.heap.size := by omega
            go_wp2_with fail
            have XD := Lib.hid (Bx.alloc (show Bx w #[.string ⟨pre.toArray⟩, .string ⟨suf.toArray⟩, .int .i64 mi, .int .i64 nf, .int .i64 mf, .int .i64 g, .int .i64 g2] #[.int .u8 (pt.toNat : Int), .int .u8 (cm.toNat : Int)] (.int .i64 c) (.int .i64 s) _ from ⟨Below.setCell (Below.setCell XC.out.b (by simp; omega) (.int .i64 rc)) (by simp; omega) (.int .i64 rs), (XC.out.p.far (q := w9.heap.size) (by omega) 0 (.int .i64 rc)).far (q := w9.heap.size) (by omega) 1 (.int .i64 rs), (XC.out.y.far (q := w9.heap.size) (by omega) 0 (.int .i64 rc)).far (q := w9.heap.size) (by omega) 1 (.int .i64 rs), (XC.out.d.far (q := w9.heap.size) (by omega) 0 (.int .i64 rc)).far (q := w9.heap.size) (by omega) 1 (.int .i64 rs)⟩) (.cells #[.int .i64 rc, .int .i64 rs] 37))
            refine (C9.out _ XD.out.b).mono ?_
            rintro e wq ⟨rfl, hb⟩
            have XE := Lib.hid (XD.out.below hb)
            have N3 := Lib.hid (N2.out.below hb)
            clear hb XD N2 C9
            have nn0 := N3.out.cell 0 _ rfl
            have nn1 := N3.out.cell 1 _ rfl
            have nnl := N3.out.lt
            have XF := Lib.hid (XE.out.alloc (.cells #[.int .i64 rc, .int .i64 rs] 37))
            have N4 := Lib.hid (N3.out.alloc (.cells #[.int .i64 rc, .int .i64 rs] 37))
            have M4 := Lib.hid (Boxed.made wq #[.int .i64 rc, .int .i64 rs] 37)
            go_wp2_with fail
            refine (C4.out (3) _ XF.out.b).mono ?_
            rintro e wz ⟨rfl, hb⟩
            have XG := Lib.hid (XF.out.below hb)
            have N5 := Lib.hid (N4.out.below hb)
            have M5 := Lib.hid (M4.out.below hb)
            clear hb XF N4 M4 nn0 nn1 nnl C4
            have nn0 := N5.out.cell 0 _ rfl
            have nn1 := N5.out.cell 1 _ rfl
            have nnl := N5.out.lt
            have mm0 := M5.out.cell 0 _ rfl
            have mm1 := M5.out.cell 1 _ rfl
            have mml := M5.out.lt
            go_wp2_with fail
            go_ret
            exact ⟨ret_bool (by simp), by repeat (first | exact XG.out.b | refine blw_drewN ?_ _)⟩
        · rw [if_neg hd] at hfe
          subst hfe
          have CD := Lib.hid (C8.out hd)
          have eT := HTX.out.2 (by decide)
          subst eT
          obtain ⟨hre, CRw⟩ := C10.out rfl
          have CR := Lib.hid CRw
          clear CRw
          clear C6 C7 C8 HTX C10 HRE HFE hd
          go_wp2_with fail
          refine (CD.out _).mono ?_
          rintro e w6 ⟨rfl, hb⟩
          have X6 := Lib.hid (X5.out.below hb)
          clear hb X5 CD cp0 cp1 cp2 cp3 cp4 cp5 cp6 cy0 cy1 cd0 cd1 clp cly cld
          have cp0 := X6.out.p.cell 0 _ rfl
          have cp1 := X6.out.p.cell 1 _ rfl
          have cp2 := X6.out.p.cell 2 _ rfl
          have cp3 := X6.out.p.cell 3 _ rfl
          have cp4 := X6.out.p.cell 4 _ rfl
          have cp5 := X6.out.p.cell 5 _ rfl
          have cp6 := X6.out.p.cell 6 _ rfl
          have cy0 := X6.out.y.cell 0 _ rfl
          have cy1 := X6.out.y.cell 1 _ rfl
          have cd0 := X6.out.d.cell 0 _ rfl
          have cd1 := X6.out.d.cell 1 _ rfl
          have clp := X6.out.p.lt
          have cly := X6.out.y.lt
          have cld := X6.out.d.lt
          go_wp2_with fail
          refine (C5.out _ X6.out.b).mono ?_
          rintro e w7 ⟨rfl, hb⟩
          have X7 := Lib.hid (X6.out.below hb)
          clear hb X6 C5 cp0 cp1 cp2 cp3 cp4 cp5 cp6 cy0 cy1 cd0 cd1 clp cly cld
          have cp0 := X7.out.p.cell 0 _ rfl
          have cp1 := X7.out.p.cell 1 _ rfl
          have cp2 := X7.out.p.cell 2 _ rfl
          have cp3 := X7.out.p.cell 3 _ rfl
          have cp4 := X7.out.p.cell 4 _ rfl
          have cp5 := X7.out.p.cell 5 _ rfl
          have cp6 := X7.out.p.cell 6 _ rfl
          have cy0 := X7.out.y.cell 0 _ rfl
          have cy1 := X7.out.y.cell 1 _ rfl
          have cd0 := X7.out.d.cell 0 _ rfl
          have cd1 := X7.out.d.cell 1 _ rfl
          have clp := X7.out.p.lt
          have cly := X7.out.y.lt
          have cld := X7.out.d.lt
          go_wp2_with fail
          refine (C4.out (1) _ X7.out.b).mono ?_
          rintro e w8 ⟨rfl, hb⟩
          have X8 := Lib.hid (X7.out.below hb)
          clear hb X7  cp0 cp1 cp2 cp3 cp4 cp5 cp6 cy0 cy1 cd0 cd1 clp cly cld
          have cp0 := X8.out.p.cell 0 _ rfl
          have cp1 := X8.out.p.cell 1 _ rfl
          have cp2 := X8.out.p.cell 2 _ rfl
          have cp3 := X8.out.p.cell 3 _ rfl
          have cp4 := X8.out.p.cell 4 _ rfl
          have cp5 := X8.out.p.cell 5 _ rfl
          have cp6 := X8.out.p.cell 6 _ rfl
          have cy0 := X8.out.y.cell 0 _ rfl
          have cy1 := X8.out.y.cell 1 _ rfl
          have cd0 := X8.out.d.cell 0 _ rfl
          have cd1 := X8.out.d.cell 1 _ rfl
          have clp := X8.out.p.lt
          have cly := X8.out.y.lt
          have cld := X8.out.d.lt
          have N0 := Lib.hid (Boxed.made w8 #[.int .i64 0, .int .i64 0] 37)
          have XA := Lib.hid (X8.out.alloc (.cells #[.int .i64 0, .int .i64 0] 37))
          have ltN := X8.out.lt
          rcases hre with rfl | rfl
          · simp only [decide_true] at CR
            go_wp2_with fail
            refine (CR.out _).mono ?_
            rintro e wr ⟨rfl, hb⟩
            have XB := Lib.hid (XA.out.below hb)
            have N1 := Lib.hid (N0.out.below hb)
            clear hb XA N0 CR X8 cp0 cp1 cp2 cp3 cp4 cp5 cp6 cy0 cy1 cd0 cd1 clp cly cld
            have cp0 := XB.out.p.cell 0 _ rfl
            have cp1 := XB.out.p.cell 1 _ rfl
            have cp2 := XB.out.p.cell 2 _ rfl
            have cp3 := XB.out.p.cell 3 _ rfl
            have cp4 := XB.out.p.cell 4 _ rfl
            have cp5 := XB.out.p.cell 5 _ rfl
            have cp6 := XB.out.p.cell 6 _ rfl
            have cy0 := XB.out.y.cell 0 _ rfl
            have cy1 := XB.out.y.cell 1 _ rfl
            have cd0 := XB.out.d.cell 0 _ rfl
            have cd1 := XB.out.d.cell 1 _ rfl
            have clp := XB.out.p.lt
            have cly := XB.out.y.lt
            have cld := XB.out.d.lt
            have nn0 := N1.out.cell 0 _ rfl
            have nn1 := N1.out.cell 1 _ rfl
            have nf0 := N1.out.free 0 (by simp)
            have nf1 := N1.out.free 1 (by simp)
            have nnl := N1.out.lt
            have XC := XB
            have N2 := Lib.hid (((N1.out.set 0 (.int .i64 rc) (by simp)).set 1 (.int .i64 rs) (by simp)).alloc (.cells #[.int .i64 rc, .int .i64 rs] 37))
            have ne1 : ¬ w8.heap.size = wr.heap.size := by omega
            have ne2 : ¬ wr.heap.size = w8.heap.size := by omega
            go_wp2_with fail
            have XD := Lib.hid (Bx.alloc (show Bx w #[.string ⟨pre.toArray⟩, .string ⟨suf.toArray⟩, .int .i64 mi, .int .i64 nf, .int .i64 mf, .int .i64 g, .int .i64 g2] #[.int .u8 (pt.toNat : Int), .int .u8 (cm.toNat : Int)] (.int .i64 c) (.int .i64 s) _ from ⟨Below.setCell (Below.setCell XC.out.b (by simp; omega) (.int .i64 rc)) (by simp; omega) (.int .i64 rs), (XC.out.p.far (q := w8.heap.size) (by omega) 0 (.int .i64 rc)).far (q := w8.heap.size) (by omega) 1 (.int .i64 rs), (XC.out.y.far (q := w8.heap.size) (by omega) 0 (.int .i64 rc)).far (q := w8.heap.size) (by omega) 1 (.int .i64 rs), (XC.out.d.far (q := w8.heap.size) (by omega) 0 (.int .i64 rc)).far (q := w8.heap.size) (by omega) 1 (.int .i64 rs)⟩) (.cells #[.int .i64 rc, .int .i64 rs] 37))
            refine (C9.out _ XD.out.b).mono ?_
            rintro e wq ⟨rfl, hb⟩
            have XE := Lib.hid (XD.out.below hb)
            have N3 := Lib.hid (N2.out.below hb)
            clear hb XD N2 C9
            have nn0 := N3.out.cell 0 _ rfl
            have nn1 := N3.out.cell 1 _ rfl
            have nnl := N3.out.lt
            have XF := Lib.hid (XE.out.alloc (.cells #[.int .i64 rc, .int .i64 rs] 37))
            have N4 := Lib.hid (N3.out.alloc (.cells #[.int .i64 rc, .int .i64 rs] 37))
            have M4 := Lib.hid (Boxed.made wq #[.int .i64 rc, .int .i64 rs] 37)
            go_wp2_with fail
            refine (C4.out (0) _ XF.out.b).mono ?_
            rintro e wz ⟨rfl, hb⟩
            have XG := Lib.hid (XF.out.below hb)
            have N5 := Lib.hid (N4.out.below hb)
            have M5 := Lib.hid (M4.out.below hb)
            clear hb XF N4 M4 nn0 nn1 nnl C4
            have nn0 := N5.out.cell 0 _ rfl
            have nn1 := N5.out.cell 1 _ rfl
            have nnl := N5.out.lt
            have mm0 := M5.out.cell 0 _ rfl
            have mm1 := M5.out.cell 1 _ rfl
            have mml := M5.out.lt
            go_wp2_with fail
            go_ret
            exact ⟨ret_bool (by simp), by repeat (first | exact XG.out.b | refine blw_drewN ?_ _)⟩
          · simp only [show decide ((3 : Int) = 0) = false from rfl] at CR
            go_wp2_with fail
            refine (CR.out _).mono ?_
            rintro e wr ⟨rfl, hb⟩
            have XB := Lib.hid (XA.out.below hb)
            have N1 := Lib.hid (N0.out.below hb)
            clear hb XA N0 CR X8 cp0 cp1 cp2 cp3 cp4 cp5 cp6 cy0 cy1 cd0 cd1 clp cly cld
            have cp0 := XB.out.p.cell 0 _ rfl
            have cp1 := XB.out.p.cell 1 _ rfl
            have cp2 := XB.out.p.cell 2 _ rfl
            have cp3 := XB.out.p.cell 3 _ rfl
            have cp4 := XB.out.p.cell 4 _ rfl
            have cp5 := XB.out.p.cell 5 _ rfl
            have cp6 := XB.out.p.cell 6 _ rfl
            have cy0 := XB.out.y.cell 0 _ rfl
            have cy1 := XB.out.y.cell 1 _ rfl
            have cd0 := XB.out.d.cell 0 _ rfl
            have cd1 := XB.out.d.cell 1 _ rfl
            have clp := XB.out.p.lt
            have cly := XB.out.y.lt
            have cld := XB.out.d.lt
            have nn0 := N1.out.cell 0 _ rfl
            have nn1 := N1.out.cell 1 _ rfl
            have nf0 := N1.out.free 0 (by simp)
            have nf1 := N1.out.free 1 (by simp)
            have nnl := N1.out.lt
            have XC := XB
            have N2 := Lib.hid (((N1.out.set 0 (.int .i64 rc) (by simp)).set 1 (.int .i64 rs) (by simp)).alloc (.cells #[.int .i64 rc, .int .i64 rs] 37))
            have ne1 : ¬ w8.heap.size = wr.heap.size := by omega
            have ne2 : ¬ wr.heap.size = w8.heap.size := by omega
            go_wp2_with fail
            have XD := Lib.hid (Bx.alloc (show Bx w #[.string ⟨pre.toArray⟩, .string ⟨suf.toArray⟩, .int .i64 mi, .int .i64 nf, .int .i64 mf, .int .i64 g, .int .i64 g2] #[.int .u8 (pt.toNat : Int), .int .u8 (cm.toNat : Int)] (.int .i64 c) (.int .i64 s) _ from ⟨Below.setCell (Below.setCell XC.out.b (by simp; omega) (.int .i64 rc)) (by simp; omega) (.int .i64 rs), (XC.out.p.far (q := w8.heap.size) (by omega) 0 (.int .i64 rc)).far (q := w8.heap.size) (by omega) 1 (.int .i64 rs), (XC.out.y.far (q := w8.heap.size) (by omega) 0 (.int .i64 rc)).far (q := w8.heap.size) (by omega) 1 (.int .i64 rs), (XC.out.d.far (q := w8.heap.size) (by omega) 0 (.int .i64 rc)).far (q := w8.heap.size) (by omega) 1 (.int .i64 rs)⟩) (.cells #[.int .i64 rc, .int .i64 rs] 37))
            refine (C9.out _ XD.out.b).mono ?_
            rintro e wq ⟨rfl, hb⟩
            have XE := Lib.hid (XD.out.below hb)
            have N3 := Lib.hid (N2.out.below hb)
            clear hb XD N2 C9
            have nn0 := N3.out.cell 0 _ rfl
            have nn1 := N3.out.cell 1 _ rfl
            have nnl := N3.out.lt
            have XF := Lib.hid (XE.out.alloc (.cells #[.int .i64 rc, .int .i64 rs] 37))
            have N4 := Lib.hid (N3.out.alloc (.cells #[.int .i64 rc, .int .i64 rs] 37))
            have M4 := Lib.hid (Boxed.made wq #[.int .i64 rc, .int .i64 rs] 37)
            go_wp2_with fail
            refine (C4.out (3) _ XF.out.b).mono ?_
            rintro e wz ⟨rfl, hb⟩
            have XG := Lib.hid (XF.out.below hb)
            have N5 := Lib.hid (N4.out.below hb)
            have M5 := Lib.hid (M4.out.below hb)
            clear hb XF N4 M4 nn0 nn1 nnl C4
            have nn0 := N5.out.cell 0 _ rfl
            have nn1 := N5.out.cell 1 _ rfl
            have nnl := N5.out.lt
            have mm0 := M5.out.cell 0 _ rfl
            have mm1 := M5.out.cell 1 _ rfl
            have mml := M5.out.lt
            go_wp2_with fail
            go_ret
            exact ⟨ret_bool (by simp), by repeat (first | exact XG.out.b | refine blw_drewN ?_ _)⟩
      · rw [if_pos hA] at hfe
        subst hfe
        have eT := HTX.out.2 hA
        subst eT
        obtain ⟨e1, e2, e3⟩ := HRE.out hA
        subst e1
        subst e2
        subst e3
        have b0 : (RE == 0) = false := beq_no hA
        clear C6 C7 C8 HTX C10 HRE HFE hA
        go_wp2_with fail
        refine (C5.out _ X5.out.b).mono ?_
        rintro e w6 ⟨rfl, hb⟩
        have X6 := Lib.hid (X5.out.below hb)
        clear hb X5 C5 cp0 cp1 cp2 cp3 cp4 cp5 cp6 cy0 cy1 cd0 cd1 clp cly cld
        have cp0 := X6.out.p.cell 0 _ rfl
        have cp1 := X6.out.p.cell 1 _ rfl
        have cp2 := X6.out.p.cell 2 _ rfl
        have cp3 := X6.out.p.cell 3 _ rfl
        have cp4 := X6.out.p.cell 4 _ rfl
        have cp5 := X6.out.p.cell 5 _ rfl
        have cp6 := X6.out.p.cell 6 _ rfl
        have cy0 := X6.out.y.cell 0 _ rfl
        have cy1 := X6.out.y.cell 1 _ rfl
        have cd0 := X6.out.d.cell 0 _ rfl
        have cd1 := X6.out.d.cell 1 _ rfl
        have clp := X6.out.p.lt
        have cly := X6.out.y.lt
        have cld := X6.out.d.lt
        go_wp2_with fail
        refine (C4.out (RE) _ X6.out.b).mono ?_
        rintro e w7 ⟨rfl, hb⟩
        have X7 := Lib.hid (X6.out.below hb)
        clear hb X6  cp0 cp1 cp2 cp3 cp4 cp5 cp6 cy0 cy1 cd0 cd1 clp cly cld
        have cp0 := X7.out.p.cell 0 _ rfl
        have cp1 := X7.out.p.cell 1 _ rfl
        have cp2 := X7.out.p.cell 2 _ rfl
        have cp3 := X7.out.p.cell 3 _ rfl
        have cp4 := X7.out.p.cell 4 _ rfl
        have cp5 := X7.out.p.cell 5 _ rfl
        have cp6 := X7.out.p.cell 6 _ rfl
        have cy0 := X7.out.y.cell 0 _ rfl
        have cy1 := X7.out.y.cell 1 _ rfl
        have cd0 := X7.out.d.cell 0 _ rfl
        have cd1 := X7.out.d.cell 1 _ rfl
        have clp := X7.out.p.lt
        have cly := X7.out.y.lt
        have cld := X7.out.d.lt
        have N0 := Lib.hid (Boxed.made w7 #[.int .i64 0, .int .i64 0] 37)
        have XA := Lib.hid (X7.out.alloc (.cells #[.int .i64 0, .int .i64 0] 37))
        have ltN := X7.out.lt
        go_wp2_with fail
        refine (C9.out _ XA.out.b).mono ?_
        rintro e wq ⟨rfl, hb⟩
        have XE := Lib.hid (XA.out.below hb)
        have N3 := Lib.hid (N0.out.below hb)
        clear hb XA N0 C9 X7 cp0 cp1 cp2 cp3 cp4 cp5 cp6 cy0 cy1 cd0 cd1 clp cly cld
        have nn0 := N3.out.cell 0 _ rfl
        have nn1 := N3.out.cell 1 _ rfl
        have nnl := N3.out.lt
        have XF := Lib.hid (XE.out.alloc (.cells #[.int .i64 0, .int .i64 0] 37))
        have N4 := Lib.hid (N3.out.alloc (.cells #[.int .i64 0, .int .i64 0] 37))
        have M4 := Lib.hid (Boxed.made wq #[.int .i64 0, .int .i64 0] 37)
        go_wp2_with fail
        refine (C4.out RE _ XF.out.b).mono ?_
        rintro e wz ⟨rfl, hb⟩
        have XG := Lib.hid (XF.out.below hb)
        have N5 := Lib.hid (N4.out.below hb)
        have M5 := Lib.hid (M4.out.below hb)
        clear hb XF N4 M4 nn0 nn1 nnl C4
        have nn0 := N5.out.cell 0 _ rfl
        have nn1 := N5.out.cell 1 _ rfl
        have nnl := N5.out.lt
        have mm0 := M5.out.cell 0 _ rfl
        have mm1 := M5.out.cell 1 _ rfl
        have mml := M5.out.lt
        go_wp2_with fail
        go_ret
        exact ⟨ret_bool (by simp), by repeat (first | exact XG.out.b | refine blw_drewN ?_ _)⟩

end Go.Proofs.YtaijjffnamjhiaaGreatDoor
namespace Go.Proofs.YtaijjffnamjhiaaGreatDoor
open Go.ChangeShapes Go.WideShapes Go.RowKit Go.Joins Go.Deep

section
variable {H : Type} {enc : TypeId × Value → H} {P : Program} {w : World} {base : Nat} {spare : Nat → Bool} {held : Bool}
theorem open_agg7 {r : Reach} {b0 : Nat} {t : TypeId} {f0 f1 f2 f3 f4 f5 f6 : Field} {v : Value} {d : DataW H} {p : List MemPlace} (hs : P.underlying t = some (.struct #[f0, f1, f2, f3, f4, f5, f6])) (hone : oneCellFields P #[f0, f1, f2, f3, f4, f5, f6] = true) (hC : P.cellsOf t = 7)
    (hv : Value.okWide P w r b0 t v) (h : DataW.Trod enc P w base spare held t v d p) :
    ∃ (v0 v1 v2 v3 v4 v5 v6 : Value) (y0 y1 y2 y3 y4 y5 y6 : DataW H × List MemPlace) (n : Nat), v = .agg #[v0, v1, v2, v3, v4, v5, v6] ∧ d = .agg [y0.1, y1.1, y2.1, y3.1, y4.1, y5.1, y6.1] ∧ p = y0.2 ++ (y1.2 ++ (y2.2 ++ (y3.2 ++ (y4.2 ++ (y5.2 ++ (y6.2)))))) ∧
      DataW.trod enc P w base spare held n f0.type [v0] = some y0 ∧ DataW.trod enc P w base spare held n f1.type [v1] = some y1 ∧ DataW.trod enc P w base spare held n f2.type [v2] = some y2 ∧ DataW.trod enc P w base spare held n f3.type [v3] = some y3 ∧ DataW.trod enc P w base spare held n f4.type [v4] = some y4 ∧ DataW.trod enc P w base spare held n f5.type [v5] = some y5 ∧ DataW.trod enc P w base spare held n f6.type [v6] = some y6 := by
  obtain ⟨cs, rfl, hsz⟩ := okWide_struct hs hv
  obtain ⟨c0, c1, c2, c3, c4, c5, c6, rfl⟩ : ∃ c0 c1 c2 c3 c4 c5 c6, cs = #[c0, c1, c2, c3, c4, c5, c6] := by
    obtain ⟨l⟩ := cs
    match l, hsz.trans hC with
    | [c0, c1, c2, c3, c4, c5, c6], _ => exact ⟨c0, c1, c2, c3, c4, c5, c6, rfl⟩
  obtain ⟨fuel, hf⟩ := h
  obtain ⟨xs, n, _, hx, _, hlen, hg⟩ := DataW.trod_struct hs hf
  obtain ⟨y0, y1, y2, y3, y4, y5, y6, rfl⟩ : ∃ y0 y1 y2 y3 y4 y5 y6, xs = [y0, y1, y2, y3, y4, y5, y6] := by
    match xs, hlen with
    | [y0, y1, y2, y3, y4, y5, y6], _ => exact ⟨y0, y1, y2, y3, y4, y5, y6, rfl⟩
  obtain ⟨o0, k0⟩ := hone_of hone 0 f0 rfl
  obtain ⟨o1, k1⟩ := hone_of hone 1 f1 rfl
  obtain ⟨o2, k2⟩ := hone_of hone 2 f2 rfl
  obtain ⟨o3, k3⟩ := hone_of hone 3 f3 rfl
  obtain ⟨o4, k4⟩ := hone_of hone 4 f4 rfl
  obtain ⟨o5, k5⟩ := hone_of hone 5 f5 rfl
  obtain ⟨o6, k6⟩ := hone_of hone 6 f6 rfl
  have h0 := hg 0 f0 rfl
  have h1 := hg 1 f1 rfl
  have h2 := hg 2 f2 rfl
  have h3 := hg 3 f3 rfl
  have h4 := hg 4 f4 rfl
  have h5 := hg 5 f5 rfl
  have h6 := hg 6 f6 rfl
  simp only [Prod.mk.injEq] at hx
  exact ⟨c0, c1, c2, c3, c4, c5, c6, y0, y1, y2, y3, y4, y5, y6, n, rfl, by simpa using hx.1, by simpa using hx.2, by simpa [Value.cells, o0, k0] using h0, by simpa [Value.cells, o1, k1] using h1, by simpa [Value.cells, o2, k2] using h2, by simpa [Value.cells, o3, k3] using h3, by simpa [Value.cells, o4, k4] using h4, by simpa [Value.cells, o5, k5] using h5, by simpa [Value.cells, o6, k6] using h6⟩
end
end Go.Proofs.YtaijjffnamjhiaaGreatDoor
namespace Go.Proofs.YtaijjffnamjhiaaGreatDoor
open Go.RowKit

theorem gPowT : (Tryz.prog.globals[8]?).map (·.type) = some 276 := by kernel_rfl
theorem cellsPow : Tryz.prog.cellsOf 276 = 20 := by kernel_rfl
theorem cellsU64 : Tryz.prog.cellsOf 144 = 1 := by kernel_rfl
theorem powW_of {L : List (String × DataW Unit)} {W : World} (h : laidMetH Tryz.prog L W) (hf : L.filter (fun x => x.1 == "internal/strconv.uint64pow10") = [("internal/strconv.uint64pow10", Rows.laid_internal_strconv_uint64pow10)]) : PowW W := by
  have g := laidMetH.filter (fun x => x.1 == "internal/strconv.uint64pow10") h
  rw [hf, MakeChecks.laidMetH_plain _ _ _ (by kernel_rfl)] at g
  exact Lib.tabIs_of_head gPow gPowT Tryz.underlying276 Tryz.underlying144 cellsU64 cellsPow g
end Go.Proofs.YtaijjffnamjhiaaGreatDoor
namespace Go.Proofs.YtaijjffnamjhiaaGreatDoor
open Go.RowKit

theorem hanEt : Tryz.prog.globalNamed "errors.errorType" = some 1 := by kernel_rfl
theorem hanRt : (Tryz.prog.cutTypes.find? (·.1 == "internal/reflectlite.rtype")).map (·.2) = some 234 := by kernel_rfl
theorem hanOne : ((List.range 313).filter fun t => Tryz.prog.rowNamed t [101, 114, 114, 111, 114]) = [25] := by kernel_rfl
theorem hanSize : Tryz.prog.types.size = 313 := by kernel_rfl
theorem hanW_of {L : List (String × DataW Unit)} {W : World} (hm : ("errors.errorType", Rows.laid_errors_errorType) ∈ L) (h : laidMetH Tryz.prog L W) : HanW W := by
  have hf : ("errors.errorType", Rows.laid_errors_errorType) ∈ L.filter (fun x => x.snd.handleName?.isSome) := List.mem_filter.2 ⟨hm, rfl⟩
  unfold laidMetH at h
  split at h
  · rename_i hE; rw [hE] at hf; cases hf
  rename_i hE
  rw [hE] at hf
  obtain ⟨name, u, ty, e1, e2, e3, e4, e5⟩ := h.2 _ hf
  have en : name = [101, 114, 114, 111, 114] := (Option.some.inj e1).symm
  subst en
  obtain rfl := Option.some.inj (hanRt.symm.trans e2)
  have hm : ty ∈ (List.range 313).filter fun t => Tryz.prog.rowNamed t [101, 114, 114, 111, 114] := List.mem_filter.2 ⟨List.mem_range.2 (by rw [← hanSize]; exact e3), e4⟩
  rw [hanOne] at hm
  obtain rfl := List.mem_singleton.1 hm
  have hh : typeHandle Tryz.prog 25 = .pointer (some ⟨11, 25, none⟩) := by kernel_rfl
  rw [hh] at e5
  simpa [HanW] using World.var?_cell hanEt e5 0
end Go.Proofs.YtaijjffnamjhiaaGreatDoor
namespace Go.Proofs.YtaijjffnamjhiaaGreatDoor
theorem laidMet_over {P : Program} {W : World} {L : List (String × DataW Unit)} (args : Array Value) (hf : W.layFits P L [] = true) (hi : W.layIfaces P L (W.layVars P L) = true) :
    laidMet P L ((W.layVars P L).forCall (fun _ _ => 0) ⟨#[], args, []⟩).memory := by
  have e1 : (L.filter fun x => (L.map (·.1)).contains x.1) = L := List.filter_eq_self.2 fun x hx => List.contains_iff_mem.2 (List.mem_map.2 ⟨x, hx, rfl⟩)
  have e2 : (L.filter fun x => !(L.map (·.1)).contains x.1) = [] := List.filter_eq_nil_iff.2 fun x hx => by rw [List.contains_iff_mem.2 (List.mem_map.2 ⟨x, hx, rfl⟩)]; simp
  have h : laidMet P L (W.layVars P L) := laidMet_layVars (w0 := W) (L.map (·.1)) [] (by rw [e1]) (by rw [e1]; exact hf) (by rw [e1]; exact hi) (by rw [e2]; exact LaidIn.none)
  exact h.of_heap (by simp [World.memory, World.forCall, Input.heap])
end Go.Proofs.YtaijjffnamjhiaaGreatDoor
namespace Go.Proofs.YtaijjffnamjhiaaGreatDoor.lawNoutTells
open Go.ChangeShapes Go.WideShapes Go.ChangeAt Go.RowKit Go.Joins

theorem own : ownKnob Tryz.prog.godebug = none := by kernel_rfl
theorem laidOut : laidOutB Tryz.prog = true := by kernel_rfl
theorem cellsPat : Tryz.prog.cellsOf 69 = 7 := by kernel_rfl
theorem cellsSym : Tryz.prog.cellsOf 71 = 2 := by kernel_rfl
theorem cellsDec : Tryz.prog.cellsOf 37 = 2 := by kernel_rfl

set_option maxRecDepth 100000 in
theorem contract (H : Type) (enc : TypeId × Value → H) (W : World) (base : Nat) (args : Array Value) (ds gs : List (DataW H)) (before : List MemPlace)
    (hval : ∀ (j : Nat) t v, Tryz.f8.params[j]? = some t → args[j]? = some v → Value.okWide Tryz.prog W .any base t v)
    (hW : DataW.Whole enc Tryz.prog Tryz.f8.params.toList Rows.noutTellsSpec.vars false W args.toList ds gs before) (hk : Rows.uptoSmall H (ds ++ gs) = true) (hL : laidMetH Tryz.prog Rows.noutTellsUptoRow.laid W) (hS : W.ShapedOpen Tryz.prog) :
    Calls Tryz.prog 8 args W fun e W' => ∃ v, e = .returned v ∧ Rows.noutTellsSpec.post enc Tryz.prog Tryz.f8 false true false false W args v W' := by
  have hpost : ∀ W', Below W.heap.size W W' → Rows.noutTellsSpec.post enc Tryz.prog Tryz.f8 false true false false W args (.bool true) W' := fun W' hb =>
    law_post (tb := 4) laidOut rfl Tryz.underlying4 rfl (by kernel_rfl) (fun ds h => by match ds, h with | [x0, x1, x2, x3], _ => rfl) hW hb
  obtain ⟨p, q, hA0, hV, _, hfz, hnd⟩ := hW
  have hA : DataW.TrodAll enc Tryz.prog W 0 (fun _ => true) true Tryz.f8.params.toList args.toList ds p := hA0
  obtain ⟨rfl, rfl⟩ := trodVars_none hV
  rw [Tryz.params8] at hA hval
  obtain ⟨v0, vs0, d0, ds0, p0, q0, hargs, rfl, hp0, h0, r0⟩ := trodAll_cons hA
  obtain ⟨v1, vs1, d1, ds1, p1, q1, rfl, rfl, hp1, h1, r1⟩ := trodAll_cons r0
  obtain ⟨v2, vs2, d2, ds2, p2, q2, rfl, rfl, hp2, h2, r2⟩ := trodAll_cons r1
  obtain ⟨v3, vs3, d3, ds3, p3, q3, rfl, rfl, hp3, h3, r3⟩ := trodAll_cons r2
  obtain ⟨rfl, rfl, hp⟩ := trodAll_nil r3
  obtain rfl : args = #[v0, v1, v2, v3] := by cases args; simp_all
  obtain ⟨c0_0, c0_1, c0_2, c0_3, c0_4, c0_5, c0_6, y0_0, y0_1, y0_2, y0_3, y0_4, y0_5, y0_6, m0, rfl, rfl, rfl, hy0_0, hy0_1, hy0_2, hy0_3, hy0_4, hy0_5, hy0_6⟩ := open_agg7 Tryz.underlying69 (by kernel_rfl) cellsPat (hval 0 69 v0 rfl rfl) h0
  obtain ⟨p_pre, e0_0, _, w_p_pre⟩ := DataW.trod_string Tryz.underlying9 hy0_0
  obtain ⟨p_suf, e0_1, _, w_p_suf⟩ := DataW.trod_string Tryz.underlying9 hy0_1
  obtain ⟨p_mi, e0_2, _, w_p_mi⟩ := DataW.trod_int Tryz.underlying3 hy0_2
  obtain ⟨p_nf, e0_3, _, w_p_nf⟩ := DataW.trod_int Tryz.underlying3 hy0_3
  obtain ⟨p_mf, e0_4, _, w_p_mf⟩ := DataW.trod_int Tryz.underlying3 hy0_4
  obtain ⟨p_g, e0_5, _, w_p_g⟩ := DataW.trod_int Tryz.underlying3 hy0_5
  obtain ⟨p_g2, e0_6, _, w_p_g2⟩ := DataW.trod_int Tryz.underlying3 hy0_6
  simp at e0_0 e0_1 e0_2 e0_3 e0_4 e0_5 e0_6
  subst e0_0 e0_1 e0_2 e0_3 e0_4 e0_5 e0_6
  have b_p_mi := bounds_i64 w_p_mi
  have b_p_nf := bounds_i64 w_p_nf
  have b_p_mf := bounds_i64 w_p_mf
  have b_p_g := bounds_i64 w_p_g
  have b_p_g2 := bounds_i64 w_p_g2
  obtain ⟨c1_0, c1_1, y1_0, y1_1, m1, rfl, rfl, rfl, hy1_0, hy1_1⟩ := open_agg2 Tryz.underlying71 (by kernel_rfl) cellsSym (hval 1 71 v1 rfl rfl) h1
  obtain ⟨y_p, e1_0, _, w_y_p⟩ := DataW.trod_int Tryz.underlying5 hy1_0
  obtain ⟨y_c, e1_1, _, w_y_c⟩ := DataW.trod_int Tryz.underlying5 hy1_1
  simp at e1_0 e1_1
  subst e1_0 e1_1
  have b_y_p := bounds_u8 w_y_p
  have b_y_c := bounds_u8 w_y_c
  obtain ⟨c2_0, c2_1, y2_0, y2_1, m2, rfl, rfl, rfl, hy2_0, hy2_1⟩ := open_agg2 Tryz.underlying37 (by kernel_rfl) cellsDec (hval 2 37 v2 rfl rfl) h2
  obtain ⟨d_c, e2_0, _, w_d_c⟩ := DataW.trod_int Tryz.underlying3 hy2_0
  obtain ⟨d_s, e2_1, _, w_d_s⟩ := DataW.trod_int Tryz.underlying3 hy2_1
  simp at e2_0 e2_1
  subst e2_0 e2_1
  have b_d_c := bounds_i64 w_d_c
  have b_d_s := bounds_i64 w_d_s
  obtain ⟨s, rfl, rfl, rfl, w_s⟩ := ChangeMaps.open_string Tryz.underlying9 (hval 3 9 v3 rfl rfl) h3
  clear hA0 hfz hnd hval
  have hm : MaxW W := Go.Proofs.cell_of_shapedOpen_int (zero := #[.int .i64 0]) (t := 3) hS (of_decide_eq_true (by kernel_rfl)) (by kernel_rfl) rfl (by kernel_rfl) (by kernel_rfl) Tryz.underlying3
  have hT : DM W := ⟨powW_of hL (by kernel_rfl), numW_of hL (by kernel_rfl) (by kernel_rfl), hm⟩
  have hH : HanW W := hanW_of (by repeat (first | exact List.Mem.head _ | refine List.Mem.tail _ ?_)) hL
  have hq : Rows.uptoBulkAll _ ≤ 1048576 := of_decide_eq_true hk
  simp only [List.append_nil, Rows.uptoBulkAll, Rows.uptoBulk, Array.length_toList, *] at hq
  have hz : ∀ x : ByteArray, x.data.size = x.size := fun _ => rfl
  simp only [hz] at hq
  have hsz : p_pre.size + p_suf.size + s.size ≤ 1048576 := by omega
  refine Calls.mono (?_ : Calls Tryz.prog 8 #[.agg #[.string p_pre, .string p_suf, .int .i64 p_mi, .int .i64 p_nf, .int .i64 p_mf, .int .i64 p_g, .int .i64 p_g2], .agg #[.int .u8 y_p, .int .u8 y_c], .agg #[.int .i64 d_c, .int .i64 d_s], .string s] W fun e w' => e = .returned (.bool true) ∧ Below W.heap.size W w') fun e W' ⟨he, hb⟩ => ⟨_, he, hpost W' hb⟩
  obtain ⟨l0, rfl⟩ : ∃ l : List UInt8, p_pre = ⟨l.toArray⟩ := ⟨p_pre.data.toList, rfl⟩
  obtain ⟨l1, rfl⟩ : ∃ l : List UInt8, p_suf = ⟨l.toArray⟩ := ⟨p_suf.data.toList, rfl⟩
  obtain ⟨t, rfl⟩ : ∃ l : List UInt8, s = ⟨l.toArray⟩ := ⟨s.data.toList, rfl⟩
  simp only [size_mkl] at hsz
  obtain ⟨a, rfl⟩ : ∃ c : UInt8, y_p = (c.toNat : Int) := ⟨UInt8.ofNat y_p.toNat, by rw [UInt8.toNat_ofNat']; omega⟩
  obtain ⟨b, rfl⟩ : ∃ c : UInt8, y_c = (c.toNat : Int) := ⟨UInt8.ofNat y_c.toNat, by rw [UInt8.toNat_ofNat']; omega⟩
  exact ntells_any ⟨l0, l1, p_mi, p_nf, p_mf, p_g, p_g2⟩ a b d_c d_s t W hT hH (by show l0.length ≤ _; omega) (by show l1.length ≤ _; omega) (by omega)

theorem start_met (os : Os) : laidMetH Tryz.prog Rows.noutTellsUptoRow.laid (((World.doorLaid Tryz.prog 89 os).layVars Tryz.prog (Rows.noutTellsUptoRow.laid.filter fun x => x.2.handleName?.isNone)).forCall (fun _ _ => 0) ⟨#[], #[.agg #[.string ⟨#[]⟩, .string ⟨#[]⟩, .int .i64 0, .int .i64 0, .int .i64 0, .int .i64 0, .int .i64 0], .agg #[.int .u8 0, .int .u8 0], .agg #[.int .i64 0, .int .i64 0], .string ⟨#[]⟩], []⟩).memory :=
  laidMetH_of_parts3 (fuel := 8) (laidMet_over _ (by kernel_rfl) (by kernel_rfl)) (by kernel_rfl) (by kernel_rfl)
theorem start_reads (os : Os) {H : Type} (enc : TypeId × Value → H) : ∃ places, DataW.whole enc Tryz.prog (((World.doorLaid Tryz.prog 89 os).layVars Tryz.prog (Rows.noutTellsUptoRow.laid.filter fun x => x.2.handleName?.isNone)).forCall (fun _ _ => 0) ⟨#[], #[.agg #[.string ⟨#[]⟩, .string ⟨#[]⟩, .int .i64 0, .int .i64 0, .int .i64 0, .int .i64 0, .int .i64 0], .agg #[.int .u8 0, .int .u8 0], .agg #[.int .i64 0, .int .i64 0], .string ⟨#[]⟩], []⟩).memory Tryz.f8.params.toList Rows.noutTellsSpec.vars false (#[.agg #[.string ⟨#[]⟩, .string ⟨#[]⟩, .int .i64 0, .int .i64 0, .int .i64 0, .int .i64 0, .int .i64 0], .agg #[.int .u8 0, .int .u8 0], .agg #[.int .i64 0, .int .i64 0], .string ⟨#[]⟩] : Array Value).toList 8 = some ([.agg [.lit (.string []), .lit (.string []), .lit (.int .i64 0), .lit (.int .i64 0), .lit (.int .i64 0), .lit (.int .i64 0), .lit (.int .i64 0)], .agg [.lit (.int .u8 0), .lit (.int .u8 0)], .agg [.lit (.int .i64 0), .lit (.int .i64 0)], .lit (.string [])], [], places) :=
  ⟨[], by kernel_rfl⟩

set_option maxRecDepth 100000 in
theorem lifted (os : Os) (started : os.Started) (H : Type) (enc : TypeId × Value → H) (F : Stop.Interp) :
    ReturnsInHanded {} Tryz.checked os 8 .any ((Rows.OpenSpec.upto Rows.noutTellsSpec).preRow enc Tryz.prog Tryz.f8 Rows.noutTellsUptoRow.domain false Rows.noutTellsUptoRow.laid) (((Rows.OpenSpec.upto Rows.noutTellsSpec).at F).post enc Tryz.prog Tryz.f8 false true false false) := by
  obtain ⟨places, hx⟩ := start_reads os enc
  refine returnsInHanded_of_row (C := Tryz.checked) (s := Rows.OpenSpec.upto Rows.noutTellsSpec) own started (by kernel_rfl) Tryz.func8
    (witness_row_atRef (enc := enc) (C := Tryz.checked) false ((World.doorLaid Tryz.prog 89 os).layVars Tryz.prog (Rows.noutTellsUptoRow.laid.filter fun x => x.2.handleName?.isNone)) #[.agg #[.string ⟨#[]⟩, .string ⟨#[]⟩, .int .i64 0, .int .i64 0, .int .i64 0, .int .i64 0, .int .i64 0], .agg #[.int .u8 0, .int .u8 0], .agg #[.int .i64 0, .int .i64 0], .string ⟨#[]⟩] (World.layVars_os _ _ _) (by kernel_rfl) (by kernel_rfl) (by kernel_rfl)
      (OpenSpec.preRow_of_cond 8 hx (by kernel_rfl) (fun k hk => by cases hk; kernel_rfl) (by kernel_rfl) (start_met os))) ?_
  intro W base args ds gs before hval hW _ hcond _ hL hS _
  exact contract H enc W base args ds gs before hval hW (hcond _ rfl) hL hS

theorem said : Rows.NoutTellsUptoSaid :=
  OpenClaim.holds_of_cond 8 Tryz.f8 rfl rfl rfl rfl rfl rfl rfl ⟨rfl, rfl, rfl, rfl, rfl⟩ rfl rfl rfl rfl rfl (by kernel_rfl) Tryz.func8 (by kernel_rfl)
    (of_decide_eq_true (by kernel_rfl)) (by unfold Func.isWrapper; first | (rw [if_pos (by decide +kernel)]; kernel_rfl) | (rw [if_neg (by decide +kernel)]; exact ⟨rfl, rfl⟩))
    (fun os started H enc _ F => by rw [OpenClaim.pre_eq_preRow]; exact lifted os started H enc F)

theorem plain (f : FuncId) (fn : Func) (hf : Tryz.pinned.checked.prog.funcNamed "linguister/linguisterlaw1.NoutTells" = some f) (hfn : Tryz.pinned.checked.prog.funcs[f]? = some fn) :
    true = Tryz.pinned.checked.prog.looks [] ∧ ∀ (j : Nat) t, fn.params[j]? = some t → Tryz.pinned.checked.prog.wantsStandIn t = false := by
  obtain rfl : f = 8 := Option.some.inj ((show Tryz.prog.funcNamed "linguister/linguisterlaw1.NoutTells" = some 8 by kernel_rfl).symm.trans hf) |>.symm
  obtain rfl : fn = Tryz.f8 := (Option.some.inj (Tryz.func8.symm.trans hfn)).symm
  refine ⟨by kernel_rfl, fun j t ht => ?_⟩
  rw [Tryz.params8] at ht
  have hm : t ∈ [69, 71, 37, 9] := by simpa using Array.mem_of_getElem? ht
  have hall : ([69, 71, 37, 9].all fun u => !Tryz.prog.wantsStandIn u) = true := by kernel_rfl
  exact (show Tryz.prog.wantsStandIn t = false by simpa using List.all_eq_true.1 hall t hm)

theorem proved : Rows.NoutTellsUptoCardSaid :=
  Claim7.holds_tied_plain_at .later [] _ _ _ _ said (fun _ h => by cases h) (by kernel_rfl) (fun _ h => by cases h) noutTellsUpto_row_tie rfl ⟨rfl, rfl⟩ (by kernel_rfl) rfl plain (by kernel_rfl)
#print axioms proved
end Go.Proofs.YtaijjffnamjhiaaGreatDoor.lawNoutTells
