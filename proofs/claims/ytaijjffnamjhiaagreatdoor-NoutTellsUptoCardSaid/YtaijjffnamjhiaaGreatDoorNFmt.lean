/- The walk of nout.Format. Conditions: the library's table of powers and its variable MaxLen are there; the pattern's texts are short. -/
import Derived.Test.YtaijjffnamjhiaaGreatDoorNChk
import Derived.Test.YtaijjffnamjhiaaGreatDoorNBx
import Derived.Test.YtaijjffnamjhiaaGreatDoorNoutS
import Derived.Test.YtaijjffnamjhiaaGreatDoorNTrim
import Derived.Test.YtaijjffnamjhiaaGreatDoorGput
import Derived.Test.YtaijjffnamjhiaaGreatDoorCutPt
import Derived.Test.YtaijjffnamjhiaaGreatDoorDecRndC
namespace Go.Proofs.YtaijjffnamjhiaaGreatDoor
open Go.RowKit
open Dcm (okD)
/-- a sign, a number, as values -/
def yV (pt cm : UInt8) : Value := .agg #[.int .u8 (pt.toNat : Int), .int .u8 (cm.toNat : Int)]
theorem cutpre_any (s : List UInt8) (w : World) : Calls Tryz.prog 78 #[.string ⟨s.toArray⟩, .string ⟨#[45]⟩] w fun e w' => e = .returned (.tuple #[.string ⟨(Lib.trimPrefix s [45]).toArray⟩, .bool (Lib.hasPrefix s [45])]) ∧ w' = w :=
  Tryz.strings_CutPrefix ⟨s.toArray⟩ ⟨#[45]⟩ w

set_option maxRecDepth 100000 in
set_option maxHeartbeats 4000000 in
theorem fmt_bad (p : Nt.Pt) (pt cm : UInt8) (c s : Int) (w : World) (h1 : p.pre.length ≤ 1000000000) (h2 : p.suf.length ≤ 1000000000) (hE : Nt.fmtE p pt cm c s ≠ 0) :
    Calls Tryz.prog 33 #[pV p, yV pt cm, .agg #[.int .i64 c, .int .i64 s]] w fun e w' => e = .returned (.tuple #[.string ⟨#[]⟩, errV (Nt.fmtE p pt cm c s)]) ∧ Below w.heap.size w w' := by
  have CK := Lib.hid fun w => chk_any p pt cm w h1 h2
  unfold Nt.fmtE at hE ⊢
  generalize Nt.allE p pt cm = E at *
  unfold pV yV at *
  obtain ⟨pre, suf, mi, nf, mf, g, g2⟩ := p
  simp only at *
  have X0 := Lib.hid (Bx.made w #[.string ⟨pre.toArray⟩, .string ⟨suf.toArray⟩, .int .i64 mi, .int .i64 nf, .int .i64 mf, .int .i64 g, .int .i64 g2] #[.int .u8 (pt.toNat : Int), .int .u8 (cm.toNat : Int)] (.int .i64 c) (.int .i64 s) 69 71 37)
  by_cases h0 : E = 0
  · subst h0
    rw [show errN 0 = .nilIface from rfl] at CK
    rw [if_neg (by simp)] at hE ⊢
    by_cases hd : 0 ≤ s ∧ s ≤ 9 ∧ -1000000000000000 ≤ c ∧ c ≤ 1000000000000000
    · rw [if_pos hd] at hE; exact absurd rfl hE
    rw [if_neg hd]
    have CD := Lib.hid fun w => dchk_no c s w hd
    clear hE hd h1 h2
    go_enter Tryz.func33, Tryz.ntmps33
    go_wp2_with fail
    refine (CK.out _).mono ?_
    rintro e w1 ⟨rfl, hb⟩
    have X1 := Lib.hid (X0.out.below hb)
    clear hb X0 
    have cp0 := X1.out.p.cell 0 _ rfl
    have cp1 := X1.out.p.cell 1 _ rfl
    have cp2 := X1.out.p.cell 2 _ rfl
    have cp3 := X1.out.p.cell 3 _ rfl
    have cp4 := X1.out.p.cell 4 _ rfl
    have cp5 := X1.out.p.cell 5 _ rfl
    have cp6 := X1.out.p.cell 6 _ rfl
    have cy0 := X1.out.y.cell 0 _ rfl
    have cy1 := X1.out.y.cell 1 _ rfl
    have cd0 := X1.out.d.cell 0 _ rfl
    have cd1 := X1.out.d.cell 1 _ rfl
    have clp := X1.out.p.lt
    have cly := X1.out.y.lt
    have cld := X1.out.d.lt
    go_wp2_with fail
    refine (CD.out _).mono ?_
    rintro e w2 ⟨rfl, hb⟩
    have X2 := Lib.hid (X1.out.below hb)
    clear hb X1 
    clear cp0 cp1 cp2 cp3 cp4 cp5 cp6 cy0 cy1 cd0 cd1 clp cly cld
    go_wp2_with fail
    go_ret2
    exact ⟨rfl, X2.out.b⟩
  · rw [show errN E = errV E from if_neg h0] at CK
    rw [if_pos h0]
    clear hE h1 h2 h0
    go_enter Tryz.func33, Tryz.ntmps33
    go_wp2_with fail
    refine (CK.out _).mono ?_
    rintro e w1 ⟨rfl, hb⟩
    have X1 := Lib.hid (X0.out.below hb)
    clear hb X0 
    go_wp2_with fail
    go_ret2
    exact ⟨rfl, X1.out.b⟩

set_option maxRecDepth 100000 in
set_option maxHeartbeats 4000000 in
theorem fmt_text (p : Nt.Pt) (pt cm : UInt8) (c s : Int) (w : World) (hT : PowW w) (hM : MaxW w) (h1 : p.pre.length ≤ 1000000000) (h2 : p.suf.length ≤ 1000000000) (hE : Nt.fmtE p pt cm c s = 0) :
    Calls Tryz.prog 33 #[pV p, yV pt cm, .agg #[.int .i64 c, .int .i64 s]] w fun e w' => e = .returned (.tuple #[.string ⟨(Nt.shown p pt cm c s).toArray⟩, .nilIface]) ∧ Below w.heap.size w w' := by
  obtain ⟨hp, hy, hd⟩ := Nt.fmt_ok hE
  have CK := Lib.hid fun w => chk_any p pt cm w h1 h2
  have eE : Nt.allE p pt cm = 0 := by unfold Nt.allE; rw [if_neg (by omega), if_pos hy]
  rw [eE, show errN 0 = .nilIface from rfl] at CK
  have ps := Nt.size_ok (Nt.pat_ok hp).2.2.1
  obtain ⟨y1, y2, y3⟩ := Nt.sym_mem hy
  have ncm : ¬ (48 ≤ (cm.toNat : Int) ∧ (cm.toNat : Int) ≤ 57) := by
    have : cm = 46 ∨ cm = 44 ∨ cm = 39 ∨ cm = 95 := by simpa [Nt.sgnL] using y3
    rcases this with rfl | rfl | rfl | rfl <;> decide
  obtain ⟨t1, t2, t3⟩ := Nt.red_trim c s hd
  obtain ⟨r1, r2, r3⟩ := Nt.red_fine p.mf c s hd (by omega) (by omega)
  have CD := Lib.hid fun w => dchk_yes c s w hd
  have CT1 := Lib.hid fun w => trimmed_any c s w hd
  have CR : Hid (p.mf < (Nt.trim c s).2 → okD (Dcm.rndC (Nt.trim c s).1 (Nt.trim c s).2 p.mf 5) p.mf ∧ ∀ w, Calls Tryz.prog 35 #[.agg #[.int .i64 (Nt.trim c s).1, .int .i64 (Nt.trim c s).2], .int .i64 p.mf, .int .i64 5] w fun e w' => e = .returned (.tuple #[.agg #[.int .i64 (Dcm.rndC (Nt.trim c s).1 (Nt.trim c s).2 p.mf 5), .int .i64 p.mf], .nilIface]) ∧ Below w.heap.size w w') := Lib.hid fun hlt => by
    have hz : rndE (Nt.trim c s).1 (Nt.trim c s).2 p.mf 5 = 0 := rndE_zero.2 ⟨t1, by omega, by omega, by omega, by omega, fun h => by omega⟩
    exact ⟨rndC_ok hz, fun w => round_yes _ _ _ _ w hz⟩
  have HR : Hid (Nt.red p.mf c s = if p.mf < (Nt.trim c s).2 then Nt.trim (Dcm.rndC (Nt.trim c s).1 (Nt.trim c s).2 p.mf 5) p.mf else Nt.trim c s) := Lib.hid rfl
  have hsh : Nt.shown p pt cm c s = Byt.sgn (Nt.red p.mf c s).1 ++ Nt.body p pt cm (Nt.red p.mf c s).1 (Nt.red p.mf c s).2 := rfl
  rw [hsh]
  clear hsh
  generalize Nt.red p.mf c s = q at *
  obtain ⟨a, b⟩ := q
  generalize Nt.trim c s = q at *
  obtain ⟨tc, ts⟩ := q
  unfold pV yV at *
  obtain ⟨pre, suf, mi, nf, mf, g, g2⟩ := p
  unfold Nt.body
  simp only at *
  have CX := Lib.hid fun w hT => dtext_any a b w hT r1
  have CC := Lib.hid fun w hM => cutp_any (Byt.decText a b) w hM (by have := Byt.dec_len a b r1; omega)
  rw [Nt.cut_text] at CC
  simp only at CC
  have CP := Lib.hid fun w => cutpre_any (Byt.sgn a ++ Nt.wh a b) w
  rw [(Nt.head_minus a b).1, (Nt.head_minus a b).2] at CP
  have lw := Nt.wh_len a b r1
  have lb := Nt.bh_len a b
  have hwn := Nt.wh_ne a b
  have hPD : List.replicate (mi.toNat - (Nt.wh a b).length) 48 ++ Nt.wh a b = Nt.pad mi a b := rfl
  have hFR : Nt.bh a b ++ List.replicate (nf.toNat - (Nt.bh a b).length) 48 = Nt.fr nf a b := rfl
  have hdg : digB (Nt.pad mi a b) = true := Nt.dig_B (Nt.pad_dig _ _ _) (by rw [← hPD]; simp [hwn])
  have r9 : b ≤ 9 := r1.2.1
  have r0 : 0 ≤ b := r1.1
  have lpd : (Nt.pad mi a b).length ≤ 200 := by rw [← hPD, List.length_append, List.length_replicate]; omega
  have lfr : (Nt.fr nf a b).length ≤ 200 := by rw [← hFR, List.length_append, List.length_replicate]; omega
  have CU := Lib.hid fun w => put_ok (Nt.pad mi a b) g g2 cm w (by omega) hdg ncm ⟨by omega, by omega, by omega, by omega⟩
  have lgo := gout_len (Nt.pad mi a b) g g2 cm
  have hm : (a < 0 ∧ Byt.sgn a = [45]) ∨ (¬ a < 0 ∧ Byt.sgn a = []) := by
    by_cases h0 : a < 0
    · exact .inl ⟨h0, if_pos h0⟩
    · exact .inr ⟨h0, if_neg h0⟩
  have hMd : ∃ m : Bool, m = decide (a < 0) := ⟨_, rfl⟩
  obtain ⟨m, hMd⟩ := hMd
  rw [← hMd] at CP
  have hm' : (m = true ∧ Byt.sgn a = [45]) ∨ (m = false ∧ Byt.sgn a = []) := by
    rcases hm with ⟨h0, h⟩ | ⟨h0, h⟩
    · exact .inl ⟨by rw [hMd, decide_eq_true h0], h⟩
    · exact .inr ⟨by rw [hMd, decide_eq_false h0], h⟩
  clear hm hMd hwn y1 y2 y3 ncm hdg hE hy eE hp
  generalize Byt.decText a b = X at *
  generalize Nt.pad mi a b = PD at *
  generalize Nt.fr nf a b = FR at *
  generalize gout PD g g2 cm = GO at *
  generalize Byt.sgn a ++ Nt.wh a b = HD at *
  generalize Nt.wh a b = WH at *
  generalize Nt.bh a b = BH at *
  obtain ⟨n1, hn1⟩ : ∃ n, n = nf.toNat - BH.length := ⟨_, rfl⟩
  obtain ⟨n2, hn2⟩ : ∃ n, n = mi.toNat - WH.length := ⟨_, rfl⟩
  rw [← hn1] at hFR
  rw [← hn2] at hPD
  have C1 := Lib.hid fun w => noughts_any n1 w (by omega)
  have C2 := Lib.hid fun w => noughts_any n2 w (by omega)
  have m1 : max (0 : Int) (nf - (BH.length : Int)) = (n1 : Int) := by omega
  have m2 : max (0 : Int) (mi - (WH.length : Int)) = (n2 : Int) := by omega
  have i1 : IntKind.i64.wrap (nf - (BH.length : Int)) = nf - (BH.length : Int) := IntWalk.i64_in _ (by omega)
  have i2 : IntKind.i64.wrap (mi - (WH.length : Int)) = mi - (WH.length : Int) := IntWalk.i64_in _ (by omega)
  have lr1 : (List.replicate n1 (48 : UInt8)).length = n1 := List.length_replicate
  have lr2 : (List.replicate n2 (48 : UInt8)).length = n2 := List.length_replicate
  generalize List.replicate n1 (48 : UInt8) = R1 at *
  generalize List.replicate n2 (48 : UInt8) = R2 at *
  have A1 : ∀ w, (Op.stringOp .add ⟨BH.toArray⟩ ⟨R1.toArray⟩).run Tryz.prog w = .ok (.string ⟨FR.toArray⟩) w := fun w => by rw [← hFR]; exact add_str (P := Tryz.prog) BH R1 (by omega) w
  have A2 : ∀ w, (Op.stringOp .add ⟨R2.toArray⟩ ⟨WH.toArray⟩).run Tryz.prog w = .ok (.string ⟨PD.toArray⟩) w := fun w => by rw [← hPD]; exact add_str (P := Tryz.prog) R2 WH (by omega) w
  obtain ⟨TL, hTL⟩ : ∃ TL, TL = Nt.tail pt FR := ⟨_, rfl⟩
  rw [← hTL]
  have lTL : TL.length ≤ 201 := by rw [hTL]; unfold Nt.tail; split <;> simp; omega
  obtain ⟨G1, hG1⟩ : ∃ G1, G1 = GO ++ TL := ⟨_, rfl⟩
  rw [← hG1]
  have lG1 : G1.length ≤ 601 := by rw [hG1, List.length_append]; omega
  obtain ⟨Z1, hZ1⟩ : ∃ Z1, Z1 = pre ++ G1 := ⟨_, rfl⟩
  rw [← hZ1]
  have lZ1 : Z1.length ≤ 1000000601 := by rw [hZ1, List.length_append]; omega
  obtain ⟨Z2, hZ2⟩ : ∃ Z2, Z2 = Z1 ++ suf := ⟨_, rfl⟩
  rw [← hZ2]
  have lZ2 : Z2.length ≤ 2000000601 := by rw [hZ2, List.length_append]; omega
  have A3 : ∀ w, (Op.stringOp .add ⟨pre.toArray⟩ ⟨G1.toArray⟩).run Tryz.prog w = .ok (.string ⟨Z1.toArray⟩) w := fun w => by rw [hZ1]; exact add_str (P := Tryz.prog) pre G1 (by omega) w
  have A4 : ∀ w, (Op.stringOp .add ⟨Z1.toArray⟩ ⟨suf.toArray⟩).run Tryz.prog w = .ok (.string ⟨Z2.toArray⟩) w := fun w => by rw [hZ2]; exact add_str (P := Tryz.prog) Z1 suf (by omega) w
  have A5 : ∀ w, (Op.stringOp .add ⟨#[45]⟩ ⟨Z2.toArray⟩).run Tryz.prog w = .ok (.string ⟨([45] ++ Z2).toArray⟩) w := fun w => add_str (P := Tryz.prog) [45] Z2 (by simp; omega) w
  have A6 : FR ≠ [] → ∀ w, (Op.stringOp .add ⟨[pt].toArray⟩ ⟨FR.toArray⟩).run Tryz.prog w = .ok (.string ⟨TL.toArray⟩) w := fun hf w => by
    have e : TL = [pt] ++ FR := by rw [hTL]; unfold Nt.tail; rw [if_neg hf]; rfl
    rw [e]; exact add_str (P := Tryz.prog) [pt] FR (by simp; omega) w
  have A7 : ∀ w, (Op.stringOp .add ⟨GO.toArray⟩ ⟨TL.toArray⟩).run Tryz.prog w = .ok (.string ⟨G1.toArray⟩) w := fun w => by rw [hG1]; exact add_str (P := Tryz.prog) GO TL (by omega) w
  have hnil : FR = [] → G1 = GO := fun hf => by rw [hG1, hTL, hf]; unfold Nt.tail; simp
  have HA6 := Lib.hid A6
  have HA345 := Lib.hid (And.intro A3 (And.intro A4 A5))
  have HA7 := Lib.hid A7
  have HA1 := Lib.hid A1
  have HA2 := Lib.hid A2
  have HI := Lib.hid (And.intro m1 (And.intro m2 (And.intro i1 i2)))
  have Hnil := Lib.hid hnil
  have Hm := Lib.hid hm'
  clear A1 A2 A3 A4 A5 A6 A7 m1 m2 i1 i2 hnil hm' hZ1 hZ2 hG1 hTL lZ1 lZ2 lG1 lTL hFR hPD hn1 hn2 lr1 lr2 lw lb lpd lfr lgo h1 h2 ps r0 r9
  generalize Byt.sgn a = SG at *
  have HT := Lib.hid hT
  have HM := Lib.hid hM
  clear hT hM
  have X0 := Lib.hid (Bx.made w #[.string ⟨pre.toArray⟩, .string ⟨suf.toArray⟩, .int .i64 mi, .int .i64 nf, .int .i64 mf, .int .i64 g, .int .i64 g2] #[.int .u8 (pt.toNat : Int), .int .u8 (cm.toNat : Int)] (.int .i64 c) (.int .i64 s) 69 71 37)
  clear hd
  go_enter Tryz.func33, Tryz.ntmps33
  go_wp2_with fail
  refine (CK.out _).mono ?_
  rintro e w1 ⟨rfl, hb⟩
  have X1 := Lib.hid (X0.out.below hb)
  clear hb X0 CK
  have cp0 := X1.out.p.cell 0 _ rfl
  have cp1 := X1.out.p.cell 1 _ rfl
  have cp2 := X1.out.p.cell 2 _ rfl
  have cp3 := X1.out.p.cell 3 _ rfl
  have cp4 := X1.out.p.cell 4 _ rfl
  have cp5 := X1.out.p.cell 5 _ rfl
  have cp6 := X1.out.p.cell 6 _ rfl
  have cy0 := X1.out.y.cell 0 _ rfl
  have cy1 := X1.out.y.cell 1 _ rfl
  have cd0 := X1.out.d.cell 0 _ rfl
  have cd1 := X1.out.d.cell 1 _ rfl
  have clp := X1.out.p.lt
  have cly := X1.out.y.lt
  have cld := X1.out.d.lt
  go_wp2_with fail
  refine (CD.out _).mono ?_
  rintro e w2 ⟨rfl, hb⟩
  have X2 := Lib.hid (X1.out.below hb)
  clear hb X1 CD
  clear cp0 cp1 cp2 cp3 cp4 cp5 cp6 cy0 cy1 cd0 cd1 clp cly cld
  have cp0 := X2.out.p.cell 0 _ rfl
  have cp1 := X2.out.p.cell 1 _ rfl
  have cp2 := X2.out.p.cell 2 _ rfl
  have cp3 := X2.out.p.cell 3 _ rfl
  have cp4 := X2.out.p.cell 4 _ rfl
  have cp5 := X2.out.p.cell 5 _ rfl
  have cp6 := X2.out.p.cell 6 _ rfl
  have cy0 := X2.out.y.cell 0 _ rfl
  have cy1 := X2.out.y.cell 1 _ rfl
  have cd0 := X2.out.d.cell 0 _ rfl
  have cd1 := X2.out.d.cell 1 _ rfl
  have clp := X2.out.p.lt
  have cly := X2.out.y.lt
  have cld := X2.out.d.lt
  go_wp2_with fail
  refine (CT1.out _).mono ?_
  rintro e w3 ⟨rfl, hb⟩
  have X3 := Lib.hid (X2.out.below hb)
  clear hb X2 CT1
  clear cp0 cp1 cp2 cp3 cp4 cp5 cp6 cy0 cy1 cd0 cd1 clp cly cld
  have cp0 := X3.out.p.cell 0 _ rfl
  have cp1 := X3.out.p.cell 1 _ rfl
  have cp2 := X3.out.p.cell 2 _ rfl
  have cp3 := X3.out.p.cell 3 _ rfl
  have cp4 := X3.out.p.cell 4 _ rfl
  have cp5 := X3.out.p.cell 5 _ rfl
  have cp6 := X3.out.p.cell 6 _ rfl
  have cy0 := X3.out.y.cell 0 _ rfl
  have cy1 := X3.out.y.cell 1 _ rfl
  have cd0 := X3.out.d.cell 0 _ rfl
  have cd1 := X3.out.d.cell 1 _ rfl
  have cf0 := X3.out.d.free 0 (by simp)
  have cf1 := X3.out.d.free 1 (by simp)
  have clp := X3.out.p.lt
  have cly := X3.out.y.lt
  have cld := X3.out.d.lt
  have X4 := Lib.hid (X3.out.store (.int .i64 tc) (.int .i64 ts))
  go_upto_if 35 with fail
  go_cut [] from 10 (fun wx => Hid (Bx w #[.string ⟨pre.toArray⟩, .string ⟨suf.toArray⟩, .int .i64 mi, .int .i64 nf, .int .i64 mf, .int .i64 g, .int .i64 g2] #[.int .u8 (pt.toNat : Int), .int .u8 (cm.toNat : Int)] (.int .i64 a) (.int .i64 b) wx))
  case first =>
    generalize (w3.setCell ⟨w.heap.size + 2, 0, none⟩ (.int .i64 tc)).setCell ⟨w.heap.size + 2, 1, none⟩ (.int .i64 ts) = w4 at *
    clear cp0 cp1 cp2 cp3 cp4 cp5 cp6 cy0 cy1 cd0 cd1 cf0 cf1 clp cly cld
    have cp0 := X4.out.p.cell 0 _ rfl
    have cp1 := X4.out.p.cell 1 _ rfl
    have cp2 := X4.out.p.cell 2 _ rfl
    have cp3 := X4.out.p.cell 3 _ rfl
    have cp4 := X4.out.p.cell 4 _ rfl
    have cp5 := X4.out.p.cell 5 _ rfl
    have cp6 := X4.out.p.cell 6 _ rfl
    have cy0 := X4.out.y.cell 0 _ rfl
    have cy1 := X4.out.y.cell 1 _ rfl
    have cd0 := X4.out.d.cell 0 _ rfl
    have cd1 := X4.out.d.cell 1 _ rfl
    have cf0 := X4.out.d.free 0 (by simp)
    have cf1 := X4.out.d.free 1 (by simp)
    have clp := X4.out.p.lt
    have cly := X4.out.y.lt
    have cld := X4.out.d.lt
    clear X3
    by_cases hlt : mf < ts
    · have d0 : decide (mf < ts) = true := dec_yes hlt
      rw [d0]
      have hr := HR.out
      rw [if_pos hlt] at hr
      obtain ⟨ro, CRw⟩ := CR.out hlt
      have CRh := Lib.hid CRw
      have CT2 := Lib.hid fun w => trimmed_any _ _ w ro
      rw [← hr] at CT2
      simp only at CT2
      clear hr HR CR CRw ro hlt
      generalize Dcm.rndC tc ts mf 5 = RC at *
      go_wp2_with fail
      refine (CRh.out _).mono ?_
      rintro e w5 ⟨rfl, hb⟩
      have X5 := Lib.hid (X4.out.below hb)
      clear hb X4 CRh
      clear cp0 cp1 cp2 cp3 cp4 cp5 cp6 cy0 cy1 cd0 cd1 cf0 cf1 clp cly cld
      have cp0 := X5.out.p.cell 0 _ rfl
      have cp1 := X5.out.p.cell 1 _ rfl
      have cp2 := X5.out.p.cell 2 _ rfl
      have cp3 := X5.out.p.cell 3 _ rfl
      have cp4 := X5.out.p.cell 4 _ rfl
      have cp5 := X5.out.p.cell 5 _ rfl
      have cp6 := X5.out.p.cell 6 _ rfl
      have cy0 := X5.out.y.cell 0 _ rfl
      have cy1 := X5.out.y.cell 1 _ rfl
      have cd0 := X5.out.d.cell 0 _ rfl
      have cd1 := X5.out.d.cell 1 _ rfl
      have cf0 := X5.out.d.free 0 (by simp)
      have cf1 := X5.out.d.free 1 (by simp)
      have clp := X5.out.p.lt
      have cly := X5.out.y.lt
      have cld := X5.out.d.lt
      have X6 := Lib.hid (X5.out.alloc (.cells #[.int .i64 RC, .int .i64 mf] 37))
      clear X5
      clear cp0 cp1 cp2 cp3 cp4 cp5 cp6 cy0 cy1 cd0 cd1 cf0 cf1 clp cly cld
      have cp0 := X6.out.p.cell 0 _ rfl
      have cp1 := X6.out.p.cell 1 _ rfl
      have cp2 := X6.out.p.cell 2 _ rfl
      have cp3 := X6.out.p.cell 3 _ rfl
      have cp4 := X6.out.p.cell 4 _ rfl
      have cp5 := X6.out.p.cell 5 _ rfl
      have cp6 := X6.out.p.cell 6 _ rfl
      have cy0 := X6.out.y.cell 0 _ rfl
      have cy1 := X6.out.y.cell 1 _ rfl
      have cd0 := X6.out.d.cell 0 _ rfl
      have cd1 := X6.out.d.cell 1 _ rfl
      have cf0 := X6.out.d.free 0 (by simp)
      have cf1 := X6.out.d.free 1 (by simp)
      have clp := X6.out.p.lt
      have cly := X6.out.y.lt
      have cld := X6.out.d.lt
      go_wp2_with fail
      refine (CT2.out _).mono ?_
      rintro e w7 ⟨rfl, hb⟩
      have X7 := Lib.hid (X6.out.below hb)
      clear hb X6 CT2
      clear cp0 cp1 cp2 cp3 cp4 cp5 cp6 cy0 cy1 cd0 cd1 cf0 cf1 clp cly cld
      have cp0 := X7.out.p.cell 0 _ rfl
      have cp1 := X7.out.p.cell 1 _ rfl
      have cp2 := X7.out.p.cell 2 _ rfl
      have cp3 := X7.out.p.cell 3 _ rfl
      have cp4 := X7.out.p.cell 4 _ rfl
      have cp5 := X7.out.p.cell 5 _ rfl
      have cp6 := X7.out.p.cell 6 _ rfl
      have cy0 := X7.out.y.cell 0 _ rfl
      have cy1 := X7.out.y.cell 1 _ rfl
      have cd0 := X7.out.d.cell 0 _ rfl
      have cd1 := X7.out.d.cell 1 _ rfl
      have cf0 := X7.out.d.free 0 (by simp)
      have cf1 := X7.out.d.free 1 (by simp)
      have clp := X7.out.p.lt
      have cly := X7.out.y.lt
      have cld := X7.out.d.lt
      have X8 := Lib.hid (X7.out.store (.int .i64 a) (.int .i64 b))
      go_wp2_with fail
      go_meet
      exact X8
    · have d0 : decide (mf < ts) = false := dec_no hlt
      rw [d0]
      have hr := HR.out
      rw [if_neg hlt] at hr
      obtain ⟨rfl, rfl⟩ := Prod.mk.inj hr
      go_wp2_with fail
      go_meet
      exact X4
  case rest =>
    have X9 := hcut
    clear hcut X4 X3 CR HR t1 t2 t3
    try clear cp0 cp1 cp2 cp3 cp4 cp5 cp6 cy0 cy1 cd0 cd1 cf0 cf1 clp cly cld
    have cp0 := X9.out.p.cell 0 _ rfl
    have cp1 := X9.out.p.cell 1 _ rfl
    have cp2 := X9.out.p.cell 2 _ rfl
    have cp3 := X9.out.p.cell 3 _ rfl
    have cp4 := X9.out.p.cell 4 _ rfl
    have cp5 := X9.out.p.cell 5 _ rfl
    have cp6 := X9.out.p.cell 6 _ rfl
    have cy0 := X9.out.y.cell 0 _ rfl
    have cy1 := X9.out.y.cell 1 _ rfl
    have cd0 := X9.out.d.cell 0 _ rfl
    have cd1 := X9.out.d.cell 1 _ rfl
    have clp := X9.out.p.lt
    have cly := X9.out.y.lt
    have cld := X9.out.d.lt
    have pw := Lib.hid (HT.out.below X9.out.b)
    go_wp2_with fail
    refine (CX.out _ pw.out).mono ?_
    rintro e w10 ⟨rfl, hb⟩
    have X10 := Lib.hid (X9.out.below hb)
    clear hb X9 CX pw
    clear cp0 cp1 cp2 cp3 cp4 cp5 cp6 cy0 cy1 cd0 cd1 clp cly cld
    have cp0 := X10.out.p.cell 0 _ rfl
    have cp1 := X10.out.p.cell 1 _ rfl
    have cp2 := X10.out.p.cell 2 _ rfl
    have cp3 := X10.out.p.cell 3 _ rfl
    have cp4 := X10.out.p.cell 4 _ rfl
    have cp5 := X10.out.p.cell 5 _ rfl
    have cp6 := X10.out.p.cell 6 _ rfl
    have cy0 := X10.out.y.cell 0 _ rfl
    have cy1 := X10.out.y.cell 1 _ rfl
    have cd0 := X10.out.d.cell 0 _ rfl
    have cd1 := X10.out.d.cell 1 _ rfl
    have clp := X10.out.p.lt
    have cly := X10.out.y.lt
    have cld := X10.out.d.lt
    have mw := Lib.hid (HM.out.below X10.out.b)
    go_wp2_with fail
    refine (CC.out _ mw.out).mono ?_
    rintro e w11 ⟨rfl, hb⟩
    have X11 := Lib.hid (X10.out.below hb)
    clear hb X10 CC mw
    clear cp0 cp1 cp2 cp3 cp4 cp5 cp6 cy0 cy1 cd0 cd1 clp cly cld
    have cp0 := X11.out.p.cell 0 _ rfl
    have cp1 := X11.out.p.cell 1 _ rfl
    have cp2 := X11.out.p.cell 2 _ rfl
    have cp3 := X11.out.p.cell 3 _ rfl
    have cp4 := X11.out.p.cell 4 _ rfl
    have cp5 := X11.out.p.cell 5 _ rfl
    have cp6 := X11.out.p.cell 6 _ rfl
    have cy0 := X11.out.y.cell 0 _ rfl
    have cy1 := X11.out.y.cell 1 _ rfl
    have cd0 := X11.out.d.cell 0 _ rfl
    have cd1 := X11.out.d.cell 1 _ rfl
    have clp := X11.out.p.lt
    have cly := X11.out.y.lt
    have cld := X11.out.d.lt
    go_wp2_with fail
    refine (CP.out _).mono ?_
    rintro e w' ⟨rfl, rfl⟩
    clear CP
    obtain ⟨m1, m2, i1, i2⟩ := HI.out
    have A1 := HA1.out
    go_wp2_with fail
    refine (C1.out _).mono ?_
    rintro e w12 ⟨rfl, hb⟩
    have X12 := Lib.hid (X11.out.below hb)
    clear hb X11 C1 m1 i1
    clear cp0 cp1 cp2 cp3 cp4 cp5 cp6 cy0 cy1 cd0 cd1 clp cly cld
    have cp0 := X12.out.p.cell 0 _ rfl
    have cp1 := X12.out.p.cell 1 _ rfl
    have cp2 := X12.out.p.cell 2 _ rfl
    have cp3 := X12.out.p.cell 3 _ rfl
    have cp4 := X12.out.p.cell 4 _ rfl
    have cp5 := X12.out.p.cell 5 _ rfl
    have cp6 := X12.out.p.cell 6 _ rfl
    have cy0 := X12.out.y.cell 0 _ rfl
    have cy1 := X12.out.y.cell 1 _ rfl
    have cd0 := X12.out.d.cell 0 _ rfl
    have cd1 := X12.out.d.cell 1 _ rfl
    have clp := X12.out.p.lt
    have cly := X12.out.y.lt
    have cld := X12.out.d.lt
    have A2 := HA2.out
    go_wp2_with fail
    refine (C2.out _).mono ?_
    rintro e w13 ⟨rfl, hb⟩
    have X13 := Lib.hid (X12.out.below hb)
    clear hb X12 C2 m2 i2
    clear cp0 cp1 cp2 cp3 cp4 cp5 cp6 cy0 cy1 cd0 cd1 clp cly cld
    have cp0 := X13.out.p.cell 0 _ rfl
    have cp1 := X13.out.p.cell 1 _ rfl
    have cp2 := X13.out.p.cell 2 _ rfl
    have cp3 := X13.out.p.cell 3 _ rfl
    have cp4 := X13.out.p.cell 4 _ rfl
    have cp5 := X13.out.p.cell 5 _ rfl
    have cp6 := X13.out.p.cell 6 _ rfl
    have cy0 := X13.out.y.cell 0 _ rfl
    have cy1 := X13.out.y.cell 1 _ rfl
    have cd0 := X13.out.d.cell 0 _ rfl
    have cd1 := X13.out.d.cell 1 _ rfl
    have clp := X13.out.p.lt
    have cly := X13.out.y.lt
    have cld := X13.out.d.lt
    go_wp2_with fail
    refine (CU.out _).mono ?_
    rintro e w14 ⟨rfl, hb⟩
    have X14 := Lib.hid (X13.out.below hb)
    clear hb X13 CU
    clear cp0 cp1 cp2 cp3 cp4 cp5 cp6 cy0 cy1 cd0 cd1 clp cly cld
    clear A1 A2
    have cp0 := X14.out.p.cell 0 _ rfl
    have cp1 := X14.out.p.cell 1 _ rfl
    have cp2 := X14.out.p.cell 2 _ rfl
    have cp3 := X14.out.p.cell 3 _ rfl
    have cp4 := X14.out.p.cell 4 _ rfl
    have cp5 := X14.out.p.cell 5 _ rfl
    have cp6 := X14.out.p.cell 6 _ rfl
    have cy0 := X14.out.y.cell 0 _ rfl
    have cy1 := X14.out.y.cell 1 _ rfl
    have cd0 := X14.out.d.cell 0 _ rfl
    have cd1 := X14.out.d.cell 1 _ rfl
    have clp := X14.out.p.lt
    have cly := X14.out.y.lt
    have cld := X14.out.d.lt
    go_upto_if 93 with fail
    go_cut [16] from 93 (fun sv wx => sv = .string ⟨G1.toArray⟩ ∧ Hid (Bx w #[.string ⟨pre.toArray⟩, .string ⟨suf.toArray⟩, .int .i64 mi, .int .i64 nf, .int .i64 mf, .int .i64 g, .int .i64 g2] #[.int .u8 (pt.toNat : Int), .int .u8 (cm.toNat : Int)] (.int .i64 a) (.int .i64 b) wx))
    case first =>
      by_cases hf : FR = []
      · have e1 := Hnil.out hf
        subst hf
        subst e1
        go_wp2_with fail
        go_meet
        exact ⟨rfl, X14⟩
      · have b0 : FR.isEmpty = false := List.isEmpty_eq_false_iff.2 hf
        simp only [b0, Bool.not_false]
        have A6 := HA6.out hf
        have A7 := HA7.out
        have CV := conv_by pt w14
        have X15 := Lib.hid (X14.out.alloc (.cells #[byV pt] 5))
        go_wp2_with fail
        go_meet
        exact ⟨rfl, X15⟩
    case rest =>
      obtain ⟨rfl, X16⟩ := hcut
      try clear cp0 cp1 cp2 cp3 cp4 cp5 cp6 cy0 cy1 cd0 cd1 clp cly cld
      have cp0 := X16.out.p.cell 0 _ rfl
      have cp1 := X16.out.p.cell 1 _ rfl
      have cp2 := X16.out.p.cell 2 _ rfl
      have cp3 := X16.out.p.cell 3 _ rfl
      have cp4 := X16.out.p.cell 4 _ rfl
      have cp5 := X16.out.p.cell 5 _ rfl
      have cp6 := X16.out.p.cell 6 _ rfl
      have clp := X16.out.p.lt
      obtain ⟨A3, A4, A5⟩ := HA345.out
      rcases Hm.out with ⟨rfl, rfl⟩ | ⟨rfl, rfl⟩
      · go_wp2_with fail
        go_ret2
        exact ⟨rfl, X16.out.b⟩
      · go_wp2_with fail
        go_ret2
        exact ⟨rfl, X16.out.b⟩
/-- what is told -/
def ftxt (p : Nt.Pt) (pt cm : UInt8) (c s : Int) : List UInt8 := if Nt.fmtE p pt cm c s = 0 then Nt.shown p pt cm c s else []
theorem fmt_any (p : Nt.Pt) (pt cm : UInt8) (c s : Int) (w : World) (hT : PowW w) (hM : MaxW w) (h1 : p.pre.length ≤ 1000000000) (h2 : p.suf.length ≤ 1000000000) :
    Calls Tryz.prog 33 #[pV p, yV pt cm, .agg #[.int .i64 c, .int .i64 s]] w fun e w' => e = .returned (.tuple #[.string ⟨(ftxt p pt cm c s).toArray⟩, errN (Nt.fmtE p pt cm c s)]) ∧ Below w.heap.size w w' := by
  unfold ftxt errN
  by_cases h : Nt.fmtE p pt cm c s = 0
  · rw [if_pos h, if_pos h]; exact fmt_text p pt cm c s w hT hM h1 h2 h
  · rw [if_neg h, if_neg h]; exact fmt_bad p pt cm c s w h1 h2 h
end Go.Proofs.YtaijjffnamjhiaaGreatDoor
