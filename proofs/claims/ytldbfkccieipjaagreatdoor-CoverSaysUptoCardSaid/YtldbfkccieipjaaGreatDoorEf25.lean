/- The walk of the reference's Numeral; what single blocks hold as nodes. Conditions: the number is right. -/
import Derived.Test.YtldbfkccieipjaaGreatDoorProg
import Derived.Test.YtldbfkccieipjaaGreatDoorEf6
import Derived.Test.YtldbfkccieipjaaGreatDoorEf4
import Derived.Test.YtldbfkccieipjaaGreatDoorEf5
import Derived.OwnWalk
import Derived.LoopTactic
import Derived.Test.YtldbfkccieipjaaGreatDoorEf15
import Derived.Test.YtldbfkccieipjaaGreatDoorEf23
import Derived.Test.YtldbfkccieipjaaGreatDoorEf24
namespace Go.Proofs.YtldbfkccieipjaaGreatDoor
set_option maxRecDepth 100000
open Go.RowKit

/-- a call that gives these texts, and turns nothing old -/
def GivesStrs (w:World) (l:List (List UInt8)) (e:Ending) (w':World):Prop:= ∃v,e= .returned v∧StrsAt w' v l∧Below w.heap.size w w'

theorem slice_midI {P:Program} (t:TypeId) (h:P.underlying t=some .string) (L:List UInt8) (i j:Int) (a b:Nat) (hi:i=a) (hj:j=b) (hab:a≤b) (hb:b≤L.length) (w:World):
  (Instr.slice t (.string ⟨L.toArray⟩) (some (.int .i64 i)) (some (.int .i64 j)) none).run P w= .ok (.string ⟨((L.drop a).take (b-a)).toArray⟩) w:=by
 subst hi hj;exact slice_mid t h L .i64 .i64 a b hab hb w
theorem infoStr:(Tryz.prog.info? 9).map (fun i=>(i.zero,i.size,i.bytes))=some (some (.string ByteArray.empty),1,16):=by kernel_rfl

set_option maxHeartbeats 1000000 in
theorem cut_any (s at_:List UInt8) (w:World) (ha:at_≠ []) (hs:s.length≤4000000000) (hat:at_.length≤4000000000):
  Calls Tryz.prog 61 #[.string ⟨s.toArray⟩,.string ⟨at_.toArray⟩] w (GivesStrs w (Lib.split s at_)):=by
 obtain⟨i0,hi,hz0,hz1,hz2⟩:=info_parts infoStr
 have hm:0<at_.length:=List.length_pos_iff.2 ha
 have HA:=Lib.hid ha
 clear ha
 go_enter Tryz.func61,Tryz.ntmps61
 go_wp2_with fail
 go_loopw [5,6,7] (fun o f i wr=> ∃(P:List (List UInt8)) (a b:Nat),f= .int .i64 a∧i= .int .i64 b∧a≤b∧b≤s.length∧P.length≤a∧Hid (wr.ownsRow w.heap.size 9 1 o P.length (P.map txtV))∧Hid (Below w.heap.size w wr)∧Hid (Spl.Inv s at_ P a b)) (fun _ _ i _=>s.length-(RowKit.intOf i).toNat)
 case atStart=>exact⟨[],0,0,rfl,rfl,Nat.le_refl _,Nat.zero_le _,Nat.le_refl _,⟨rfl,.inl ⟨rfl,rfl⟩⟩,Below.refl _ _,Spl.inv_start s at_⟩
 case round=>
  obtain⟨P,a,b,rfl,rfl,hab,hb,hP,HO,HB,HI⟩:=hrel
  by_cases hroom:b+at_.length≤s.length
  ·have SM:=fun w=>slice_midI (P:= Tryz.prog) 9 Tryz.underlying9 s (b:Int) ((b:Int)+(at_.length:Int)) b (b+at_.length) rfl (by omega) (by omega) hroom w
   have e0:b+at_.length-b=at_.length:=by omega
   rw[e0] at SM
   clear e0
   by_cases hX:(s.drop b).take at_.length=at_
   ·have IH:=Lib.hid (Spl.inv_hit HI.out HA.out hab hroom hX)
    rw[hX] at SM
    have S2:=fun w=>slice_midI (P:= Tryz.prog) 9 Tryz.underlying9 s (a:Int) (b:Int) a b rfl rfl hab hb w
    clear hX HI
    generalize (s.drop a).take (b-a)=u at*
    have hown:=HO.out
    have hbs:=HB.out.size
    go_wp2_with (at_builtin;refine wpList_append_own _ rfl _ _ 45 rfl w.heap.size 9 i0 (.string ByteArray.empty) 1 16 Tryz.underlying45 hi hz0 hz1 hz2 rfl (by decide) _ _ _ rfl (hown.alloc _) ⟨wr.heap.size,0,none⟩ 1 1 [txtV u] rfl rfl (cell_one_new _ _ _) (fun x hx=>by simp at hx;subst hx;rfl) (by unfold maxLen;omega) (by omega) (by simp;omega) ?_;intro v' w1 hown' hgrow _)
    have HO':=Lib.hid (show w1.ownsRow w.heap.size 9 1 v' (P++ [u]).length ((P++ [u]).map txtV) by simpa using hown')
    have HB':=Lib.hid (show Below w.heap.size w w1 from(HB.out.alloc hbs _).grown hgrow (by simp;omega) (fun k hk=>(hown.lt k hk).1))
    clear hown hown' hgrow hbs HO HB S2
    go_wp2_with fail
    go_roundw
    case rel=>exact⟨P++ [u],b+at_.length,b+at_.length,by go_num,by go_num,Nat.le_refl _,hroom,by simp;omega,HO',HB',IH⟩
    case measure=>simp[RowKit.intOf];omega
   ·have IH:=Lib.hid (Spl.inv_miss HI.out hroom hX)
    have hXb:((s.drop b).take at_.length==at_)=false:=beq_eq_false_iff_ne.2 hX
    clear HI hX
    generalize (s.drop b).take at_.length=u at*
    go_wp2_with fail
    go_roundw
    case rel=>exact⟨P,a,b+1,rfl,by go_num,by omega,by omega,hP,HO,HB,IH⟩
    case measure=>simp[RowKit.intOf];omega
  ·have IE:=Lib.hid (Spl.inv_end HI.out HA.out hroom)
   have S3:=fun w=>slice_from (P:= Tryz.prog) 9 Tryz.underlying9 s .i64 a (by omega) w
   clear HI
   generalize s.drop a=u at*
   have hown:=HO.out
   have hbs:=HB.out.size
   go_wp2_with (at_builtin;refine wpList_append_own _ rfl _ _ 45 rfl w.heap.size 9 i0 (.string ByteArray.empty) 1 16 Tryz.underlying45 hi hz0 hz1 hz2 rfl (by decide) _ _ _ rfl (hown.alloc _) ⟨wr.heap.size,0,none⟩ 1 1 [txtV u] rfl rfl (cell_one_new _ _ _) (fun x hx=>by simp at hx;subst hx;rfl) (by unfold maxLen;omega) (by omega) (by simp;omega) ?_;intro v' w1 hown' hgrow _)
   have HO':=Lib.hid (show w1.ownsRow w.heap.size 9 1 v' (P++ [u]).length ((P++ [u]).map txtV) by simpa using hown')
   have HB':=Lib.hid (show Below w.heap.size w w1 from(HB.out.alloc hbs _).grown hgrow (by simp;omega) (fun k hk=>(hown.lt k hk).1))
   clear hown hown' hgrow hbs HO HB S3
   go_wp2_with fail
   go_ret
   exact⟨_,rfl,by rw[IE.out];exact StrsAt.of_row HO'.out,HB'.out⟩
open Go.RowKit
open Dcm (okD)
theorem Bx.drew {w0 w:World} {pv yv:Array Value} {c s:Value} (h:Bx w0 pv yv c s w):Bx w0 pv yv c s w.drew:=⟨⟨h.b.os,h.b.tape,h.b.output,h.b.size,h.b.block⟩,h.p.drew,h.y.drew,h.d.drew⟩
theorem nstrs_open {w:World} {v:Value} {l:List (List UInt8)} (h:StrsAt w v l) (h0:0<l.length): ∃b off cap,v= .slice (some ⟨b,off,none⟩) l.length cap∧l.length≤cap∧cap≤maxLen∧b<w.heap.size:=by
 rcases h with⟨rfl,_⟩|⟨b,off,cap,h1,_,h3,h4,h5⟩
 ·exact absurd h0 (by simp)
 ·exact⟨b,off,cap,h1,h3,h4,World.block_lt_of_cell? _ _ (h5 0 _ (List.getElem?_eq_getElem h0))⟩
theorem nstrs_cell {w:World} {b off n cap:Nat} {l:List (List UInt8)} (h:StrsAt w (.slice (some ⟨b,off,none⟩) n cap) l) (j:Nat) (x:List UInt8) (hx:l[j]?=some x):w.cell? ⟨b,off+j,none⟩=some (.string ⟨x.toArray⟩):=by
 rcases h with⟨rfl,_⟩|⟨b',off',cap',h1,_,h3,h4,h5⟩
 ·simp at hx
 ·injection h1 with h1 h2 h6
  injection h1 with h1
  injection h1 with h7 h8
  subst h7 h8
  exact h5 j x hx

theorem size_bel (n:Int) (w:World) (h0: -9223372036854775807≤n) (h1:n≤9223372036854775807):Calls Tryz.prog 33 #[.int .i64 n] w fun e w'=>e= .returned (.int .i64 (Dcm.mag n))∧Below w.heap.size w w':=
 (size_any n w h0 h1).mono fun _ _ h=>⟨h.1,h.2▸Below.refl _ _⟩
theorem rgr_bel (s:List UInt8) (g g2:Int) (c:UInt8) (w:World) (hs:s.length≤1000000000) (hG:rightG g g2):
  Calls Tryz.prog 63 #[.string ⟨s.toArray⟩,.int .i64 g,.int .i64 g2,.string ⟨#[c]⟩] w fun e w'=>e= .returned (.string ⟨(gout s g g2 c).toArray⟩)∧Below w.heap.size w w':=
 (rgrouped_any s g g2 c w hs hG).mono fun _ _ h=>⟨h.1,by obtain⟨n,rfl⟩:=h.2;exact blw_drewN (Below.refl _ _) n⟩

set_option maxHeartbeats 4000000 in
theorem rshown_any (p:Nt.Pt) (pt cm:UInt8) (c s:Int) (w:World) (h1:p.pre.length≤1000000000) (h2:p.suf.length≤1000000000) (hp:Nt.patE p=0) (hd:okD c s):
  Calls Tryz.prog 30 #[pV p,yV pt cm,.agg #[.int .i64 c,.int .i64 s]] w fun e w'=>e= .returned (.string ⟨(Nt.shown p pt cm c s).toArray⟩)∧Below w.heap.size w w':=by
 have ps:=Nt.size_ok (Nt.pat_ok hp).2.2.1
 obtain⟨t1,t2,t3⟩:=Nt.red_trim c s hd
 obtain⟨r1,r2,r3⟩:=Nt.red_fine p.mf c s hd (by omega) (by omega)
 have CT1:=Lib.hid fun w=>rtrimmed_any c s w hd
 have CR:Hid (p.mf<(Nt.trim c s).2→okD (Dcm.rndC (Nt.trim c s).1 (Nt.trim c s).2 p.mf 5) p.mf∧ ∀w,Calls Tryz.prog 60 #[.agg #[.int .i64 (Nt.trim c s).1,.int .i64 (Nt.trim c s).2],.int .i64 p.mf,.int .i64 5] w fun e w'=>e= .returned (.tuple #[.agg #[.int .i64 (Dcm.rndC (Nt.trim c s).1 (Nt.trim c s).2 p.mf 5),.int .i64 p.mf],.bool true])∧Below w.heap.size w w'):=Lib.hid fun hlt=>by
  have hz:rndE (Nt.trim c s).1 (Nt.trim c s).2 p.mf 5=0:=rndE_zero.2 ⟨t1,by omega,by omega,by omega,by omega,fun h=>by omega⟩
  exact⟨rndC_ok hz,fun w=>rof_yes _ _ _ _ w hz⟩
 have HR:Hid (Nt.red p.mf c s=if p.mf<(Nt.trim c s).2 then Nt.trim (Dcm.rndC (Nt.trim c s).1 (Nt.trim c s).2 p.mf 5) p.mf else Nt.trim c s):=Lib.hid rfl
 have hsh:Nt.shown p pt cm c s=Byt.sgn (Nt.red p.mf c s).1++Nt.body p pt cm (Nt.red p.mf c s).1 (Nt.red p.mf c s).2:=rfl
 rw[hsh]
 clear hsh
 generalize Nt.red p.mf c s=q at*
 obtain⟨a,b⟩:=q
 generalize Nt.trim c s=q at*
 obtain⟨tc,ts⟩:=q
 unfold pV yV at*
 obtain⟨pre,suf,mi,nf,mf,g,g2⟩:=p
 unfold Nt.body
 simp only at*
 have okm:okD (Dcm.mag a) b:=by
  obtain⟨x1,x2,x3,x4⟩:=r1
  refine⟨x1,x2,?_,?_⟩<;>unfold Dcm.mag<;>split<;>omega
 have CS:=Lib.hid fun w=>size_bel a w (by have:=r1.2.2;omega) (by have:=r1.2.2;omega)
 have CX:=Lib.hid fun w=>rdect_any (Dcm.mag a) b w okm
 have CC:=Lib.hid fun w=>cut_any (Byt.decText (Dcm.mag a) b) [46] w (by simp) (by have:=Byt.dec_len (Dcm.mag a) b okm;omega) (by simp)
 have hsp:Lib.split (Byt.decText (Dcm.mag a) b) [46]=if b≤0 then [Nt.wh a b] else [Nt.wh a b,Nt.bh a b]:=by
  rw[Nt.split_text,Nt.mag_sgn,List.nil_append,Nt.wh_abs (Nt.mag_abs a),Nt.bh_abs (Nt.mag_abs a)]
 rw[hsp] at CC
 have hb0:b≤0→Nt.bh a b= []:=Nt.bh_zero
 have lw:=Nt.wh_len a b r1
 have lb:=Nt.bh_len a b
 have hPD:List.replicate (mi.toNat-(Nt.wh a b).length) 48++Nt.wh a b=Nt.pad mi a b:=rfl
 have hFR:Nt.bh a b++List.replicate (nf.toNat-(Nt.bh a b).length) 48=Nt.fr nf a b:=rfl
 have r9:b≤9:=r1.2.1
 have r0:0≤b:=r1.1
 have lpd:(Nt.pad mi a b).length≤200:=by rw[←hPD,List.length_append,List.length_replicate];omega
 have lfr:(Nt.fr nf a b).length≤200:=by rw[←hFR,List.length_append,List.length_replicate];omega
 have CG:=Lib.hid fun w=>rgr_bel (Nt.pad mi a b) g g2 cm w (by omega) ⟨by omega,by omega,by omega,by omega⟩
 have lgo:=gout_len (Nt.pad mi a b) g g2 cm
 have hm:(a<0∧Byt.sgn a= [45])∨(¬a<0∧Byt.sgn a= []):=by
  by_cases h0:a<0
  ·exact .inl ⟨h0,if_pos h0⟩
  ·exact .inr ⟨h0,if_neg h0⟩
 clear hsp okm hp
 generalize Byt.decText (Dcm.mag a) b=X at*
 generalize Nt.pad mi a b=PD at*
 generalize Nt.fr nf a b=FR at*
 generalize gout PD g g2 cm=GO at*
 generalize Nt.wh a b=WH at*
 generalize Nt.bh a b=BH at*
 obtain⟨L,hL⟩: ∃L:List (List UInt8),L=if b≤0 then [WH] else [WH,BH]:=⟨_,rfl⟩
 rw[←hL] at CC
 have HL0:=Lib.hid (show L[0]?=some WH from by rw[hL];split<;>rfl)
 have HL1:=Lib.hid (show L.length=2∧L[1]?=some BH∨L.length=1∧BH= [] from by
  rw[hL];split
  ·rename_i h;exact .inr ⟨rfl,hb0 h⟩
  ·exact .inl ⟨rfl,rfl⟩)
 clear hL hb0
 obtain⟨n1,hn1⟩: ∃n,n=nf.toNat-BH.length:=⟨_,rfl⟩
 obtain⟨n2,hn2⟩: ∃n,n=mi.toNat-WH.length:=⟨_,rfl⟩
 rw[←hn1] at hFR
 rw[←hn2] at hPD
 obtain⟨TL,hTL⟩: ∃TL,TL=Nt.tail pt FR:=⟨_,rfl⟩
 rw[←hTL]
 have lTL:TL.length≤201:=by rw[hTL];unfold Nt.tail;split<;>simp;omega
 obtain⟨Z0,hZ0⟩: ∃Z0,Z0=pre++GO:=⟨_,rfl⟩
 obtain⟨Z1,hZ1⟩: ∃Z1,Z1=Z0++TL:=⟨_,rfl⟩
 obtain⟨Z2,hZ2⟩: ∃Z2,Z2=Z1++suf:=⟨_,rfl⟩
 have hall:pre++(GO++TL)++suf=Z2:=by rw[hZ2,hZ1,hZ0];simp
 rw[hall]
 have lZ0:Z0.length≤1000000401:=by rw[hZ0,List.length_append];omega
 have lZ1:Z1.length≤1000000701:=by rw[hZ1,List.length_append];omega
 have lZ2:Z2.length≤2000000801:=by rw[hZ2,List.length_append];omega
 have A1:=Lib.hid (show ∀w,(Op.stringOp .add ⟨pre.toArray⟩ ⟨GO.toArray⟩).run Tryz.prog w= .ok (.string ⟨Z0.toArray⟩) w from fun w=>by rw[hZ0];exact add_str (P:= Tryz.prog) pre GO (by omega) w)
 have A2:=Lib.hid fun (hf:FR≠ [])=>(show ∃Zm:List UInt8,(∀w,(Op.stringOp .add ⟨Z0.toArray⟩ ⟨[pt].toArray⟩).run Tryz.prog w= .ok (.string ⟨Zm.toArray⟩) w)∧(∀w,(Op.stringOp .add ⟨Zm.toArray⟩ ⟨FR.toArray⟩).run Tryz.prog w= .ok (.string ⟨Z1.toArray⟩) w) from by
  have e:Z1=(Z0++ [pt])++FR:=by rw[hZ1,hTL];unfold Nt.tail;rw[if_neg hf];simp
  exact⟨Z0++ [pt],fun w=>add_str (P:= Tryz.prog) Z0 [pt] (by simp;omega) w,fun w=>by rw[e];exact add_str (P:= Tryz.prog) (Z0++ [pt]) FR (by simp;omega) w⟩)
 have N2:=Lib.hid (show FR= []→Z1=Z0 from fun h=>by rw[hZ1,hTL,h];unfold Nt.tail;simp)
 have A3:=Lib.hid (And.intro (show ∀w,(Op.stringOp .add ⟨Z1.toArray⟩ ⟨suf.toArray⟩).run Tryz.prog w= .ok (.string ⟨Z2.toArray⟩) w from fun w=>by rw[hZ2];exact add_str (P:= Tryz.prog) Z1 suf (by omega) w) (show ∀w,(Op.stringOp .add ⟨#[45]⟩ ⟨Z2.toArray⟩).run Tryz.prog w= .ok (.string ⟨([45]++Z2).toArray⟩) w from fun w=>add_str (P:= Tryz.prog) [45] Z2 (by simp;omega) w))
 have B1:=Lib.hid fun (k:Nat) (hk:k≤100)=>(show ∀w,(Op.stringOp .add ⟨#[48]⟩ ⟨(List.replicate k (48:UInt8)++WH).toArray⟩).run Tryz.prog w= .ok (.string ⟨(List.replicate (k+1) (48:UInt8)++WH).toArray⟩) w from fun w=>by
  rw[List.replicate_succ]
  exact add_str (P:= Tryz.prog) [48] (List.replicate k 48++WH) (by simp;omega) w)
 have B2:=Lib.hid fun (k:Nat) (hk:k≤100)=>(show ∀w,(Op.stringOp .add ⟨(BH++List.replicate k (48:UInt8)).toArray⟩ ⟨#[48]⟩).run Tryz.prog w= .ok (.string ⟨(BH++List.replicate (k+1) (48:UInt8)).toArray⟩) w from fun w=>by
  rw[List.replicate_succ',←List.append_assoc]
  exact add_str (P:= Tryz.prog) (BH++List.replicate k 48) [48] (by simp;omega) w)
 have L1:=Lib.hid fun (k:Nat)=>(show(List.replicate k (48:UInt8)++WH).length=k+WH.length by simp)
 have L2:=Lib.hid fun (k:Nat)=>(show(BH++List.replicate k (48:UInt8)).length=BH.length+k by simp)
 have Hm:=Lib.hid hm
 have HPD:=Lib.hid hPD
 have HFR:=Lib.hid hFR
 have mi9:mi≤9:=ps.2.1
 have nf9:nf≤9:=by omega
 have lbh:BH.length≤9:=by omega
 clear hZ0 hZ1 hZ2 hTL lZ0 lZ1 lZ2 lTL hall hPD hFR hm lpd lfr lgo h1 h2 ps lb
 generalize Byt.sgn a=SG at*
 have X0:=Lib.hid (Bx.made w #[.string ⟨pre.toArray⟩,.string ⟨suf.toArray⟩,.int .i64 mi,.int .i64 nf,.int .i64 mf,.int .i64 g,.int .i64 g2] #[.int .u8 (pt.toNat:Int),.int .u8 (cm.toNat:Int)] (.int .i64 c) (.int .i64 s) 81 83 31)
 clear hd
 go_enter Tryz.func30,Tryz.ntmps30
 go_wp2_with fail
 refine(CT1.out _).mono ?_
 rintro e w1 ⟨rfl,hb⟩
 have X1:=Lib.hid (X0.out.below hb)
 clear hb X0 CT1
 have cp0:=X1.out.p.cell 0 _ rfl
 have cp1:=X1.out.p.cell 1 _ rfl
 have cp2:=X1.out.p.cell 2 _ rfl
 have cp3:=X1.out.p.cell 3 _ rfl
 have cp4:=X1.out.p.cell 4 _ rfl
 have cp5:=X1.out.p.cell 5 _ rfl
 have cp6:=X1.out.p.cell 6 _ rfl
 have cy0:=X1.out.y.cell 0 _ rfl
 have cy1:=X1.out.y.cell 1 _ rfl
 have cd0:=X1.out.d.cell 0 _ rfl
 have cd1:=X1.out.d.cell 1 _ rfl
 have cf0:=X1.out.d.free 0 (by simp)
 have cf1:=X1.out.d.free 1 (by simp)
 have clp:=X1.out.p.lt
 have cly:=X1.out.y.lt
 have cld:=X1.out.d.lt
 have X4:=Lib.hid (X1.out.store (.int .i64 tc) (.int .i64 ts))
 go_upto_if 19 with fail
 go_cut [] from 7 (fun wx=>Hid (Bx w #[.string ⟨pre.toArray⟩,.string ⟨suf.toArray⟩,.int .i64 mi,.int .i64 nf,.int .i64 mf,.int .i64 g,.int .i64 g2] #[.int .u8 (pt.toNat:Int),.int .u8 (cm.toNat:Int)] (.int .i64 a) (.int .i64 b) wx))
 case first=>
  generalize (w1.setCell ⟨w.heap.size+2,0,none⟩ (.int .i64 tc)).setCell ⟨w.heap.size+2,1,none⟩ (.int .i64 ts)=w4 at*
  clear cp0 cp1 cp2 cp3 cp4 cp5 cp6 cy0 cy1 cd0 cd1 cf0 cf1 clp cly cld
  have cp0:=X4.out.p.cell 0 _ rfl
  have cp1:=X4.out.p.cell 1 _ rfl
  have cp2:=X4.out.p.cell 2 _ rfl
  have cp3:=X4.out.p.cell 3 _ rfl
  have cp4:=X4.out.p.cell 4 _ rfl
  have cp5:=X4.out.p.cell 5 _ rfl
  have cp6:=X4.out.p.cell 6 _ rfl
  have cy0:=X4.out.y.cell 0 _ rfl
  have cy1:=X4.out.y.cell 1 _ rfl
  have cd0:=X4.out.d.cell 0 _ rfl
  have cd1:=X4.out.d.cell 1 _ rfl
  have cf0:=X4.out.d.free 0 (by simp)
  have cf1:=X4.out.d.free 1 (by simp)
  have clp:=X4.out.p.lt
  have cly:=X4.out.y.lt
  have cld:=X4.out.d.lt
  clear X1
  by_cases hlt:mf<ts
  ·have d0:decide (mf<ts)=true:=dec_yes hlt
   rw[d0]
   have hr:=HR.out
   rw[if_pos hlt] at hr
   obtain⟨ro,CRw⟩:=CR.out hlt
   have CRh:=Lib.hid CRw
   have CT2:=Lib.hid fun w=>rtrimmed_any _ _ w ro
   rw[←hr] at CT2
   simp only at CT2
   clear hr HR CR CRw ro hlt
   generalize Dcm.rndC tc ts mf 5=RC at*
   go_wp2_with fail
   refine(CRh.out _).mono ?_
   rintro e w5 ⟨rfl,hb⟩
   have X5:=Lib.hid (X4.out.below hb)
   clear hb X4 CRh
   clear cp0 cp1 cp2 cp3 cp4 cp5 cp6 cy0 cy1 cd0 cd1 cf0 cf1 clp cly cld
   have cp0:=X5.out.p.cell 0 _ rfl
   have cp1:=X5.out.p.cell 1 _ rfl
   have cp2:=X5.out.p.cell 2 _ rfl
   have cp3:=X5.out.p.cell 3 _ rfl
   have cp4:=X5.out.p.cell 4 _ rfl
   have cp5:=X5.out.p.cell 5 _ rfl
   have cp6:=X5.out.p.cell 6 _ rfl
   have cy0:=X5.out.y.cell 0 _ rfl
   have cy1:=X5.out.y.cell 1 _ rfl
   have cd0:=X5.out.d.cell 0 _ rfl
   have cd1:=X5.out.d.cell 1 _ rfl
   have cf0:=X5.out.d.free 0 (by simp)
   have cf1:=X5.out.d.free 1 (by simp)
   have clp:=X5.out.p.lt
   have cly:=X5.out.y.lt
   have cld:=X5.out.d.lt
   have X6:=Lib.hid (X5.out.alloc (.cells #[.int .i64 RC,.int .i64 mf] 31))
   clear X5
   clear cp0 cp1 cp2 cp3 cp4 cp5 cp6 cy0 cy1 cd0 cd1 cf0 cf1 clp cly cld
   have cp0:=X6.out.p.cell 0 _ rfl
   have cp1:=X6.out.p.cell 1 _ rfl
   have cp2:=X6.out.p.cell 2 _ rfl
   have cp3:=X6.out.p.cell 3 _ rfl
   have cp4:=X6.out.p.cell 4 _ rfl
   have cp5:=X6.out.p.cell 5 _ rfl
   have cp6:=X6.out.p.cell 6 _ rfl
   have cy0:=X6.out.y.cell 0 _ rfl
   have cy1:=X6.out.y.cell 1 _ rfl
   have cd0:=X6.out.d.cell 0 _ rfl
   have cd1:=X6.out.d.cell 1 _ rfl
   have cf0:=X6.out.d.free 0 (by simp)
   have cf1:=X6.out.d.free 1 (by simp)
   have clp:=X6.out.p.lt
   have cly:=X6.out.y.lt
   have cld:=X6.out.d.lt
   go_wp2_with fail
   refine(CT2.out _).mono ?_
   rintro e w7 ⟨rfl,hb⟩
   have X7:=Lib.hid (X6.out.below hb)
   clear hb X6 CT2
   clear cp0 cp1 cp2 cp3 cp4 cp5 cp6 cy0 cy1 cd0 cd1 cf0 cf1 clp cly cld
   have cp0:=X7.out.p.cell 0 _ rfl
   have cp1:=X7.out.p.cell 1 _ rfl
   have cp2:=X7.out.p.cell 2 _ rfl
   have cp3:=X7.out.p.cell 3 _ rfl
   have cp4:=X7.out.p.cell 4 _ rfl
   have cp5:=X7.out.p.cell 5 _ rfl
   have cp6:=X7.out.p.cell 6 _ rfl
   have cy0:=X7.out.y.cell 0 _ rfl
   have cy1:=X7.out.y.cell 1 _ rfl
   have cd0:=X7.out.d.cell 0 _ rfl
   have cd1:=X7.out.d.cell 1 _ rfl
   have cf0:=X7.out.d.free 0 (by simp)
   have cf1:=X7.out.d.free 1 (by simp)
   have clp:=X7.out.p.lt
   have cly:=X7.out.y.lt
   have cld:=X7.out.d.lt
   have X8:=Lib.hid (X7.out.store (.int .i64 a) (.int .i64 b))
   go_wp2_with fail
   go_meet
   exact X8
  ·have d0:decide (mf<ts)=false:=dec_no hlt
   rw[d0]
   have hr:=HR.out
   rw[if_neg hlt] at hr
   obtain⟨rfl,rfl⟩:=Prod.mk.inj hr
   go_wp2_with fail
   go_meet
   exact X4
 case rest=>
  have X9:=hcut
  clear hcut X4 X1 CR HR t1 t2 t3
  try clear cp0 cp1 cp2 cp3 cp4 cp5 cp6 cy0 cy1 cd0 cd1 cf0 cf1 clp cly cld
  have cd0:=X9.out.d.cell 0 _ rfl
  have cd1:=X9.out.d.cell 1 _ rfl
  have cld:=X9.out.d.lt
  go_wp2_with fail
  refine wp_region_held_drew (S:=fun w'=>w'.cell? ⟨w.heap.size+2,0,none⟩=some (.int .i64 a)∧w'.cell? ⟨w.heap.size+2,1,none⟩=some (.int .i64 b)∧Hid (Bx w #[.string ⟨pre.toArray⟩,.string ⟨suf.toArray⟩,.int .i64 mi,.int .i64 nf,.int .i64 mf,.int .i64 g,.int .i64 g2] #[.int .u8 (pt.toNat:Int),.int .u8 (cm.toNat:Int)] (.int .i64 a) (.int .i64 b) w')∧Hid (Below w.heap.size w w')) (by kernel_rfl) (⟨cd0,cd1,Lib.hid X9.out.drew,Lib.hid X9.out.drew.b⟩) (fun hHeld=>?_)
  refine tkr (d:=(some 29)) (v:=?v1) 0 rfl rfl hHeld ?hy1 ?rs1
  case hy1=>(intro w hSw;(try dsimp only at hSw);go_simp)<;>(try with_reducible rfl)
  (try simp only[Act.put,List.setIfInBounds_toArray,List.set_cons_zero,List.set_cons_succ])
  refine tkr (d:=(some 30)) (v:=?v2) 1 rfl rfl hHeld ?hy2 ?rs2
  case hy2=>(intro w hSw;(try dsimp only at hSw);go_simp)<;>(try with_reducible rfl)
  (try simp only[Act.put,List.setIfInBounds_toArray,List.set_cons_zero,List.set_cons_succ])
  refine tkr (d:=(some 32)) (v:=?v3) 3 rfl rfl hHeld ?hy3 ?rs3
  case hy3=>(intro w hSw;(try dsimp only at hSw);go_simp)<;>(try with_reducible rfl)
  (try simp only[Act.put,List.setIfInBounds_toArray,List.set_cons_zero,List.set_cons_succ])
  refine tkr (d:=(some 33)) (v:=?v4) 4 rfl rfl hHeld ?hy4 ?rs4
  case hy4=>(intro w hSw;(try dsimp only at hSw);go_simp)<;>(try with_reducible rfl)
  (try simp only[Act.put,List.setIfInBounds_toArray,List.set_cons_zero,List.set_cons_succ])
  refine take_call 2 rfl (by kernel_rfl) (by rfl) (fun K hK=>?_)
  go_simp
  refine(CS.out _).mono ?_
  rintro e w' ⟨rfl,hb⟩
  refine hK.out _ _ (by obtain⟨h0,h1,h2,hw⟩:=hHeld;exact⟨cell_keep h0 hb,cell_keep h1 hb,Lib.hid (h2.out.below hb),Lib.hid (blw_trans hw.out hb)⟩) (fun hHeld=>?_)
  clear hK K
  (try simp only[Act.put,List.setIfInBounds_toArray,List.set_cons_zero,List.set_cons_succ])
  refine tkr (d:=(some 34)) (v:=?v6) 5 rfl rfl hHeld ?hy6 ?rs6
  case hy6=>(intro w hSw;(try dsimp only at hSw);go_simp)<;>(try with_reducible rfl)
  (try simp only[Act.put,List.setIfInBounds_toArray,List.set_cons_zero,List.set_cons_succ])
  refine take_call 6 rfl (by kernel_rfl) (by rfl) (fun K hK=>?_)
  go_simp
  refine(CX.out _).mono ?_
  rintro e w' ⟨rfl,hb⟩
  refine hK.out _ _ (by obtain⟨h0,h1,h2,hw⟩:=hHeld;exact⟨cell_keep h0 hb,cell_keep h1 hb,Lib.hid (h2.out.below hb),Lib.hid (blw_trans hw.out hb)⟩) (fun hHeld=>?_)
  clear hK K
  (try simp only[Act.put,List.setIfInBounds_toArray,List.set_cons_zero,List.set_cons_succ])
  refine take_call 7 rfl (by kernel_rfl) (by rfl) (fun K hK=>?_)
  go_simp
  refine(CC.out _).mono ?_
  rintro e w' ⟨v,rfl,hst,hb⟩
  refine hK.out _ _ (by obtain⟨h0,h1,h2,hw⟩:=hHeld;exact⟨cell_keep h0 hb,cell_keep h1 hb,Lib.hid (h2.out.below hb),Lib.hid (blw_trans hw.out hb)⟩) (fun hHeld=>?_)
  clear hK K
  (try simp only[Act.put,List.setIfInBounds_toArray,List.set_cons_zero,List.set_cons_succ])
  refine tkr (d:=(some 9)) (v:=?v9) 8 rfl rfl hHeld ?hy9 ?rs9
  case hy9=>(intro w hSw;(try dsimp only at hSw);go_simp)<;>(try with_reducible rfl)
  (try simp only[Act.put,List.setIfInBounds_toArray,List.set_cons_zero,List.set_cons_succ])
  refine wpAnyH_done (by kernel_rfl) ?_ _
  obtain⟨z0,z1,z2,zW⟩:=hHeld
  clear X9 cd0 cd1 cld CS CX CC z0 z1 zW hb
  obtain⟨bb,off,cap,rfl,hc1,hc2,hbb⟩:=nstrs_open hst (by rcases HL1.out with h|h<;>omega)
  unfold maxLen at hc2
  have ca:=nstrs_cell hst 0 WH HL0.out
  rw[Nat.add_zero] at ca
  have cb1:=Lib.hid fun h=>nstrs_cell hst 1 BH h
  have lL:0<L.length:=by rcases HL1.out with h|h<;>omega
  clear hst HL0
  have X10:=z2
  clear z2
  have cp0:=X10.out.p.cell 0 _ rfl
  have cp1:=X10.out.p.cell 1 _ rfl
  have cp2:=X10.out.p.cell 2 _ rfl
  have cp3:=X10.out.p.cell 3 _ rfl
  have cp4:=X10.out.p.cell 4 _ rfl
  have cp5:=X10.out.p.cell 5 _ rfl
  have cp6:=X10.out.p.cell 6 _ rfl
  have cy0:=X10.out.y.cell 0 _ rfl
  have cy1:=X10.out.y.cell 1 _ rfl
  have cd0:=X10.out.d.cell 0 _ rfl
  have cd1:=X10.out.d.cell 1 _ rfl
  have clp:=X10.out.p.lt
  have cly:=X10.out.y.lt
  have cld:=X10.out.d.lt
  generalize hwl:w'=wl at*
  clear hwl
  generalize hLn:L.length=Ln at*
  go_wp2_with fail
  go_loopw [10] (fun v wr=> ∃k:Nat,v= .string ⟨(List.replicate k (48:UInt8)++WH).toArray⟩∧k≤n2∧wl=wr) (fun v _=>mi.toNat-strLen v)
  case atStart=>exact⟨0,rfl,Nat.zero_le _,rfl⟩
  case round=>
   obtain⟨k,rfl,hk,rfl⟩:=hrel
   have lk:=L1.out k
   have bk:=B1.out k (by omega)
   have sk:=L1.out (k+1)
   by_cases hlt:((k+WH.length:Nat):Int)<mi
   ·generalize List.replicate k (48:UInt8)++WH=V at*
    have hlt':(V.length:Int)<mi:=by omega
    obtain⟨V',hV'⟩: ∃V',V'=List.replicate (k+1) (48:UInt8)++WH:=⟨_,rfl⟩
    rw[←hV'] at bk sk
    have HV:=Lib.hid hV'
    clear hV'
    go_wp2_with fail
    go_roundw
    case rel=>exact⟨k+1,by rw[HV.out],by omega,by first|rfl|trivial⟩
    case measure=>simp only[strLen_mk];omega
   ·have ek:k=n2:=by omega
    subst ek
    rw[HPD.out] at lk⊢
    clear bk sk
    have hge: ¬(PD.length:Int)<mi:=by omega
    clear hlt
    go_upto_if 49 with fail
    go_cut [11] from 49 (fun sv wx=>sv= .string ⟨BH.toArray⟩∧wl=wx)
    case first=>
     rcases HL1.out with⟨h,h'⟩|⟨h,h'⟩
     ·have cb:=cb1.out h'
      have hln:Ln=2:=by omega
      subst hln
      go_wp2_with fail
      go_meet
      exact⟨rfl,rfl⟩
     ·have hln:Ln=1:=by omega
      subst hln
      subst h'
      go_wp2_with fail
      go_meet
      exact⟨rfl,rfl⟩
    case rest=>
     obtain⟨rfl,rfl⟩:=hcut
     clear HL1 cb1 ca
     go_wp2_with fail
     go_loopw [11] (fun v wr=> ∃k:Nat,v= .string ⟨(BH++List.replicate k (48:UInt8)).toArray⟩∧k≤n1∧wl=wr) (fun v _=>nf.toNat-strLen v)
     case atStart=>exact⟨0,by simp,Nat.zero_le _,rfl⟩
     case round=>
      obtain⟨k,rfl,hk,rfl⟩:=hrel
      have lk2:=L2.out k
      have bk:=B2.out k (by omega)
      have sk:=L2.out (k+1)
      by_cases hlt:((BH.length+k:Nat):Int)<nf
      ·generalize BH++List.replicate k (48:UInt8)=V at*
       have hlt':(V.length:Int)<nf:=by omega
       obtain⟨V',hV'⟩: ∃V',V'=BH++List.replicate (k+1) (48:UInt8):=⟨_,rfl⟩
       rw[←hV'] at bk sk
       have HV:=Lib.hid hV'
       clear hV'
       go_wp2_with fail
       go_roundw
       case rel=>exact⟨k+1,by rw[HV.out],by omega,by first|rfl|trivial⟩
       case measure=>simp only[strLen_mk];omega
      ·have ek:k=n1:=by omega
       subst ek
       rw[HFR.out] at lk2⊢
       clear bk sk
       have hge2: ¬(FR.length:Int)<nf:=by omega
       clear hlt
       have a1:=A1.out
       have CV:(convert 72 9 (.slice (some ⟨wl.heap.size,0,none⟩) 1 1)).run Tryz.prog ((wl.alloc (.cells #[.int .u8 (cm.toNat:Int)] 5)).drew)= .ok (.string ⟨#[cm]⟩) ((wl.alloc (.cells #[.int .u8 (cm.toNat:Int)] 5)).drew):=conv_by cm wl.drew
       go_wp2_with fail
       refine wp_region_held_drew (S:=fun w'=>w'.cell? ⟨w.heap.size,0,none⟩=some (.string ⟨pre.toArray⟩)∧w'.cell? ⟨w.heap.size,5,none⟩=some (.int .i64 g)∧w'.cell? ⟨w.heap.size,6,none⟩=some (.int .i64 g2)∧w'.cell? ⟨w.heap.size+1,1,none⟩=some (.int .u8 (cm.toNat:Int))∧Hid (Bx w #[.string ⟨pre.toArray⟩,.string ⟨suf.toArray⟩,.int .i64 mi,.int .i64 nf,.int .i64 mf,.int .i64 g,.int .i64 g2] #[.int .u8 (pt.toNat:Int),.int .u8 (cm.toNat:Int)] (.int .i64 a) (.int .i64 b) w')∧Hid (Below w.heap.size w w')) (by kernel_rfl) (⟨cp0,cp5,cp6,cy1,Lib.hid X10.out.drew,Lib.hid X10.out.drew.b⟩) (fun hHeld=>?_)
       refine tkr (d:=(some 60)) (v:=?v10) 0 rfl rfl hHeld ?hy10 ?rs10
       case hy10=>(intro w hSw;(try dsimp only at hSw);go_simp)<;>(try with_reducible rfl)
       (try simp only[Act.put,List.setIfInBounds_toArray,List.set_cons_zero,List.set_cons_succ])
       refine tkr (d:=(some 61)) (v:=?v11) 1 rfl rfl hHeld ?hy11 ?rs11
       case hy11=>(intro w hSw;(try dsimp only at hSw);go_simp)<;>(try with_reducible rfl)
       (try simp only[Act.put,List.setIfInBounds_toArray,List.set_cons_zero,List.set_cons_succ])
       refine tkr (d:=(some 62)) (v:=?v12) 2 rfl rfl hHeld ?hy12 ?rs12
       case hy12=>(intro w hSw;(try dsimp only at hSw);go_simp)<;>(try with_reducible rfl)
       (try simp only[Act.put,List.setIfInBounds_toArray,List.set_cons_zero,List.set_cons_succ])
       refine tkr (d:=(some 63)) (v:=?v13) 3 rfl rfl hHeld ?hy13 ?rs13
       case hy13=>(intro w hSw;(try dsimp only at hSw);go_simp)<;>(try with_reducible rfl)
       (try simp only[Act.put,List.setIfInBounds_toArray,List.set_cons_zero,List.set_cons_succ])
       refine tkr (d:=(some 64)) (v:=?v14) 4 rfl rfl hHeld ?hy14 ?rs14
       case hy14=>(intro w hSw;(try dsimp only at hSw);go_simp)<;>(try with_reducible rfl)
       (try simp only[Act.put,List.setIfInBounds_toArray,List.set_cons_zero,List.set_cons_succ])
       refine tkr (d:=(some 65)) (v:=?v15) 5 rfl rfl hHeld ?hy15 ?rs15
       case hy15=>(intro w hSw;(try dsimp only at hSw);go_simp)<;>(try with_reducible rfl)
       (try simp only[Act.put,List.setIfInBounds_toArray,List.set_cons_zero,List.set_cons_succ])
       refine tkr (d:=(some 66)) (v:=?v16) 6 rfl rfl hHeld ?hy16 ?rs16
       case hy16=>(intro w hSw;(try dsimp only at hSw);go_simp)<;>(try with_reducible rfl)
       (try simp only[Act.put,List.setIfInBounds_toArray,List.set_cons_zero,List.set_cons_succ])
       refine tkr (d:=(some 67)) (v:=?v17) 7 rfl rfl hHeld ?hy17 ?rs17
       case hy17=>(intro w hSw;(try dsimp only at hSw);go_simp)<;>(try with_reducible rfl)
       (try simp only[Act.put,List.setIfInBounds_toArray,List.set_cons_zero,List.set_cons_succ])
       refine tkr (d:=(some 68)) (v:=?v18) 8 rfl rfl hHeld ?hy18 ?rs18
       case hy18=>(intro w hSw;(try dsimp only at hSw);go_simp)<;>(try with_reducible rfl)
       (try simp only[Act.put,List.setIfInBounds_toArray,List.set_cons_zero,List.set_cons_succ])
       refine take_call 9 rfl (by kernel_rfl) (by rfl) (fun K hK=>?_)
       go_simp
       have hHeld0:=hHeld
       obtain⟨h0,h1,h2,h3,h4,hw⟩:=hHeld
       refine hK.out _ _ (by exact⟨cell_keep h0 (blw_alloc _ _),cell_keep h1 (blw_alloc _ _),cell_keep h2 (blw_alloc _ _),cell_keep h3 (blw_alloc _ _),Lib.hid (h4.out.below (blw_alloc _ _)),Lib.hid (blw_trans hw.out (blw_alloc _ _))⟩) (fun hHeld=>?_)
       clear hK K h0 h1 h2 h3 h4 hw
       (try simp only[Act.put,List.setIfInBounds_toArray,List.set_cons_zero,List.set_cons_succ])
       refine take_call 10 rfl (by kernel_rfl) (by rfl) (fun K hK=>?_)
       go_simp
       refine hK.out _ _ hHeld (fun hHeld=>?_)
       clear hK K
       (try simp only[Act.put,List.setIfInBounds_toArray,List.set_cons_zero,List.set_cons_succ])
       refine take_call 11 rfl (by kernel_rfl) (by rfl) (fun K hK=>?_)
       go_simp
       refine(CG.out _).mono ?_
       rintro e w' ⟨rfl,hb⟩
       refine hK.out _ _ (by obtain⟨h0,h1,h2,h3,h4,hw⟩:=hHeld;exact⟨cell_keep h0 hb,cell_keep h1 hb,cell_keep h2 hb,cell_keep h3 hb,Lib.hid (h4.out.below hb),Lib.hid (blw_trans hw.out hb)⟩) (fun hHeld=>?_)
       clear hK K
       (try simp only[Act.put,List.setIfInBounds_toArray,List.set_cons_zero,List.set_cons_succ])
       refine tkr (d:=(some 72)) (v:=?v22) 12 rfl rfl hHeld ?hy22 ?rs22
       case hy22=>(intro w hSw;(try dsimp only at hSw);go_simp)<;>(try with_reducible rfl)
       (try simp only[Act.put,List.setIfInBounds_toArray,List.set_cons_zero,List.set_cons_succ])
       refine tkr (d:=(some 12)) (v:=?v23) 13 rfl rfl hHeld ?hy23 ?rs23
       case hy23=>(intro w hSw;(try dsimp only at hSw);go_simp)<;>(try with_reducible rfl)
       (try simp only[Act.put,List.setIfInBounds_toArray,List.set_cons_zero,List.set_cons_succ])
       refine wpAnyH_done (by kernel_rfl) ?_ _
       obtain⟨z0,z1,z2,z3,z4,zW⟩:=hHeld
       clear z0 z1 z2 z3 zW CV CG a1 X10 cp0 cp1 cp2 cp3 cp4 cp5 cp6 cy0 cy1 cd0 cd1 clp cly cld
       have X11:=z4
       clear z4
       have cp0:=X11.out.p.cell 0 _ rfl
       have cp1:=X11.out.p.cell 1 _ rfl
       have cp2:=X11.out.p.cell 2 _ rfl
       have cp3:=X11.out.p.cell 3 _ rfl
       have cp4:=X11.out.p.cell 4 _ rfl
       have cp5:=X11.out.p.cell 5 _ rfl
       have cp6:=X11.out.p.cell 6 _ rfl
       have cy0:=X11.out.y.cell 0 _ rfl
       have cy1:=X11.out.y.cell 1 _ rfl
       have cd0:=X11.out.d.cell 0 _ rfl
       have cd1:=X11.out.d.cell 1 _ rfl
       have clp:=X11.out.p.lt
       have cly:=X11.out.y.lt
       have cld:=X11.out.d.lt
       go_upto_if 74 with fail
       go_cut [12] from 74 (fun sv wx=>sv= .string ⟨Z1.toArray⟩∧Hid (Bx w #[.string ⟨pre.toArray⟩,.string ⟨suf.toArray⟩,.int .i64 mi,.int .i64 nf,.int .i64 mf,.int .i64 g,.int .i64 g2] #[.int .u8 (pt.toNat:Int),.int .u8 (cm.toNat:Int)] (.int .i64 a) (.int .i64 b) wx))
       case first=>
        by_cases hf:FR= []
        ·have e1:=N2.out hf
         subst hf
         subst e1
         go_wp2_with fail
         go_meet
         exact⟨rfl,X11⟩
        ·have b0:FR.isEmpty=false:=List.isEmpty_eq_false_iff.2 hf
         simp only[b0,Bool.not_false]
         obtain⟨Zm,a2,a3⟩:=A2.out hf
         have CV:=fun w=>conv_by pt w
         go_wp2_with fail
         go_meet
         exact⟨rfl,Lib.hid (X11.out.alloc _)⟩
       case rest=>
        obtain⟨rfl,X12⟩:=hcut
        clear X11 cp0 cp1 cp2 cp3 cp4 cp5 cp6 cy0 cy1 cd0 cd1 clp cly cld
        have cp0:=X12.out.p.cell 0 _ rfl
        have cp1:=X12.out.p.cell 1 _ rfl
        have cp2:=X12.out.p.cell 2 _ rfl
        have cp3:=X12.out.p.cell 3 _ rfl
        have cp4:=X12.out.p.cell 4 _ rfl
        have cp5:=X12.out.p.cell 5 _ rfl
        have cp6:=X12.out.p.cell 6 _ rfl
        have cy0:=X12.out.y.cell 0 _ rfl
        have cy1:=X12.out.y.cell 1 _ rfl
        have cd0:=X12.out.d.cell 0 _ rfl
        have cd1:=X12.out.d.cell 1 _ rfl
        have clp:=X12.out.p.lt
        have cly:=X12.out.y.lt
        have cld:=X12.out.d.lt
        obtain⟨a3,a4⟩:=A3.out
        rcases Hm.out with⟨hneg,rfl⟩|⟨hneg,rfl⟩
        ·have d0:decide (a<0)=true:=dec_yes (by omega)
         go_wp2_with fail
         go_ret
         exact⟨rfl,X12.out.b⟩
        ·have d0:decide (a<0)=false:=dec_no (by omega)
         go_wp2_with fail
         go_ret
         exact⟨rfl,X12.out.b⟩
open Go.RowKit Ms
open Dcm (okD)
set_option maxHeartbeats 1000000 in
theorem qnumeral_any (c s:Int) (w:World) (hd:okD c s):
  Calls Tryz.prog 13 #[.agg #[.int .i64 c,.int .i64 s]] w fun e w'=>e= .returned (.string ⟨(numM c s).toArray⟩)∧Below w.heap.size w w':=by
 have CN:=Lib.hid fun w=>rshown_any patM 46 44 c s w (by decide) (by decide) (by decide) hd
 rw[show Nt.shown patM 46 44 c s=numM c s from(numM_shown hd).symm] at CN
 rw[show pV patM= .agg #[.string ⟨#[]⟩,.string ⟨#[]⟩,.int .i64 1,.int .i64 0,.int .i64 3,.int .i64 3,.int .i64 0] from rfl,show yV 46 44= .agg #[.int .u8 46,.int .u8 44] from rfl] at CN
 have W1:=Lib.hid (blw_alloc w (.cells #[.int .i64 c,.int .i64 s] 31))
 generalize numM c s=t at*
 clear hd
 go_enter Tryz.func13,Tryz.ntmps13
 go_wp2_with fail
 refine(CN.out _).mono ?_
 rintro e w2 ⟨rfl,hb⟩
 have W2:=Lib.hid (blw_trans W1.out hb)
 clear hb CN W1
 go_wp2_with fail
 go_ret
 exact⟨rfl,W2.out⟩
theorem nd_plain {w:World} {f b k:Nat} {K O:Int} {T:List UInt8} (h0:w.cell? ⟨b,k,none⟩=some (.int .i64 K)) (h1:w.cell? ⟨b,k+1,none⟩=some (.string ⟨T.toArray⟩)) (h2:w.cell? ⟨b,k+2,none⟩=some (.int .i64 O)) (h3:w.cell? ⟨b,k+3,none⟩=some (.slice none 0 0)) (hT:T.length≤2000000):NdC (f+1) w b k (.mk K T O []):=
 ⟨none,0,0,h0,h1,h2,h3,.inl ⟨rfl,_,_,rfl⟩,hT,Nat.zero_le _⟩
theorem nd_cases {w:World} {f b k:Nat} {K O:Int} {T:List UInt8} {a:Option Addr} {n c:Nat} {cs:Cs} (h0:w.cell? ⟨b,k,none⟩=some (.int .i64 K)) (h1:w.cell? ⟨b,k+1,none⟩=some (.string ⟨T.toArray⟩)) (h2:w.cell? ⟨b,k+2,none⟩=some (.int .i64 O)) (h3:w.cell? ⟨b,k+3,none⟩=some (.slice a n c)) (hT:T.length≤2000000) (hc:CassAt f w (.slice a n c) cs) (hl:cs.length≤2000000):NdC (f+1) w b k (.mk K T O cs):=
 ⟨a,n,c,h0,h1,h2,h3,hc,hT,hl⟩
theorem msg_one {w:World} {f p:Nat} {x:Nd} (h:NdC f w p 0 x):MsgAt f w (.slice (some ⟨p,0,none⟩) 1 1) [x]:=by
 refine .inr ⟨p,0,1,rfl,by simp,Nat.le_refl _,by unfold maxLen;omega,fun j y hy=>?_⟩
 match j,hy with
 |0,hy=>
  obtain rfl:x=y:=by simpa using hy
  exact h
theorem cas_one {w:World} {f p:Nat} {k:List UInt8} {b:List Nd} {a:Option Addr} {n c:Nat} (h0:w.cell? ⟨p,0,none⟩=some (.string ⟨k.toArray⟩)) (h1:w.cell? ⟨p,1,none⟩=some (.slice a n c)) (hb:MsgAt f w (.slice a n c) b) (hk:k.length≤2000000) (hl:b.length≤2000000):CassAt f w (.slice (some ⟨p,0,none⟩) 1 1) [(k,b)]:=by
 refine .inr ⟨p,0,1,rfl,by simp,Nat.le_refl _,by unfold maxLen;omega,fun j y hy=>?_⟩
 match j,hy with
 |0,hy=>
  obtain rfl:(k,b)=y:=by simpa using hy
  exact⟨a,n,c,h0,h1,hb,hk,hl⟩
end Go.Proofs.YtldbfkccieipjaaGreatDoor
