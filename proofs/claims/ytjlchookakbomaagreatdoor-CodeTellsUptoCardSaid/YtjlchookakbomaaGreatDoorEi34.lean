/- The walk of linguisterref1.AddOf: the sum of two numbers. No conditions but the arguments' own. -/
import Derived.Test.YtjlchookakbomaaGreatDoorEi33
import Derived.Test.YtjlchookakbomaaGreatDoorEi21
import Derived.Laws.StructEq
set_option maxHeartbeats 4000000
set_option maxRecDepth 100000
namespace Go.Proofs.YtjlchookakbomaaGreatDoor
open Go.RowKit
open Dcm (okD)
theorem Bx.drew {w0 w:World} {pv yv:Array Value} {c s:Value} (h:Bx w0 pv yv c s w):Bx w0 pv yv c s w.drew:=⟨⟨h.b.os,h.b.tape,h.b.output,h.b.size,h.b.block⟩,h.p.drew,h.y.drew,h.d.drew⟩
theorem zIO {w:World} {v:Value} {l:List (List UInt8)} (h:StrsAt w v l) (h0:0<l.length): ∃b off cap,v= .slice (some ⟨b,off,none⟩) l.length cap∧l.length≤cap∧cap≤maxLen∧b<w.heap.size:=by
 rcases h with⟨rfl,_⟩|⟨b,off,cap,h1,_,h3,h4,h5⟩
 ·exact absurd h0 (by simp)
 exact⟨b,off,cap,h1,h3,h4,World.block_lt_of_cell? _ _ (h5 0 _ (List.getElem?_eq_getElem h0))⟩
theorem zEr {w:World} {b off n cap:Nat} {l:List (List UInt8)} (h:StrsAt w (.slice (some ⟨b,off,none⟩) n cap) l) (j:Nat) (x:List UInt8) (hx:l[j]?=some x):w.cell? ⟨b,off+j,none⟩=some (.string ⟨x.toArray⟩):=by
 rcases h with⟨rfl,_⟩|⟨b',off',cap',h1,_,h3,h4,h5⟩
 ·simp at hx
 injection h1 with h1 h2 h6
 injection h1 with h1
 injection h1 with h7 h8
 subst h7 h8
 exact h5 j x hx

theorem zLs (n:Int) (w:World) (h0: -9223372036854775807≤n) (h1:n≤9223372036854775807):Calls Tryz.prog 74 #[.int .i64 n] w fun e w'=>e= .returned (.int .i64 (Dcm.mag n))∧Below w.heap.size w w':=
 (zAI n w h0 h1).mono fun _ _ h=>⟨h.1,h.2▸Below.refl _ _⟩
theorem zMV (s:List UInt8) (g g2:Int) (c:UInt8) (w:World) (hs:s.length≤1000000000) (hG:rightG g g2):
  Calls Tryz.prog 118 #[.string ⟨s.toArray⟩,.int .i64 g,.int .i64 g2,.string ⟨#[c]⟩] w fun e w'=>e= .returned (.string ⟨(gout s g g2 c).toArray⟩)∧Below w.heap.size w w':=
 (zGK s g g2 c w hs hG).mono fun _ _ h=>⟨h.1,by obtain⟨n,rfl⟩:=h.2;exact zAb (Below.refl _ _) n⟩

theorem zIP (p:Nt.Pt) (pt cm:UInt8) (c s:Int) (w:World) (h1:p.pre.length≤1000000000) (h2:p.suf.length≤1000000000) (hp:Nt.patE p=0) (hd:okD c s):
  Calls Tryz.prog 73 #[pV p,yV pt cm,.agg #[.int .i64 c,.int .i64 s]] w fun e w'=>e= .returned (.string ⟨(Nt.shown p pt cm c s).toArray⟩)∧Below w.heap.size w w':=by
 have ps:=Nt.zAV (Nt.zF7 hp).2.2.1
 obtain⟨t1,t2,t3⟩:=Nt.zCM c s hd
 obtain⟨r1,r2,r3⟩:=Nt.zDW p.mf c s hd (by omega) (by omega)
 have CT1:=lH fun w=>zDq c s w hd
 have CR:Hid (p.mf<(Nt.trim c s).2→okD (Dcm.rndC (Nt.trim c s).1 (Nt.trim c s).2 p.mf 5) p.mf∧ ∀w,Calls Tryz.prog 116 #[.agg #[.int .i64 (Nt.trim c s).1,.int .i64 (Nt.trim c s).2],.int .i64 p.mf,.int .i64 5] w fun e w'=>e= .returned (.tuple #[.agg #[.int .i64 (Dcm.rndC (Nt.trim c s).1 (Nt.trim c s).2 p.mf 5),.int .i64 p.mf],.bool true])∧Below w.heap.size w w'):=lH fun hlt=>by
  have hz:rndE (Nt.trim c s).1 (Nt.trim c s).2 p.mf 5=0:=zBK.2 ⟨t1,by omega,by omega,by omega,by omega,fun h=>by omega⟩
  exact⟨zHz hz,fun w=>zMU _ _ _ _ w hz⟩
 have HR:Hid (Nt.red p.mf c s=if p.mf<(Nt.trim c s).2 then Nt.trim (Dcm.rndC (Nt.trim c s).1 (Nt.trim c s).2 p.mf 5) p.mf else Nt.trim c s):=lH rfl
 have hsh:Nt.shown p pt cm c s=Byt.sgn (Nt.red p.mf c s).1++Nt.body p pt cm (Nt.red p.mf c s).1 (Nt.red p.mf c s).2:=rfl
 rw[hsh]
 clear hsh
 generalize Nt.red p.mf c s=q at*
 obtain⟨a,b⟩:=q
 generalize Nt.trim c s=q at*
 obtain⟨tc,ts⟩:=q
 unfold pV yV at*
 obtain⟨pre,suf,mi,nf,mf,g,g2⟩:=p
 unfold Nt.body
 simp only at*
 have okm:okD (Dcm.mag a) b:=by
  obtain⟨x1,x2,x3,x4⟩:=r1
  refine⟨x1,x2,?_,?_⟩<;>unfold Dcm.mag<;>split<;>omega
 have CS:=lH fun w=>zLs a w (by have:=r1.2.2;omega) (by have:=r1.2.2;omega)
 have CX:=lH fun w=>zFw (Dcm.mag a) b w okm
 have CC:=lH fun w=>zMM (Byt.decText (Dcm.mag a) b) [46] w (by simp) (by have:=Byt.zBu (Dcm.mag a) b okm;omega) (by simp)
 have hsp:Lib.split (Byt.decText (Dcm.mag a) b) [46]=if b≤0 then [Nt.wh a b] else [Nt.wh a b,Nt.bh a b]:=by
  rw[Nt.zH3,Nt.zL1,List.nil_append,Nt.zNn (Nt.mag_abs a),Nt.zNo (Nt.mag_abs a)]
 rw[hsp] at CC
 have hb0:b≤0→Nt.bh a b= []:=Nt.zHu
 have lw:=Nt.zF6 a b r1
 have lb:=Nt.zF4 a b
 have hPD:List.replicate (mi.toNat-(Nt.wh a b).length) 48++Nt.wh a b=Nt.pad mi a b:=rfl
 have hFR:Nt.bh a b++List.replicate (nf.toNat-(Nt.bh a b).length) 48=Nt.fr nf a b:=rfl
 have r9:b≤9:=r1.2.1
 have r0:0≤b:=r1.1
 have lpd:(Nt.pad mi a b).length≤200:=by rw[←hPD,List.length_append,List.length_replicate];omega
 have lfr:(Nt.fr nf a b).length≤200:=by rw[←hFR,List.length_append,List.length_replicate];omega
 have CG:=lH fun w=>zMV (Nt.pad mi a b) g g2 cm w (by omega) ⟨by omega,by omega,by omega,by omega⟩
 have lgo:=zDV (Nt.pad mi a b) g g2 cm
 have hm:(a<0∧Byt.sgn a= [45])∨(¬a<0∧Byt.sgn a= []):=by
  by_cases h0:a<0
  ·exact .inl ⟨h0,if_pos h0⟩
  exact .inr ⟨h0,if_neg h0⟩
 clear hsp okm hp
 generalize Byt.decText (Dcm.mag a) b=X at*
 generalize Nt.pad mi a b=PD at*
 generalize Nt.fr nf a b=FR at*
 generalize gout PD g g2 cm=GO at*
 generalize Nt.wh a b=WH at*
 generalize Nt.bh a b=BH at*
 obtain⟨L,hL⟩: ∃L:List (List UInt8),L=if b≤0 then [WH] else [WH,BH]:=⟨_,rfl⟩
 rw[←hL] at CC
 have HL0:=lH (show L[0]?=some WH from by rw[hL];split<;>rfl)
 have HL1:=lH (show L.length=2∧L[1]?=some BH∨L.length=1∧BH= [] from by
  rw[hL];split
  ·rename_i h;exact .inr ⟨rfl,hb0 h⟩
  exact .inl ⟨rfl,rfl⟩)
 clear hL hb0
 obtain⟨n1,hn1⟩: ∃n,n=nf.toNat-BH.length:=⟨_,rfl⟩
 obtain⟨n2,hn2⟩: ∃n,n=mi.toNat-WH.length:=⟨_,rfl⟩
 rw[←hn1] at hFR
 rw[←hn2] at hPD
 obtain⟨TL,hTL⟩: ∃TL,TL=Nt.tail pt FR:=⟨_,rfl⟩
 rw[←hTL]
 have lTL:TL.length≤201:=by rw[hTL];unfold Nt.tail;split<;>simp;omega
 obtain⟨Z0,hZ0⟩: ∃Z0,Z0=pre++GO:=⟨_,rfl⟩
 obtain⟨Z1,hZ1⟩: ∃Z1,Z1=Z0++TL:=⟨_,rfl⟩
 obtain⟨Z2,hZ2⟩: ∃Z2,Z2=Z1++suf:=⟨_,rfl⟩
 have hall:pre++(GO++TL)++suf=Z2:=by rw[hZ2,hZ1,hZ0];simp
 rw[hall]
 have lZ0:Z0.length≤1000000401:=by rw[hZ0,List.length_append];omega
 have lZ1:Z1.length≤1000000701:=by rw[hZ1,List.length_append];omega
 have lZ2:Z2.length≤2000000801:=by rw[hZ2,List.length_append];omega
 have A1:=lH (show ∀w,(Op.stringOp .add ⟨pre.toArray⟩ ⟨GO.toArray⟩).run Tryz.prog w= .ok (.string ⟨Z0.toArray⟩) w from fun w=>by rw[hZ0];exact zAh (P:= Tryz.prog) pre GO (by omega) w)
 have A2:=lH fun (hf:FR≠ [])=>(show ∃Zm:List UInt8,(∀w,(Op.stringOp .add ⟨Z0.toArray⟩ ⟨[pt].toArray⟩).run Tryz.prog w= .ok (.string ⟨Zm.toArray⟩) w)∧(∀w,(Op.stringOp .add ⟨Zm.toArray⟩ ⟨FR.toArray⟩).run Tryz.prog w= .ok (.string ⟨Z1.toArray⟩) w) from by
  have e:Z1=(Z0++ [pt])++FR:=by rw[hZ1,hTL];unfold Nt.tail;rw[if_neg hf];simp
  exact⟨Z0++ [pt],fun w=>zAh (P:= Tryz.prog) Z0 [pt] (by simp;omega) w,fun w=>by rw[e];exact zAh (P:= Tryz.prog) (Z0++ [pt]) FR (by simp;omega) w⟩)
 have N2:=lH (show FR= []→Z1=Z0 from fun h=>by rw[hZ1,hTL,h];unfold Nt.tail;simp)
 have A3:=lH (And.intro (show ∀w,(Op.stringOp .add ⟨Z1.toArray⟩ ⟨suf.toArray⟩).run Tryz.prog w= .ok (.string ⟨Z2.toArray⟩) w from fun w=>by rw[hZ2];exact zAh (P:= Tryz.prog) Z1 suf (by omega) w) (show ∀w,(Op.stringOp .add ⟨#[45]⟩ ⟨Z2.toArray⟩).run Tryz.prog w= .ok (.string ⟨([45]++Z2).toArray⟩) w from fun w=>zAh (P:= Tryz.prog) [45] Z2 (by simp;omega) w))
 have B1:=lH fun (k:Nat) (hk:k≤100)=>(show ∀w,(Op.stringOp .add ⟨#[48]⟩ ⟨(List.replicate k (48:UInt8)++WH).toArray⟩).run Tryz.prog w= .ok (.string ⟨(List.replicate (k+1) (48:UInt8)++WH).toArray⟩) w from fun w=>by
  rw[List.replicate_succ]
  exact zAh (P:= Tryz.prog) [48] (List.replicate k 48++WH) (by simp;omega) w)
 have B2:=lH fun (k:Nat) (hk:k≤100)=>(show ∀w,(Op.stringOp .add ⟨(BH++List.replicate k (48:UInt8)).toArray⟩ ⟨#[48]⟩).run Tryz.prog w= .ok (.string ⟨(BH++List.replicate (k+1) (48:UInt8)).toArray⟩) w from fun w=>by
  rw[List.replicate_succ',←List.append_assoc]
  exact zAh (P:= Tryz.prog) (BH++List.replicate k 48) [48] (by simp;omega) w)
 have L1:=lH fun (k:Nat)=>(show(List.replicate k (48:UInt8)++WH).length=k+WH.length by simp)
 have L2:=lH fun (k:Nat)=>(show(BH++List.replicate k (48:UInt8)).length=BH.length+k by simp)
 have Hm:=lH hm
 have HPD:=lH hPD
 have HFR:=lH hFR
 have mi9:mi≤9:=ps.2.1
 have nf9:nf≤9:=by omega
 have lbh:BH.length≤9:=by omega
 clear hZ0 hZ1 hZ2 hTL lZ0 lZ1 lZ2 lTL hall hPD hFR hm lpd lfr lgo h1 h2 ps lb
 generalize Byt.sgn a=SG at*
 have X0:=lH (Bx.made w #[.string ⟨pre.toArray⟩,.string ⟨suf.toArray⟩,.int .i64 mi,.int .i64 nf,.int .i64 mf,.int .i64 g,.int .i64 g2] #[.int .u8 (pt.toNat:Int),.int .u8 (cm.toNat:Int)] (.int .i64 c) (.int .i64 s) 123 125 64)
 clear hd
 go_enter Tryz.func73,Tryz.ntmps73
 go_wp2_with fail
 refine(CT1.out _).mono ?_
 rintro e w1 ⟨rfl,hb⟩
 have X1:=lH (X0.out.below hb)
 clear hb X0 CT1
 have cp0:=X1.out.p.cell 0 _ rfl
 have cp1:=X1.out.p.cell 1 _ rfl
 have cp2:=X1.out.p.cell 2 _ rfl
 have cp3:=X1.out.p.cell 3 _ rfl
 have cp4:=X1.out.p.cell 4 _ rfl
 have cp5:=X1.out.p.cell 5 _ rfl
 have cp6:=X1.out.p.cell 6 _ rfl
 have cy0:=X1.out.y.cell 0 _ rfl
 have cy1:=X1.out.y.cell 1 _ rfl
 have cd0:=X1.out.d.cell 0 _ rfl
 have cd1:=X1.out.d.cell 1 _ rfl
 have cf0:=X1.out.d.free 0 (by simp)
 have cf1:=X1.out.d.free 1 (by simp)
 have clp:=X1.out.p.lt
 have cly:=X1.out.y.lt
 have cld:=X1.out.d.lt
 have X4:=lH (X1.out.store (.int .i64 tc) (.int .i64 ts))
 go_upto_if 19 with fail
 go_cut [] from 7 (fun wx=>Hid (Bx w #[.string ⟨pre.toArray⟩,.string ⟨suf.toArray⟩,.int .i64 mi,.int .i64 nf,.int .i64 mf,.int .i64 g,.int .i64 g2] #[.int .u8 (pt.toNat:Int),.int .u8 (cm.toNat:Int)] (.int .i64 a) (.int .i64 b) wx))
 case first=>
  generalize (w1.setCell ⟨w.heap.size+2,0,none⟩ (.int .i64 tc)).setCell ⟨w.heap.size+2,1,none⟩ (.int .i64 ts)=w4 at*
  clear cp0 cp1 cp2 cp3 cp4 cp5 cp6 cy0 cy1 cd0 cd1 cf0 cf1 clp cly cld
  have cp0:=X4.out.p.cell 0 _ rfl
  have cp1:=X4.out.p.cell 1 _ rfl
  have cp2:=X4.out.p.cell 2 _ rfl
  have cp3:=X4.out.p.cell 3 _ rfl
  have cp4:=X4.out.p.cell 4 _ rfl
  have cp5:=X4.out.p.cell 5 _ rfl
  have cp6:=X4.out.p.cell 6 _ rfl
  have cy0:=X4.out.y.cell 0 _ rfl
  have cy1:=X4.out.y.cell 1 _ rfl
  have cd0:=X4.out.d.cell 0 _ rfl
  have cd1:=X4.out.d.cell 1 _ rfl
  have cf0:=X4.out.d.free 0 (by simp)
  have cf1:=X4.out.d.free 1 (by simp)
  have clp:=X4.out.p.lt
  have cly:=X4.out.y.lt
  have cld:=X4.out.d.lt
  clear X1
  by_cases hlt:mf<ts
  ·have d0:decide (mf<ts)=true:=zAd hlt
   rw[d0]
   have hr:=HR.out
   rw[if_pos hlt] at hr
   obtain⟨ro,CRw⟩:=CR.out hlt
   have CRh:=lH CRw
   have CT2:=lH fun w=>zDq _ _ w ro
   rw[←hr] at CT2
   simp only at CT2
   clear hr HR CR CRw ro hlt
   generalize Dcm.rndC tc ts mf 5=RC at*
   go_wp2_with fail
   refine(CRh.out _).mono ?_
   rintro e w5 ⟨rfl,hb⟩
   have X5:=lH (X4.out.below hb)
   clear hb X4 CRh
   clear cp0 cp1 cp2 cp3 cp4 cp5 cp6 cy0 cy1 cd0 cd1 cf0 cf1 clp cly cld
   have cp0:=X5.out.p.cell 0 _ rfl
   have cp1:=X5.out.p.cell 1 _ rfl
   have cp2:=X5.out.p.cell 2 _ rfl
   have cp3:=X5.out.p.cell 3 _ rfl
   have cp4:=X5.out.p.cell 4 _ rfl
   have cp5:=X5.out.p.cell 5 _ rfl
   have cp6:=X5.out.p.cell 6 _ rfl
   have cy0:=X5.out.y.cell 0 _ rfl
   have cy1:=X5.out.y.cell 1 _ rfl
   have cd0:=X5.out.d.cell 0 _ rfl
   have cd1:=X5.out.d.cell 1 _ rfl
   have cf0:=X5.out.d.free 0 (by simp)
   have cf1:=X5.out.d.free 1 (by simp)
   have clp:=X5.out.p.lt
   have cly:=X5.out.y.lt
   have cld:=X5.out.d.lt
   have X6:=lH (X5.out.alloc (.cells #[.int .i64 RC,.int .i64 mf] 64))
   clear X5
   clear cp0 cp1 cp2 cp3 cp4 cp5 cp6 cy0 cy1 cd0 cd1 cf0 cf1 clp cly cld
   have cp0:=X6.out.p.cell 0 _ rfl
   have cp1:=X6.out.p.cell 1 _ rfl
   have cp2:=X6.out.p.cell 2 _ rfl
   have cp3:=X6.out.p.cell 3 _ rfl
   have cp4:=X6.out.p.cell 4 _ rfl
   have cp5:=X6.out.p.cell 5 _ rfl
   have cp6:=X6.out.p.cell 6 _ rfl
   have cy0:=X6.out.y.cell 0 _ rfl
   have cy1:=X6.out.y.cell 1 _ rfl
   have cd0:=X6.out.d.cell 0 _ rfl
   have cd1:=X6.out.d.cell 1 _ rfl
   have cf0:=X6.out.d.free 0 (by simp)
   have cf1:=X6.out.d.free 1 (by simp)
   have clp:=X6.out.p.lt
   have cly:=X6.out.y.lt
   have cld:=X6.out.d.lt
   go_wp2_with fail
   refine(CT2.out _).mono ?_
   rintro e w7 ⟨rfl,hb⟩
   have X7:=lH (X6.out.below hb)
   clear hb X6 CT2
   clear cp0 cp1 cp2 cp3 cp4 cp5 cp6 cy0 cy1 cd0 cd1 cf0 cf1 clp cly cld
   have cp0:=X7.out.p.cell 0 _ rfl
   have cp1:=X7.out.p.cell 1 _ rfl
   have cp2:=X7.out.p.cell 2 _ rfl
   have cp3:=X7.out.p.cell 3 _ rfl
   have cp4:=X7.out.p.cell 4 _ rfl
   have cp5:=X7.out.p.cell 5 _ rfl
   have cp6:=X7.out.p.cell 6 _ rfl
   have cy0:=X7.out.y.cell 0 _ rfl
   have cy1:=X7.out.y.cell 1 _ rfl
   have cd0:=X7.out.d.cell 0 _ rfl
   have cd1:=X7.out.d.cell 1 _ rfl
   have cf0:=X7.out.d.free 0 (by simp)
   have cf1:=X7.out.d.free 1 (by simp)
   have clp:=X7.out.p.lt
   have cly:=X7.out.y.lt
   have cld:=X7.out.d.lt
   have X8:=lH (X7.out.store (.int .i64 a) (.int .i64 b))
   go_wp2_with fail
   go_meet
   exact X8
  have d0:decide (mf<ts)=false:=zAa hlt
  rw[d0]
  have hr:=HR.out
  rw[if_neg hlt] at hr
  obtain⟨rfl,rfl⟩:=Prod.mk.inj hr
  go_wp2_with fail
  go_meet
  exact X4
 case rest=>
  have X9:=hcut
  clear hcut X4 X1 CR HR t1 t2 t3
  try clear cp0 cp1 cp2 cp3 cp4 cp5 cp6 cy0 cy1 cd0 cd1 cf0 cf1 clp cly cld
  have cd0:=X9.out.d.cell 0 _ rfl
  have cd1:=X9.out.d.cell 1 _ rfl
  have cld:=X9.out.d.lt
  go_wp2_with fail
  refine wp_region_held_drew (S:=fun w'=>w'.cell? ⟨w.heap.size+2,0,none⟩=some (.int .i64 a)∧w'.cell? ⟨w.heap.size+2,1,none⟩=some (.int .i64 b)∧Hid (Bx w #[.string ⟨pre.toArray⟩,.string ⟨suf.toArray⟩,.int .i64 mi,.int .i64 nf,.int .i64 mf,.int .i64 g,.int .i64 g2] #[.int .u8 (pt.toNat:Int),.int .u8 (cm.toNat:Int)] (.int .i64 a) (.int .i64 b) w')∧Hid (Below w.heap.size w w')) (by kernel_rfl) (⟨cd0,cd1,lH X9.out.drew,lH X9.out.drew.b⟩) (fun hY9=>?_)
  refine tkr (d:=(some 29)) (v:=?v1) 0 rfl rfl hY9 ?hy1 ?rs1
  case hy1=>(intro w hSw;(try dsimp only at hSw);go_simp)<;>(try with_reducible rfl)
  (try simp only[Act.put,aI,aO,aS])
  refine tkr (d:=(some 30)) (v:=?v2) 1 rfl rfl hY9 ?hy2 ?rs2
  case hy2=>(intro w hSw;(try dsimp only at hSw);go_simp)<;>(try with_reducible rfl)
  (try simp only[Act.put,aI,aO,aS])
  refine tkr (d:=(some 32)) (v:=?v3) 3 rfl rfl hY9 ?hy3 ?rs3
  case hy3=>(intro w hSw;(try dsimp only at hSw);go_simp)<;>(try with_reducible rfl)
  (try simp only[Act.put,aI,aO,aS])
  refine tkr (d:=(some 33)) (v:=?v4) 4 rfl rfl hY9 ?hy4 ?rs4
  case hy4=>(intro w hSw;(try dsimp only at hSw);go_simp)<;>(try with_reducible rfl)
  (try simp only[Act.put,aI,aO,aS])
  refine zAc 2 rfl (by kernel_rfl) (by rfl) (fun K hK=>?_)
  go_simp
  refine(CS.out _).mono ?_
  rintro e w' ⟨rfl,hb⟩
  refine hK.out _ _ (by obtain⟨h0,h1,h2,hw⟩:=hY9;exact⟨cK h0 hb,cK h1 hb,lH (h2.out.below hb),lH (bT hw.out hb)⟩) (fun hY9=>?_)
  clear hK K
  (try simp only[Act.put,aI,aO,aS])
  refine tkr (d:=(some 34)) (v:=?v6) 5 rfl rfl hY9 ?hy6 ?rs6
  case hy6=>(intro w hSw;(try dsimp only at hSw);go_simp)<;>(try with_reducible rfl)
  (try simp only[Act.put,aI,aO,aS])
  refine zAc 6 rfl (by kernel_rfl) (by rfl) (fun K hK=>?_)
  go_simp
  refine(CX.out _).mono ?_
  rintro e w' ⟨rfl,hb⟩
  refine hK.out _ _ (by obtain⟨h0,h1,h2,hw⟩:=hY9;exact⟨cK h0 hb,cK h1 hb,lH (h2.out.below hb),lH (bT hw.out hb)⟩) (fun hY9=>?_)
  clear hK K
  (try simp only[Act.put,aI,aO,aS])
  refine zAc 7 rfl (by kernel_rfl) (by rfl) (fun K hK=>?_)
  go_simp
  refine(CC.out _).mono ?_
  rintro e w' ⟨v,rfl,hst,hb⟩
  refine hK.out _ _ (by obtain⟨h0,h1,h2,hw⟩:=hY9;exact⟨cK h0 hb,cK h1 hb,lH (h2.out.below hb),lH (bT hw.out hb)⟩) (fun hY9=>?_)
  clear hK K
  (try simp only[Act.put,aI,aO,aS])
  refine tkr (d:=(some 9)) (v:=?v9) 8 rfl rfl hY9 ?hy9 ?rs9
  case hy9=>(intro w hSw;(try dsimp only at hSw);go_simp)<;>(try with_reducible rfl)
  (try simp only[Act.put,aI,aO,aS])
  refine wpAnyH_done (by kernel_rfl) ?_ _
  obtain⟨z0,z1,z2,zW⟩:=hY9
  clear X9 cd0 cd1 cld CS CX CC z0 z1 zW hb
  obtain⟨bb,off,cap,rfl,hc1,hc2,hbb⟩:=zIO hst (by rcases HL1.out with h|h<;>omega)
  unfold maxLen at hc2
  have ca:=zEr hst 0 WH HL0.out
  rw[Nat.add_zero] at ca
  have cb1:=lH fun h=>zEr hst 1 BH h
  have lL:0<L.length:=by rcases HL1.out with h|h<;>omega
  clear hst HL0
  have X10:=z2
  clear z2
  have cp0:=X10.out.p.cell 0 _ rfl
  have cp1:=X10.out.p.cell 1 _ rfl
  have cp2:=X10.out.p.cell 2 _ rfl
  have cp3:=X10.out.p.cell 3 _ rfl
  have cp4:=X10.out.p.cell 4 _ rfl
  have cp5:=X10.out.p.cell 5 _ rfl
  have cp6:=X10.out.p.cell 6 _ rfl
  have cy0:=X10.out.y.cell 0 _ rfl
  have cy1:=X10.out.y.cell 1 _ rfl
  have cd0:=X10.out.d.cell 0 _ rfl
  have cd1:=X10.out.d.cell 1 _ rfl
  have clp:=X10.out.p.lt
  have cly:=X10.out.y.lt
  have cld:=X10.out.d.lt
  generalize hwl:w'=wl at*
  clear hwl
  generalize hLn:L.length=Ln at*
  go_wp2_with fail
  go_loopw [10] (fun v wr=> ∃k:Nat,v= .string ⟨(List.replicate k (48:UInt8)++WH).toArray⟩∧k≤n2∧wl=wr) (fun v _=>mi.toNat-strLen v)
  case atStart=>exact⟨0,rfl,Nat.zero_le _,rfl⟩
  case round=>
   obtain⟨k,rfl,hk,rfl⟩:=hrel
   have lk:=L1.out k
   have bk:=B1.out k (by omega)
   have sk:=L1.out (k+1)
   by_cases hlt:((k+WH.length:Nat):Int)<mi
   ·generalize List.replicate k (48:UInt8)++WH=V at*
    have hlt':(V.length:Int)<mi:=by omega
    obtain⟨V',hV'⟩: ∃V',V'=List.replicate (k+1) (48:UInt8)++WH:=⟨_,rfl⟩
    rw[←hV'] at bk sk
    have HV:=lH hV'
    clear hV'
    go_wp2_with fail
    go_roundw
    case rel=>exact⟨k+1,by rw[HV.out],by omega,by first|rfl|trivial⟩
    case measure=>simp only[zAS];omega
   have ek:k=n2:=by omega
   subst ek
   rw[HPD.out] at lk⊢
   clear bk sk
   have hge: ¬(PD.length:Int)<mi:=by omega
   clear hlt
   go_upto_if 49 with fail
   go_cut [11] from 49 (fun sv wx=>sv= .string ⟨BH.toArray⟩∧wl=wx)
   case first=>
    rcases HL1.out with⟨h,h'⟩|⟨h,h'⟩
    ·have cb:=cb1.out h'
     have hln:Ln=2:=by omega
     subst hln
     go_wp2_with fail
     go_meet
     exact⟨rfl,rfl⟩
    have hln:Ln=1:=by omega
    subst hln
    subst h'
    go_wp2_with fail
    go_meet
    exact⟨rfl,rfl⟩
   case rest=>
    obtain⟨rfl,rfl⟩:=hcut
    clear HL1 cb1 ca
    go_wp2_with fail
    go_loopw [11] (fun v wr=> ∃k:Nat,v= .string ⟨(BH++List.replicate k (48:UInt8)).toArray⟩∧k≤n1∧wl=wr) (fun v _=>nf.toNat-strLen v)
    case atStart=>exact⟨0,by simp,Nat.zero_le _,rfl⟩
    case round=>
     obtain⟨k,rfl,hk,rfl⟩:=hrel
     have lk2:=L2.out k
     have bk:=B2.out k (by omega)
     have sk:=L2.out (k+1)
     by_cases hlt:((BH.length+k:Nat):Int)<nf
     ·generalize BH++List.replicate k (48:UInt8)=V at*
      have hlt':(V.length:Int)<nf:=by omega
      obtain⟨V',hV'⟩: ∃V',V'=BH++List.replicate (k+1) (48:UInt8):=⟨_,rfl⟩
      rw[←hV'] at bk sk
      have HV:=lH hV'
      clear hV'
      go_wp2_with fail
      go_roundw
      case rel=>exact⟨k+1,by rw[HV.out],by omega,by first|rfl|trivial⟩
      case measure=>simp only[zAS];omega
     have ek:k=n1:=by omega
     subst ek
     rw[HFR.out] at lk2⊢
     clear bk sk
     have hge2: ¬(FR.length:Int)<nf:=by omega
     clear hlt
     have a1:=A1.out
     have CV:(convert 72 9 (.slice (some ⟨wl.heap.size,0,none⟩) 1 1)).run Tryz.prog ((wl.alloc (.cells #[.int .u8 (cm.toNat:Int)] 5)).drew)= .ok (.string ⟨#[cm]⟩) ((wl.alloc (.cells #[.int .u8 (cm.toNat:Int)] 5)).drew):=zEF cm wl.drew
     go_wp2_with fail
     refine wp_region_held_drew (S:=fun w'=>w'.cell? ⟨w.heap.size,0,none⟩=some (.string ⟨pre.toArray⟩)∧w'.cell? ⟨w.heap.size,5,none⟩=some (.int .i64 g)∧w'.cell? ⟨w.heap.size,6,none⟩=some (.int .i64 g2)∧w'.cell? ⟨w.heap.size+1,1,none⟩=some (.int .u8 (cm.toNat:Int))∧Hid (Bx w #[.string ⟨pre.toArray⟩,.string ⟨suf.toArray⟩,.int .i64 mi,.int .i64 nf,.int .i64 mf,.int .i64 g,.int .i64 g2] #[.int .u8 (pt.toNat:Int),.int .u8 (cm.toNat:Int)] (.int .i64 a) (.int .i64 b) w')∧Hid (Below w.heap.size w w')) (by kernel_rfl) (⟨cp0,cp5,cp6,cy1,lH X10.out.drew,lH X10.out.drew.b⟩) (fun hY9=>?_)
     refine tkr (d:=(some 60)) (v:=?v10) 0 rfl rfl hY9 ?hy10 ?rs10
     case hy10=>(intro w hSw;(try dsimp only at hSw);go_simp)<;>(try with_reducible rfl)
     (try simp only[Act.put,aI,aO,aS])
     refine tkr (d:=(some 61)) (v:=?v11) 1 rfl rfl hY9 ?hy11 ?rs11
     case hy11=>(intro w hSw;(try dsimp only at hSw);go_simp)<;>(try with_reducible rfl)
     (try simp only[Act.put,aI,aO,aS])
     refine tkr (d:=(some 62)) (v:=?v12) 2 rfl rfl hY9 ?hy12 ?rs12
     case hy12=>(intro w hSw;(try dsimp only at hSw);go_simp)<;>(try with_reducible rfl)
     (try simp only[Act.put,aI,aO,aS])
     refine tkr (d:=(some 63)) (v:=?v13) 3 rfl rfl hY9 ?hy13 ?rs13
     case hy13=>(intro w hSw;(try dsimp only at hSw);go_simp)<;>(try with_reducible rfl)
     (try simp only[Act.put,aI,aO,aS])
     refine tkr (d:=(some 64)) (v:=?v14) 4 rfl rfl hY9 ?hy14 ?rs14
     case hy14=>(intro w hSw;(try dsimp only at hSw);go_simp)<;>(try with_reducible rfl)
     (try simp only[Act.put,aI,aO,aS])
     refine tkr (d:=(some 65)) (v:=?v15) 5 rfl rfl hY9 ?hy15 ?rs15
     case hy15=>(intro w hSw;(try dsimp only at hSw);go_simp)<;>(try with_reducible rfl)
     (try simp only[Act.put,aI,aO,aS])
     refine tkr (d:=(some 66)) (v:=?v16) 6 rfl rfl hY9 ?hy16 ?rs16
     case hy16=>(intro w hSw;(try dsimp only at hSw);go_simp)<;>(try with_reducible rfl)
     (try simp only[Act.put,aI,aO,aS])
     refine tkr (d:=(some 67)) (v:=?v17) 7 rfl rfl hY9 ?hy17 ?rs17
     case hy17=>(intro w hSw;(try dsimp only at hSw);go_simp)<;>(try with_reducible rfl)
     (try simp only[Act.put,aI,aO,aS])
     refine tkr (d:=(some 68)) (v:=?v18) 8 rfl rfl hY9 ?hy18 ?rs18
     case hy18=>(intro w hSw;(try dsimp only at hSw);go_simp)<;>(try with_reducible rfl)
     (try simp only[Act.put,aI,aO,aS])
     refine zAc 9 rfl (by kernel_rfl) (by rfl) (fun K hK=>?_)
     go_simp
     have hHeld0:=hY9
     obtain⟨h0,h1,h2,h3,h4,hw⟩:=hY9
     refine hK.out _ _ (by exact⟨cK h0 (bA _ _),cK h1 (bA _ _),cK h2 (bA _ _),cK h3 (bA _ _),lH (h4.out.below (bA _ _)),lH (bT hw.out (bA _ _))⟩) (fun hY9=>?_)
     clear hK K h0 h1 h2 h3 h4 hw
     (try simp only[Act.put,aI,aO,aS])
     refine zAc 10 rfl (by kernel_rfl) (by rfl) (fun K hK=>?_)
     go_simp
     refine hK.out _ _ hY9 (fun hY9=>?_)
     clear hK K
     (try simp only[Act.put,aI,aO,aS])
     refine zAc 11 rfl (by kernel_rfl) (by rfl) (fun K hK=>?_)
     go_simp
     refine(CG.out _).mono ?_
     rintro e w' ⟨rfl,hb⟩
     refine hK.out _ _ (by obtain⟨h0,h1,h2,h3,h4,hw⟩:=hY9;exact⟨cK h0 hb,cK h1 hb,cK h2 hb,cK h3 hb,lH (h4.out.below hb),lH (bT hw.out hb)⟩) (fun hY9=>?_)
     clear hK K
     (try simp only[Act.put,aI,aO,aS])
     refine tkr (d:=(some 72)) (v:=?v22) 12 rfl rfl hY9 ?hy22 ?rs22
     case hy22=>(intro w hSw;(try dsimp only at hSw);go_simp)<;>(try with_reducible rfl)
     (try simp only[Act.put,aI,aO,aS])
     refine tkr (d:=(some 12)) (v:=?v23) 13 rfl rfl hY9 ?hy23 ?rs23
     case hy23=>(intro w hSw;(try dsimp only at hSw);go_simp)<;>(try with_reducible rfl)
     (try simp only[Act.put,aI,aO,aS])
     refine wpAnyH_done (by kernel_rfl) ?_ _
     obtain⟨z0,z1,z2,z3,z4,zW⟩:=hY9
     clear z0 z1 z2 z3 zW CV CG a1 X10 cp0 cp1 cp2 cp3 cp4 cp5 cp6 cy0 cy1 cd0 cd1 clp cly cld
     have X11:=z4
     clear z4
     have cp0:=X11.out.p.cell 0 _ rfl
     have cp1:=X11.out.p.cell 1 _ rfl
     have cp2:=X11.out.p.cell 2 _ rfl
     have cp3:=X11.out.p.cell 3 _ rfl
     have cp4:=X11.out.p.cell 4 _ rfl
     have cp5:=X11.out.p.cell 5 _ rfl
     have cp6:=X11.out.p.cell 6 _ rfl
     have cy0:=X11.out.y.cell 0 _ rfl
     have cy1:=X11.out.y.cell 1 _ rfl
     have cd0:=X11.out.d.cell 0 _ rfl
     have cd1:=X11.out.d.cell 1 _ rfl
     have clp:=X11.out.p.lt
     have cly:=X11.out.y.lt
     have cld:=X11.out.d.lt
     go_upto_if 74 with fail
     go_cut [12] from 74 (fun sv wx=>sv= .string ⟨Z1.toArray⟩∧Hid (Bx w #[.string ⟨pre.toArray⟩,.string ⟨suf.toArray⟩,.int .i64 mi,.int .i64 nf,.int .i64 mf,.int .i64 g,.int .i64 g2] #[.int .u8 (pt.toNat:Int),.int .u8 (cm.toNat:Int)] (.int .i64 a) (.int .i64 b) wx))
     case first=>
      by_cases hf:FR= []
      ·have e1:=N2.out hf
       subst hf
       subst e1
       go_wp2_with fail
       go_meet
       exact⟨rfl,X11⟩
      have b0:FR.isEmpty=false:=List.isEmpty_eq_false_iff.2 hf
      simp only[b0,Bool.not_false]
      obtain⟨Zm,a2,a3⟩:=A2.out hf
      have CV:=fun w=>zEF pt w
      go_wp2_with fail
      go_meet
      exact⟨rfl,lH (X11.out.alloc _)⟩
     case rest=>
      obtain⟨rfl,X12⟩:=hcut
      clear X11 cp0 cp1 cp2 cp3 cp4 cp5 cp6 cy0 cy1 cd0 cd1 clp cly cld
      have cp0:=X12.out.p.cell 0 _ rfl
      have cp1:=X12.out.p.cell 1 _ rfl
      have cp2:=X12.out.p.cell 2 _ rfl
      have cp3:=X12.out.p.cell 3 _ rfl
      have cp4:=X12.out.p.cell 4 _ rfl
      have cp5:=X12.out.p.cell 5 _ rfl
      have cp6:=X12.out.p.cell 6 _ rfl
      have cy0:=X12.out.y.cell 0 _ rfl
      have cy1:=X12.out.y.cell 1 _ rfl
      have cd0:=X12.out.d.cell 0 _ rfl
      have cd1:=X12.out.d.cell 1 _ rfl
      have clp:=X12.out.p.lt
      have cly:=X12.out.y.lt
      have cld:=X12.out.d.lt
      obtain⟨a3,a4⟩:=A3.out
      rcases Hm.out with⟨hneg,rfl⟩|⟨hneg,rfl⟩
      ·have d0:decide (a<0)=true:=zAd (by omega)
       go_wp2_with fail
       go_ret
       exact⟨rfl,X12.out.b⟩
      have d0:decide (a<0)=false:=zAa (by omega)
      go_wp2_with fail
      go_ret
      exact⟨rfl,X12.out.b⟩
open Go.RowKit Ms
open Dcm (okD)
theorem zGL (c s:Int) (w:World) (hd:okD c s):
  Calls Tryz.prog 45 #[.agg #[.int .i64 c,.int .i64 s]] w fun e w'=>e= .returned (.string ⟨(numM c s).toArray⟩)∧Below w.heap.size w w':=by
 have CN:=lH fun w=>zIP patM 46 44 c s w (by decide) (by decide) (by decide) hd
 rw[show Nt.shown patM 46 44 c s=numM c s from(zIa hd).symm] at CN
 rw[show pV patM= .agg #[.string ⟨#[]⟩,.string ⟨#[]⟩,.int .i64 1,.int .i64 0,.int .i64 3,.int .i64 3,.int .i64 0] from rfl,show yV 46 44= .agg #[.int .u8 46,.int .u8 44] from rfl] at CN
 have W1:=lH (bA w (.cells #[.int .i64 c,.int .i64 s] 64))
 generalize numM c s=t at*
 clear hd
 go_enter Tryz.func45,Tryz.ntmps45
 go_wp2_with fail
 refine(CN.out _).mono ?_
 rintro e w2 ⟨rfl,hb⟩
 have W2:=lH (bT W1.out hb)
 clear hb CN W1
 go_wp2_with fail
 go_ret
 exact⟨rfl,W2.out⟩
open Go.RowKit Ms

theorem zBp (l:List Ag) (t:List UInt8) (v:Value) (w:World) (h:ArgsAt w v l) (hl:l.length≤2000000):
  Calls Tryz.prog 42 #[v,.string ⟨t.toArray⟩] w fun e w'=>e= .returned (.int .i64 (idxA l t))∧w'=w:=by
 have HIF:=lH fun (k:Nat) (x:Ag) (hx:l[k]?=some x) (h0:(l.take k).any (fun a=>a.name==t)=false) (h1:(x.name==t)=true)=>(show idxA l t=(k:Int) by
  unfold idxA
  rw[zC8 hx h0 h1,if_pos (List.getElem?_eq_some_iff.1 hx).1])
 have HIN:=lH fun (h:l.any (fun a=>a.name==t)=false)=>(show idxA l t= -1 by
  unfold idxA
  rw[idx_none h,if_neg (Nat.lt_irrefl _)])
 obtain⟨A,cap,rfl,_,hel⟩:=h.spread
 have hcap:l.length≤cap∨l.length=0:=by
  rcases h with⟨e,_⟩|⟨_,_,_,e,_,q,_,_⟩
  ·exact .inr (by rw[e];rfl)
  injection e with _ _ e;exact .inl (by omega)
 have HX:=lH hel
 clear h hel
 generalize idxA l t=I at*
 generalize hN:l.length=N at*
 go_enter Tryz.func42,Tryz.ntmps42
 go_wp2_with fail
 go_loopw [5] (fun vi wr=> ∃k:Nat,vi= .int .i64 (k:Int)∧k≤N∧Hid ((l.take k).any (fun a=>a.name==t)=false)∧w=wr) (fun vi _=>N-(intOf vi).toNat)
 case atStart=>exact⟨0,rfl,Nat.zero_le _,lH rfl,rfl⟩
 case round=>
  obtain⟨k,rfl,hk,HA,rfl⟩:=hrel
  by_cases hlt:k<N
  ·have hk':(k:Int)<(N:Int):=by omega
   have hcc:N≤cap:=by omega
   obtain⟨x,hxk⟩: ∃x,l[k]?=some x:=⟨l[k]'(by omega),List.getElem?_eq_getElem (by omega)⟩
   obtain⟨b,off,rfl,p0,_⟩:=HX.out k x hxk
   have HIK:=lH (HIF.out k x hxk HA.out)
   have HAN:=lH fun (h:(x.name==t)=false)=>(show(l.take (k+1)).any (fun a=>a.name==t)=false by rw[any_take' hxk,HA.out,h];rfl)
   have wk:IntKind.i64.wrap ((k:Int)+1)=(k:Int)+1:=IntWalk.i64_in _ (by omega)
   generalize x.name=T at*
   clear hxk HIF HIN HX
   cases ht:T==t with
   |true=>
    obtain rfl:=HIK.out ht
    go_wp2_with fail
    go_ret
    exact⟨rfl,rfl⟩
   |false=>
    have HA2:=lH (HAN.out ht)
    clear HIK HAN HA
    go_wp2_with fail
    go_roundw
    case rel=>exact⟨k+1,by go_num,by omega,HA2,trivial⟩
    case measure=>simp[intOf];omega
  have hk': ¬(k:Int)<(N:Int):=by omega
  have hA:=HA.out
  rw[List.take_of_length_le (by omega)] at hA
  obtain rfl:=HIN.out hA
  go_wp2_with fail
  go_ret
  exact⟨rfl,rfl⟩
open Go.RowKit
open Dcm (P10 okD nrm mag flo lef)

theorem zMW (a s b t:Int) (w:World) (ha:okD a s) (hb':okD b t) (hf:1000000000000000/P10 (Dcm.addS s t)+2<mag (flo a s+flo b t)):
  Calls Tryz.prog 48 #[.agg #[.int .i64 a,.int .i64 s],.agg #[.int .i64 b,.int .i64 t]] w fun e w'=>e= .returned (.tuple #[.agg #[.int .i64 0,.int .i64 0],.bool false])∧Below w.heap.size w w':=by
 have CA:=lH fun w=>zAL a s w ha
 have CB:=lH fun w=>zAL b t w hb'
 have fa:=Dcm.zBl a s ⟨ha.2.2.1,ha.2.2.2⟩
 have fb:=Dcm.zBl b t ⟨hb'.2.2.1,hb'.2.2.2⟩
 have ea:=Dcm.zAW a s
 have eb:=Dcm.zAW b t
 have aF:=Dcm.zEf a s b t ha hb'
 have xa:=Dcm.zAZ a s
 have xb:=Dcm.zAZ b t
 have ua:=Dcm.zAj s
 have ub:=Dcm.zAj t
 have uS:=Dcm.zAj (Dcm.addS s t)
 have mb:=Dcm.zB2 (flo a s+flo b t)
 have hS:s≤Dcm.addS s t∧t≤Dcm.addS s t∧Dcm.addS s t≤9:=by have:=ha.2.1;have:=hb'.2.1;unfold Dcm.addS;split<;>omega
 have hmx:max s t=Dcm.addS s t:=by unfold Dcm.addS;split<;>omega
 have qb:0≤1000000000000000/P10 (Dcm.addS s t):=Int.ediv_nonneg (by omega) (by omega)
 have qb1:1000000000000000/P10 (Dcm.addS s t)≤1000000000000000:=Int.ediv_le_self _ (by omega)
 obtain⟨s0,s9,a0,a1⟩:=ha
 obtain⟨t0,t9,b0,b1⟩:=hb'
 obtain⟨aF1,aF2,aF3,aF4,aF5⟩:=aF
 generalize Dcm.addC a s b t=V at*
 generalize Dcm.addS s t=S at*
 generalize flo a s=X at*
 generalize flo b t=Y at*
 generalize lef a s=p at*
 generalize lef b t=q at*
 have ha1:a-X*P10 s=p:=by omega
 have hb1:b-Y*P10 t=q:=by omega
 have w1:IntKind.i64.wrap (X*P10 s)=X*P10 s:=IntWalk.i64_in _ (by omega)
 have w2:IntKind.i64.wrap (a-X*P10 s)=p:=by rw[IntWalk.i64_in _ (by omega)];exact ha1
 have w3:IntKind.i64.wrap (p*P10 (S-s))=p*P10 (S-s):=IntWalk.i64_in _ (by omega)
 have w4:IntKind.i64.wrap (Y*P10 t)=Y*P10 t:=IntWalk.i64_in _ (by omega)
 have w5:IntKind.i64.wrap (b-Y*P10 t)=q:=by rw[IntWalk.i64_in _ (by omega)];exact hb1
 have w6:IntKind.i64.wrap (q*P10 (S-t))=q*P10 (S-t):=IntWalk.i64_in _ (by omega)
 have w7:IntKind.i64.wrap (S-s)=S-s:=IntWalk.i64_in _ (by omega)
 have w8:IntKind.i64.wrap (S-t)=S-t:=IntWalk.i64_in _ (by omega)
 have w9:IntKind.i64.wrap (X+Y)=X+Y:=IntWalk.i64_in _ (by omega)
 have wa:IntKind.i64.wrap (1000000000000000/P10 S+2)=1000000000000000/P10 S+2:=IntWalk.i64_in _ (by omega)
 have HA:=lH (And.intro w1 (And.intro w2 (And.intro w3 w7)))
 have HB:=lH (And.intro w4 (And.intro w5 (And.intro w6 w8)))
 have HC:=lH (And.intro w9 wa)
 have d1:decide (1000000000000000/P10 S+2<mag (X+Y))=true:=zAd hf
 have HM:=lH hmx
 clear w1 w2 w3 w4 w5 w6 w7 w8 w9 wa ha1 hb1 ea eb aF1 hf hmx
 go_enter Tryz.func48,Tryz.ntmps48
 have hmx:=HM.out
 go_wp2_with fail
 clear hmx
 refine(zAp _ _ (by omega) (by omega)).mono ?_
 rintro e w' ⟨rfl,rfl⟩
 go_wp2_with fail
 refine(CA.out _).mono ?_
 rintro e w1 ⟨rfl,hb⟩
 have B1_a:=Boxed.below (Boxed.alloc (Boxed.alloc (Boxed.made _ #[.int .i64 a,.int .i64 s] 64) _) _) hb
 have B1_b:=Boxed.below (Boxed.alloc (Boxed.made _ #[.int .i64 b,.int .i64 t] 64) _) hb
 have B1_z:=Boxed.below (Boxed.made _ #[.int .i64 0,.int .i64 0] 64) hb
 have W1:=lH (bT (bT (bT (bT (Below.refl w.heap.size w) (bA _ _)) (bA _ _)) (bA _ _)) hb)
 clear hb
 have ka0:=B1_a.cell 0 _ rfl
 have ka1:=B1_a.cell 1 _ rfl
 have kal:=B1_a.lt
 try simp at ka0 ka1 kal
 have kb0:=B1_b.cell 0 _ rfl
 have kb1:=B1_b.cell 1 _ rfl
 have kbl:=B1_b.lt
 try simp at kb0 kb1 kbl
 have kz0:=B1_z.cell 0 _ rfl
 have kz1:=B1_z.cell 1 _ rfl
 have kzl:=B1_z.lt
 try simp at kz0 kz1 kzl
 go_wp2_with fail
 refine(CB.out _).mono ?_
 rintro e w2 ⟨rfl,hb⟩
 clear ka0 ka1 kal kb0 kb1 kbl kz0 kz1 kzl
 have B2_a:=B1_a.below hb
 have B2_b:=B1_b.below hb
 have B2_z:=B1_z.below hb
 have W2:=lH (bT W1.out hb)
 clear hb B1_a B1_b B1_z W1
 have ka0:=B2_a.cell 0 _ rfl
 have ka1:=B2_a.cell 1 _ rfl
 have kal:=B2_a.lt
 try simp at ka0 ka1 kal
 have kb0:=B2_b.cell 0 _ rfl
 have kb1:=B2_b.cell 1 _ rfl
 have kbl:=B2_b.lt
 try simp at kb0 kb1 kbl
 have kz0:=B2_z.cell 0 _ rfl
 have kz1:=B2_z.cell 1 _ rfl
 have kzl:=B2_z.lt
 try simp at kz0 kz1 kzl
 have zf0:=B2_z.free 0 (by simp)
 have zf1:=B2_z.free 1 (by simp)
 try simp at zf0 zf1
 go_wp2_with fail
 obtain⟨w1',w2',w3',w4'⟩:=HA.out
 go_big_quiet ((go_at_call 76;exact zAt (zAp _ _ (by omega) (by omega))))
 rename Nat=>nq1
 clear w1' w2' w3' w4'
 have WD1:=lH (zAb W2.out nq1)
 have yb0:(w2.drewN nq1).cell? ⟨w.heap.size+1,0,none⟩=some (.int .i64 b):=by first|(simpa using kb0)|(simpa using yb0)
 have yb1:(w2.drewN nq1).cell? ⟨w.heap.size+1,1,none⟩=some (.int .i64 t):=by first|(simpa using kb1)|(simpa using yb1)
 have yz0:(w2.drewN nq1).cell? ⟨w.heap.size+2,0,none⟩=some (.int .i64 0):=by first|(simpa using kz0)|(simpa using yz0)
 have yz1:(w2.drewN nq1).cell? ⟨w.heap.size+2,1,none⟩=some (.int .i64 0):=by first|(simpa using kz1)|(simpa using yz1)
 have zg0:(w2.drewN nq1).frozen? ⟨w.heap.size+2,0,none⟩=false:=by first|(simpa using zf0)|(simpa using zg0)
 have zg1:(w2.drewN nq1).frozen? ⟨w.heap.size+2,1,none⟩=false:=by first|(simpa using zf1)|(simpa using zg1)
 have ylz:w.heap.size+2<(w2.drewN nq1).heap.size:=by simpa using kzl
 clear ka0 ka1 kal kb0 kb1 kbl kz0 kz1 kzl W2 zf0 zf1 B2_a B2_b B2_z
 generalize w2.drewN nq1=w3 at*
 go_wp2_with fail
 obtain⟨w1',w2',w3',w4'⟩:=HB.out
 go_big_quiet ((go_at_call 76;exact zAt (zAp _ _ (by omega) (by omega))))
 rename Nat=>nq2
 clear w1' w2' w3' w4'
 have WD2:=lH (zAb WD1.out nq2)
 have qyz0:(w3.drewN nq2).cell? ⟨w.heap.size+2,0,none⟩=some (.int .i64 0):=by simpa using yz0
 have qyz1:(w3.drewN nq2).cell? ⟨w.heap.size+2,1,none⟩=some (.int .i64 0):=by simpa using yz1
 have qzg0:(w3.drewN nq2).frozen? ⟨w.heap.size+2,0,none⟩=false:=by simpa using zg0
 have qzg1:(w3.drewN nq2).frozen? ⟨w.heap.size+2,1,none⟩=false:=by simpa using zg1
 have qlz:w.heap.size+2<(w3.drewN nq2).heap.size:=by simpa using ylz
 clear WD1 yb0 yb1 yz0 yz1 zg0 zg1 ylz
 generalize w3.drewN nq2=w4 at*
 go_wp2_with fail
 obtain⟨w1',w2'⟩:=HC.out
 go_big_quiet ((go_at_call 74;exact zAt (zAI _ _ (by omega) (by omega))))
 clear w1' w2'
 go_wp2_with fail
 refine bodyPost_ret (v:= .tuple #[.agg #[.int .i64 0,.int .i64 0],.bool false]) (by simp[results,Tryz.results48,go_sem,qyz0,qyz1]) rfl ⟨rfl,?_⟩
 repeat(first|exact WD2.out|refine zAb ?_ _|refine Below.setCell ?_ (by simp;omega) _)

theorem zNF (a s b t:Int) (w:World) (ha:okD a s) (hb':okD b t) (hf: ¬1000000000000000/P10 (Dcm.addS s t)+2<mag (flo a s+flo b t)) (hn:1000000000000000<mag (Dcm.addC a s b t)):
  Calls Tryz.prog 48 #[.agg #[.int .i64 a,.int .i64 s],.agg #[.int .i64 b,.int .i64 t]] w fun e w'=>e= .returned (.tuple #[.agg #[.int .i64 0,.int .i64 0],.bool false])∧Below w.heap.size w w':=by
 have CA:=lH fun w=>zAL a s w ha
 have CB:=lH fun w=>zAL b t w hb'
 have fa:=Dcm.zBl a s ⟨ha.2.2.1,ha.2.2.2⟩
 have fb:=Dcm.zBl b t ⟨hb'.2.2.1,hb'.2.2.2⟩
 have ea:=Dcm.zAW a s
 have eb:=Dcm.zAW b t
 have aF:=Dcm.zEf a s b t ha hb'
 have xa:=Dcm.zAZ a s
 have xb:=Dcm.zAZ b t
 have ua:=Dcm.zAj s
 have ub:=Dcm.zAj t
 have uS:=Dcm.zAj (Dcm.addS s t)
 have mb:=Dcm.zB2 (flo a s+flo b t)
 have hS:s≤Dcm.addS s t∧t≤Dcm.addS s t∧Dcm.addS s t≤9:=by have:=ha.2.1;have:=hb'.2.1;unfold Dcm.addS;split<;>omega
 have hmx:max s t=Dcm.addS s t:=by unfold Dcm.addS;split<;>omega
 have qb:0≤1000000000000000/P10 (Dcm.addS s t):=Int.ediv_nonneg (by omega) (by omega)
 have qb1:1000000000000000/P10 (Dcm.addS s t)≤1000000000000000:=Int.ediv_le_self _ (by omega)
 have nr:=Dcm.zGg (flo a s) (flo b t) (P10 (Dcm.addS s t)) uS.1 uS.2 hf
 obtain⟨s0,s9,a0,a1⟩:=ha
 obtain⟨t0,t9,b0,b1⟩:=hb'
 obtain⟨aF1,aF2,aF3,aF4,aF5⟩:=aF
 generalize Dcm.addC a s b t=V at*
 generalize Dcm.addS s t=S at*
 generalize flo a s=X at*
 generalize flo b t=Y at*
 generalize lef a s=p at*
 generalize lef b t=q at*
 have ha1:a-X*P10 s=p:=by omega
 have hb1:b-Y*P10 t=q:=by omega
 have w1:IntKind.i64.wrap (X*P10 s)=X*P10 s:=IntWalk.i64_in _ (by omega)
 have w2:IntKind.i64.wrap (a-X*P10 s)=p:=by rw[IntWalk.i64_in _ (by omega)];exact ha1
 have w3:IntKind.i64.wrap (p*P10 (S-s))=p*P10 (S-s):=IntWalk.i64_in _ (by omega)
 have w4:IntKind.i64.wrap (Y*P10 t)=Y*P10 t:=IntWalk.i64_in _ (by omega)
 have w5:IntKind.i64.wrap (b-Y*P10 t)=q:=by rw[IntWalk.i64_in _ (by omega)];exact hb1
 have w6:IntKind.i64.wrap (q*P10 (S-t))=q*P10 (S-t):=IntWalk.i64_in _ (by omega)
 have w7:IntKind.i64.wrap (S-s)=S-s:=IntWalk.i64_in _ (by omega)
 have w8:IntKind.i64.wrap (S-t)=S-t:=IntWalk.i64_in _ (by omega)
 have w9:IntKind.i64.wrap (X+Y)=X+Y:=IntWalk.i64_in _ (by omega)
 have wa:IntKind.i64.wrap (1000000000000000/P10 S+2)=1000000000000000/P10 S+2:=IntWalk.i64_in _ (by omega)
 have HA:=lH (And.intro w1 (And.intro w2 (And.intro w3 w7)))
 have HB:=lH (And.intro w4 (And.intro w5 (And.intro w6 w8)))
 have HC:=lH (And.intro w9 wa)
 have d1:decide (1000000000000000/P10 S+2<mag (X+Y))=false:=zAa hf
 obtain⟨n0,n1,n2,n3⟩:=nr
 have HV:=lH aF1
 have d2:decide (1000000000000000<mag V)=true:=zAd hn
 have vb: -1000006000000000≤V∧V≤1000006000000000:=by omega
 obtain⟨v0,v1⟩:=vb
 have HM:=lH hmx
 clear w1 w2 w3 w4 w5 w6 w7 w8 w9 wa ha1 hb1 ea eb aF1 hf hmx hn
 go_enter Tryz.func48,Tryz.ntmps48
 have hmx:=HM.out
 go_wp2_with fail
 clear hmx
 refine(zAp _ _ (by omega) (by omega)).mono ?_
 rintro e w' ⟨rfl,rfl⟩
 go_wp2_with fail
 refine(CA.out _).mono ?_
 rintro e w1 ⟨rfl,hb⟩
 have B1_a:=Boxed.below (Boxed.alloc (Boxed.alloc (Boxed.made _ #[.int .i64 a,.int .i64 s] 64) _) _) hb
 have B1_b:=Boxed.below (Boxed.alloc (Boxed.made _ #[.int .i64 b,.int .i64 t] 64) _) hb
 have B1_z:=Boxed.below (Boxed.made _ #[.int .i64 0,.int .i64 0] 64) hb
 have W1:=lH (bT (bT (bT (bT (Below.refl w.heap.size w) (bA _ _)) (bA _ _)) (bA _ _)) hb)
 clear hb
 have ka0:=B1_a.cell 0 _ rfl
 have ka1:=B1_a.cell 1 _ rfl
 have kal:=B1_a.lt
 try simp at ka0 ka1 kal
 have kb0:=B1_b.cell 0 _ rfl
 have kb1:=B1_b.cell 1 _ rfl
 have kbl:=B1_b.lt
 try simp at kb0 kb1 kbl
 have kz0:=B1_z.cell 0 _ rfl
 have kz1:=B1_z.cell 1 _ rfl
 have kzl:=B1_z.lt
 try simp at kz0 kz1 kzl
 go_wp2_with fail
 refine(CB.out _).mono ?_
 rintro e w2 ⟨rfl,hb⟩
 clear ka0 ka1 kal kb0 kb1 kbl kz0 kz1 kzl
 have B2_a:=B1_a.below hb
 have B2_b:=B1_b.below hb
 have B2_z:=B1_z.below hb
 have W2:=lH (bT W1.out hb)
 clear hb B1_a B1_b B1_z W1
 have ka0:=B2_a.cell 0 _ rfl
 have ka1:=B2_a.cell 1 _ rfl
 have kal:=B2_a.lt
 try simp at ka0 ka1 kal
 have kb0:=B2_b.cell 0 _ rfl
 have kb1:=B2_b.cell 1 _ rfl
 have kbl:=B2_b.lt
 try simp at kb0 kb1 kbl
 have kz0:=B2_z.cell 0 _ rfl
 have kz1:=B2_z.cell 1 _ rfl
 have kzl:=B2_z.lt
 try simp at kz0 kz1 kzl
 have zf0:=B2_z.free 0 (by simp)
 have zf1:=B2_z.free 1 (by simp)
 try simp at zf0 zf1
 go_wp2_with fail
 obtain⟨w1',w2',w3',w4'⟩:=HA.out
 go_big_quiet ((go_at_call 76;exact zAt (zAp _ _ (by omega) (by omega))))
 rename Nat=>nq1
 clear w1' w2' w3' w4'
 have WD1:=lH (zAb W2.out nq1)
 have yb0:(w2.drewN nq1).cell? ⟨w.heap.size+1,0,none⟩=some (.int .i64 b):=by first|(simpa using kb0)|(simpa using yb0)
 have yb1:(w2.drewN nq1).cell? ⟨w.heap.size+1,1,none⟩=some (.int .i64 t):=by first|(simpa using kb1)|(simpa using yb1)
 have yz0:(w2.drewN nq1).cell? ⟨w.heap.size+2,0,none⟩=some (.int .i64 0):=by first|(simpa using kz0)|(simpa using yz0)
 have yz1:(w2.drewN nq1).cell? ⟨w.heap.size+2,1,none⟩=some (.int .i64 0):=by first|(simpa using kz1)|(simpa using yz1)
 have zg0:(w2.drewN nq1).frozen? ⟨w.heap.size+2,0,none⟩=false:=by first|(simpa using zf0)|(simpa using zg0)
 have zg1:(w2.drewN nq1).frozen? ⟨w.heap.size+2,1,none⟩=false:=by first|(simpa using zf1)|(simpa using zg1)
 have ylz:w.heap.size+2<(w2.drewN nq1).heap.size:=by simpa using kzl
 clear ka0 ka1 kal kb0 kb1 kbl kz0 kz1 kzl W2 zf0 zf1 B2_a B2_b B2_z
 generalize w2.drewN nq1=w3 at*
 go_wp2_with fail
 obtain⟨w1',w2',w3',w4'⟩:=HB.out
 go_big_quiet ((go_at_call 76;exact zAt (zAp _ _ (by omega) (by omega))))
 rename Nat=>nq2
 clear w1' w2' w3' w4'
 have WD2:=lH (zAb WD1.out nq2)
 have qyz0:(w3.drewN nq2).cell? ⟨w.heap.size+2,0,none⟩=some (.int .i64 0):=by simpa using yz0
 have qyz1:(w3.drewN nq2).cell? ⟨w.heap.size+2,1,none⟩=some (.int .i64 0):=by simpa using yz1
 have qzg0:(w3.drewN nq2).frozen? ⟨w.heap.size+2,0,none⟩=false:=by simpa using zg0
 have qzg1:(w3.drewN nq2).frozen? ⟨w.heap.size+2,1,none⟩=false:=by simpa using zg1
 have qlz:w.heap.size+2<(w3.drewN nq2).heap.size:=by simpa using ylz
 clear WD1 yb0 yb1 yz0 yz1 zg0 zg1 ylz
 generalize w3.drewN nq2=w4 at*
 go_wp2_with fail
 obtain⟨w1',w2'⟩:=HC.out
 go_big_quiet ((go_at_call 74;exact zAt (zAI _ _ (by omega) (by omega))))
 clear w1' w2'
 have hv':=HV.out
 go_wp2_with (go_at_call 74;refine(zAI _ _ (by omega) (by omega)).mono ?_;rintro e w' ⟨rfl,rfl⟩)
 refine bodyPost_ret (v:= .tuple #[.agg #[.int .i64 0,.int .i64 0],.bool false]) (by simp[results,Tryz.results48,go_sem,qyz0,qyz1]) rfl ⟨rfl,?_⟩
 repeat(first|exact WD2.out|refine zAb ?_ _|refine Below.setCell ?_ (by simp;omega) _)

theorem zNG (a s b t:Int) (w:World) (ha:okD a s) (hb':okD b t) (hf: ¬1000000000000000/P10 (Dcm.addS s t)+2<mag (flo a s+flo b t)) (hn: ¬1000000000000000<mag (Dcm.addC a s b t)):
  Calls Tryz.prog 48 #[.agg #[.int .i64 a,.int .i64 s],.agg #[.int .i64 b,.int .i64 t]] w fun e w'=>e= .returned (.tuple #[.agg #[.int .i64 (Dcm.addC a s b t),.int .i64 (Dcm.addS s t)],.bool true])∧Below w.heap.size w w':=by
 have CA:=lH fun w=>zAL a s w ha
 have CB:=lH fun w=>zAL b t w hb'
 have fa:=Dcm.zBl a s ⟨ha.2.2.1,ha.2.2.2⟩
 have fb:=Dcm.zBl b t ⟨hb'.2.2.1,hb'.2.2.2⟩
 have ea:=Dcm.zAW a s
 have eb:=Dcm.zAW b t
 have aF:=Dcm.zEf a s b t ha hb'
 have xa:=Dcm.zAZ a s
 have xb:=Dcm.zAZ b t
 have ua:=Dcm.zAj s
 have ub:=Dcm.zAj t
 have uS:=Dcm.zAj (Dcm.addS s t)
 have mb:=Dcm.zB2 (flo a s+flo b t)
 have hS:s≤Dcm.addS s t∧t≤Dcm.addS s t∧Dcm.addS s t≤9:=by have:=ha.2.1;have:=hb'.2.1;unfold Dcm.addS;split<;>omega
 have hmx:max s t=Dcm.addS s t:=by unfold Dcm.addS;split<;>omega
 have qb:0≤1000000000000000/P10 (Dcm.addS s t):=Int.ediv_nonneg (by omega) (by omega)
 have qb1:1000000000000000/P10 (Dcm.addS s t)≤1000000000000000:=Int.ediv_le_self _ (by omega)
 have nr:=Dcm.zGg (flo a s) (flo b t) (P10 (Dcm.addS s t)) uS.1 uS.2 hf
 obtain⟨s0,s9,a0,a1⟩:=ha
 obtain⟨t0,t9,b0,b1⟩:=hb'
 obtain⟨aF1,aF2,aF3,aF4,aF5⟩:=aF
 generalize Dcm.addC a s b t=V at*
 generalize Dcm.addS s t=S at*
 generalize flo a s=X at*
 generalize flo b t=Y at*
 generalize lef a s=p at*
 generalize lef b t=q at*
 have ha1:a-X*P10 s=p:=by omega
 have hb1:b-Y*P10 t=q:=by omega
 have w1:IntKind.i64.wrap (X*P10 s)=X*P10 s:=IntWalk.i64_in _ (by omega)
 have w2:IntKind.i64.wrap (a-X*P10 s)=p:=by rw[IntWalk.i64_in _ (by omega)];exact ha1
 have w3:IntKind.i64.wrap (p*P10 (S-s))=p*P10 (S-s):=IntWalk.i64_in _ (by omega)
 have w4:IntKind.i64.wrap (Y*P10 t)=Y*P10 t:=IntWalk.i64_in _ (by omega)
 have w5:IntKind.i64.wrap (b-Y*P10 t)=q:=by rw[IntWalk.i64_in _ (by omega)];exact hb1
 have w6:IntKind.i64.wrap (q*P10 (S-t))=q*P10 (S-t):=IntWalk.i64_in _ (by omega)
 have w7:IntKind.i64.wrap (S-s)=S-s:=IntWalk.i64_in _ (by omega)
 have w8:IntKind.i64.wrap (S-t)=S-t:=IntWalk.i64_in _ (by omega)
 have w9:IntKind.i64.wrap (X+Y)=X+Y:=IntWalk.i64_in _ (by omega)
 have wa:IntKind.i64.wrap (1000000000000000/P10 S+2)=1000000000000000/P10 S+2:=IntWalk.i64_in _ (by omega)
 have HA:=lH (And.intro w1 (And.intro w2 (And.intro w3 w7)))
 have HB:=lH (And.intro w4 (And.intro w5 (And.intro w6 w8)))
 have HC:=lH (And.intro w9 wa)
 have d1:decide (1000000000000000/P10 S+2<mag (X+Y))=false:=zAa hf
 obtain⟨n0,n1,n2,n3⟩:=nr
 have HV:=lH aF1
 have d2:decide (1000000000000000<mag V)=false:=zAa hn
 have vb: -1000006000000000≤V∧V≤1000006000000000:=by omega
 obtain⟨v0,v1⟩:=vb
 have HM:=lH hmx
 clear w1 w2 w3 w4 w5 w6 w7 w8 w9 wa ha1 hb1 ea eb aF1 hf hmx hn
 go_enter Tryz.func48,Tryz.ntmps48
 have hmx:=HM.out
 go_wp2_with fail
 clear hmx
 refine(zAp _ _ (by omega) (by omega)).mono ?_
 rintro e w' ⟨rfl,rfl⟩
 go_wp2_with fail
 refine(CA.out _).mono ?_
 rintro e w1 ⟨rfl,hb⟩
 have B1_a:=Boxed.below (Boxed.alloc (Boxed.alloc (Boxed.made _ #[.int .i64 a,.int .i64 s] 64) _) _) hb
 have B1_b:=Boxed.below (Boxed.alloc (Boxed.made _ #[.int .i64 b,.int .i64 t] 64) _) hb
 have B1_z:=Boxed.below (Boxed.made _ #[.int .i64 0,.int .i64 0] 64) hb
 have W1:=lH (bT (bT (bT (bT (Below.refl w.heap.size w) (bA _ _)) (bA _ _)) (bA _ _)) hb)
 clear hb
 have ka0:=B1_a.cell 0 _ rfl
 have ka1:=B1_a.cell 1 _ rfl
 have kal:=B1_a.lt
 try simp at ka0 ka1 kal
 have kb0:=B1_b.cell 0 _ rfl
 have kb1:=B1_b.cell 1 _ rfl
 have kbl:=B1_b.lt
 try simp at kb0 kb1 kbl
 have kz0:=B1_z.cell 0 _ rfl
 have kz1:=B1_z.cell 1 _ rfl
 have kzl:=B1_z.lt
 try simp at kz0 kz1 kzl
 go_wp2_with fail
 refine(CB.out _).mono ?_
 rintro e w2 ⟨rfl,hb⟩
 clear ka0 ka1 kal kb0 kb1 kbl kz0 kz1 kzl
 have B2_a:=B1_a.below hb
 have B2_b:=B1_b.below hb
 have B2_z:=B1_z.below hb
 have W2:=lH (bT W1.out hb)
 clear hb B1_a B1_b B1_z W1
 have ka0:=B2_a.cell 0 _ rfl
 have ka1:=B2_a.cell 1 _ rfl
 have kal:=B2_a.lt
 try simp at ka0 ka1 kal
 have kb0:=B2_b.cell 0 _ rfl
 have kb1:=B2_b.cell 1 _ rfl
 have kbl:=B2_b.lt
 try simp at kb0 kb1 kbl
 have kz0:=B2_z.cell 0 _ rfl
 have kz1:=B2_z.cell 1 _ rfl
 have kzl:=B2_z.lt
 try simp at kz0 kz1 kzl
 have zf0:=B2_z.free 0 (by simp)
 have zf1:=B2_z.free 1 (by simp)
 try simp at zf0 zf1
 go_wp2_with fail
 obtain⟨w1',w2',w3',w4'⟩:=HA.out
 go_big_quiet ((go_at_call 76;exact zAt (zAp _ _ (by omega) (by omega))))
 rename Nat=>nq1
 clear w1' w2' w3' w4'
 have WD1:=lH (zAb W2.out nq1)
 have yb0:(w2.drewN nq1).cell? ⟨w.heap.size+1,0,none⟩=some (.int .i64 b):=by first|(simpa using kb0)|(simpa using yb0)
 have yb1:(w2.drewN nq1).cell? ⟨w.heap.size+1,1,none⟩=some (.int .i64 t):=by first|(simpa using kb1)|(simpa using yb1)
 have yz0:(w2.drewN nq1).cell? ⟨w.heap.size+2,0,none⟩=some (.int .i64 0):=by first|(simpa using kz0)|(simpa using yz0)
 have yz1:(w2.drewN nq1).cell? ⟨w.heap.size+2,1,none⟩=some (.int .i64 0):=by first|(simpa using kz1)|(simpa using yz1)
 have zg0:(w2.drewN nq1).frozen? ⟨w.heap.size+2,0,none⟩=false:=by first|(simpa using zf0)|(simpa using zg0)
 have zg1:(w2.drewN nq1).frozen? ⟨w.heap.size+2,1,none⟩=false:=by first|(simpa using zf1)|(simpa using zg1)
 have ylz:w.heap.size+2<(w2.drewN nq1).heap.size:=by simpa using kzl
 clear ka0 ka1 kal kb0 kb1 kbl kz0 kz1 kzl W2 zf0 zf1 B2_a B2_b B2_z
 generalize w2.drewN nq1=w3 at*
 go_wp2_with fail
 obtain⟨w1',w2',w3',w4'⟩:=HB.out
 go_big_quiet ((go_at_call 76;exact zAt (zAp _ _ (by omega) (by omega))))
 rename Nat=>nq2
 clear w1' w2' w3' w4'
 have WD2:=lH (zAb WD1.out nq2)
 have qyz0:(w3.drewN nq2).cell? ⟨w.heap.size+2,0,none⟩=some (.int .i64 0):=by simpa using yz0
 have qyz1:(w3.drewN nq2).cell? ⟨w.heap.size+2,1,none⟩=some (.int .i64 0):=by simpa using yz1
 have qzg0:(w3.drewN nq2).frozen? ⟨w.heap.size+2,0,none⟩=false:=by simpa using zg0
 have qzg1:(w3.drewN nq2).frozen? ⟨w.heap.size+2,1,none⟩=false:=by simpa using zg1
 have qlz:w.heap.size+2<(w3.drewN nq2).heap.size:=by simpa using ylz
 clear WD1 yb0 yb1 yz0 yz1 zg0 zg1 ylz
 generalize w3.drewN nq2=w4 at*
 go_wp2_with fail
 obtain⟨w1',w2'⟩:=HC.out
 go_big_quiet ((go_at_call 74;exact zAt (zAI _ _ (by omega) (by omega))))
 clear w1' w2'
 have hv':=HV.out
 go_wp2_with (go_at_call 74;refine(zAI _ _ (by omega) (by omega)).mono ?_;rintro e w' ⟨rfl,rfl⟩)
 refine bodyPost_ret (v:= .tuple #[.agg #[.int .i64 V,.int .i64 S],.bool true]) (by simp[results,Tryz.results48,go_sem,qyz0,qyz1]) rfl ⟨rfl,?_⟩
 repeat(first|exact WD2.out|refine zAb ?_ _|refine Below.setCell ?_ (by simp;omega) _)

theorem zMX (a s b t:Int) (w:World) (h:addOk a s b t):
  Calls Tryz.prog 48 #[.agg #[.int .i64 a,.int .i64 s],.agg #[.int .i64 b,.int .i64 t]] w fun e w'=>e= .returned (.tuple #[.agg #[.int .i64 (Dcm.addC a s b t),.int .i64 (Dcm.addS s t)],.bool true])∧Below w.heap.size w w':=by
 obtain⟨ha,hb,h1,h2⟩:=h
 have hn: ¬1000000000000000<mag (Dcm.addC a s b t):=by unfold mag;split<;>omega
 refine zNG a s b t w ha hb (fun hf=>hn ?_) hn
 have F:=Dcm.zEf a s b t ha hb
 have:=Dcm.zMc (flo a s) (flo b t) _ _ (P10 (Dcm.addS s t)) (Dcm.zAj _).1 ⟨F.2.1,F.2.2.1⟩ ⟨F.2.2.2.1,F.2.2.2.2⟩ hf
 rwa [F.1] at this
theorem zMY (a s b t:Int) (w:World) (ha:okD a s) (hb:okD b t) (h: ¬addOk a s b t):
  Calls Tryz.prog 48 #[.agg #[.int .i64 a,.int .i64 s],.agg #[.int .i64 b,.int .i64 t]] w fun e w'=>e= .returned (.tuple #[.agg #[.int .i64 0,.int .i64 0],.bool false])∧Below w.heap.size w w':=by
 by_cases hf:1000000000000000/P10 (Dcm.addS s t)+2<mag (flo a s+flo b t)
 ·exact zMW a s b t w ha hb hf
 exact zNF a s b t w ha hb hf (by
  rcases Int.lt_or_le 1000000000000000 (mag (Dcm.addC a s b t)) with g|g
  ·exact g
  exact absurd ⟨ha,hb,by unfold mag at g;split at g<;>omega,by unfold mag at g;split at g<;>omega⟩ h)
end Go.Proofs.YtjlchookakbomaaGreatDoor
