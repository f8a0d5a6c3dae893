/- The walks of package dec: compared, right, Less, Same: values compared. No conditions but the arguments' own. -/
import Derived.Test.YtjlchookakbomaaGreatDoorEi6
set_option maxHeartbeats 4000000
set_option maxRecDepth 100000
namespace Go.Proofs.YtjlchookakbomaaGreatDoor
open Go.RowKit
open Dcm (okD)
def yV (pt cm:UInt8):Value:= .agg #[.int .u8 (pt.toNat:Int),.int .u8 (cm.toNat:Int)]
theorem zH6 (s:List UInt8) (w:World):Calls Tryz.prog 89 #[.string ⟨s.toArray⟩,.string ⟨#[45]⟩] w fun e w'=>e= .returned (.tuple #[.string ⟨(Lib.trimPrefix s [45]).toArray⟩,.bool (Lib.hasPrefix s [45])])∧w'=w:=
 Tryz.strings_CutPrefix ⟨s.toArray⟩ ⟨#[45]⟩ w

theorem zL7 (p:Nt.Pt) (pt cm:UInt8) (c s:Int) (w:World) (h1:p.pre.length≤1000000000) (h2:p.suf.length≤1000000000) (hE:Nt.fmtE p pt cm c s≠0):
  Calls Tryz.prog 54 #[pV p,yV pt cm,.agg #[.int .i64 c,.int .i64 s]] w fun e w'=>e= .returned (.tuple #[.string ⟨#[]⟩,errV (Nt.fmtE p pt cm c s)])∧Below w.heap.size w w':=by
 have CK:=lH fun w=>zHv p pt cm w h1 h2
 unfold Nt.fmtE at hE⊢
 generalize Nt.allE p pt cm=E at*
 unfold pV yV at*
 obtain⟨pre,suf,mi,nf,mf,g,g2⟩:=p
 simp only at*
 have X0:=lH (Bx.made w #[.string ⟨pre.toArray⟩,.string ⟨suf.toArray⟩,.int .i64 mi,.int .i64 nf,.int .i64 mf,.int .i64 g,.int .i64 g2] #[.int .u8 (pt.toNat:Int),.int .u8 (cm.toNat:Int)] (.int .i64 c) (.int .i64 s) 123 125 64)
 by_cases h0:E=0
 ·subst h0
  rw[show errN 0= .nilIface from rfl] at CK
  rw[if_neg (by simp)] at hE⊢
  by_cases hd:0≤s∧s≤9∧ -1000000000000000≤c∧c≤1000000000000000
  ·rw[if_pos hd] at hE;exact absurd rfl hE
  rw[if_neg hd]
  have CD:=lH fun w=>zDu c s w hd
  clear hE hd h1 h2
  go_enter Tryz.func54,Tryz.ntmps54
  go_wp2_with fail
  refine(CK.out _).mono ?_
  rintro e w1 ⟨rfl,hb⟩
  have X1:=lH (X0.out.below hb)
  clear hb X0
  have cp0:=X1.out.p.cell 0 _ rfl
  have cp1:=X1.out.p.cell 1 _ rfl
  have cp2:=X1.out.p.cell 2 _ rfl
  have cp3:=X1.out.p.cell 3 _ rfl
  have cp4:=X1.out.p.cell 4 _ rfl
  have cp5:=X1.out.p.cell 5 _ rfl
  have cp6:=X1.out.p.cell 6 _ rfl
  have cy0:=X1.out.y.cell 0 _ rfl
  have cy1:=X1.out.y.cell 1 _ rfl
  have cd0:=X1.out.d.cell 0 _ rfl
  have cd1:=X1.out.d.cell 1 _ rfl
  have clp:=X1.out.p.lt
  have cly:=X1.out.y.lt
  have cld:=X1.out.d.lt
  go_wp2_with fail
  refine(CD.out _).mono ?_
  rintro e w2 ⟨rfl,hb⟩
  have X2:=lH (X1.out.below hb)
  clear hb X1
  clear cp0 cp1 cp2 cp3 cp4 cp5 cp6 cy0 cy1 cd0 cd1 clp cly cld
  go_wp2_with fail
  go_ret2
  exact⟨rfl,X2.out.b⟩
 rw[show errN E=errV E from if_neg h0] at CK
 rw[if_pos h0]
 clear hE h1 h2 h0
 go_enter Tryz.func54,Tryz.ntmps54
 go_wp2_with fail
 refine(CK.out _).mono ?_
 rintro e w1 ⟨rfl,hb⟩
 have X1:=lH (X0.out.below hb)
 clear hb X0
 go_wp2_with fail
 go_ret2
 exact⟨rfl,X1.out.b⟩

theorem zKu (p:Nt.Pt) (pt cm:UInt8) (c s:Int) (w:World) (hT:PowW w) (hM:MaxW w) (h1:p.pre.length≤1000000000) (h2:p.suf.length≤1000000000) (hE:Nt.fmtE p pt cm c s=0):
  Calls Tryz.prog 54 #[pV p,yV pt cm,.agg #[.int .i64 c,.int .i64 s]] w fun e w'=>e= .returned (.tuple #[.string ⟨(Nt.shown p pt cm c s).toArray⟩,.nilIface])∧Below w.heap.size w w':=by
 obtain⟨hp,hy,hd⟩:=Nt.zNp hE
 have CK:=lH fun w=>zHv p pt cm w h1 h2
 have eE:Nt.allE p pt cm=0:=by unfold Nt.allE;rw[if_neg (by omega),if_pos hy]
 rw[eE,show errN 0= .nilIface from rfl] at CK
 have ps:=Nt.zAV (Nt.zF7 hp).2.2.1
 obtain⟨y1,y2,y3⟩:=Nt.zL5 hy
 have ncm: ¬(48≤(cm.toNat:Int)∧(cm.toNat:Int)≤57):=by
  have:cm=46∨cm=44∨cm=39∨cm=95:=by simpa[Nt.sgnL] using y3
  rcases this with rfl|rfl|rfl|rfl<;>decide
 obtain⟨t1,t2,t3⟩:=Nt.zCM c s hd
 obtain⟨r1,r2,r3⟩:=Nt.zDW p.mf c s hd (by omega) (by omega)
 have CD:=lH fun w=>zAx c s w hd
 have CT1:=lH fun w=>zDG c s w hd
 have CR:Hid (p.mf<(Nt.trim c s).2→okD (Dcm.rndC (Nt.trim c s).1 (Nt.trim c s).2 p.mf 5) p.mf∧ ∀w,Calls Tryz.prog 87 #[.agg #[.int .i64 (Nt.trim c s).1,.int .i64 (Nt.trim c s).2],.int .i64 p.mf,.int .i64 5] w fun e w'=>e= .returned (.tuple #[.agg #[.int .i64 (Dcm.rndC (Nt.trim c s).1 (Nt.trim c s).2 p.mf 5),.int .i64 p.mf],.nilIface])∧Below w.heap.size w w'):=lH fun hlt=>by
  have hz:rndE (Nt.trim c s).1 (Nt.trim c s).2 p.mf 5=0:=zBK.2 ⟨t1,by omega,by omega,by omega,by omega,fun h=>by omega⟩
  exact⟨zHz hz,fun w=>zJk _ _ _ _ w hz⟩
 have HR:Hid (Nt.red p.mf c s=if p.mf<(Nt.trim c s).2 then Nt.trim (Dcm.rndC (Nt.trim c s).1 (Nt.trim c s).2 p.mf 5) p.mf else Nt.trim c s):=lH rfl
 have hsh:Nt.shown p pt cm c s=Byt.sgn (Nt.red p.mf c s).1++Nt.body p pt cm (Nt.red p.mf c s).1 (Nt.red p.mf c s).2:=rfl
 rw[hsh]
 clear hsh
 generalize Nt.red p.mf c s=q at*
 obtain⟨a,b⟩:=q
 generalize Nt.trim c s=q at*
 obtain⟨tc,ts⟩:=q
 unfold pV yV at*
 obtain⟨pre,suf,mi,nf,mf,g,g2⟩:=p
 unfold Nt.body
 simp only at*
 have CX:=lH fun w hT=>zFc a b w hT r1
 have CC:=lH fun w hM=>zKt (Byt.decText a b) w hM (by have:=Byt.zBu a b r1;omega)
 rw[Nt.zKp] at CC
 simp only at CC
 have CP:=lH fun w=>zH6 (Byt.sgn a++Nt.wh a b) w
 rw[(Nt.zEe a b).1,(Nt.zEe a b).2] at CP
 have lw:=Nt.zF6 a b r1
 have lb:=Nt.zF4 a b
 have hwn:=Nt.zNO a b
 have hPD:List.replicate (mi.toNat-(Nt.wh a b).length) 48++Nt.wh a b=Nt.pad mi a b:=rfl
 have hFR:Nt.bh a b++List.replicate (nf.toNat-(Nt.bh a b).length) 48=Nt.fr nf a b:=rfl
 have hdg:digB (Nt.pad mi a b)=true:=Nt.zNP (Nt.zL4 _ _ _) (by rw[←hPD];simp[hwn])
 have r9:b≤9:=r1.2.1
 have r0:0≤b:=r1.1
 have lpd:(Nt.pad mi a b).length≤200:=by rw[←hPD,List.length_append,List.length_replicate];omega
 have lfr:(Nt.fr nf a b).length≤200:=by rw[←hFR,List.length_append,List.length_replicate];omega
 have CU:=lH fun w=>zNq (Nt.pad mi a b) g g2 cm w (by omega) hdg ncm ⟨by omega,by omega,by omega,by omega⟩
 have lgo:=zDV (Nt.pad mi a b) g g2 cm
 have hm:(a<0∧Byt.sgn a= [45])∨(¬a<0∧Byt.sgn a= []):=by
  by_cases h0:a<0
  ·exact .inl ⟨h0,if_pos h0⟩
  exact .inr ⟨h0,if_neg h0⟩
 have hMd: ∃m:Bool,m=decide (a<0):=⟨_,rfl⟩
 obtain⟨m,hMd⟩:=hMd
 rw[←hMd] at CP
 have hm':(m=true∧Byt.sgn a= [45])∨(m=false∧Byt.sgn a= []):=by
  rcases hm with⟨h0,h⟩|⟨h0,h⟩
  ·exact .inl ⟨by rw[hMd,decide_eq_true h0],h⟩
  exact .inr ⟨by rw[hMd,decide_eq_false h0],h⟩
 clear hm hMd hwn y1 y2 y3 ncm hdg hE hy eE hp
 generalize Byt.decText a b=X at*
 generalize Nt.pad mi a b=PD at*
 generalize Nt.fr nf a b=FR at*
 generalize gout PD g g2 cm=GO at*
 generalize Byt.sgn a++Nt.wh a b=HD at*
 generalize Nt.wh a b=WH at*
 generalize Nt.bh a b=BH at*
 obtain⟨n1,hn1⟩: ∃n,n=nf.toNat-BH.length:=⟨_,rfl⟩
 obtain⟨n2,hn2⟩: ∃n,n=mi.toNat-WH.length:=⟨_,rfl⟩
 rw[←hn1] at hFR
 rw[←hn2] at hPD
 have C1:=lH fun w=>zCs n1 w (by omega)
 have C2:=lH fun w=>zCs n2 w (by omega)
 have m1:max (0:Int) (nf-(BH.length:Int))=(n1:Int):=by omega
 have m2:max (0:Int) (mi-(WH.length:Int))=(n2:Int):=by omega
 have i1:IntKind.i64.wrap (nf-(BH.length:Int))=nf-(BH.length:Int):=IntWalk.i64_in _ (by omega)
 have i2:IntKind.i64.wrap (mi-(WH.length:Int))=mi-(WH.length:Int):=IntWalk.i64_in _ (by omega)
 have lr1:(List.replicate n1 (48:UInt8)).length=n1:=List.length_replicate
 have lr2:(List.replicate n2 (48:UInt8)).length=n2:=List.length_replicate
 generalize List.replicate n1 (48:UInt8)=R1 at*
 generalize List.replicate n2 (48:UInt8)=R2 at*
 have A1: ∀w,(Op.stringOp .add ⟨BH.toArray⟩ ⟨R1.toArray⟩).run Tryz.prog w= .ok (.string ⟨FR.toArray⟩) w:=fun w=>by rw[←hFR];exact zAh (P:= Tryz.prog) BH R1 (by omega) w
 have A2: ∀w,(Op.stringOp .add ⟨R2.toArray⟩ ⟨WH.toArray⟩).run Tryz.prog w= .ok (.string ⟨PD.toArray⟩) w:=fun w=>by rw[←hPD];exact zAh (P:= Tryz.prog) R2 WH (by omega) w
 obtain⟨TL,hTL⟩: ∃TL,TL=Nt.tail pt FR:=⟨_,rfl⟩
 rw[←hTL]
 have lTL:TL.length≤201:=by rw[hTL];unfold Nt.tail;split<;>simp;omega
 obtain⟨G1,hG1⟩: ∃G1,G1=GO++TL:=⟨_,rfl⟩
 rw[←hG1]
 have lG1:G1.length≤601:=by rw[hG1,List.length_append];omega
 obtain⟨Z1,hZ1⟩: ∃Z1,Z1=pre++G1:=⟨_,rfl⟩
 rw[←hZ1]
 have lZ1:Z1.length≤1000000601:=by rw[hZ1,List.length_append];omega
 obtain⟨Z2,hZ2⟩: ∃Z2,Z2=Z1++suf:=⟨_,rfl⟩
 rw[←hZ2]
 have lZ2:Z2.length≤2000000601:=by rw[hZ2,List.length_append];omega
 have A3: ∀w,(Op.stringOp .add ⟨pre.toArray⟩ ⟨G1.toArray⟩).run Tryz.prog w= .ok (.string ⟨Z1.toArray⟩) w:=fun w=>by rw[hZ1];exact zAh (P:= Tryz.prog) pre G1 (by omega) w
 have A4: ∀w,(Op.stringOp .add ⟨Z1.toArray⟩ ⟨suf.toArray⟩).run Tryz.prog w= .ok (.string ⟨Z2.toArray⟩) w:=fun w=>by rw[hZ2];exact zAh (P:= Tryz.prog) Z1 suf (by omega) w
 have A5: ∀w,(Op.stringOp .add ⟨#[45]⟩ ⟨Z2.toArray⟩).run Tryz.prog w= .ok (.string ⟨([45]++Z2).toArray⟩) w:=fun w=>zAh (P:= Tryz.prog) [45] Z2 (by simp;omega) w
 have A6:FR≠ []→ ∀w,(Op.stringOp .add ⟨[pt].toArray⟩ ⟨FR.toArray⟩).run Tryz.prog w= .ok (.string ⟨TL.toArray⟩) w:=fun hf w=>by
  have e:TL= [pt]++FR:=by rw[hTL];unfold Nt.tail;rw[if_neg hf];rfl
  rw[e];exact zAh (P:= Tryz.prog) [pt] FR (by simp;omega) w
 have A7: ∀w,(Op.stringOp .add ⟨GO.toArray⟩ ⟨TL.toArray⟩).run Tryz.prog w= .ok (.string ⟨G1.toArray⟩) w:=fun w=>by rw[hG1];exact zAh (P:= Tryz.prog) GO TL (by omega) w
 have hnil:FR= []→G1=GO:=fun hf=>by rw[hG1,hTL,hf];unfold Nt.tail;simp
 have HA6:=lH A6
 have HA345:=lH (And.intro A3 (And.intro A4 A5))
 have HA7:=lH A7
 have HA1:=lH A1
 have HA2:=lH A2
 have HI:=lH (And.intro m1 (And.intro m2 (And.intro i1 i2)))
 have Hnil:=lH hnil
 have Hm:=lH hm'
 clear A1 A2 A3 A4 A5 A6 A7 m1 m2 i1 i2 hnil hm' hZ1 hZ2 hG1 hTL lZ1 lZ2 lG1 lTL hFR hPD hn1 hn2 lr1 lr2 lw lb lpd lfr lgo h1 h2 ps r0 r9
 generalize Byt.sgn a=SG at*
 have HT:=lH hT
 have HM:=lH hM
 clear hT hM
 have X0:=lH (Bx.made w #[.string ⟨pre.toArray⟩,.string ⟨suf.toArray⟩,.int .i64 mi,.int .i64 nf,.int .i64 mf,.int .i64 g,.int .i64 g2] #[.int .u8 (pt.toNat:Int),.int .u8 (cm.toNat:Int)] (.int .i64 c) (.int .i64 s) 123 125 64)
 clear hd
 go_enter Tryz.func54,Tryz.ntmps54
 go_wp2_with fail
 refine(CK.out _).mono ?_
 rintro e w1 ⟨rfl,hb⟩
 have X1:=lH (X0.out.below hb)
 clear hb X0 CK
 have cp0:=X1.out.p.cell 0 _ rfl
 have cp1:=X1.out.p.cell 1 _ rfl
 have cp2:=X1.out.p.cell 2 _ rfl
 have cp3:=X1.out.p.cell 3 _ rfl
 have cp4:=X1.out.p.cell 4 _ rfl
 have cp5:=X1.out.p.cell 5 _ rfl
 have cp6:=X1.out.p.cell 6 _ rfl
 have cy0:=X1.out.y.cell 0 _ rfl
 have cy1:=X1.out.y.cell 1 _ rfl
 have cd0:=X1.out.d.cell 0 _ rfl
 have cd1:=X1.out.d.cell 1 _ rfl
 have clp:=X1.out.p.lt
 have cly:=X1.out.y.lt
 have cld:=X1.out.d.lt
 go_wp2_with fail
 refine(CD.out _).mono ?_
 rintro e w2 ⟨rfl,hb⟩
 have X2:=lH (X1.out.below hb)
 clear hb X1 CD
 clear cp0 cp1 cp2 cp3 cp4 cp5 cp6 cy0 cy1 cd0 cd1 clp cly cld
 have cp0:=X2.out.p.cell 0 _ rfl
 have cp1:=X2.out.p.cell 1 _ rfl
 have cp2:=X2.out.p.cell 2 _ rfl
 have cp3:=X2.out.p.cell 3 _ rfl
 have cp4:=X2.out.p.cell 4 _ rfl
 have cp5:=X2.out.p.cell 5 _ rfl
 have cp6:=X2.out.p.cell 6 _ rfl
 have cy0:=X2.out.y.cell 0 _ rfl
 have cy1:=X2.out.y.cell 1 _ rfl
 have cd0:=X2.out.d.cell 0 _ rfl
 have cd1:=X2.out.d.cell 1 _ rfl
 have clp:=X2.out.p.lt
 have cly:=X2.out.y.lt
 have cld:=X2.out.d.lt
 go_wp2_with fail
 refine(CT1.out _).mono ?_
 rintro e w3 ⟨rfl,hb⟩
 have X3:=lH (X2.out.below hb)
 clear hb X2 CT1
 clear cp0 cp1 cp2 cp3 cp4 cp5 cp6 cy0 cy1 cd0 cd1 clp cly cld
 have cp0:=X3.out.p.cell 0 _ rfl
 have cp1:=X3.out.p.cell 1 _ rfl
 have cp2:=X3.out.p.cell 2 _ rfl
 have cp3:=X3.out.p.cell 3 _ rfl
 have cp4:=X3.out.p.cell 4 _ rfl
 have cp5:=X3.out.p.cell 5 _ rfl
 have cp6:=X3.out.p.cell 6 _ rfl
 have cy0:=X3.out.y.cell 0 _ rfl
 have cy1:=X3.out.y.cell 1 _ rfl
 have cd0:=X3.out.d.cell 0 _ rfl
 have cd1:=X3.out.d.cell 1 _ rfl
 have cf0:=X3.out.d.free 0 (by simp)
 have cf1:=X3.out.d.free 1 (by simp)
 have clp:=X3.out.p.lt
 have cly:=X3.out.y.lt
 have cld:=X3.out.d.lt
 have X4:=lH (X3.out.store (.int .i64 tc) (.int .i64 ts))
 go_upto_if 35 with fail
 go_cut [] from 10 (fun wx=>Hid (Bx w #[.string ⟨pre.toArray⟩,.string ⟨suf.toArray⟩,.int .i64 mi,.int .i64 nf,.int .i64 mf,.int .i64 g,.int .i64 g2] #[.int .u8 (pt.toNat:Int),.int .u8 (cm.toNat:Int)] (.int .i64 a) (.int .i64 b) wx))
 case first=>
  generalize (w3.setCell ⟨w.heap.size+2,0,none⟩ (.int .i64 tc)).setCell ⟨w.heap.size+2,1,none⟩ (.int .i64 ts)=w4 at*
  clear cp0 cp1 cp2 cp3 cp4 cp5 cp6 cy0 cy1 cd0 cd1 cf0 cf1 clp cly cld
  have cp0:=X4.out.p.cell 0 _ rfl
  have cp1:=X4.out.p.cell 1 _ rfl
  have cp2:=X4.out.p.cell 2 _ rfl
  have cp3:=X4.out.p.cell 3 _ rfl
  have cp4:=X4.out.p.cell 4 _ rfl
  have cp5:=X4.out.p.cell 5 _ rfl
  have cp6:=X4.out.p.cell 6 _ rfl
  have cy0:=X4.out.y.cell 0 _ rfl
  have cy1:=X4.out.y.cell 1 _ rfl
  have cd0:=X4.out.d.cell 0 _ rfl
  have cd1:=X4.out.d.cell 1 _ rfl
  have cf0:=X4.out.d.free 0 (by simp)
  have cf1:=X4.out.d.free 1 (by simp)
  have clp:=X4.out.p.lt
  have cly:=X4.out.y.lt
  have cld:=X4.out.d.lt
  clear X3
  by_cases hlt:mf<ts
  ·have d0:decide (mf<ts)=true:=zAd hlt
   rw[d0]
   have hr:=HR.out
   rw[if_pos hlt] at hr
   obtain⟨ro,CRw⟩:=CR.out hlt
   have CRh:=lH CRw
   have CT2:=lH fun w=>zDG _ _ w ro
   rw[←hr] at CT2
   simp only at CT2
   clear hr HR CR CRw ro hlt
   generalize Dcm.rndC tc ts mf 5=RC at*
   go_wp2_with fail
   refine(CRh.out _).mono ?_
   rintro e w5 ⟨rfl,hb⟩
   have X5:=lH (X4.out.below hb)
   clear hb X4 CRh
   clear cp0 cp1 cp2 cp3 cp4 cp5 cp6 cy0 cy1 cd0 cd1 cf0 cf1 clp cly cld
   have cp0:=X5.out.p.cell 0 _ rfl
   have cp1:=X5.out.p.cell 1 _ rfl
   have cp2:=X5.out.p.cell 2 _ rfl
   have cp3:=X5.out.p.cell 3 _ rfl
   have cp4:=X5.out.p.cell 4 _ rfl
   have cp5:=X5.out.p.cell 5 _ rfl
   have cp6:=X5.out.p.cell 6 _ rfl
   have cy0:=X5.out.y.cell 0 _ rfl
   have cy1:=X5.out.y.cell 1 _ rfl
   have cd0:=X5.out.d.cell 0 _ rfl
   have cd1:=X5.out.d.cell 1 _ rfl
   have cf0:=X5.out.d.free 0 (by simp)
   have cf1:=X5.out.d.free 1 (by simp)
   have clp:=X5.out.p.lt
   have cly:=X5.out.y.lt
   have cld:=X5.out.d.lt
   have X6:=lH (X5.out.alloc (.cells #[.int .i64 RC,.int .i64 mf] 64))
   clear X5
   clear cp0 cp1 cp2 cp3 cp4 cp5 cp6 cy0 cy1 cd0 cd1 cf0 cf1 clp cly cld
   have cp0:=X6.out.p.cell 0 _ rfl
   have cp1:=X6.out.p.cell 1 _ rfl
   have cp2:=X6.out.p.cell 2 _ rfl
   have cp3:=X6.out.p.cell 3 _ rfl
   have cp4:=X6.out.p.cell 4 _ rfl
   have cp5:=X6.out.p.cell 5 _ rfl
   have cp6:=X6.out.p.cell 6 _ rfl
   have cy0:=X6.out.y.cell 0 _ rfl
   have cy1:=X6.out.y.cell 1 _ rfl
   have cd0:=X6.out.d.cell 0 _ rfl
   have cd1:=X6.out.d.cell 1 _ rfl
   have cf0:=X6.out.d.free 0 (by simp)
   have cf1:=X6.out.d.free 1 (by simp)
   have clp:=X6.out.p.lt
   have cly:=X6.out.y.lt
   have cld:=X6.out.d.lt
   go_wp2_with fail
   refine(CT2.out _).mono ?_
   rintro e w7 ⟨rfl,hb⟩
   have X7:=lH (X6.out.below hb)
   clear hb X6 CT2
   clear cp0 cp1 cp2 cp3 cp4 cp5 cp6 cy0 cy1 cd0 cd1 cf0 cf1 clp cly cld
   have cp0:=X7.out.p.cell 0 _ rfl
   have cp1:=X7.out.p.cell 1 _ rfl
   have cp2:=X7.out.p.cell 2 _ rfl
   have cp3:=X7.out.p.cell 3 _ rfl
   have cp4:=X7.out.p.cell 4 _ rfl
   have cp5:=X7.out.p.cell 5 _ rfl
   have cp6:=X7.out.p.cell 6 _ rfl
   have cy0:=X7.out.y.cell 0 _ rfl
   have cy1:=X7.out.y.cell 1 _ rfl
   have cd0:=X7.out.d.cell 0 _ rfl
   have cd1:=X7.out.d.cell 1 _ rfl
   have cf0:=X7.out.d.free 0 (by simp)
   have cf1:=X7.out.d.free 1 (by simp)
   have clp:=X7.out.p.lt
   have cly:=X7.out.y.lt
   have cld:=X7.out.d.lt
   have X8:=lH (X7.out.store (.int .i64 a) (.int .i64 b))
   go_wp2_with fail
   go_meet
   exact X8
  have d0:decide (mf<ts)=false:=zAa hlt
  rw[d0]
  have hr:=HR.out
  rw[if_neg hlt] at hr
  obtain⟨rfl,rfl⟩:=Prod.mk.inj hr
  go_wp2_with fail
  go_meet
  exact X4
 case rest=>
  have X9:=hcut
  clear hcut X4 X3 CR HR t1 t2 t3
  try clear cp0 cp1 cp2 cp3 cp4 cp5 cp6 cy0 cy1 cd0 cd1 cf0 cf1 clp cly cld
  have cp0:=X9.out.p.cell 0 _ rfl
  have cp1:=X9.out.p.cell 1 _ rfl
  have cp2:=X9.out.p.cell 2 _ rfl
  have cp3:=X9.out.p.cell 3 _ rfl
  have cp4:=X9.out.p.cell 4 _ rfl
  have cp5:=X9.out.p.cell 5 _ rfl
  have cp6:=X9.out.p.cell 6 _ rfl
  have cy0:=X9.out.y.cell 0 _ rfl
  have cy1:=X9.out.y.cell 1 _ rfl
  have cd0:=X9.out.d.cell 0 _ rfl
  have cd1:=X9.out.d.cell 1 _ rfl
  have clp:=X9.out.p.lt
  have cly:=X9.out.y.lt
  have cld:=X9.out.d.lt
  have pw:=lH (HT.out.below X9.out.b)
  go_wp2_with fail
  refine(CX.out _ pw.out).mono ?_
  rintro e w10 ⟨rfl,hb⟩
  have X10:=lH (X9.out.below hb)
  clear hb X9 CX pw
  clear cp0 cp1 cp2 cp3 cp4 cp5 cp6 cy0 cy1 cd0 cd1 clp cly cld
  have cp0:=X10.out.p.cell 0 _ rfl
  have cp1:=X10.out.p.cell 1 _ rfl
  have cp2:=X10.out.p.cell 2 _ rfl
  have cp3:=X10.out.p.cell 3 _ rfl
  have cp4:=X10.out.p.cell 4 _ rfl
  have cp5:=X10.out.p.cell 5 _ rfl
  have cp6:=X10.out.p.cell 6 _ rfl
  have cy0:=X10.out.y.cell 0 _ rfl
  have cy1:=X10.out.y.cell 1 _ rfl
  have cd0:=X10.out.d.cell 0 _ rfl
  have cd1:=X10.out.d.cell 1 _ rfl
  have clp:=X10.out.p.lt
  have cly:=X10.out.y.lt
  have cld:=X10.out.d.lt
  have mw:=lH (HM.out.below X10.out.b)
  go_wp2_with fail
  refine(CC.out _ mw.out).mono ?_
  rintro e w11 ⟨rfl,hb⟩
  have X11:=lH (X10.out.below hb)
  clear hb X10 CC mw
  clear cp0 cp1 cp2 cp3 cp4 cp5 cp6 cy0 cy1 cd0 cd1 clp cly cld
  have cp0:=X11.out.p.cell 0 _ rfl
  have cp1:=X11.out.p.cell 1 _ rfl
  have cp2:=X11.out.p.cell 2 _ rfl
  have cp3:=X11.out.p.cell 3 _ rfl
  have cp4:=X11.out.p.cell 4 _ rfl
  have cp5:=X11.out.p.cell 5 _ rfl
  have cp6:=X11.out.p.cell 6 _ rfl
  have cy0:=X11.out.y.cell 0 _ rfl
  have cy1:=X11.out.y.cell 1 _ rfl
  have cd0:=X11.out.d.cell 0 _ rfl
  have cd1:=X11.out.d.cell 1 _ rfl
  have clp:=X11.out.p.lt
  have cly:=X11.out.y.lt
  have cld:=X11.out.d.lt
  go_wp2_with fail
  refine(CP.out _).mono ?_
  rintro e w' ⟨rfl,rfl⟩
  clear CP
  obtain⟨m1,m2,i1,i2⟩:=HI.out
  have A1:=HA1.out
  go_wp2_with fail
  refine(C1.out _).mono ?_
  rintro e w12 ⟨rfl,hb⟩
  have X12:=lH (X11.out.below hb)
  clear hb X11 C1 m1 i1
  clear cp0 cp1 cp2 cp3 cp4 cp5 cp6 cy0 cy1 cd0 cd1 clp cly cld
  have cp0:=X12.out.p.cell 0 _ rfl
  have cp1:=X12.out.p.cell 1 _ rfl
  have cp2:=X12.out.p.cell 2 _ rfl
  have cp3:=X12.out.p.cell 3 _ rfl
  have cp4:=X12.out.p.cell 4 _ rfl
  have cp5:=X12.out.p.cell 5 _ rfl
  have cp6:=X12.out.p.cell 6 _ rfl
  have cy0:=X12.out.y.cell 0 _ rfl
  have cy1:=X12.out.y.cell 1 _ rfl
  have cd0:=X12.out.d.cell 0 _ rfl
  have cd1:=X12.out.d.cell 1 _ rfl
  have clp:=X12.out.p.lt
  have cly:=X12.out.y.lt
  have cld:=X12.out.d.lt
  have A2:=HA2.out
  go_wp2_with fail
  refine(C2.out _).mono ?_
  rintro e w13 ⟨rfl,hb⟩
  have X13:=lH (X12.out.below hb)
  clear hb X12 C2 m2 i2
  clear cp0 cp1 cp2 cp3 cp4 cp5 cp6 cy0 cy1 cd0 cd1 clp cly cld
  have cp0:=X13.out.p.cell 0 _ rfl
  have cp1:=X13.out.p.cell 1 _ rfl
  have cp2:=X13.out.p.cell 2 _ rfl
  have cp3:=X13.out.p.cell 3 _ rfl
  have cp4:=X13.out.p.cell 4 _ rfl
  have cp5:=X13.out.p.cell 5 _ rfl
  have cp6:=X13.out.p.cell 6 _ rfl
  have cy0:=X13.out.y.cell 0 _ rfl
  have cy1:=X13.out.y.cell 1 _ rfl
  have cd0:=X13.out.d.cell 0 _ rfl
  have cd1:=X13.out.d.cell 1 _ rfl
  have clp:=X13.out.p.lt
  have cly:=X13.out.y.lt
  have cld:=X13.out.d.lt
  go_wp2_with fail
  refine(CU.out _).mono ?_
  rintro e w14 ⟨rfl,hb⟩
  have X14:=lH (X13.out.below hb)
  clear hb X13 CU
  clear cp0 cp1 cp2 cp3 cp4 cp5 cp6 cy0 cy1 cd0 cd1 clp cly cld
  clear A1 A2
  have cp0:=X14.out.p.cell 0 _ rfl
  have cp1:=X14.out.p.cell 1 _ rfl
  have cp2:=X14.out.p.cell 2 _ rfl
  have cp3:=X14.out.p.cell 3 _ rfl
  have cp4:=X14.out.p.cell 4 _ rfl
  have cp5:=X14.out.p.cell 5 _ rfl
  have cp6:=X14.out.p.cell 6 _ rfl
  have cy0:=X14.out.y.cell 0 _ rfl
  have cy1:=X14.out.y.cell 1 _ rfl
  have cd0:=X14.out.d.cell 0 _ rfl
  have cd1:=X14.out.d.cell 1 _ rfl
  have clp:=X14.out.p.lt
  have cly:=X14.out.y.lt
  have cld:=X14.out.d.lt
  go_upto_if 93 with fail
  go_cut [16] from 93 (fun sv wx=>sv= .string ⟨G1.toArray⟩∧Hid (Bx w #[.string ⟨pre.toArray⟩,.string ⟨suf.toArray⟩,.int .i64 mi,.int .i64 nf,.int .i64 mf,.int .i64 g,.int .i64 g2] #[.int .u8 (pt.toNat:Int),.int .u8 (cm.toNat:Int)] (.int .i64 a) (.int .i64 b) wx))
  case first=>
   by_cases hf:FR= []
   ·have e1:=Hnil.out hf
    subst hf
    subst e1
    go_wp2_with fail
    go_meet
    exact⟨rfl,X14⟩
   have b0:FR.isEmpty=false:=List.isEmpty_eq_false_iff.2 hf
   simp only[b0,Bool.not_false]
   have A6:=HA6.out hf
   have A7:=HA7.out
   have CV:=zEF pt w14
   have X15:=lH (X14.out.alloc (.cells #[byV pt] 5))
   go_wp2_with fail
   go_meet
   exact⟨rfl,X15⟩
  case rest=>
   obtain⟨rfl,X16⟩:=hcut
   try clear cp0 cp1 cp2 cp3 cp4 cp5 cp6 cy0 cy1 cd0 cd1 clp cly cld
   have cp0:=X16.out.p.cell 0 _ rfl
   have cp1:=X16.out.p.cell 1 _ rfl
   have cp2:=X16.out.p.cell 2 _ rfl
   have cp3:=X16.out.p.cell 3 _ rfl
   have cp4:=X16.out.p.cell 4 _ rfl
   have cp5:=X16.out.p.cell 5 _ rfl
   have cp6:=X16.out.p.cell 6 _ rfl
   have clp:=X16.out.p.lt
   obtain⟨A3,A4,A5⟩:=HA345.out
   rcases Hm.out with⟨rfl,rfl⟩|⟨rfl,rfl⟩
   ·go_wp2_with fail
    go_ret2
    exact⟨rfl,X16.out.b⟩
   go_wp2_with fail
   go_ret2
   exact⟨rfl,X16.out.b⟩
def ftxt (p:Nt.Pt) (pt cm:UInt8) (c s:Int):List UInt8:=if Nt.fmtE p pt cm c s=0 then Nt.shown p pt cm c s else []
theorem zL8 (p:Nt.Pt) (pt cm:UInt8) (c s:Int) (w:World) (hT:PowW w) (hM:MaxW w) (h1:p.pre.length≤1000000000) (h2:p.suf.length≤1000000000):
  Calls Tryz.prog 54 #[pV p,yV pt cm,.agg #[.int .i64 c,.int .i64 s]] w fun e w'=>e= .returned (.tuple #[.string ⟨(ftxt p pt cm c s).toArray⟩,errN (Nt.fmtE p pt cm c s)])∧Below w.heap.size w w':=by
 unfold ftxt errN
 by_cases h:Nt.fmtE p pt cm c s=0
 ·rw[if_pos h,if_pos h];exact zKu p pt cm c s w hT hM h1 h2 h
 rw[if_neg h,if_neg h];exact zL7 p pt cm c s w h1 h2 h
open Go.RowKit Ms
open Dcm (okD)
namespace Ms
def lstO:Cs→Nat→Nat→Nat
 | [],_,b=>b
 |y::r,i,b=>lstO r (i+1) (if (y.1==other)=true then i else b)
theorem zFd: ∀(l:Cs) (y:List UInt8×List Nd) (i b:Nat),lstO (l++ [y]) i b=if (y.1==other)=true then i+l.length else lstO l i b
 | [],y,i,b=>rfl
 |z::l,y,i,b=>by
  show lstO (l++ [y]) (i+1) _=_
  rw[zFd l y (i+1)]
  show _=if _ then i+(l.length+1) else _
  rw[show i+1+l.length=i+(l.length+1) by omega]
  rfl
theorem zKv {cs:Cs} {k:Nat} {y:List UInt8×List Nd} (h:cs[k]?=some y):lstO (cs.take (k+1)) 0 0=if (y.1==other)=true then k else lstO (cs.take k) 0 0:=by
 have hk:=(List.getElem?_eq_some_iff.1 h).1
 rw[List.take_add_one,h,Option.toList_some,zFd,List.length_take,Nat.min_eq_left (by omega),Nat.zero_add]
def chW (cs:Cs) (t:List UInt8):Nat:=(keyI cs t).getD (lstO cs 0 0)
theorem zGf: ∀(l:Cs) (i b:Nat),(∀y∈l,(y.1==other)=false)→lstO l i b=b
 | [],_,_,_=>rfl
 |y::l,i,b,h=>by
  show lstO l (i+1) _=b
  rw[h y (by simp),if_neg (by simp)]
  exact zGf l _ _ fun z hz=>h z (by simp[hz])
theorem zFe: ∀(l:Cs) (i b:Nat),(l.map (·.1)).Nodup→lstO l i b=((keyI l other).map (i+ ·)).getD b
 | [],_,_,_=>rfl
 |y::l,i,b,h=>by
  rw[List.map_cons,List.nodup_cons] at h
  show lstO l (i+1) _=((List.findIdx? _ (y::l)).map (i+ ·)).getD b
  rw[List.findIdx?_cons]
  cases hy:y.1==other with
  |true=>
   rw[if_pos rfl,if_pos rfl,zGf]
   ·simp
   intro z hz
   have e:y.1=other:=by simpa using hy
   rw[beq_eq_false_iff_ne]
   intro e2
   exact h.1 (List.mem_map.2 ⟨z,hz,e2.trans e.symm⟩)
  |false=>
   rw[if_neg (by simp),if_neg (by simp),zFe l (i+1) b h.2]
   show _=(((keyI l other).map (· +1)).map (i+ ·)).getD b
   cases keyI l other with
   |none=>rfl
   |some j=>simp;omega
theorem zL9 {cs:Cs} (h:(cs.map (·.1)).Nodup) (t:List UInt8):chW cs t=choI cs t:=by
 unfold chW choI
 rw[zFe cs 0 0 h]
 cases keyI cs t with
 |some j=>rfl
 |none=>cases keyI cs other<;>simp
theorem zDv {cs:Cs} {t:List UInt8} {i:Nat} (h:keyI cs t=some i):i<cs.length:=by
 have:=List.findIdx?_eq_some_iff_findIdx_eq.1 h
 exact this.1
theorem zHA {cs:Cs} (h:cs≠ []) (t:List UInt8):choI cs t<cs.length:=by
 have h0:0<cs.length:=List.length_pos_iff.2 h
 unfold choI
 cases h1:keyI cs t with
 |some j=>exact zDv h1
 |none=>
  cases h2:keyI cs other with
  |some j=>exact zDv h2
  |none=>exact h0
theorem zHB {E:Ev} {cs:Cs} (h:cs≠ []) (c s lc ls:Int):cntI E cs c s lc ls<cs.length:=by
 have h0:0<cs.length:=List.length_pos_iff.2 h
 unfold cntI
 cases h1:exI E cs c s with
 |some j=>exact(List.findIdx?_eq_some_iff_findIdx_eq.1 h1).1
 |none=>
  cases h2:keyI cs (E.kind lc ls) with
  |some j=>exact zDv h2
  |none=>
   cases h3:keyI cs other with
   |some j=>exact zDv h3
   |none=>exact h0
end Ms

theorem zH7 {f:Nat} (K O:Int) (T:List UInt8) (v:Value) (cs:Cs) (t:List UInt8) (w:World) (h:CassAt f w v cs) (hl:cs.length≤2000000):
  Calls Tryz.prog 29 #[.agg #[.int .i64 K,.string ⟨T.toArray⟩,.int .i64 O,v],.string ⟨t.toArray⟩] w fun e w'=>e= .returned (.int .i64 (chW cs t:Int))∧Below w.heap.size w w':=by
 have HX:=lH (show ∀wx,Below w.heap.size w wx→CassAt f wx v cs from fun wx hb=>zAm h hb)
 obtain⟨A,cap,rfl,hm,_⟩:=h.spread
 have hcap:cs.length≤cap∨cs.length=0:=by
  rcases h with⟨e,_⟩|⟨_,_,_,e,_,q,_,_⟩
  ·exact .inr (by rw[e];rfl)
  injection e with _ _ e;exact .inl (by omega)
 have HR:=lH (show chW cs t=(keyI cs t).getD (lstO cs 0 0) from rfl)
 clear h
 generalize chW cs t=R at*
 generalize hL:cs.length=L at*
 go_enter Tryz.func29,Tryz.ntmps29
 go_wp2_with fail
 go_loopw [5,6,7,11] (fun v5 _ _ v11 wr=> ∃i:Nat,v5= .int .i64 ((lstO (cs.take i) 0 0:Nat):Int)∧v11= .int .i64 (i:Int)∧i≤L∧Hid (keyI (cs.take i) t=none)∧Hid (Below w.heap.size w wr)) (fun _ _ _ v11 _=>L-(intOf v11).toNat)
 case atStart=>exact⟨0,rfl,rfl,Nat.zero_le _,lH rfl,lH (bA _ _)⟩
 case round=>
  obtain⟨i,rfl,rfl,hi,HK,HB⟩:=hrel
  by_cases hlt:i<L
  ·have hi':(i:Int)<(L:Int):=by omega
   have hcc:L≤cap:=by omega
   obtain⟨y,hy⟩: ∃y,cs[i]?=some y:=⟨cs[i]'(by omega),List.getElem?_eq_getElem (by omega)⟩
   obtain⟨A',cap',eA,_,hsp⟩:=(HX.out wr HB.out).spread
   injection eA with e1 e2 e3
   subst e1
   obtain⟨b,off,rfl,hyc⟩:=hsp i y hy
   obtain⟨a9,n9,c9,x0,x1,_⟩:=hyc
   have HS:=lH (zKv hy)
   have HK2:=lH (show keyI (cs.take (i+1)) t=(keyI (cs.take i) t).or (if (y.1==t)=true then some i else none) from by
    unfold keyI
    rw[List.take_add_one,hy,Option.toList_some,List.findIdx?_append,List.length_take,Nat.min_eq_left (by omega),List.findIdx?_cons,List.findIdx?_nil]
    cases y.1==t<;>simp)
   have HKA:=lH (show(y.1==t)=true→keyI cs t=some i from fun e=>by
    have h1:=HK.out
    have h2:keyI (cs.take i++cs.drop i) t=(keyI (cs.take i) t).or ((keyI (cs.drop i) t).map (· +i)):=by
     unfold keyI
     rw[List.findIdx?_append,List.length_take,Nat.min_eq_left (by omega)]
    rw[List.take_append_drop,h1] at h2
    rw[h2]
    obtain⟨hi2,e2⟩:=List.getElem?_eq_some_iff.1 hy
    unfold keyI
    rw[List.drop_eq_getElem_cons hi2,e2,List.findIdx?_cons,e]
    simp)
   have W1:=lH (bT HB.out (bA wr (.cells #[.string ⟨y.1.toArray⟩,.slice a9 n9 c9] 53)))
   clear hsp e2 e3 hy
   generalize lstO (cs.take i) 0 0=B at*
   generalize y.1=k at*
   have wi:IntKind.i64.wrap ((i:Int)+1)=(i:Int)+1:=IntWalk.i64_in _ (by omega)
   cases hq:k==t with
   |true=>
    have HT:=lH (show R=i by rw[HR.out,HKA.out hq];rfl)
    clear HKA HK2 HS HK HR
    go_wp2_with fail
    go_ret
    exact⟨zAl (by rw[HT.out]),by repeat(first|exact W1.out|refine zAb ?_ _)⟩
   |false=>
    have HT:=lH (show keyI (cs.take (i+1)) t=none by rw[HK2.out,HK.out,hq];rfl)
    clear HKA HK2 HK
    cases hz:k==other with
    |true=>
     have HU:=lH (show lstO (cs.take (i+1)) 0 0=i by rw[HS.out,hz,if_pos rfl])
     unfold other at hz
     clear HS
     go_wp2_with fail
     go_roundw
     case rel=>exact⟨i+1,by rw[HU.out],by go_num,by omega,HT,lH (by repeat(first|exact W1.out|refine zAb ?_ _))⟩
     case measure=>simp[intOf];omega
    |false=>
     have HU:=lH (show lstO (cs.take (i+1)) 0 0=B by rw[HS.out,hz,if_neg (by simp)])
     unfold other at hz
     clear HS
     go_wp2_with fail
     go_roundw
     case rel=>exact⟨i+1,by rw[HU.out],by go_num,by omega,HT,lH (by repeat(first|exact W1.out|refine zAb ?_ _))⟩
     case measure=>simp[intOf];omega
  have ei:i=L:=by omega
  subst ei
  have HT:=lH (show R=lstO (cs.take i) 0 0 by
   have h1:=HK.out
   rw[List.take_of_length_le (by omega)] at h1⊢
   rw[HR.out,h1];rfl)
  go_wp2_with fail
  go_ret
  exact⟨zAl (by rw[HT.out]),HB.out⟩

def patM:Nt.Pt:=⟨[],[],1,0,3,3,0⟩
def numM (c s:Int):List UInt8:=ftxt patM 46 44 c s
structure NumerW (w:World):Prop where
 p0:w.cell? ⟨0,0,none⟩=some (.string ⟨#[]⟩)
 p1:w.cell? ⟨0,1,none⟩=some (.string ⟨#[]⟩)
 p2:w.cell? ⟨0,2,none⟩=some (.int .i64 1)
 p3:w.cell? ⟨0,3,none⟩=some (.int .i64 0)
 p4:w.cell? ⟨0,4,none⟩=some (.int .i64 3)
 p5:w.cell? ⟨0,5,none⟩=some (.int .i64 3)
 p6:w.cell? ⟨0,6,none⟩=some (.int .i64 0)
 s0:w.cell? ⟨1,0,none⟩=some (.int .u8 46)
 s1:w.cell? ⟨1,1,none⟩=some (.int .u8 44)
theorem NumerW.below {w w':World} (h:NumerW w) (hb:Below w.heap.size w w'):NumerW w':=
 ⟨cK h.p0 hb,cK h.p1 hb,cK h.p2 hb,cK h.p3 hb,cK h.p4 hb,cK h.p5 hb,cK h.p6 hb,cK h.s0 hb,cK h.s1 hb⟩

theorem zDH (c s:Int) (w:World) (hN:NumerW w) (hT:PowW w) (hM:MaxW w) (hd:okD c s):
  Calls Tryz.prog 26 #[.agg #[.int .i64 c,.int .i64 s]] w fun e w'=>e= .returned (.tuple #[.string ⟨(numM c s).toArray⟩,.nilIface])∧Below w.heap.size w w':=by
 have C1:=lH fun (wx:World) (hb:Below w.heap.size w wx)=>zL8 patM 46 44 c s wx (hT.below hb) (hM.below hb) (by decide) (by decide)
 have he:Nt.fmtE patM 46 44 c s=0:=by
  unfold Nt.fmtE
  rw[if_neg (by decide)]
  exact if_pos hd
 rw[show ftxt patM 46 44 c s=numM c s from rfl,he] at C1
 rw[show errN 0=Value.nilIface from rfl,show pV patM= .agg #[.string ⟨#[]⟩,.string ⟨#[]⟩,.int .i64 1,.int .i64 0,.int .i64 3,.int .i64 3,.int .i64 0] from rfl,show yV 46 44= .agg #[.int .u8 46,.int .u8 44] from rfl] at C1
 generalize numM c s=X at*
 have WA:=lH (bA w (.cells #[.int .i64 c,.int .i64 s] 64))
 have N1:=hN.below WA.out
 obtain⟨p0,p1,p2,p3,p4,p5,p6,s0,s1⟩:=N1
 clear hN hT hM hd he
 go_enter Tryz.func26,Tryz.ntmps26
 go_wp2_with fail
 refine(C1.out _ WA.out).mono ?_
 rintro e w1 ⟨rfl,hb⟩
 have W1:=lH (bT WA.out hb)
 clear hb p0 p1 p2 p3 p4 p5 p6 s0 s1
 go_wp2_with fail
 go_ret2
 exact⟨rfl,W1.out⟩

theorem zH8 (key:List UInt8) (w:World) (hp:PowW w) (hn:NumW w) (hs:key.length≤4000000000):
  Calls Tryz.prog 60 #[.string ⟨key.toArray⟩] w fun e w'=>e= .returned (.tuple #[.int .i64 (exV key),.bool (decide (0≤exV key))])∧Below w.heap.size w w':=by
 have C1:=lH fun (wx:World) (hb:Below w.heap.size w wx)=>zE5 key wx (hp.below hb) (hn.below hb) hs
 generalize exV key=V at*
 clear hp hn hs
 go_enter Tryz.func60,Tryz.ntmps60
 go_wp2_with fail
 refine(C1.out _ (Below.refl _ _)).mono ?_
 rintro e w1 ⟨rfl,hb⟩
 have W1:=lH hb
 clear hb
 go_wp2_with fail
 refine(C1.out _ W1.out).mono ?_
 rintro e w2 ⟨rfl,hb⟩
 have W2:=lH (bT W1.out hb)
 clear hb
 go_wp2_with fail
 go_ret2
 exact⟨rfl,W2.out⟩
open Go.RowKit
open Dcm (P10 okD nrm)

def cmpN (a s b t:Int):Int:=if nrm a s<nrm b t then-1 else if nrm a s=nrm b t then 0 else 1
def cmpP (A B:Int):Int:=if A<B then-1 else if A=B then 0 else 1
theorem zNr {a s b t:Int} (ha:okD a s) (hb:okD b t):cmpP (a*P10 t) (b*P10 s)=cmpN a s b t:=by
 have h1:=Dcm.zFP a s b t ha.1 ha.2.1 hb.1 hb.2.1
 have h2:=Dcm.zM7 a s b t ha.1 ha.2.1 hb.1 hb.2.1
 unfold cmpP cmpN
 simp only[h1,h2]

theorem zGV (a s b t h l k m:Int) (w:World) (a0:0≤a) (b0:0≤b) (h1:h<k)
  (c1: ∀w,Calls Tryz.prog 135 #[.int .i64 a,.int .i64 t] w fun e w'=>e= .returned (.tuple #[.int .u64 h,.int .u64 l])∧w=w')
  (c2: ∀w,Calls Tryz.prog 135 #[.int .i64 b,.int .i64 s] w fun e w'=>e= .returned (.tuple #[.int .u64 k,.int .u64 m])∧w=w'):
  Calls Tryz.prog 105 #[.agg #[.int .i64 a,.int .i64 s],.agg #[.int .i64 b,.int .i64 t]] w fun e w'=>e= .returned (.int .i64 (-1))∧Below w.heap.size w w':=by
 have C1:=lH c1
 have C2:=lH c2
 have na: ¬a<0:=by omega
 have nb: ¬b<0:=by omega
 clear c1 c2
 go_enter Tryz.func105,Tryz.ntmps105
 go_wp2_with fail
 refine(C1.out _).mono ?_
 rintro e w' ⟨rfl,rfl⟩
 go_wp2_with fail
 refine(C2.out _).mono ?_
 rintro e w' ⟨rfl,rfl⟩
 go_wp2
 go_ret
 exact⟨zAl (by simp),bT (bA w _) (bA _ _)⟩

theorem zGW (a s b t h l k m:Int) (w:World) (a0:0≤a) (b0:0≤b) (h1:h=k) (h2:l<m)
  (c1: ∀w,Calls Tryz.prog 135 #[.int .i64 a,.int .i64 t] w fun e w'=>e= .returned (.tuple #[.int .u64 h,.int .u64 l])∧w=w')
  (c2: ∀w,Calls Tryz.prog 135 #[.int .i64 b,.int .i64 s] w fun e w'=>e= .returned (.tuple #[.int .u64 k,.int .u64 m])∧w=w'):
  Calls Tryz.prog 105 #[.agg #[.int .i64 a,.int .i64 s],.agg #[.int .i64 b,.int .i64 t]] w fun e w'=>e= .returned (.int .i64 (-1))∧Below w.heap.size w w':=by
 subst h1
 have C1:=lH c1
 have C2:=lH c2
 have na: ¬a<0:=by omega
 have nb: ¬b<0:=by omega
 clear c1 c2
 go_enter Tryz.func105,Tryz.ntmps105
 go_wp2_with fail
 refine(C1.out _).mono ?_
 rintro e w' ⟨rfl,rfl⟩
 go_wp2_with fail
 refine(C2.out _).mono ?_
 rintro e w' ⟨rfl,rfl⟩
 go_wp2
 go_ret
 exact⟨zAl (by simp),bT (bA w _) (bA _ _)⟩

theorem zGX (a s b t h l k m:Int) (w:World) (a0:0≤a) (b0:0≤b) (h1:h=k) (h2:l=m)
  (c1: ∀w,Calls Tryz.prog 135 #[.int .i64 a,.int .i64 t] w fun e w'=>e= .returned (.tuple #[.int .u64 h,.int .u64 l])∧w=w')
  (c2: ∀w,Calls Tryz.prog 135 #[.int .i64 b,.int .i64 s] w fun e w'=>e= .returned (.tuple #[.int .u64 k,.int .u64 m])∧w=w'):
  Calls Tryz.prog 105 #[.agg #[.int .i64 a,.int .i64 s],.agg #[.int .i64 b,.int .i64 t]] w fun e w'=>e= .returned (.int .i64 (0))∧Below w.heap.size w w':=by
 subst h1 h2
 have C1:=lH c1
 have C2:=lH c2
 have na: ¬a<0:=by omega
 have nb: ¬b<0:=by omega
 clear c1 c2
 go_enter Tryz.func105,Tryz.ntmps105
 go_wp2_with fail
 refine(C1.out _).mono ?_
 rintro e w' ⟨rfl,rfl⟩
 go_wp2_with fail
 refine(C2.out _).mono ?_
 rintro e w' ⟨rfl,rfl⟩
 go_wp2
 go_ret
 exact⟨zAl (by simp),bT (bA w _) (bA _ _)⟩

theorem zGY (a s b t h l k m:Int) (w:World) (a0:0≤a) (b0:0≤b) (h1:h=k) (h2:m<l)
  (c1: ∀w,Calls Tryz.prog 135 #[.int .i64 a,.int .i64 t] w fun e w'=>e= .returned (.tuple #[.int .u64 h,.int .u64 l])∧w=w')
  (c2: ∀w,Calls Tryz.prog 135 #[.int .i64 b,.int .i64 s] w fun e w'=>e= .returned (.tuple #[.int .u64 k,.int .u64 m])∧w=w'):
  Calls Tryz.prog 105 #[.agg #[.int .i64 a,.int .i64 s],.agg #[.int .i64 b,.int .i64 t]] w fun e w'=>e= .returned (.int .i64 (1))∧Below w.heap.size w w':=by
 subst h1
 have C1:=lH c1
 have C2:=lH c2
 have na: ¬a<0:=by omega
 have nb: ¬b<0:=by omega
 clear c1 c2
 go_enter Tryz.func105,Tryz.ntmps105
 go_wp2_with fail
 refine(C1.out _).mono ?_
 rintro e w' ⟨rfl,rfl⟩
 go_wp2_with fail
 refine(C2.out _).mono ?_
 rintro e w' ⟨rfl,rfl⟩
 go_wp2
 go_ret
 exact⟨zAl (by simp),bT (bA w _) (bA _ _)⟩

theorem zGZ (a s b t h l k m:Int) (w:World) (a0:0≤a) (b0:0≤b) (h1:k<h)
  (c1: ∀w,Calls Tryz.prog 135 #[.int .i64 a,.int .i64 t] w fun e w'=>e= .returned (.tuple #[.int .u64 h,.int .u64 l])∧w=w')
  (c2: ∀w,Calls Tryz.prog 135 #[.int .i64 b,.int .i64 s] w fun e w'=>e= .returned (.tuple #[.int .u64 k,.int .u64 m])∧w=w'):
  Calls Tryz.prog 105 #[.agg #[.int .i64 a,.int .i64 s],.agg #[.int .i64 b,.int .i64 t]] w fun e w'=>e= .returned (.int .i64 (1))∧Below w.heap.size w w':=by
 have C1:=lH c1
 have C2:=lH c2
 have na: ¬a<0:=by omega
 have nb: ¬b<0:=by omega
 clear c1 c2
 go_enter Tryz.func105,Tryz.ntmps105
 go_wp2_with fail
 refine(C1.out _).mono ?_
 rintro e w' ⟨rfl,rfl⟩
 go_wp2_with fail
 refine(C2.out _).mono ?_
 rintro e w' ⟨rfl,rfl⟩
 go_wp2
 go_ret
 exact⟨zAl (by simp),bT (bA w _) (bA _ _)⟩

theorem zDg (a s b t:Int) (w:World) (ha:okD a s) (hb:okD b t) (a0:0≤a) (b0:0≤b):
  Calls Tryz.prog 105 #[.agg #[.int .i64 a,.int .i64 s],.agg #[.int .i64 b,.int .i64 t]] w fun e w'=>e= .returned (.int .i64 (cmpP (a*P10 t) (b*P10 s)))∧Below w.heap.size w w':=by
 have c1:=fun w=>zDX a t w a0 ha.2.2.2 hb.1 hb.2.1
 have c2:=fun w=>zDX b s w b0 hb.2.2.2 ha.1 ha.2.1
 have hl:= @Dcm.zFQ (a*P10 t) (b*P10 s)
 have hl':= @Dcm.zFQ (b*P10 s) (a*P10 t)
 have he:= @Dcm.zJ7 (a*P10 t) (b*P10 s)
 unfold cmpP
 change _↔hiW _<hiW _∨hiW _=hiW _∧loW _<loW _ at hl
 change _↔hiW _<hiW _∨hiW _=hiW _∧loW _<loW _ at hl'
 change _↔hiW _=hiW _∧loW _=loW _ at he
 by_cases h1:a*P10 t<b*P10 s
 ·rw[if_pos h1]
  rcases hl.1 h1 with g|⟨g,g'⟩
  ·exact zGV a s b t _ _ _ _ w a0 b0 g c1 c2
  exact zGW a s b t _ _ _ _ w a0 b0 g g' c1 c2
 rw[if_neg h1]
 by_cases h2:a*P10 t=b*P10 s
 ·rw[if_pos h2]
  obtain⟨g,g'⟩:=he.1 h2
  exact zGX a s b t _ _ _ _ w a0 b0 g g' c1 c2
 rw[if_neg h2]
 rcases hl'.1 (by omega) with g|⟨g,g'⟩
 ·exact zGZ a s b t _ _ _ _ w a0 b0 g c1 c2
 exact zGY a s b t _ _ _ _ w a0 b0 g.symm g' c1 c2

theorem zDh (a s b t:Int) (w:World) (ha:okD a s) (hb:okD b t):
  Calls Tryz.prog 105 #[.agg #[.int .i64 a,.int .i64 s],.agg #[.int .i64 b,.int .i64 t]] w fun e w'=>e= .returned (.int .i64 (cmpN a s b t))∧Below w.heap.size w w':=by
 rw[←zNr ha hb]
 by_cases a0:0≤a
 ·by_cases b0:0≤b
  ·exact zDg a s b t w ha hb a0 b0
  have e1:cmpP (a*P10 t) (b*P10 s)=1:=by
   have:=Dcm.zAN s;have:=Int.mul_neg_of_neg_of_pos (by omega:b<0) this
   have:=Dcm.zAN t;have:=Int.mul_nonneg a0 (by omega:0≤P10 t)
   unfold cmpP;rw[if_neg (by omega),if_neg (by omega)]
  rw[e1]
  have na: ¬a<0:=by omega
  have nb:b<0:=by omega
  clear e1 ha hb
  go_enter Tryz.func105,Tryz.ntmps105
  go_wp2
  go_ret
  exact⟨rfl,bT (bA w _) (bA _ _)⟩
 by_cases b0:0≤b
 ·have e1:cmpP (a*P10 t) (b*P10 s)= -1:=by
   have:=Dcm.zAN t;have:=Int.mul_neg_of_neg_of_pos (by omega:a<0) this
   have:=Dcm.zAN s;have:=Int.mul_nonneg b0 (by omega:0≤P10 s)
   unfold cmpP;rw[if_pos (by omega)]
  rw[e1]
  have na:a<0:=by omega
  clear e1 ha hb
  go_enter Tryz.func105,Tryz.ntmps105
  go_wp2
  go_ret
  exact⟨rfl,bT (bA w _) (bA _ _)⟩
 have ha':=ha
 have hb':=hb
 obtain⟨s0,s1,a1,a2⟩:=ha'
 obtain⟨t0,t1,b1,b2⟩:=hb'
 have hc:=fun w=>zDg (-b) t (-a) s w ⟨t0,t1,by omega,by omega⟩ ⟨s0,s1,by omega,by omega⟩ (by omega) (by omega)
 have e1:cmpP (-b*P10 s) (-a*P10 t)=cmpP (a*P10 t) (b*P10 s):=by
  rw[Int.neg_mul,Int.neg_mul];unfold cmpP
  by_cases h1:a*P10 t<b*P10 s
  ·rw[if_pos h1,if_pos (by omega)]
  rw[if_neg h1,if_neg (by omega)]
  by_cases h2:a*P10 t=b*P10 s
  ·rw[if_pos h2,if_pos (by omega)]
  rw[if_neg h2,if_neg (by omega)]
 rw[e1] at hc
 have HC:=lH hc
 have na:a<0:=by omega
 have nb:b<0:=by omega
 clear e1 ha hb hc
 go_enter Tryz.func105,Tryz.ntmps105
 go_wp2_with fail
 refine(HC.out _).mono ?_
 rintro e w' ⟨rfl,hb⟩
 go_wp2
 go_ret
 exact⟨rfl,bT (bT (bA w _) (bA _ _)) hb⟩

theorem zFf (a s b t:Int) (w:World) (ha:okD a s) (hb:okD b t):
  Calls Tryz.prog 104 #[.agg #[.int .i64 a,.int .i64 s],.agg #[.int .i64 b,.int .i64 t]] w fun e w'=>e= .returned (.bool true)∧Below w.heap.size w w':=by
 have C1:=lH fun w=>zAx a s w ha
 have C2:=lH fun w=>zAx b t w hb
 clear ha hb
 go_enter Tryz.func104,Tryz.ntmps104
 go_wp2_with fail
 refine(C1.out _).mono ?_
 rintro e w1 ⟨rfl,hb⟩
 have B:=Boxed.below (Boxed.made _ #[.int .i64 b,.int .i64 t] 64) hb
 have k0:=B.cell 0 _ rfl
 have k1:=B.cell 1 _ rfl
 simp at k0 k1
 have W1:=lH (bT (bT (bA w _) (bA _ _)) hb)
 clear hb B
 go_wp2_with fail
 refine(C2.out _).mono ?_
 rintro e w2 ⟨rfl,hb⟩
 go_wp2
 go_ret
 exact⟨rfl,bT W1.out hb⟩
theorem zKw (a s b t:Int) (w:World) (ha:okD a s) (hb:okD b t) (h:nrm a s=nrm b t):
  Calls Tryz.prog 61 #[.agg #[.int .i64 a,.int .i64 s],.agg #[.int .i64 b,.int .i64 t]] w fun e w'=>e= .returned (.bool true)∧Below w.heap.size w w':=by
 have C1:=lH fun w=>zFf a s b t w ha hb
 have C2:=lH fun w=>zDh a s b t w ha hb
 have hv:cmpN a s b t=0:=by unfold cmpN;(repeat' split)<;>omega
 generalize cmpN a s b t=v at*
 clear ha hb h
 go_enter Tryz.func61,Tryz.ntmps61
 go_wp2_with fail
 refine(C1.out _).mono ?_
 rintro e w1 ⟨rfl,hb⟩
 have B0:=Boxed.below (Boxed.alloc (Boxed.made _ #[.int .i64 a,.int .i64 s] 64) _) hb
 have B:=Boxed.below (Boxed.made _ #[.int .i64 b,.int .i64 t] 64) hb
 have j0:=B0.cell 0 _ rfl
 have j1:=B0.cell 1 _ rfl
 have k0:=B.cell 0 _ rfl
 have k1:=B.cell 1 _ rfl
 simp at k0 k1
 have W1:=lH (bT (bT (bA w _) (bA _ _)) hb)
 clear hb B B0
 go_wp2_with fail
 refine(C2.out _).mono ?_
 rintro e w2 ⟨rfl,hb⟩
 go_wp2
 go_ret
 exact⟨zAg (by simp;try omega),bT W1.out hb⟩

theorem zMa (a s b t:Int) (w:World) (ha:okD a s) (hb:okD b t) (h: ¬nrm a s=nrm b t):
  Calls Tryz.prog 61 #[.agg #[.int .i64 a,.int .i64 s],.agg #[.int .i64 b,.int .i64 t]] w fun e w'=>e= .returned (.bool false)∧Below w.heap.size w w':=by
 have C1:=lH fun w=>zFf a s b t w ha hb
 have C2:=lH fun w=>zDh a s b t w ha hb
 have hv:cmpN a s b t≠0:=by unfold cmpN;(repeat' split)<;>omega
 generalize cmpN a s b t=v at*
 clear ha hb h
 go_enter Tryz.func61,Tryz.ntmps61
 go_wp2_with fail
 refine(C1.out _).mono ?_
 rintro e w1 ⟨rfl,hb⟩
 have B0:=Boxed.below (Boxed.alloc (Boxed.made _ #[.int .i64 a,.int .i64 s] 64) _) hb
 have B:=Boxed.below (Boxed.made _ #[.int .i64 b,.int .i64 t] 64) hb
 have j0:=B0.cell 0 _ rfl
 have j1:=B0.cell 1 _ rfl
 have k0:=B.cell 0 _ rfl
 have k1:=B.cell 1 _ rfl
 simp at k0 k1
 have W1:=lH (bT (bT (bA w _) (bA _ _)) hb)
 clear hb B B0
 go_wp2_with fail
 refine(C2.out _).mono ?_
 rintro e w2 ⟨rfl,hb⟩
 go_wp2
 go_ret
 exact⟨zAg (by simp;try omega),bT W1.out hb⟩

end Go.Proofs.YtjlchookakbomaaGreatDoor
