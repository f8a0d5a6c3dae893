/- The walk of the reference's Said. Conditions: the message is right, and the args fit it; the rules are rules; what is said is not too long. -/
import Derived.Test.YtjlchookakbomaaGreatDoorEi34
set_option maxHeartbeats 20000000
set_option maxRecDepth 100000
namespace Go.Proofs.YtjlchookakbomaaGreatDoor
open Go.RowKit Ms
open Dcm (okD)
def QSaid (t0 t1 t2 t3 t4:List UInt8) (args:List Ag) (va:Value) (f:Nat):Prop:=
 ∀(v:Value) (m:List Nd) (w:World) (mc ms:Int),MsgAt f w v m→m.length≤2000000→WfM (fun t=>(valA args t).1) f m→OthM f m→(∀t,mnt f m t=true→hasA args t=true)→ArgsAt w va args→okD mc ms→cnt f m*4000000≤100000000000→
  Calls Tryz.prog 22 #[v,.agg #[.string ⟨t0.toArray⟩,.string ⟨t1.toArray⟩,.string ⟨t2.toArray⟩,.string ⟨t3.toArray⟩,.string ⟨t4.toArray⟩],va,.agg #[.int .i64 mc,.int .i64 ms]] w fun e w'=>e= .returned (.tuple #[.string ⟨((saidM (evS [t0,t1,t2,t3,t4]) (valA args) f mc ms m).getD []).toArray⟩,.bool (saidM (evS [t0,t1,t2,t3,t4]) (valA args) f mc ms m).isSome])∧((saidM (evS [t0,t1,t2,t3,t4]) (valA args) f mc ms m).getD []).length≤cnt f m*4000000∧Below w.heap.size w w'
theorem zNH {args:List Ag} {t:List UInt8} (h:hasA args t=true): ∃k:Nat,args[k]?=some (argOf args t)∧idxA args t=(k:Int):=by
 rcases zE7 args t with⟨h1,_⟩|⟨k,a,h1,h2,h3⟩
 ·rw[h1] at h;cases h
 refine⟨k,?_,h3.1⟩
 unfold argOf
 rw[h2]
 exact h1
theorem zLt {f:Nat} {m:List Nd} {x:Nd} (hx:x∈m) (hk:(!(x.kind==1||x.kind==6))=true):mnt (f+1) m x.text=true:=by
 unfold mnt
 exact List.any_eq_true.2 ⟨x,hx,by rw[hk];simp⟩
theorem zLu {f:Nat} {m:List Nd} {x:Nd} (hx:x∈m) {y:List UInt8×List Nd} (hy:y∈casesOf x) {t:List UInt8} (h:mnt f y.2 t=true):mnt (f+1) m t=true:=by
 unfold mnt
 refine List.any_eq_true.2 ⟨x,hx,?_⟩
 rw[Bool.or_eq_true]
 exact .inr (List.any_eq_true.2 ⟨y,hy,h⟩)
theorem zLv (c d o:Int) (hd:okD c d) (ho:0≤o∧o≤9): ∃(A S:Int) (Z:Bool),(∀w:World,Calls Tryz.prog 48 #[.agg #[.int .i64 c,.int .i64 d],.agg #[.int .i64 (-o),.int .i64 0]] w fun e w'=>e= .returned (.tuple #[.agg #[.int .i64 A,.int .i64 S],.bool Z])∧Below w.heap.size w w')∧(∀L,(evS L).less c d o=if Z then some (A,S) else none)∧(Z=true→okD A S):=by
 by_cases h:addOk c d (-o) 0
 ·exact⟨_,_,true,fun w=>zMX c d (-o) 0 w h,fun L=>if_pos h,fun _=>zDZ (L:= []) (c:=c) (s:=d) (o:=o) (l:=(_,_)) (if_pos h)⟩
 exact⟨0,0,false,fun w=>zMY c d (-o) 0 w hd ⟨by omega,by omega,by omega,by omega⟩ h,fun L=>if_neg h,fun e=>by cases e⟩
theorem zJX (t0 t1 t2 t3 t4:List UInt8) (args:List Ag) (va:Value) (hS:SetFine t0 t1 t2 t3 t4) (hA:ArgsFine args) (hal:args.length≤2000000) (f:Nat):QSaid t0 t1 t2 t3 t4 args va f:=by
 induction f with
 |zero=>
  intro v m w mc ms h hl hwf hot hh ha hm hc
  rcases h with⟨rfl,A,cap,rfl⟩|⟨b,off,cap,_,hpos,_,_,hx⟩
  ·have W2:=lH (bT (bA w (.cells #[.string ⟨t0.toArray⟩,.string ⟨t1.toArray⟩,.string ⟨t2.toArray⟩,.string ⟨t3.toArray⟩,.string ⟨t4.toArray⟩] 58)) (bA _ (.cells #[.int .i64 mc,.int .i64 ms] 64)))
   clear ha hm hc hwf hot hh hl
   show Calls _ _ _ w fun e w'=>e= .returned (.tuple #[.string ⟨#[]⟩,.bool true])∧0≤_∧_
   go_enter Tryz.func22,Tryz.ntmps22
   go_wp2_with fail
   generalize (w.alloc (.cells #[.string ⟨t0.toArray⟩,.string ⟨t1.toArray⟩,.string ⟨t2.toArray⟩,.string ⟨t3.toArray⟩,.string ⟨t4.toArray⟩] 58)).alloc (.cells #[.int .i64 mc,.int .i64 ms] 64)=w2 at*
   go_loopw [10,11] (fun v10 vi wr=>v10= .string ⟨#[]⟩∧vi= .int .i64 0∧w2=wr) (fun _ _ _=>0)
   case atStart=>exact⟨rfl,rfl,rfl⟩
   case round=>
    obtain⟨rfl,rfl,rfl⟩:=hrel
    go_wp2_with fail
    go_ret2
    exact⟨rfl,Nat.zero_le _,W2.out⟩
  exact absurd (hx 0 _ (List.getElem?_eq_getElem hpos)) (by simp[NdC])
 |succ f ih=>
  intro v m w mc ms h hl hwf hot hh ha hm hc
  obtain⟨R,hR⟩: ∃R,R=saidM (evS [t0,t1,t2,t3,t4]) (valA args) (f+1) mc ms m:=⟨_,rfl⟩
  rw[←hR]
  have HL0:=lH (show R=(catM (saidX (evS [t0,t1,t2,t3,t4]) (valA args) (saidM (evS [t0,t1,t2,t3,t4]) (valA args) f) mc ms) (m.drop 0)).map ([]++ ·) from by rw[hR,List.drop_zero];show catM _ m=_;simp)
  obtain⟨TT,hTT⟩: ∃TT,TT=cnt (f+1) m*4000000:=⟨_,rfl⟩
  rw[←hTT] at hc
  have HC0:=lH (show([]:List UInt8).length+cnt (f+1) (m.drop 0)*4000000≤TT by rw[List.drop_zero,hTT];simp)
  have HTT:=lH hTT
  have HWF:=lH (show ∀x∈m,WfX (fun t=>(valA args t).1) (WfM (fun t=>(valA args t).1) f) x from hwf)
  have HOT:=lH (show ∀x∈m,(x.kind=4∨x.kind=5)→(∃i,keyI x.cases other=some i)∧ ∀y∈x.cases,OthM f y.2 from hot)
  have HH:=lH hh
  have IH:=lH ih
  obtain⟨A,cap,rfl,_,hel⟩:=h.spread
  have hcap:m.length≤cap∨m.length=0:=by
   rcases h with⟨e,_⟩|⟨_,_,_,e,_,q,_,_⟩
   ·exact .inr (by rw[e];rfl)
   injection e with _ _ e;exact .inl (by omega)
  have HX:=lH hel
  have HM:=lH hm
  have HA:=lH ha
  have HAF:=lH hA
  have W2:=lH (bT (bA w (.cells #[.string ⟨t0.toArray⟩,.string ⟨t1.toArray⟩,.string ⟨t2.toArray⟩,.string ⟨t3.toArray⟩,.string ⟨t4.toArray⟩] 58)) (bA _ (.cells #[.int .i64 mc,.int .i64 ms] 64)))
  have BS:=lH ((Boxed.made w #[.string ⟨t0.toArray⟩,.string ⟨t1.toArray⟩,.string ⟨t2.toArray⟩,.string ⟨t3.toArray⟩,.string ⟨t4.toArray⟩] 58).alloc (.cells #[.int .i64 mc,.int .i64 ms] 64))
  have BM:=lH (Boxed.made (w.alloc (.cells #[.string ⟨t0.toArray⟩,.string ⟨t1.toArray⟩,.string ⟨t2.toArray⟩,.string ⟨t3.toArray⟩,.string ⟨t4.toArray⟩] 58)) #[.int .i64 mc,.int .i64 ms] 64)
  simp only[World.size_alloc] at BM
  have CQ:=lH fun (c s:Int) (wx:World) (hd:okD c s)=>zGL c s wx hd
  rw[show cnt (f+1) m*4000000=TT from hTT.symm]
  clear hR hTT hel h hwf hot hh ha hm ih hA
  generalize hlm:m.length=L at*
  go_enter Tryz.func22,Tryz.ntmps22
  go_wp2_with fail
  generalize (w.alloc (.cells #[.string ⟨t0.toArray⟩,.string ⟨t1.toArray⟩,.string ⟨t2.toArray⟩,.string ⟨t3.toArray⟩,.string ⟨t4.toArray⟩] 58)).alloc (.cells #[.int .i64 mc,.int .i64 ms] 64)=w2 at*
  generalize hq1:w.heap.size+1=q1 at*
  go_loopw [10,11] (fun v10 vi wr=> ∃(i:Nat) (l1:List UInt8),v10= .string ⟨l1.toArray⟩∧vi= .int .i64 (i:Int)∧i≤L∧Hid (Below w2.heap.size w2 wr)∧Hid (l1.length+cnt (f+1) (m.drop i)*4000000≤TT)∧Hid (R=(catM (saidX (evS [t0,t1,t2,t3,t4]) (valA args) (saidM (evS [t0,t1,t2,t3,t4]) (valA args) f) mc ms) (m.drop i)).map (l1++ ·))) (fun _ vi _=>L-(intOf vi).toNat)
  case atStart=>exact⟨0,[],rfl,rfl,Nat.zero_le _,lH (Below.refl _ _),HC0,HL0⟩
  case round=>
   obtain⟨i,l1,rfl,rfl,hi,HB,HC,HL⟩:=hrel
   clear HC0 HL0
   have WB:=lH (bT W2.out HB.out)
   by_cases hlt:i<L
   ·have hi':(i:Int)<(L:Int):=by omega
    have hcc:L≤cap:=by omega
    obtain⟨x,hxi⟩: ∃x,m[i]?=some x:=⟨m[i]'(by omega),List.getElem?_eq_getElem (by omega)⟩
    have hxm:=List.mem_of_getElem? hxi
    obtain⟨b,off,rfl,hnd⟩:=HX.out i x hxi
    obtain⟨a0,n0,c0,p0,p1,p2,p3,p4,p5,p6⟩:=hnd
    have g0:=cK p0 WB.out
    have g1:=cK p1 WB.out
    have g2:=cK p2 WB.out
    have g3:=cK p3 WB.out
    have lb:=World.block_lt_of_cell? _ _ g0
    have H4:=lH (show CassAt f w (.slice a0 n0 c0) x.cases from p4)
    have wi:IntKind.i64.wrap ((i:Int)+1)=(i:Int)+1:=IntWalk.i64_in _ (by omega)
    have hct:=HC.out
    rw[zCV f hxi] at hct
    obtain⟨SS,hSS⟩: ∃SS,SS=(((casesOf x).map (·.2)).map (cnt f)).sum:=⟨_,rfl⟩
    obtain⟨CR,hCR⟩: ∃CR,CR=cnt (f+1) (m.drop (i+1)):=⟨_,rfl⟩
    rw[←hSS,←hCR] at hct
    have hb0:(1+SS)*4000000≤100000000000:=Nat.le_trans (Nat.le_add_left _ _) (bound1 hct hc)
    have hl1:l1.length≤100000000000:=Nat.le_trans (Nat.le_trans (Nat.le_add_right _ _) hct) hc
    have HSS:=lH hSS
    have hwx:=HWF.out x hxm
    have hox:=HOT.out x hxm
    have HHX:=lH fun (hk:(!(x.kind==1||x.kind==6))=true)=>zNH (HH.out x.text (zLt hxm hk))
    have HHB:=lH fun (y:List UInt8×List Nd) (hy:y∈casesOf x) (t:List UInt8) (h:mnt f y.2 t=true)=>HH.out t (zLu hxm hy h)
    have HNR:=lH fun (h:saidX (evS [t0,t1,t2,t3,t4]) (valA args) (saidM (evS [t0,t1,t2,t3,t4]) (valA args) f) mc ms x=none)=>(show R=none by
     rw[HL.out]
     exact zKB hxi h)
    have HSR:=lH fun (t:List UInt8) (h:saidX (evS [t0,t1,t2,t3,t4]) (valA args) (saidM (evS [t0,t1,t2,t3,t4]) (valA args) f) mc ms x=some t)=>(show R=(catM (saidX (evS [t0,t1,t2,t3,t4]) (valA args) (saidM (evS [t0,t1,t2,t3,t4]) (valA args) f) mc ms) (m.drop (i+1))).map ((l1++t)++ ·) by
     rw[HL.out]
     exact zKC hxi h)
    have HCR:=lH fun (t:List UInt8) (h:t.length≤(1+SS)*4000000)=>(show(l1++t).length+cnt (f+1) (m.drop (i+1))*4000000≤TT by
     rw[←hCR]
     refine bound2 hct ?_
     rw[List.length_append]
     exact Nat.add_le_add_left h _)
    have hval:=zHD args x.text
    have hbn:=fun h=>HAF.out.num _ (zJm (args:=args) (t:=x.text) h) h
    have htx:=zHE HAF.out.txt x.text
    obtain⟨K,T,O,cs⟩:=x
    have hkind:K=1∨K=2∨K=3∨K=4∨K=5∨K=6:=hwx.kind
    have hoff:K=4→0≤O∧O≤9:=hwx.off
    have hnum:K=3∨K=4→(valA args T).1=true:=hwx.num
    have hsome:K=4∨K=5→cs≠ []:=hwx.some
    have HBD:=lH fun (hK:K=4∨K=5) (j:Nat) (hj:j<cs.length)=>zMG hK hwx hj
    have hothr:(K=4∨K=5)→(∃i,keyI cs other=some i)∧ ∀y∈cs,OthM f y.2:=hox
    dsimp only[Nd.kind,Nd.text,Nd.off,Nd.cases] at*
    rw[hval] at hnum
    obtain⟨RX,hRX⟩: ∃RX,RX=saidX (evS [t0,t1,t2,t3,t4]) (valA args) (saidM (evS [t0,t1,t2,t3,t4]) (valA args) f) mc ms (.mk K T O cs):=⟨_,rfl⟩
    have HRX:=lH hRX
    rw[←hRX] at HNR HSR
    have HVAL:=lH hval
    clear HL HC p0 p1 p2 p3 p4 hxi HX hSS hCR hct hRX hwx hox hval
    generalize argOf args T=ag at*
    obtain⟨an,bn,co,sc,tx⟩:=ag
    dsimp only at*
    have m0:wr.cell? ⟨q1,0,none⟩=some (.int .i64 mc):=(BM.out.below HB.out).cell 0 _ rfl
    have m1:wr.cell? ⟨q1,1,none⟩=some (.int .i64 ms):=(BM.out.below HB.out).cell 1 _ rfl
    have ml:=(BM.out.below HB.out).lt
    rcases hkind with rfl|rfl|rfl|rfl|rfl|rfl
    ·have RXE:RX=some T:=HRX.out
     have HR2:=lH (HSR.out T RXE)
     have HC2:=lH (HCR.out T (by omega))
     have AD: ∀w,(Op.stringOp .add ⟨l1.toArray⟩ ⟨T.toArray⟩).run Tryz.prog w= .ok (.string ⟨(l1++T).toArray⟩) w:=fun w=>zAh (P:= Tryz.prog) l1 T (by omega) w
     clear HSR HCR HNR
     have WA:=lH (bT HB.out (bT (bA wr (.cells #[.int .i64 1,.string ⟨T.toArray⟩,.int .i64 O,.slice a0 n0 c0] 51)) (bA _ (.cells #[.string ⟨#[]⟩,.bool false,.int .i64 0,.int .i64 0,.string ⟨#[]⟩] 70))))
     go_wp2_with fail
     go_roundw
     case rel=>exact⟨i+1,l1++T,rfl,by go_num,by omega,WA,HC2,HR2⟩
     case measure=>simp[intOf];omega
    ·have RXE0:RX=some (if bn then Byt.decText co sc else tx):=HRX.out.trans (show some (if (valA args T).1 then Byt.decText (valA args T).2.1 (valA args T).2.2.1 else (valA args T).2.2.2)=_ by rw[HVAL.out])
     have hk0:=HHX.out rfl
     obtain⟨ka,hka,hid⟩:=hk0
     have CI:=lH fun (wx:World) (hb:Below w.heap.size w wx)=>zBp args T va wx (zAv HA.out hb) hal
     rw[hid] at CI
     obtain⟨Aa,acap,rfl,_,hael⟩:=HA.out.spread
     obtain⟨ba,ao,rfl,q0,q1',q2,q3,q4⟩:=hael ka _ hka
     have r0:=cK q0 WB.out
     have r1:=cK q1' WB.out
     have r2:=cK q2 WB.out
     have r3:=cK q3 WB.out
     have r4:=cK q4 WB.out
     have rl:=World.block_lt_of_cell? _ _ r0
     have hkal:ka<args.length:=(List.getElem?_eq_some_iff.1 hka).1
     have hacap:args.length≤acap:=by
      rcases HA.out with⟨e,_⟩|⟨_,_,_,e,_,q,_,_⟩
      ·rw[e] at hkal;simp at hkal
      injection e with _ _ e;omega
     have hka':(ka:Int)<(args.length:Int):=by omega
     dsimp only at r0 r1 r2 r3 r4
     have W1:=lH (bT WB.out (bT (bA wr (.cells #[.int .i64 2,.string ⟨T.toArray⟩,.int .i64 O,.slice a0 n0 c0] 51)) (bA _ (.cells #[.string ⟨#[]⟩,.bool false,.int .i64 0,.int .i64 0,.string ⟨#[]⟩] 70))))
     have CIi:=lH (CI.out _ W1.out)
     have g0':=cK g0 (bA wr (.cells #[.int .i64 2,.string ⟨T.toArray⟩,.int .i64 O,.slice a0 n0 c0] 51))
     have s0:=cK r0 (bT (bA wr (.cells #[.int .i64 2,.string ⟨T.toArray⟩,.int .i64 O,.slice a0 n0 c0] 51)) (bA _ (.cells #[.string ⟨#[]⟩,.bool false,.int .i64 0,.int .i64 0,.string ⟨#[]⟩] 70)))
     have s1:=cK r1 (bT (bA wr (.cells #[.int .i64 2,.string ⟨T.toArray⟩,.int .i64 O,.slice a0 n0 c0] 51)) (bA _ (.cells #[.string ⟨#[]⟩,.bool false,.int .i64 0,.int .i64 0,.string ⟨#[]⟩] 70)))
     have s2:=cK r2 (bT (bA wr (.cells #[.int .i64 2,.string ⟨T.toArray⟩,.int .i64 O,.slice a0 n0 c0] 51)) (bA _ (.cells #[.string ⟨#[]⟩,.bool false,.int .i64 0,.int .i64 0,.string ⟨#[]⟩] 70)))
     have s3:=cK r3 (bT (bA wr (.cells #[.int .i64 2,.string ⟨T.toArray⟩,.int .i64 O,.slice a0 n0 c0] 51)) (bA _ (.cells #[.string ⟨#[]⟩,.bool false,.int .i64 0,.int .i64 0,.string ⟨#[]⟩] 70)))
     have s4:=cK r4 (bT (bA wr (.cells #[.int .i64 2,.string ⟨T.toArray⟩,.int .i64 O,.slice a0 n0 c0] 51)) (bA _ (.cells #[.string ⟨#[]⟩,.bool false,.int .i64 0,.int .i64 0,.string ⟨#[]⟩] 70)))
     clear CI hael q0 q1' q2 q3 q4 hka hid
     generalize args.length=AL at*
     go_wp2_with fail
     refine CIi.out.mono ?_
     rintro e w5 ⟨rfl,rfl⟩
     clear CIi g0' W1
     have WA:=lH (bT HB.out (bT (bA wr (.cells #[.int .i64 2,.string ⟨T.toArray⟩,.int .i64 O,.slice a0 n0 c0] 51)) (bA _ (.cells #[.string ⟨an.toArray⟩,.bool bn,.int .i64 co,.int .i64 sc,.string ⟨tx.toArray⟩] 70))))
     cases bn with
     |false=>
      have RXE:RX=some tx:=RXE0
      have HR2:=lH (HSR.out tx RXE)
      have HC2:=lH (HCR.out tx (by omega))
      have AD: ∀w,(Op.stringOp .add ⟨l1.toArray⟩ ⟨tx.toArray⟩).run Tryz.prog w= .ok (.string ⟨(l1++tx).toArray⟩) w:=fun w=>zAh (P:= Tryz.prog) l1 tx (by omega) w
      clear HSR HCR HNR
      go_wp2_with fail
      go_roundw
      case rel=>exact⟨i+1,l1++tx,rfl,by go_num,by omega,WA,HC2,HR2⟩
      case measure=>simp[intOf];omega
     |true=>
      have hco:okD co sc:=hbn rfl
      have hn:=zEH co sc hco
      have RXE:RX=some (Byt.decText co sc):=RXE0
      have CN:=lH fun w=>zFw co sc w hco
      generalize Byt.decText co sc=t at*
      have HR2:=lH (HSR.out t RXE)
      have HC2:=lH (HCR.out t (by omega))
      have AD: ∀w,(Op.stringOp .add ⟨l1.toArray⟩ ⟨t.toArray⟩).run Tryz.prog w= .ok (.string ⟨(l1++t).toArray⟩) w:=fun w=>zAh (P:= Tryz.prog) l1 t (by omega) w
      clear HSR HCR HNR
      go_wp2_with fail
      refine(CN.out _).mono ?_
      rintro e w6 ⟨rfl,hb⟩
      have WZ:=lH (bT WA.out hb)
      clear hb CN WA g0 g1 g2 g3 lb r0 r1 r2 r3 r4 s0 s1 s2 s3 s4
      go_wp2_with fail
      go_roundw
      case rel=>exact⟨i+1,l1++t,rfl,by go_num,by omega,WZ,HC2,HR2⟩
      case measure=>simp[intOf];omega
    ·have hbt:=hnum (.inl rfl)
     subst hbt
     have hco:okD co sc:=hbn rfl
     have hn:=zBD co sc hco
     have RXE:RX=some (numM co sc):=HRX.out.trans (show some (numM (valA args T).2.1 (valA args T).2.2.1)=_ by rw[HVAL.out])
     have CN:=lH fun w=>CQ.out co sc w hco
     generalize numM co sc=t at*
     have HR2:=lH (HSR.out t RXE)
     have HC2:=lH (HCR.out t (by omega))
     have AD: ∀w,(Op.stringOp .add ⟨l1.toArray⟩ ⟨t.toArray⟩).run Tryz.prog w= .ok (.string ⟨(l1++t).toArray⟩) w:=fun w=>zAh (P:= Tryz.prog) l1 t (by omega) w
     clear HSR HCR HNR
     have hk0:=HHX.out rfl
     obtain⟨ka,hka,hid⟩:=hk0
     have CI:=lH fun (wx:World) (hb:Below w.heap.size w wx)=>zBp args T va wx (zAv HA.out hb) hal
     rw[hid] at CI
     obtain⟨Aa,acap,rfl,_,hael⟩:=HA.out.spread
     obtain⟨ba,ao,rfl,q0,q1',q2,q3,q4⟩:=hael ka _ hka
     have r0:=cK q0 WB.out
     have r1:=cK q1' WB.out
     have r2:=cK q2 WB.out
     have r3:=cK q3 WB.out
     have r4:=cK q4 WB.out
     have rl:=World.block_lt_of_cell? _ _ r0
     have hkal:ka<args.length:=(List.getElem?_eq_some_iff.1 hka).1
     have hacap:args.length≤acap:=by
      rcases HA.out with⟨e,_⟩|⟨_,_,_,e,_,q,_,_⟩
      ·rw[e] at hkal;simp at hkal
      injection e with _ _ e;omega
     have hka':(ka:Int)<(args.length:Int):=by omega
     dsimp only at r0 r1 r2 r3 r4
     have W1:=lH (bT WB.out (bT (bA wr (.cells #[.int .i64 3,.string ⟨T.toArray⟩,.int .i64 O,.slice a0 n0 c0] 51)) (bA _ (.cells #[.string ⟨#[]⟩,.bool false,.int .i64 0,.int .i64 0,.string ⟨#[]⟩] 70))))
     have CIi:=lH (CI.out _ W1.out)
     have g0':=cK g0 (bA wr (.cells #[.int .i64 3,.string ⟨T.toArray⟩,.int .i64 O,.slice a0 n0 c0] 51))
     have s0:=cK r0 (bT (bA wr (.cells #[.int .i64 3,.string ⟨T.toArray⟩,.int .i64 O,.slice a0 n0 c0] 51)) (bA _ (.cells #[.string ⟨#[]⟩,.bool false,.int .i64 0,.int .i64 0,.string ⟨#[]⟩] 70)))
     have s1:=cK r1 (bT (bA wr (.cells #[.int .i64 3,.string ⟨T.toArray⟩,.int .i64 O,.slice a0 n0 c0] 51)) (bA _ (.cells #[.string ⟨#[]⟩,.bool false,.int .i64 0,.int .i64 0,.string ⟨#[]⟩] 70)))
     have s2:=cK r2 (bT (bA wr (.cells #[.int .i64 3,.string ⟨T.toArray⟩,.int .i64 O,.slice a0 n0 c0] 51)) (bA _ (.cells #[.string ⟨#[]⟩,.bool false,.int .i64 0,.int .i64 0,.string ⟨#[]⟩] 70)))
     have s3:=cK r3 (bT (bA wr (.cells #[.int .i64 3,.string ⟨T.toArray⟩,.int .i64 O,.slice a0 n0 c0] 51)) (bA _ (.cells #[.string ⟨#[]⟩,.bool false,.int .i64 0,.int .i64 0,.string ⟨#[]⟩] 70)))
     have s4:=cK r4 (bT (bA wr (.cells #[.int .i64 3,.string ⟨T.toArray⟩,.int .i64 O,.slice a0 n0 c0] 51)) (bA _ (.cells #[.string ⟨#[]⟩,.bool false,.int .i64 0,.int .i64 0,.string ⟨#[]⟩] 70)))
     clear CI hael q0 q1' q2 q3 q4 hka hid
     generalize args.length=AL at*
     go_wp2_with fail
     refine CIi.out.mono ?_
     rintro e w5 ⟨rfl,rfl⟩
     clear CIi g0' W1
     have WA:=lH (bT HB.out (bT (bA wr (.cells #[.int .i64 3,.string ⟨T.toArray⟩,.int .i64 O,.slice a0 n0 c0] 51)) (bA _ (.cells #[.string ⟨an.toArray⟩,.bool true,.int .i64 co,.int .i64 sc,.string ⟨tx.toArray⟩] 70))))
     go_wp2_with fail
     refine(CN.out _).mono ?_
     rintro e w6 ⟨rfl,hb⟩
     have WZ:=lH (bT WA.out hb)
     clear hb CN WA g0 g1 g2 g3 lb r0 r1 r2 r3 r4 s0 s1 s2 s3 s4
     go_wp2_with fail
     go_roundw
     case rel=>exact⟨i+1,l1++t,rfl,by go_num,by omega,WZ,HC2,HR2⟩
     case measure=>simp[intOf];omega
    ·have hbt:=hnum (.inr rfl)
     subst hbt
     have hco:okD co sc:=hbn rfl
     obtain⟨A,S1,Z,hca,hlz,hkz⟩:=zLv co sc O hco (hoff rfl)
     have wo:IntKind.i64.wrap (-O)= -O:=IntWalk.i64_in _ (by have:=hoff rfl;omega)
     have HRZ:=lH (show RX=match (if Z then some (A,S1) else none) with|none=>none|some l=>saidM (evS [t0,t1,t2,t3,t4]) (valA args) f l.1 l.2 (bodyI (.mk 4 T O cs) (cntI (evS [t0,t1,t2,t3,t4]) cs co sc l.1 l.2)) from HRX.out.trans (show(match (evS [t0,t1,t2,t3,t4]).less (valA args T).2.1 (valA args T).2.2.1 O with|none=>none|some l=>saidM (evS [t0,t1,t2,t3,t4]) (valA args) f l.1 l.2 (bodyI (.mk 4 T O cs) (cntI (evS [t0,t1,t2,t3,t4]) cs (valA args T).2.1 (valA args T).2.2.1 l.1 l.2)))=_ by rw[HVAL.out];show(match (evS [t0,t1,t2,t3,t4]).less co sc O with|none=>none|some l=>_)=_;rw[hlz]))
     have hci:cntI (evS [t0,t1,t2,t3,t4]) cs co sc A S1<cs.length:=zHB (hsome (.inl rfl)) co sc A S1
     obtain⟨yc,hyc,hbd,hwf,hcn⟩:=HBD.out (.inl rfl) (cntI (evS [t0,t1,t2,t3,t4]) cs co sc A S1) hci
     obtain⟨Ad,cap2,eA,_,hsp⟩:=H4.out.spread
     injection eA with e1 e2 e3
     subst e1 e2 e3
     have hcap2:cs.length≤c0:=by
      rcases H4.out with⟨e,_⟩|⟨_,_,_,e,_,q,_,_⟩
      ·rw[e] at hci;simp at hci
      injection e with _ _ e;omega
     obtain⟨bk,boff,rfl,a9,n9,c9,k0,k1,k2,k3,k4⟩:=hsp _ yc hyc
     have hymem:yc∈casesOf (.mk 4 T O cs):=by
      rw[show casesOf (.mk 4 T O cs)=cs from if_pos (.inl rfl)]
      exact List.mem_of_getElem? hyc
     have hcnt:cnt f yc.2≤1+SS:=by rw[HSS.out];exact Nat.le_trans hcn (Nat.le_add_left _ _)
     have hlen2:cnt f yc.2*4000000≤(1+SS)*4000000:=Nat.mul_le_mul_right _ hcnt
     have hot2:=(hothr (.inl rfl)).2 yc (List.mem_of_getElem? hyc)
     have CSS0:=lH fun (hAB:okD A S1) (wx:World) (hb:Below w.heap.size w wx)=>IH.out (.slice a9 n9 c9) yc.2 wx A S1 (zAi k2 hb) k4 hwf hot2 (fun t ht=>HHB.out yc hymem t ht) (zAv HA.out hb) hAB (Nat.le_trans hlen2 hb0)
     have CT0:=lH fun (hAB:okD A S1) (wx:World) (hb:Below w.heap.size w wx)=>zGJ 4 T O (.slice (some ⟨bk,boff,none⟩) cs.length c0) cs t0 t1 t2 t3 t4 co sc A S1 wx hS hco hAB (zAm H4.out hb) p6 (hothr (.inl rfl)).1
     have HK1:=lH k1
     have CA1:=lH hca
     have hk0:=HHX.out rfl
     obtain⟨ka,hka,hid⟩:=hk0
     have CI:=lH fun (wx:World) (hb:Below w.heap.size w wx)=>zBp args T va wx (zAv HA.out hb) hal
     rw[hid] at CI
     obtain⟨Aa,acap,rfl,_,hael⟩:=HA.out.spread
     obtain⟨ba,ao,rfl,q0,q1',q2,q3,q4⟩:=hael ka _ hka
     have r0:=cK q0 WB.out
     have r1:=cK q1' WB.out
     have r2:=cK q2 WB.out
     have r3:=cK q3 WB.out
     have r4:=cK q4 WB.out
     have rl:=World.block_lt_of_cell? _ _ r0
     have hkal:ka<args.length:=(List.getElem?_eq_some_iff.1 hka).1
     have hacap:args.length≤acap:=by
      rcases HA.out with⟨e,_⟩|⟨_,_,_,e,_,q,_,_⟩
      ·rw[e] at hkal;simp at hkal
      injection e with _ _ e;omega
     have hka':(ka:Int)<(args.length:Int):=by omega
     dsimp only at r0 r1 r2 r3 r4
     have W1:=lH (bT WB.out (bT (bA wr (.cells #[.int .i64 4,.string ⟨T.toArray⟩,.int .i64 O,.slice (some ⟨bk,boff,none⟩) cs.length c0] 51)) (bA _ (.cells #[.string ⟨#[]⟩,.bool false,.int .i64 0,.int .i64 0,.string ⟨#[]⟩] 70))))
     have CIi:=lH (CI.out _ W1.out)
     have g0':=cK g0 (bA wr (.cells #[.int .i64 4,.string ⟨T.toArray⟩,.int .i64 O,.slice (some ⟨bk,boff,none⟩) cs.length c0] 51))
     have s0:=cK r0 (bT (bA wr (.cells #[.int .i64 4,.string ⟨T.toArray⟩,.int .i64 O,.slice (some ⟨bk,boff,none⟩) cs.length c0] 51)) (bA _ (.cells #[.string ⟨#[]⟩,.bool false,.int .i64 0,.int .i64 0,.string ⟨#[]⟩] 70)))
     have s1:=cK r1 (bT (bA wr (.cells #[.int .i64 4,.string ⟨T.toArray⟩,.int .i64 O,.slice (some ⟨bk,boff,none⟩) cs.length c0] 51)) (bA _ (.cells #[.string ⟨#[]⟩,.bool false,.int .i64 0,.int .i64 0,.string ⟨#[]⟩] 70)))
     have s2:=cK r2 (bT (bA wr (.cells #[.int .i64 4,.string ⟨T.toArray⟩,.int .i64 O,.slice (some ⟨bk,boff,none⟩) cs.length c0] 51)) (bA _ (.cells #[.string ⟨#[]⟩,.bool false,.int .i64 0,.int .i64 0,.string ⟨#[]⟩] 70)))
     have s3:=cK r3 (bT (bA wr (.cells #[.int .i64 4,.string ⟨T.toArray⟩,.int .i64 O,.slice (some ⟨bk,boff,none⟩) cs.length c0] 51)) (bA _ (.cells #[.string ⟨#[]⟩,.bool false,.int .i64 0,.int .i64 0,.string ⟨#[]⟩] 70)))
     have s4:=cK r4 (bT (bA wr (.cells #[.int .i64 4,.string ⟨T.toArray⟩,.int .i64 O,.slice (some ⟨bk,boff,none⟩) cs.length c0] 51)) (bA _ (.cells #[.string ⟨#[]⟩,.bool false,.int .i64 0,.int .i64 0,.string ⟨#[]⟩] 70)))
     clear CI hael q0 q1' q2 q3 q4 hka hid
     generalize args.length=AL at*
     go_wp2_with fail
     refine CIi.out.mono ?_
     rintro e w5 ⟨rfl,rfl⟩
     clear CIi g0' W1
     have WA:=lH (bT HB.out (bT (bA wr (.cells #[.int .i64 4,.string ⟨T.toArray⟩,.int .i64 O,.slice (some ⟨bk,boff,none⟩) cs.length c0] 51)) (bA _ (.cells #[.string ⟨an.toArray⟩,.bool true,.int .i64 co,.int .i64 sc,.string ⟨tx.toArray⟩] 70))))
     go_upto_region 25 with fail
     have WAf:=lH (show Below w.heap.size w _ from bT W2.out WA.out)
     have PX:=lH ((Boxed.made wr #[.int .i64 4,.string ⟨T.toArray⟩,.int .i64 O,.slice (some ⟨bk,boff,none⟩) cs.length c0] 51).alloc (.cells #[.string ⟨an.toArray⟩,.bool true,.int .i64 co,.int .i64 sc,.string ⟨tx.toArray⟩] 70))
     have PA:=lH (Boxed.made (wr.alloc (.cells #[.int .i64 4,.string ⟨T.toArray⟩,.int .i64 O,.slice (some ⟨bk,boff,none⟩) cs.length c0] 51)) #[.string ⟨an.toArray⟩,.bool true,.int .i64 co,.int .i64 sc,.string ⟨tx.toArray⟩] 70)
     have PM:=lH (((BM.out.below HB.out).alloc (.cells #[.int .i64 4,.string ⟨T.toArray⟩,.int .i64 O,.slice (some ⟨bk,boff,none⟩) cs.length c0] 51)).alloc (.cells #[.string ⟨an.toArray⟩,.bool true,.int .i64 co,.int .i64 sc,.string ⟨tx.toArray⟩] 70))
     have PS:=lH (((BS.out.below HB.out).alloc (.cells #[.int .i64 4,.string ⟨T.toArray⟩,.int .i64 O,.slice (some ⟨bk,boff,none⟩) cs.length c0] 51)).alloc (.cells #[.string ⟨an.toArray⟩,.bool true,.int .i64 co,.int .i64 sc,.string ⟨tx.toArray⟩] 70))
     simp only[World.size_alloc] at PA
     generalize (wr.alloc (.cells #[.int .i64 4,.string ⟨T.toArray⟩,.int .i64 O,.slice (some ⟨bk,boff,none⟩) cs.length c0] 51)).alloc (.cells #[.string ⟨an.toArray⟩,.bool true,.int .i64 co,.int .i64 sc,.string ⟨tx.toArray⟩] 70)=w5 at*
     clear g0 g1 g2 g3 lb r0 r1 r2 r3 r4 rl m0 m1 ml
     generalize wr.heap.size+1=pa at*
     generalize wr.heap.size=px at*
     have x0:w5.cell? ⟨px,0,none⟩=some (.int .i64 4):=PX.out.cell 0 _ rfl
     have x1:w5.cell? ⟨px,1,none⟩=some (.string ⟨T.toArray⟩):=PX.out.cell 1 _ rfl
     have x2:w5.cell? ⟨px,2,none⟩=some (.int .i64 O):=PX.out.cell 2 _ rfl
     have x3:w5.cell? ⟨px,3,none⟩=some (.slice (some ⟨bk,boff,none⟩) cs.length c0):=PX.out.cell 3 _ rfl
     have xl:=PX.out.lt
     have a2:w5.cell? ⟨pa,2,none⟩=some (.int .i64 co):=PA.out.cell 2 _ rfl
     have a3:w5.cell? ⟨pa,3,none⟩=some (.int .i64 sc):=PA.out.cell 3 _ rfl
     have a4:w5.cell? ⟨pa,4,none⟩=some (.string ⟨tx.toArray⟩):=PA.out.cell 4 _ rfl
     have al:=PA.out.lt
     have pal:px≠pa:=fun e=>by subst e;have:=x0;have hz:=PA.out.cell 0 _ rfl;rw[this] at hz;injection hz with hz;cases hz
     clear pal
     go_wp2_with fail
     refine(CA1.out _).mono ?_
     rintro e w6 ⟨rfl,hb⟩
     have WX:=lH (bT (bT WA.out hb) (bA w6 (.cells #[.int .i64 A,.int .i64 S1] 64)))
     have PX7:=lH ((PX.out.below hb).alloc (.cells #[.int .i64 A,.int .i64 S1] 64))
     have PA7:=lH ((PA.out.below hb).alloc (.cells #[.int .i64 A,.int .i64 S1] 64))
     have PS7:=lH ((PS.out.below hb).alloc (.cells #[.int .i64 A,.int .i64 S1] 64))
     have PL7:=lH (Boxed.made w6 #[.int .i64 A,.int .i64 S1] 64)
     clear hb CA1 x0 x1 x2 x3 xl a2 a3 a4 al PX PM PS PA WA WAf s0 s1 s2 s3 s4
     go_upto_region 26 with fail
     generalize w6.heap.size=pl at*
     generalize w6.alloc (.cells #[.int .i64 A,.int .i64 S1] 64)=w7 at*
     cases Z with
     |false=>
      have hR:=HNR.out HRZ.out
      clear HSR HCR HNR
      go_wp2_with fail
      go_ret2
      rw[hR]
      exact⟨rfl,Nat.zero_le _,bT W2.out WX.out⟩
     |true=>
      have hAB:=hkz rfl
      have CSS:=lH (CSS0.out hAB)
      have CT:=lH (CT0.out hAB)
      have HRB:=lH (show RX=saidM (evS [t0,t1,t2,t3,t4]) (valA args) f A S1 yc.2 from HRZ.out.trans (show saidM (evS [t0,t1,t2,t3,t4]) (valA args) f A S1 (bodyI (.mk 4 T O cs) (cntI (evS [t0,t1,t2,t3,t4]) cs co sc A S1))=_ by rw[hbd]))
      clear CSS0 CT0 HRZ hlz hkz hca
      have x0:w7.cell? ⟨px,0,none⟩=some (.int .i64 4):=PX7.out.cell 0 _ rfl
      have x1:w7.cell? ⟨px,1,none⟩=some (.string ⟨T.toArray⟩):=PX7.out.cell 1 _ rfl
      have x2:w7.cell? ⟨px,2,none⟩=some (.int .i64 O):=PX7.out.cell 2 _ rfl
      have x3:w7.cell? ⟨px,3,none⟩=some (.slice (some ⟨bk,boff,none⟩) cs.length c0):=PX7.out.cell 3 _ rfl
      have a2:w7.cell? ⟨pa,2,none⟩=some (.int .i64 co):=PA7.out.cell 2 _ rfl
      have a3:w7.cell? ⟨pa,3,none⟩=some (.int .i64 sc):=PA7.out.cell 3 _ rfl
      have l0:w7.cell? ⟨pl,0,none⟩=some (.int .i64 A):=PL7.out.cell 0 _ rfl
      have l1':w7.cell? ⟨pl,1,none⟩=some (.int .i64 S1):=PL7.out.cell 1 _ rfl
      have kb:=cK HK1.out (bT W2.out WX.out)
      have u0:w7.cell? ⟨w.heap.size,0,none⟩=some (.string ⟨t0.toArray⟩):=PS7.out.cell 0 _ rfl
      have u1:w7.cell? ⟨w.heap.size,1,none⟩=some (.string ⟨t1.toArray⟩):=PS7.out.cell 1 _ rfl
      have u2:w7.cell? ⟨w.heap.size,2,none⟩=some (.string ⟨t2.toArray⟩):=PS7.out.cell 2 _ rfl
      have u3:w7.cell? ⟨w.heap.size,3,none⟩=some (.string ⟨t3.toArray⟩):=PS7.out.cell 3 _ rfl
      have u4:w7.cell? ⟨w.heap.size,4,none⟩=some (.string ⟨t4.toArray⟩):=PS7.out.cell 4 _ rfl
      generalize saidM (evS [t0,t1,t2,t3,t4]) (valA args) f A S1 yc.2=RB at*
      generalize cntI (evS [t0,t1,t2,t3,t4]) cs co sc A S1=I at*
      have hciI:(I:Int)<(cs.length:Int):=by omega
      go_upto_region 28 with fail
      refine wp_region_held_drew (S:=fun w'=>w'.cell? ⟨px,0,none⟩=some (.int .i64 4)∧w'.cell? ⟨px,1,none⟩=some (.string ⟨T.toArray⟩)∧w'.cell? ⟨px,2,none⟩=some (.int .i64 O)∧w'.cell? ⟨px,3,none⟩=some (.slice (some ⟨bk,boff,none⟩) cs.length c0)∧w'.cell? ⟨pa,2,none⟩=some (.int .i64 co)∧w'.cell? ⟨pa,3,none⟩=some (.int .i64 sc)∧w'.cell? ⟨pl,0,none⟩=some (.int .i64 A)∧w'.cell? ⟨pl,1,none⟩=some (.int .i64 S1)∧w'.cell? ⟨bk,boff+I*2+1,none⟩=some (.slice a9 n9 c9)∧w'.cell? ⟨w.heap.size,0,none⟩=some (.string ⟨t0.toArray⟩)∧w'.cell? ⟨w.heap.size,1,none⟩=some (.string ⟨t1.toArray⟩)∧w'.cell? ⟨w.heap.size,2,none⟩=some (.string ⟨t2.toArray⟩)∧w'.cell? ⟨w.heap.size,3,none⟩=some (.string ⟨t3.toArray⟩)∧w'.cell? ⟨w.heap.size,4,none⟩=some (.string ⟨t4.toArray⟩)∧Hid (Below w2.heap.size w2 w')) (by kernel_rfl) (⟨x0,x1,x2,x3,a2,a3,l0,l1',kb,u0,u1,u2,u3,u4,lH (Below.drew WX.out)⟩) (fun hY9=>?_)
      refine tkr (d:=(some 112)) (v:=?v16) 0 rfl rfl hY9 ?hy16 ?rs16
      case hy16=>(intro w hSw;(try dsimp only at hSw);go_simp)<;>(try with_reducible rfl)
      (try simp only[Act.put,aI,aO,aS])
      refine tkr (d:=(some 113)) (v:=?v17) 1 rfl rfl hY9 ?hy17 ?rs17
      case hy17=>(intro w hSw;(try dsimp only at hSw);go_simp)<;>(try with_reducible rfl)
      (try simp only[Act.put,aI,aO,aS])
      refine tkr (d:=(some 114)) (v:=?v18) 2 rfl rfl hY9 ?hy18 ?rs18
      case hy18=>(intro w hSw;(try dsimp only at hSw);go_simp)<;>(try with_reducible rfl)
      (try simp only[Act.put,aI,aO,aS])
      refine tkr (d:=(some 115)) (v:=?v19) 3 rfl rfl hY9 ?hy19 ?rs19
      case hy19=>(intro w hSw;(try dsimp only at hSw);go_simp)<;>(try with_reducible rfl)
      (try simp only[Act.put,aI,aO,aS])
      refine tkr (d:=(some 116)) (v:=?v20) 4 rfl rfl hY9 ?hy20 ?rs20
      case hy20=>(intro w hSw;(try dsimp only at hSw);go_simp)<;>(try with_reducible rfl)
      (try simp only[Act.put,aI,aO,aS])
      refine tkr (d:=(some 117)) (v:=?v21) 5 rfl rfl hY9 ?hy21 ?rs21
      case hy21=>(intro w hSw;(try dsimp only at hSw);go_simp)<;>(try with_reducible rfl)
      (try simp only[Act.put,aI,aO,aS])
      refine tkr (d:=(some 118)) (v:=?v22) 6 rfl rfl hY9 ?hy22 ?rs22
      case hy22=>(intro w hSw;(try dsimp only at hSw);go_simp)<;>(try with_reducible rfl)
      (try simp only[Act.put,aI,aO,aS])
      refine tkr (d:=(some 123)) (v:=?v23) 11 rfl rfl hY9 ?hy23 ?rs23
      case hy23=>(intro w hSw;(try dsimp only at hSw);go_simp)<;>(try with_reducible rfl)
      (try simp only[Act.put,aI,aO,aS])
      refine tkr (d:=(some 124)) (v:=?v24) 12 rfl rfl hY9 ?hy24 ?rs24
      case hy24=>(intro w hSw;(try dsimp only at hSw);go_simp)<;>(try with_reducible rfl)
      (try simp only[Act.put,aI,aO,aS])
      refine tkr (d:=(some 125)) (v:=?v25) 13 rfl rfl hY9 ?hy25 ?rs25
      case hy25=>(intro w hSw;(try dsimp only at hSw);go_simp)<;>(try with_reducible rfl)
      (try simp only[Act.put,aI,aO,aS])
      refine zAc 7 rfl (by kernel_rfl) (by rfl) (fun K hK=>?_)
      go_simp
      refine(CT.out _ (by obtain⟨_,_,_,_,_,_,_,_,_,_,_,_,_,_,h7⟩:=hY9;exact bT W2.out h7.out)).mono ?_
      rintro e w' ⟨rfl,hb⟩
      refine hK.out _ _ (by obtain⟨h0,h1,h2,h3,h4,h5,h6,h7,h8,h9,h10,h11,h12,h13,hw⟩:=hY9;exact⟨cK h0 hb,cK h1 hb,cK h2 hb,cK h3 hb,cK h4 hb,cK h5 hb,cK h6 hb,cK h7 hb,cK h8 hb,cK h9 hb,cK h10 hb,cK h11 hb,cK h12 hb,cK h13 hb,lH (bT hw.out hb)⟩) (fun hY9=>?_)
      clear hK K
      (try simp only[Act.put,aI,aO,aS])
      refine tkr (d:=(some 120)) (v:=?v27) 8 rfl rfl hY9 ?hy27 ?rs27
      case hy27=>(intro w hSw;(try dsimp only at hSw);go_simp)<;>(try with_reducible rfl)
      (try simp only[Act.put,aI,aO,aS])
      refine tkr (d:=(some 121)) (v:=?v28) 9 rfl rfl hY9 ?hy28 ?rs28
      case hy28=>(intro w hSw;(try dsimp only at hSw);go_simp)<;>(try with_reducible rfl)
      (try simp only[Act.put,aI,aO,aS])
      refine tkr (d:=(some 122)) (v:=?v29) 10 rfl rfl hY9 ?hy29 ?rs29
      case hy29=>(intro w hSw;(try dsimp only at hSw);go_simp)<;>(try with_reducible rfl)
      (try simp only[Act.put,aI,aO,aS])
      refine zAc 14 rfl (by kernel_rfl) (by rfl) (fun K hK=>?_)
      go_simp
      refine(CSS.out _ (by obtain⟨_,_,_,_,_,_,_,_,_,_,_,_,_,_,h7⟩:=hY9;exact bT W2.out h7.out)).mono ?_
      rintro e w' ⟨rfl,hln,hb⟩
      refine hK.out _ _ (by obtain⟨h0,h1,h2,h3,h4,h5,h6,h7,h8,h9,h10,h11,h12,h13,hw⟩:=hY9;exact⟨cK h0 hb,cK h1 hb,cK h2 hb,cK h3 hb,cK h4 hb,cK h5 hb,cK h6 hb,cK h7 hb,cK h8 hb,cK h9 hb,cK h10 hb,cK h11 hb,cK h12 hb,cK h13 hb,lH (bT hw.out hb)⟩) (fun hY9=>?_)
      clear hK K
      (try simp only[Act.put,aI,aO,aS])
      refine tkr (d:=(some 111)) (v:=?v31) 15 rfl rfl hY9 ?hy31 ?rs31
      case hy31=>(intro w hSw;(try dsimp only at hSw);go_simp)<;>(try with_reducible rfl)
      (try simp only[Act.put,aI,aO,aS])
      refine tkr (d:=(some 127)) (v:=?v32) 16 rfl rfl hY9 ?hy32 ?rs32
      case hy32=>(intro w hSw;(try dsimp only at hSw);go_simp)<;>(try with_reducible rfl)
      (try simp only[Act.put,aI,aO,aS])
      refine tkr (d:=(some 128)) (v:=?v33) 17 rfl rfl hY9 ?hy33 ?rs33
      case hy33=>(intro w hSw;(try dsimp only at hSw);go_simp)<;>(try with_reducible rfl)
      (try simp only[Act.put,aI,aO,aS])
      refine tkr (d:=(some 13)) (v:=?v34) 18 rfl rfl hY9 ?hy34 ?rs34
      case hy34=>(intro w hSw;(try dsimp only at hSw);go_simp)<;>(try with_reducible rfl)
      (try simp only[Act.put,aI,aO,aS])
      refine tkr (d:=(some 14)) (v:=?v35) 19 rfl rfl hY9 ?hy35 ?rs35
      case hy35=>(intro w hSw;(try dsimp only at hSw);go_simp)<;>(try with_reducible rfl)
      (try simp only[Act.put,aI,aO,aS])
      refine wpAnyH_done (by kernel_rfl) ?_ _
      obtain⟨z0,z1,z2,z3,z4,z5,z6,z7,z8,z9,z10,z11,z12,z13,zW⟩:=hY9
      have zV:=zW
      have zW:=lH (bT W2.out zV.out)
      cases hro:RX with
      |none=>
       have hR:=HNR.out hro
       rw[hro] at HRB
       rw[←HRB.out]
       clear HSR HCR HNR
       go_wp2_with fail
       go_ret2
       rw[hR]
       exact⟨rfl,Nat.zero_le _,zW.out⟩
      |some t=>
       rw[hro] at HRB
       rw[←HRB.out] at hln
       rw[←HRB.out]
       have hlt2:t.length≤(1+SS)*4000000:=Nat.le_trans hln hlen2
       have RXE:=hro
       have HR2:=lH (HSR.out t RXE)
       have HC2:=lH (HCR.out t hlt2)
       have AD: ∀w,(Op.stringOp .add ⟨l1.toArray⟩ ⟨t.toArray⟩).run Tryz.prog w= .ok (.string ⟨(l1++t).toArray⟩) w:=fun w=>zAh (P:= Tryz.prog) l1 t (by clear hlen2;have:=Nat.le_trans hlt2 hb0;omega) w
       clear HSR HCR HNR
       have zW2:=lH (zV.out)
       go_wp2_with fail
       go_roundw
       case rel=>exact⟨i+1,l1++t,rfl,by go_num,by omega,zW2,HC2,HR2⟩
       case measure=>simp[intOf];omega
    ·have hci:choI cs tx<cs.length:=zHA (hsome (.inr rfl)) tx
     obtain⟨yc,hyc,hbd,hwf,hcn⟩:=HBD.out (.inr rfl) (choI cs tx) hci
     obtain⟨Ad,cap2,eA,_,hsp⟩:=H4.out.spread
     injection eA with e1 e2 e3
     subst e1 e2 e3
     have hcap2:cs.length≤c0:=by
      rcases H4.out with⟨e,_⟩|⟨_,_,_,e,_,q,_,_⟩
      ·rw[e] at hci;simp at hci
      injection e with _ _ e;omega
     obtain⟨bk,boff,rfl,a9,n9,c9,k0,k1,k2,k3,k4⟩:=hsp _ yc hyc
     have hymem:yc∈casesOf (.mk 5 T O cs):=by
      rw[show casesOf (.mk 5 T O cs)=cs from if_pos (.inr rfl)]
      exact List.mem_of_getElem? hyc
     have hcnt:cnt f yc.2≤1+SS:=by rw[HSS.out];exact Nat.le_trans hcn (Nat.le_add_left _ _)
     have hlen2:cnt f yc.2*4000000≤(1+SS)*4000000:=Nat.mul_le_mul_right _ hcnt
     have hot2:=(hothr (.inr rfl)).2 yc (List.mem_of_getElem? hyc)
     have HRB:=lH (show RX=saidM (evS [t0,t1,t2,t3,t4]) (valA args) f mc ms yc.2 from HRX.out.trans (show saidM (evS [t0,t1,t2,t3,t4]) (valA args) f mc ms (bodyI (.mk 5 T O cs) (choI cs (valA args T).2.2.2))=_ by rw[HVAL.out];exact congrArg _ hbd))
     have CSS:=lH fun (wx:World) (hb:Below w.heap.size w wx)=>IH.out (.slice a9 n9 c9) yc.2 wx mc ms (zAi k2 hb) k4 hwf hot2 (fun t ht=>HHB.out yc hymem t ht) (zAv HA.out hb) HM.out (Nat.le_trans hlen2 hb0)
     have CC:=lH fun (key:List UInt8) (wx:World) (hb:Below w.heap.size w wx)=>zEp 5 T O cs (some ⟨bk,boff,none⟩) cs.length c0 key wx (zAm H4.out hb) p6
     have HK1:=lH k1
     obtain⟨io,hio⟩:=(hothr (.inr rfl)).1
     have HCH:=lH (show(keyN cs tx<0∧keyN cs other=((choI cs tx:Nat):Int))∨(¬keyN cs tx<0∧keyN cs tx=((choI cs tx:Nat):Int)) by
      unfold choI
      cases hk:keyI cs tx with
      |some j=>exact .inr ⟨by rw[zBN hk];omega,by rw[zBN hk];rfl⟩
      |none=>exact .inl ⟨by rw[zFv hk];omega,by rw[zBN hio,hio];rfl⟩)
     have hk0:=HHX.out rfl
     obtain⟨ka,hka,hid⟩:=hk0
     have CI:=lH fun (wx:World) (hb:Below w.heap.size w wx)=>zBp args T va wx (zAv HA.out hb) hal
     rw[hid] at CI
     obtain⟨Aa,acap,rfl,_,hael⟩:=HA.out.spread
     obtain⟨ba,ao,rfl,q0,q1',q2,q3,q4⟩:=hael ka _ hka
     have r0:=cK q0 WB.out
     have r1:=cK q1' WB.out
     have r2:=cK q2 WB.out
     have r3:=cK q3 WB.out
     have r4:=cK q4 WB.out
     have rl:=World.block_lt_of_cell? _ _ r0
     have hkal:ka<args.length:=(List.getElem?_eq_some_iff.1 hka).1
     have hacap:args.length≤acap:=by
      rcases HA.out with⟨e,_⟩|⟨_,_,_,e,_,q,_,_⟩
      ·rw[e] at hkal;simp at hkal
      injection e with _ _ e;omega
     have hka':(ka:Int)<(args.length:Int):=by omega
     dsimp only at r0 r1 r2 r3 r4
     have W1:=lH (bT WB.out (bT (bA wr (.cells #[.int .i64 5,.string ⟨T.toArray⟩,.int .i64 O,.slice (some ⟨bk,boff,none⟩) cs.length c0] 51)) (bA _ (.cells #[.string ⟨#[]⟩,.bool false,.int .i64 0,.int .i64 0,.string ⟨#[]⟩] 70))))
     have CIi:=lH (CI.out _ W1.out)
     have g0':=cK g0 (bA wr (.cells #[.int .i64 5,.string ⟨T.toArray⟩,.int .i64 O,.slice (some ⟨bk,boff,none⟩) cs.length c0] 51))
     have s0:=cK r0 (bT (bA wr (.cells #[.int .i64 5,.string ⟨T.toArray⟩,.int .i64 O,.slice (some ⟨bk,boff,none⟩) cs.length c0] 51)) (bA _ (.cells #[.string ⟨#[]⟩,.bool false,.int .i64 0,.int .i64 0,.string ⟨#[]⟩] 70)))
     have s1:=cK r1 (bT (bA wr (.cells #[.int .i64 5,.string ⟨T.toArray⟩,.int .i64 O,.slice (some ⟨bk,boff,none⟩) cs.length c0] 51)) (bA _ (.cells #[.string ⟨#[]⟩,.bool false,.int .i64 0,.int .i64 0,.string ⟨#[]⟩] 70)))
     have s2:=cK r2 (bT (bA wr (.cells #[.int .i64 5,.string ⟨T.toArray⟩,.int .i64 O,.slice (some ⟨bk,boff,none⟩) cs.length c0] 51)) (bA _ (.cells #[.string ⟨#[]⟩,.bool false,.int .i64 0,.int .i64 0,.string ⟨#[]⟩] 70)))
     have s3:=cK r3 (bT (bA wr (.cells #[.int .i64 5,.string ⟨T.toArray⟩,.int .i64 O,.slice (some ⟨bk,boff,none⟩) cs.length c0] 51)) (bA _ (.cells #[.string ⟨#[]⟩,.bool false,.int .i64 0,.int .i64 0,.string ⟨#[]⟩] 70)))
     have s4:=cK r4 (bT (bA wr (.cells #[.int .i64 5,.string ⟨T.toArray⟩,.int .i64 O,.slice (some ⟨bk,boff,none⟩) cs.length c0] 51)) (bA _ (.cells #[.string ⟨#[]⟩,.bool false,.int .i64 0,.int .i64 0,.string ⟨#[]⟩] 70)))
     clear CI hael q0 q1' q2 q3 q4 hka hid
     generalize args.length=AL at*
     go_wp2_with fail
     refine CIi.out.mono ?_
     rintro e w5 ⟨rfl,rfl⟩
     clear CIi g0' W1
     have WA:=lH (bT HB.out (bT (bA wr (.cells #[.int .i64 5,.string ⟨T.toArray⟩,.int .i64 O,.slice (some ⟨bk,boff,none⟩) cs.length c0] 51)) (bA _ (.cells #[.string ⟨an.toArray⟩,.bool bn,.int .i64 co,.int .i64 sc,.string ⟨tx.toArray⟩] 70))))
     go_upto_region 20 with fail
     have WAf:=lH (show Below w.heap.size w _ from bT W2.out WA.out)
     have PX:=lH ((Boxed.made wr #[.int .i64 5,.string ⟨T.toArray⟩,.int .i64 O,.slice (some ⟨bk,boff,none⟩) cs.length c0] 51).alloc (.cells #[.string ⟨an.toArray⟩,.bool bn,.int .i64 co,.int .i64 sc,.string ⟨tx.toArray⟩] 70))
     have PA:=lH (Boxed.made (wr.alloc (.cells #[.int .i64 5,.string ⟨T.toArray⟩,.int .i64 O,.slice (some ⟨bk,boff,none⟩) cs.length c0] 51)) #[.string ⟨an.toArray⟩,.bool bn,.int .i64 co,.int .i64 sc,.string ⟨tx.toArray⟩] 70)
     have PM:=lH (((BM.out.below HB.out).alloc (.cells #[.int .i64 5,.string ⟨T.toArray⟩,.int .i64 O,.slice (some ⟨bk,boff,none⟩) cs.length c0] 51)).alloc (.cells #[.string ⟨an.toArray⟩,.bool bn,.int .i64 co,.int .i64 sc,.string ⟨tx.toArray⟩] 70))
     have PS:=lH (((BS.out.below HB.out).alloc (.cells #[.int .i64 5,.string ⟨T.toArray⟩,.int .i64 O,.slice (some ⟨bk,boff,none⟩) cs.length c0] 51)).alloc (.cells #[.string ⟨an.toArray⟩,.bool bn,.int .i64 co,.int .i64 sc,.string ⟨tx.toArray⟩] 70))
     simp only[World.size_alloc] at PA
     generalize (wr.alloc (.cells #[.int .i64 5,.string ⟨T.toArray⟩,.int .i64 O,.slice (some ⟨bk,boff,none⟩) cs.length c0] 51)).alloc (.cells #[.string ⟨an.toArray⟩,.bool bn,.int .i64 co,.int .i64 sc,.string ⟨tx.toArray⟩] 70)=w5 at*
     clear g0 g1 g2 g3 lb r0 r1 r2 r3 r4 rl m0 m1 ml
     generalize wr.heap.size+1=pa at*
     generalize wr.heap.size=px at*
     have x0:w5.cell? ⟨px,0,none⟩=some (.int .i64 5):=PX.out.cell 0 _ rfl
     have x1:w5.cell? ⟨px,1,none⟩=some (.string ⟨T.toArray⟩):=PX.out.cell 1 _ rfl
     have x2:w5.cell? ⟨px,2,none⟩=some (.int .i64 O):=PX.out.cell 2 _ rfl
     have x3:w5.cell? ⟨px,3,none⟩=some (.slice (some ⟨bk,boff,none⟩) cs.length c0):=PX.out.cell 3 _ rfl
     have xl:=PX.out.lt
     have a2:w5.cell? ⟨pa,2,none⟩=some (.int .i64 co):=PA.out.cell 2 _ rfl
     have a3:w5.cell? ⟨pa,3,none⟩=some (.int .i64 sc):=PA.out.cell 3 _ rfl
     have a4:w5.cell? ⟨pa,4,none⟩=some (.string ⟨tx.toArray⟩):=PA.out.cell 4 _ rfl
     have al:=PA.out.lt
     have CC1:=lH (CC.out tx w5 WAf.out)
     have CC2:=lH fun (wx:World) (hb:Below w.heap.size w wx)=>CC.out other wx hb
     generalize hI:choI cs tx=I at*
     generalize keyN cs tx=n1 at*
     generalize keyN cs other=n2 at*
     unfold other at CC2
     go_wp2_with fail
     refine CC1.out.mono ?_
     rintro e w6 ⟨rfl,hb⟩
     have W6:=lH (bT WAf.out hb)
     have Y6:=lH (bT WA.out hb)
     have PX6:=lH (PX.out.below hb)
     have PM6:=lH (PM.out.below hb)
     have PS6:=lH (PS.out.below hb)
     clear hb CC1 x0 x1 x2 x3 xl a2 a3 a4 al PX PM PS PA WA WAf s0 s1 s2 s3 s4 hI
     go_upto_if 80 with fail
     go_cut [16] from 79 to 82 (fun v16 wx=>v16= .int .i64 (I:Int)∧Hid (Below w6.heap.size w6 wx))
     case first=>
      have x0:w6.cell? ⟨px,0,none⟩=some (.int .i64 5):=PX6.out.cell 0 _ rfl
      have x1:w6.cell? ⟨px,1,none⟩=some (.string ⟨T.toArray⟩):=PX6.out.cell 1 _ rfl
      have x2:w6.cell? ⟨px,2,none⟩=some (.int .i64 O):=PX6.out.cell 2 _ rfl
      have x3:w6.cell? ⟨px,3,none⟩=some (.slice (some ⟨bk,boff,none⟩) cs.length c0):=PX6.out.cell 3 _ rfl
      have xl:=PX6.out.lt
      rcases HCH.out with⟨h1,h2⟩|⟨h1,h2⟩
      ·have d0:decide (n1<0)=true:=decide_eq_true h1
       try rw[d0]
       have CC2i:=lH (CC2.out w6 W6.out)
       rw[h2] at CC2i
       go_wp2_with fail
       refine CC2i.out.mono ?_
       rintro e w7 ⟨rfl,hb⟩
       have H7:=lH hb
       clear hb CC2i x0 x1 x2 x3 xl
       go_wp2_with fail
       go_meet
       exact⟨rfl,H7⟩
      have d0:decide (n1<0)=false:=decide_eq_false (by omega)
      try rw[d0]
      go_wp2_with fail
      go_meet
      exact⟨by rw[h2],lH (Below.refl _ _)⟩
     case rest=>
     obtain⟨rfl,H7⟩:=hcut
     have WX:=lH (bT Y6.out H7.out)
     have PX7:=lH (PX6.out.below H7.out)
     have PM7:=lH (PM6.out.below H7.out)
     have PS7:=lH (PS6.out.below H7.out)
     clear HCH CC2 CC H7 PX6 PM6 PS6 W6 Y6
     have x3:wc.cell? ⟨px,3,none⟩=some (.slice (some ⟨bk,boff,none⟩) cs.length c0):=PX7.out.cell 3 _ rfl
     have kb:=cK HK1.out (bT W2.out WX.out)
     have u0:wc.cell? ⟨w.heap.size,0,none⟩=some (.string ⟨t0.toArray⟩):=PS7.out.cell 0 _ rfl
     have u1:wc.cell? ⟨w.heap.size,1,none⟩=some (.string ⟨t1.toArray⟩):=PS7.out.cell 1 _ rfl
     have u2:wc.cell? ⟨w.heap.size,2,none⟩=some (.string ⟨t2.toArray⟩):=PS7.out.cell 2 _ rfl
     have u3:wc.cell? ⟨w.heap.size,3,none⟩=some (.string ⟨t3.toArray⟩):=PS7.out.cell 3 _ rfl
     have u4:wc.cell? ⟨w.heap.size,4,none⟩=some (.string ⟨t4.toArray⟩):=PS7.out.cell 4 _ rfl
     have m0:wc.cell? ⟨q1,0,none⟩=some (.int .i64 mc):=PM7.out.cell 0 _ rfl
     have m1:wc.cell? ⟨q1,1,none⟩=some (.int .i64 ms):=PM7.out.cell 1 _ rfl
     have hciI:(I:Int)<(cs.length:Int):=by omega
     generalize saidM (evS [t0,t1,t2,t3,t4]) (valA args) f mc ms yc.2=RB at*
     go_upto_region 23 with fail
     refine wp_region_held_drew (S:=fun w'=>w'.cell? ⟨px,3,none⟩=some (.slice (some ⟨bk,boff,none⟩) cs.length c0)∧w'.cell? ⟨bk,boff+I*2+1,none⟩=some (.slice a9 n9 c9)∧w'.cell? ⟨w.heap.size,0,none⟩=some (.string ⟨t0.toArray⟩)∧w'.cell? ⟨w.heap.size,1,none⟩=some (.string ⟨t1.toArray⟩)∧w'.cell? ⟨w.heap.size,2,none⟩=some (.string ⟨t2.toArray⟩)∧w'.cell? ⟨w.heap.size,3,none⟩=some (.string ⟨t3.toArray⟩)∧w'.cell? ⟨w.heap.size,4,none⟩=some (.string ⟨t4.toArray⟩)∧w'.cell? ⟨q1,0,none⟩=some (.int .i64 mc)∧w'.cell? ⟨q1,1,none⟩=some (.int .i64 ms)∧Hid (Below w2.heap.size w2 w')) (by kernel_rfl) (⟨x3,kb,u0,u1,u2,u3,u4,m0,m1,lH (Below.drew WX.out)⟩) (fun hY9=>?_)
     refine tkr (d:=(some 84)) (v:=?v1) 0 rfl rfl hY9 ?hy1 ?rs1
     case hy1=>(intro w hSw;(try dsimp only at hSw);go_simp)<;>(try with_reducible rfl)
     (try simp only[Act.put,aI,aO,aS])
     refine tkr (d:=(some 85)) (v:=?v2) 1 rfl rfl hY9 ?hy2 ?rs2
     case hy2=>(intro w hSw;(try dsimp only at hSw);go_simp)<;>(try with_reducible rfl)
     (try simp only[Act.put,aI,aO,aS])
     refine tkr (d:=(some 86)) (v:=?v3) 2 rfl rfl hY9 ?hy3 ?rs3
     case hy3=>(intro w hSw;(try dsimp only at hSw);go_simp)<;>(try with_reducible rfl)
     (try simp only[Act.put,aI,aO,aS])
     refine tkr (d:=(some 87)) (v:=?v4) 3 rfl rfl hY9 ?hy4 ?rs4
     case hy4=>(intro w hSw;(try dsimp only at hSw);go_simp)<;>(try with_reducible rfl)
     (try simp only[Act.put,aI,aO,aS])
     refine tkr (d:=(some 88)) (v:=?v5) 4 rfl rfl hY9 ?hy5 ?rs5
     case hy5=>(intro w hSw;(try dsimp only at hSw);go_simp)<;>(try with_reducible rfl)
     (try simp only[Act.put,aI,aO,aS])
     refine tkr (d:=(some 89)) (v:=?v6) 5 rfl rfl hY9 ?hy6 ?rs6
     case hy6=>(intro w hSw;(try dsimp only at hSw);go_simp)<;>(try with_reducible rfl)
     (try simp only[Act.put,aI,aO,aS])
     refine tkr (d:=(some 90)) (v:=?v7) 6 rfl rfl hY9 ?hy7 ?rs7
     case hy7=>(intro w hSw;(try dsimp only at hSw);go_simp)<;>(try with_reducible rfl)
     (try simp only[Act.put,aI,aO,aS])
     refine tkr (d:=(some 91)) (v:=?v8) 7 rfl rfl hY9 ?hy8 ?rs8
     case hy8=>(intro w hSw;(try dsimp only at hSw);go_simp)<;>(try with_reducible rfl)
     (try simp only[Act.put,aI,aO,aS])
     refine tkr (d:=(some 92)) (v:=?v9) 8 rfl rfl hY9 ?hy9 ?rs9
     case hy9=>(intro w hSw;(try dsimp only at hSw);go_simp)<;>(try with_reducible rfl)
     (try simp only[Act.put,aI,aO,aS])
     refine zAc 9 rfl (by kernel_rfl) (by rfl) (fun K hK=>?_)
     go_simp
     refine(CSS.out _ (by obtain⟨_,_,_,_,_,_,_,_,_,h7⟩:=hY9;exact bT W2.out h7.out)).mono ?_
     rintro e w' ⟨rfl,hln,hb⟩
     refine hK.out _ _ (by obtain⟨h0,h1,h2,h3,h4,h5,h6,h7,h8,hw⟩:=hY9;exact⟨cK h0 hb,cK h1 hb,cK h2 hb,cK h3 hb,cK h4 hb,cK h5 hb,cK h6 hb,cK h7 hb,cK h8 hb,lH (bT hw.out hb)⟩) (fun hY9=>?_)
     clear hK K
     (try simp only[Act.put,aI,aO,aS])
     refine tkr (d:=(some 83)) (v:=?v11) 10 rfl rfl hY9 ?hy11 ?rs11
     case hy11=>(intro w hSw;(try dsimp only at hSw);go_simp)<;>(try with_reducible rfl)
     (try simp only[Act.put,aI,aO,aS])
     refine tkr (d:=(some 94)) (v:=?v12) 11 rfl rfl hY9 ?hy12 ?rs12
     case hy12=>(intro w hSw;(try dsimp only at hSw);go_simp)<;>(try with_reducible rfl)
     (try simp only[Act.put,aI,aO,aS])
     refine tkr (d:=(some 95)) (v:=?v13) 12 rfl rfl hY9 ?hy13 ?rs13
     case hy13=>(intro w hSw;(try dsimp only at hSw);go_simp)<;>(try with_reducible rfl)
     (try simp only[Act.put,aI,aO,aS])
     refine tkr (d:=(some 13)) (v:=?v14) 13 rfl rfl hY9 ?hy14 ?rs14
     case hy14=>(intro w hSw;(try dsimp only at hSw);go_simp)<;>(try with_reducible rfl)
     (try simp only[Act.put,aI,aO,aS])
     refine tkr (d:=(some 14)) (v:=?v15) 14 rfl rfl hY9 ?hy15 ?rs15
     case hy15=>(intro w hSw;(try dsimp only at hSw);go_simp)<;>(try with_reducible rfl)
     (try simp only[Act.put,aI,aO,aS])
     refine wpAnyH_done (by kernel_rfl) ?_ _
     obtain⟨z0,z1,z2,z3,z4,z5,z6,z7,z8,zW⟩:=hY9
     have zV:=zW
     have zW:=lH (bT W2.out zV.out)
     cases hro:RX with
     |none=>
      have hR:=HNR.out hro
      rw[hro] at HRB
      rw[←HRB.out]
      clear HSR HCR HNR
      go_wp2_with fail
      go_ret2
      rw[hR]
      exact⟨rfl,Nat.zero_le _,zW.out⟩
     |some t=>
      rw[hro] at HRB
      rw[←HRB.out] at hln
      rw[←HRB.out]
      have hlt2:t.length≤(1+SS)*4000000:=Nat.le_trans hln hlen2
      have RXE:=hro
      have HR2:=lH (HSR.out t RXE)
      have HC2:=lH (HCR.out t hlt2)
      have AD: ∀w,(Op.stringOp .add ⟨l1.toArray⟩ ⟨t.toArray⟩).run Tryz.prog w= .ok (.string ⟨(l1++t).toArray⟩) w:=fun w=>zAh (P:= Tryz.prog) l1 t (by clear hlen2;have:=Nat.le_trans hlt2 hb0;omega) w
      clear HSR HCR HNR
      have zW2:=lH (zV.out)
      go_wp2_with fail
      go_roundw
      case rel=>exact⟨i+1,l1++t,rfl,by go_num,by omega,zW2,HC2,HR2⟩
      case measure=>simp[intOf];omega
    have hn:=zBD mc ms HM.out
    have RXE:RX=some (numM mc ms):=HRX.out
    have CN:=lH fun w=>CQ.out mc ms w HM.out
    generalize numM mc ms=t at*
    have HR2:=lH (HSR.out t RXE)
    have HC2:=lH (HCR.out t (by omega))
    have AD: ∀w,(Op.stringOp .add ⟨l1.toArray⟩ ⟨t.toArray⟩).run Tryz.prog w= .ok (.string ⟨(l1++t).toArray⟩) w:=fun w=>zAh (P:= Tryz.prog) l1 t (by omega) w
    clear HSR HCR HNR
    have WA:=lH (bT HB.out (bT (bA wr (.cells #[.int .i64 6,.string ⟨T.toArray⟩,.int .i64 O,.slice a0 n0 c0] 51)) (bA _ (.cells #[.string ⟨#[]⟩,.bool false,.int .i64 0,.int .i64 0,.string ⟨#[]⟩] 70))))
    go_wp2_with fail
    refine(CN.out _).mono ?_
    rintro e w5 ⟨rfl,hb⟩
    have WZ:=lH (bT WA.out hb)
    clear hb CN WA
    go_wp2_with fail
    go_roundw
    case rel=>exact⟨i+1,l1++t,rfl,by go_num,by omega,WZ,HC2,HR2⟩
    case measure=>simp[intOf];omega
   have ei:i=L:=by omega
   subst ei
   have hi': ¬(i:Int)<(i:Int):=by omega
   have HE:=lH (show R=some l1 by rw[HL.out];exact zMd (by omega))
   have hln:l1.length≤TT:=Nat.le_trans (Nat.le_add_right _ _) HC.out
   clear HL HC
   go_wp2_with fail
   go_ret2
   rw[HE.out]
   exact⟨rfl,hln,WB.out⟩
end Go.Proofs.YtjlchookakbomaaGreatDoor
