/- The walk of eval's speaker: a number. What it keeps while it speaks. Conditions: the listed variables; the number is right; what is said is not too long. -/
import Derived.Test.YtjlchookakbomaaGreatDoorEi18
set_option maxHeartbeats 8000000
set_option maxRecDepth 100000
namespace Go.Proofs.YtjlchookakbomaaGreatDoor
open Go.RowKit Ms
open Dcm (okD)
def caseV (E:Ev) (cs:Cs) (c s o:Int):Value:=match E.less c s o with
 |none=> .tuple #[.int .i64 0,.agg #[.int .i64 0,.int .i64 0],errV 1]
 |some l=> .tuple #[.int .i64 ((cntI E cs c s l.1 l.2:Nat):Int),.agg #[.int .i64 l.1,.int .i64 l.2],.nilIface]
theorem zK3 {E:Ev} {k:List UInt8} {c s:Int} {y:List UInt8×List Nd} (h0:0≤exV y.1) (h:E.same c s (exV y.1)=true):rnk E k c s y=3:=by
 unfold rnk;rw[decide_eq_true h0,h];rfl
theorem zK4 {E:Ev} {k:List UInt8} {c s:Int} {y:List UInt8×List Nd} (h:(decide (0≤exV y.1)&&E.same c s (exV y.1))=false):rnk E k c s y=if (y.1==k)=true then 2 else if (y.1==other)=true then 1 else 0:=by
 unfold rnk;rw[h];rfl

theorem zHN {w:World} {r:Nat} {a b x y:Value} (h0:w.cell? ⟨r,0,none⟩=some a) (h1:w.cell? ⟨r,1,none⟩=some b):((w.setCell ⟨r,0,none⟩ x).setCell ⟨r,1,none⟩ y).cell? ⟨r,0,none⟩=some x∧((w.setCell ⟨r,0,none⟩ x).setCell ⟨r,1,none⟩ y).cell? ⟨r,1,none⟩=some y:=by
 have hn:(⟨r,0,none⟩:Addr)≠⟨r,1,none⟩:=by simp
 have k1:(w.setCell ⟨r,0,none⟩ x).cell? ⟨r,1,none⟩=some b:=by rw[World.cell?_setCell_other _ _ _ _ hn,h1]
 exact⟨by rw[World.cell?_setCell_other _ _ _ _ hn.symm,World.cell?_setCell_same _ _ _ h0],World.cell?_setCell_same _ _ _ k1⟩
theorem zK5 {w:World} {r:Nat} {a b x y:Value} {o:Obj} (h0:w.cell? ⟨r,0,none⟩=some a) (h1:w.cell? ⟨r,1,none⟩=some b) (hl:r<w.heap.size):(((w.setCell ⟨r,0,none⟩ x).setCell ⟨r,1,none⟩ y).alloc o).cell? ⟨r,0,none⟩=some x∧(((w.setCell ⟨r,0,none⟩ x).setCell ⟨r,1,none⟩ y).alloc o).cell? ⟨r,1,none⟩=some y:=by
 have hs:r<((w.setCell ⟨r,0,none⟩ x).setCell ⟨r,1,none⟩ y).heap.size:=by simpa only[zAF] using hl
 have k:=zHN (x:=x) (y:=y) h0 h1
 exact⟨((bA _ o).cell (p:=⟨r,0,none⟩) hs).trans k.1,((bA _ o).cell (p:=⟨r,1,none⟩) hs).trans k.2⟩

theorem zMD (K:Int) (T:List UInt8) (O:Int) (v:Value) (t0 t1 t2 t3 t4:List UInt8) (c s:Int) (w:World) (h: ¬addOk c s (-O) 0) (hO:0≤O∧O≤9):
  Calls Tryz.prog 28 #[.agg #[.int .i64 K,.string ⟨T.toArray⟩,.int .i64 O,v],.agg #[.string ⟨t0.toArray⟩,.string ⟨t1.toArray⟩,.string ⟨t2.toArray⟩,.string ⟨t3.toArray⟩,.string ⟨t4.toArray⟩],.agg #[.int .i64 c,.int .i64 s]] w fun e w'=>e= .returned (.tuple #[.int .i64 0,.agg #[.int .i64 0,.int .i64 0],errV 1])∧Below w.heap.size w w':=by
 have wn:IntKind.i64.wrap (-O)= -O:=IntWalk.i64_in _ (by omega)
 have CA:=lH fun w=>zNs c s (-O) 0 w h
 have W0:=lH ((bT (bT (bT (bA w (.cells #[.int .i64 K,.string ⟨T.toArray⟩,.int .i64 O,v] 51)) (bA _ (.cells #[.string ⟨t0.toArray⟩,.string ⟨t1.toArray⟩,.string ⟨t2.toArray⟩,.string ⟨t3.toArray⟩,.string ⟨t4.toArray⟩] 58))) (bA _ (.cells #[.int .i64 c,.int .i64 s] 64))) (bA _ (.cells #[.int .i64 0,.int .i64 0] 64))))
 have BR:=lH (Boxed.made (((w.alloc (.cells #[.int .i64 K,.string ⟨T.toArray⟩,.int .i64 O,v] 51)).alloc (.cells #[.string ⟨t0.toArray⟩,.string ⟨t1.toArray⟩,.string ⟨t2.toArray⟩,.string ⟨t3.toArray⟩,.string ⟨t4.toArray⟩] 58)).alloc (.cells #[.int .i64 c,.int .i64 s] 64)) #[.int .i64 0,.int .i64 0] 64)
 clear h hO
 go_enter Tryz.func28,Tryz.ntmps28
 go_wp2_with fail
 refine(CA.out _).mono ?_
 rintro e w1 ⟨rfl,hb⟩
 have W1:=lH (bT W0.out hb)
 have BR1:=lH (BR.out.below hb)
 simp only[World.size_alloc] at BR1
 have hr0:=lH (show w.heap.size≤w.heap.size+1+1+1 by omega)
 generalize w.heap.size+1+1+1=r at*
 have r0:w1.cell? ⟨r,0,none⟩=some (.int .i64 0):=BR1.out.cell 0 _ rfl
 have r1:w1.cell? ⟨r,1,none⟩=some (.int .i64 0):=BR1.out.cell 1 _ rfl
 have f0:=BR1.out.free 0 (by simp)
 have f1:=BR1.out.free 1 (by simp)
 have rl:=BR1.out.lt
 clear hb BR BR1 W0 CA
 go_wp2_with fail
 have E0:=zK5 (o:= .cells #[.int .i64 0,.int .i64 0] 64) (x:= .int .i64 0) (y:= .int .i64 0) r0 r1 rl
 refine bodyPost_ret (v:= .tuple #[.int .i64 0,.agg #[.int .i64 0,.int .i64 0],errV 1]) (by simp[results,Tryz.results28,go_sem,E0.1,E0.2];try rfl) rfl ?_
 exact⟨rfl,((W1.out.setCell (p:=⟨r,0,none⟩) hr0.out _).setCell (p:=⟨r,1,none⟩) hr0.out _).alloc (by simp only[zAF];exact W1.out.size) _⟩

theorem zME (L:List (List UInt8)) (c s n:Int) (w:World) (hd:okD c s) (h0:0≤n) (h1:n≤1000000000000000):
  Calls Tryz.prog 61 #[.agg #[.int .i64 c,.int .i64 s],.agg #[.int .i64 n,.int .i64 0]] w fun e w'=>e= .returned (.bool ((evS L).same c s n))∧Below w.heap.size w w':=by
 have hn:okD n 0:=⟨by omega,by omega,by omega,h1⟩
 show Calls _ _ _ w fun e w'=>e= .returned (.bool (decide (Dcm.nrm c s=Dcm.nrm n 0)))∧_
 by_cases h:Dcm.nrm c s=Dcm.nrm n 0
 ·rw[decide_eq_true h];exact zKw c s n 0 w hd hn h
 rw[decide_eq_false h];exact zMa c s n 0 w hd hn h

theorem zK6 {f:Nat} (K:Int) (T:List UInt8) (O:Int) (v:Value) (cs:Cs) (t0 t1 t2 t3 t4:List UInt8) (c s:Int) (w:World) (hT:TR w) (hK:KindsW w) (hS:SetFine t0 t1 t2 t3 t4) (hd:okD c s) (hO:0≤O∧O≤9) (hc:CassAt f w v cs) (hl:cs.length≤2000000) (h:addOk c s (-O) 0):
  Calls Tryz.prog 28 #[.agg #[.int .i64 K,.string ⟨T.toArray⟩,.int .i64 O,v],.agg #[.string ⟨t0.toArray⟩,.string ⟨t1.toArray⟩,.string ⟨t2.toArray⟩,.string ⟨t3.toArray⟩,.string ⟨t4.toArray⟩],.agg #[.int .i64 c,.int .i64 s]] w fun e w'=>e= .returned (.tuple #[.int .i64 ((cntI (evS [t0,t1,t2,t3,t4]) cs c s (Dcm.addC c s (-O) 0) (Dcm.addS s 0):Nat):Int),.agg #[.int .i64 (Dcm.addC c s (-O) 0),.int .i64 (Dcm.addS s 0)],.nilIface])∧Below w.heap.size w w':=by
 have wn:IntKind.i64.wrap (-O)= -O:=IntWalk.i64_in _ (by omega)
 have hd2:Dcm.okD (Dcm.addC c s (-O) 0) (Dcm.addS s 0):=zDZ (L:= [t0,t1,t2,t3,t4]) (c:=c) (s:=s) (o:=O) (l:=(Dcm.addC c s (-O) 0,Dcm.addS s 0)) (if_pos h)
 have CA:=lH fun w=>zMb c s (-O) 0 w h
 rw[←zKk]
 generalize Dcm.addC c s (-O) 0=A at*
 generalize Dcm.addS s 0=B at*
 have CK:=lH fun (wx:World) (hb:Below w.heap.size w wx)=>zMC t0 t1 t2 t3 t4 A B wx (hT.below hb) (hK.below hb) hS.2 hS.1 hd2
 rw[show Rul.kindS [t0,t1,t2,t3,t4] (Rul.opsD A B) 0=(evS [t0,t1,t2,t3,t4]).kind A B from rfl] at CK
 have CX:=lH fun (key:List UInt8) (hk:key.length≤2000000) (wx:World) (hb:Below w.heap.size w wx)=>zH8 key wx (hT.p.below hb) (hT.n.below hb) (by omega)
 have CS:=lH fun (n:Int) (h0:0≤n) (h1:n≤1000000000000000) (w:World)=>zME [t0,t1,t2,t3,t4] c s n w hd h0 h1
 have HX:=lH (show ∀wx,Below w.heap.size w wx→CassAt f wx v cs from fun wx hb=>zAm hc hb)
 obtain⟨Ad,cap,rfl,hm,_⟩:=hc.spread
 have hcap:cs.length≤cap∨cs.length=0:=by
  rcases hc with⟨e,_⟩|⟨_,_,_,e,_,q,_,_⟩
  ·exact .inr (by rw[e];rfl)
  injection e with _ _ e;exact .inl (by omega)
 have W0:=lH ((bT (bT (bT (bA w (.cells #[.int .i64 K,.string ⟨T.toArray⟩,.int .i64 O,.slice Ad cs.length cap] 51)) (bA _ (.cells #[.string ⟨t0.toArray⟩,.string ⟨t1.toArray⟩,.string ⟨t2.toArray⟩,.string ⟨t3.toArray⟩,.string ⟨t4.toArray⟩] 58))) (bA _ (.cells #[.int .i64 c,.int .i64 s] 64))) (bA _ (.cells #[.int .i64 0,.int .i64 0] 64))))
 have BN:=lH ((((Boxed.made w #[.int .i64 K,.string ⟨T.toArray⟩,.int .i64 O,.slice Ad cs.length cap] 51).alloc (.cells #[.string ⟨t0.toArray⟩,.string ⟨t1.toArray⟩,.string ⟨t2.toArray⟩,.string ⟨t3.toArray⟩,.string ⟨t4.toArray⟩] 58)).alloc (.cells #[.int .i64 c,.int .i64 s] 64)).alloc (.cells #[.int .i64 0,.int .i64 0] 64))
 have BS:=lH (((Boxed.made (w.alloc (.cells #[.int .i64 K,.string ⟨T.toArray⟩,.int .i64 O,.slice Ad cs.length cap] 51)) #[.string ⟨t0.toArray⟩,.string ⟨t1.toArray⟩,.string ⟨t2.toArray⟩,.string ⟨t3.toArray⟩,.string ⟨t4.toArray⟩] 58).alloc (.cells #[.int .i64 c,.int .i64 s] 64)).alloc (.cells #[.int .i64 0,.int .i64 0] 64))
 have BD:=lH ((Boxed.made ((w.alloc (.cells #[.int .i64 K,.string ⟨T.toArray⟩,.int .i64 O,.slice Ad cs.length cap] 51)).alloc (.cells #[.string ⟨t0.toArray⟩,.string ⟨t1.toArray⟩,.string ⟨t2.toArray⟩,.string ⟨t3.toArray⟩,.string ⟨t4.toArray⟩] 58)) #[.int .i64 c,.int .i64 s] 64).alloc (.cells #[.int .i64 0,.int .i64 0] 64))
 have BR:=lH (Boxed.made (((w.alloc (.cells #[.int .i64 K,.string ⟨T.toArray⟩,.int .i64 O,.slice Ad cs.length cap] 51)).alloc (.cells #[.string ⟨t0.toArray⟩,.string ⟨t1.toArray⟩,.string ⟨t2.toArray⟩,.string ⟨t3.toArray⟩,.string ⟨t4.toArray⟩] 58)).alloc (.cells #[.int .i64 c,.int .i64 s] 64)) #[.int .i64 0,.int .i64 0] 64)
 simp only[World.size_alloc] at BS BD BR
 clear h hO hc hT hK hS hd hd2
 generalize evS [t0,t1,t2,t3,t4]=E at*
 generalize hk0:E.kind A B=k at*
 clear hk0
 generalize hL:cs.length=L at*
 go_enter Tryz.func28,Tryz.ntmps28
 go_wp2_with fail
 refine(CA.out _).mono ?_
 rintro e w1 ⟨rfl,hb⟩
 have W1:=lH (bT W0.out hb)
 have N1:=lH (BN.out.below hb)
 have S1:=lH (BS.out.below hb)
 have D1:=lH (BD.out.below hb)
 have R1:=lH (BR.out.below hb)
 have L1:=lH (Boxed.made w1 #[.int .i64 A,.int .i64 B] 64)
 have HQ:=lH (show w.heap.size≤w.heap.size+1+1+1∧w.heap.size≠w.heap.size+1+1+1∧w.heap.size+1≠w.heap.size+1+1+1∧w.heap.size+1+1≠w.heap.size+1+1+1 from⟨by omega,by omega,by omega,by omega⟩)
 generalize w.heap.size+1+1+1=q3 at*
 generalize w.heap.size+1+1=q2 at*
 generalize w.heap.size+1=q1 at*
 have s0:w1.cell? ⟨q1,0,none⟩=some (.string ⟨t0.toArray⟩):=S1.out.cell 0 _ rfl
 have s1:w1.cell? ⟨q1,1,none⟩=some (.string ⟨t1.toArray⟩):=S1.out.cell 1 _ rfl
 have s2:w1.cell? ⟨q1,2,none⟩=some (.string ⟨t2.toArray⟩):=S1.out.cell 2 _ rfl
 have s3:w1.cell? ⟨q1,3,none⟩=some (.string ⟨t3.toArray⟩):=S1.out.cell 3 _ rfl
 have s4:w1.cell? ⟨q1,4,none⟩=some (.string ⟨t4.toArray⟩):=S1.out.cell 4 _ rfl
 have sl:=S1.out.lt
 have W1a:=lH (bT W1.out (bA w1 (.cells #[.int .i64 A,.int .i64 B] 64)))
 have CKi:=lH (CK.out _ W1a.out)
 clear hb BN BS BD BR W0 CA
 go_wp2_with fail
 refine CKi.out.mono ?_
 rintro e w2 ⟨rfl,hb⟩
 have W2:=lH (bT W1a.out hb)
 have N2:=lH ((N1.out.alloc (.cells #[.int .i64 A,.int .i64 B] 64)).below hb)
 have D2:=lH ((D1.out.alloc (.cells #[.int .i64 A,.int .i64 B] 64)).below hb)
 have R2:=lH ((R1.out.alloc (.cells #[.int .i64 A,.int .i64 B] 64)).below hb)
 have L2:=lH (L1.out.below hb)
 have HQ2:=lH (show w1.heap.size≠q3 from fun e=>by have:=R1.out.lt;omega)
 clear hb N1 S1 D1 R1 L1 W1 W1a CKi CK s0 s1 s2 s3 s4 sl
 generalize w1.heap.size=q4 at*
 have n3:w2.cell? ⟨w.heap.size,3,none⟩=some (.slice Ad L cap):=N2.out.cell 3 _ rfl
 have nl:=N2.out.lt
 go_wp2_with fail
 clear n3 nl
 go_loopw [12,13,45] (fun v12 v13 v45 wr=> ∃i b r:Nat,v12= .int .i64 (b:Int)∧v13= .int .i64 (r:Int)∧v45= .int .i64 (i:Int)∧i≤L∧Hid (bestL (rnk E k c s) (cs.take i) 0 (0,0)=(b,r))∧Hid (Below w2.heap.size w2 wr)) (fun _ _ v45 _=>L-(intOf v45).toNat)
 case atStart=>exact⟨0,0,0,rfl,rfl,rfl,Nat.zero_le _,lH rfl,lH (Below.refl _ _)⟩
 case round=>
  obtain⟨i,b,r,rfl,rfl,rfl,hi,HK,HB⟩:=hrel
  by_cases hlt:i<L
  ·have hi':(i:Int)<(L:Int):=by omega
   have hcc:L≤cap:=by omega
   have WB:=lH (bT W2.out HB.out)
   obtain⟨y,hy⟩: ∃y,cs[i]?=some y:=⟨cs[i]'(by omega),List.getElem?_eq_getElem (by omega)⟩
   obtain⟨A',cap',eA,_,hsp⟩:=(HX.out wr WB.out).spread
   injection eA with e1 e2 e3
   subst e1
   obtain⟨bk,off,rfl,hyc⟩:=hsp i y hy
   obtain⟨a9,n9,c9,x0,x1,_,xk,_⟩:=hyc
   have HS:=lH (zI6 (rnk E k c s) hy)
   rw[HK.out] at HS
   have BY:=lH (Boxed.made wr #[.string ⟨y.1.toArray⟩,.slice a9 n9 c9] 53)
   have WA:=lH (bT HB.out (bA wr (.cells #[.string ⟨y.1.toArray⟩,.slice a9 n9 c9] 53)))
   have CXi:=lH (CX.out y.1 xk _ (bT W2.out WA.out))
   have hxb:=zLC y.1
   have HR3:=lH fun (h0:0≤exV y.1) (h:E.same c s (exV y.1)=true)=>zK3 (E:=E) (k:=k) (c:=c) (s:=s) (y:=y) h0 h
   have HR2:=lH fun (h:(decide (0≤exV y.1)&&E.same c s (exV y.1))=false)=>zK4 (E:=E) (k:=k) (c:=c) (s:=s) (y:=y) h
   have D3:=lH (D2.out.below WA.out)
   clear hsp e2 e3 hy xk HX
   generalize rnk E k c s y=RK at*
   generalize exV y.1=V at*
   generalize y.1=key at*
   have wi:IntKind.i64.wrap ((i:Int)+1)=(i:Int)+1:=IntWalk.i64_in _ (by omega)
   go_wp2_with fail
   refine CXi.out.mono ?_
   rintro e w3 ⟨rfl,hb⟩
   have W3:=lH (bT WA.out hb)
   have BY3:=lH (BY.out.below hb)
   have D4:=lH (D3.out.below hb)
   have HQ3:=lH (show w2.heap.size≤wr.heap.size from HB.out.size)
   clear hb CXi BY D3 HB WA WB x0 x1
   generalize wr.heap.size=qy at*
   cases hv:decide (0≤V) with
   |true=>
    have h0:0≤V:=of_decide_eq_true hv
    have CSi:=lH (CS.out V h0 hxb.2)
    have d0:World.cell? w3 ⟨q2,0,none⟩=some (.int .i64 c):=D4.out.cell 0 _ rfl
    have d1:World.cell? w3 ⟨q2,1,none⟩=some (.int .i64 s):=D4.out.cell 1 _ rfl
    have dl:=D4.out.lt
    have HR3i:=lH (HR3.out h0)
    clear CS
    generalize E.same c s V=z at*
    go_wp2_with fail
    refine(CSi.out _).mono ?_
    rintro e wX ⟨rfl,hb⟩
    have W4:=lH (bT W3.out hb)
    have BYX:=lH (BY3.out.below hb)
    clear hb CSi d0 d1 dl W3 BY3 D4
    cases z with
    |true=>
     have hrk:=HR3i.out rfl
     clear HR3i
     have HRK:=lH (show RK=3 from hrk)
     by_cases hr:r<3
     ·have hr':(r:Int)<3:=by omega
      have HT:=lH (show bestL (rnk E k c s) (cs.take (i+1)) 0 (0,0)=(i,3) by rw[HS.out,HRK.out];exact if_pos hr)
      clear HS HRK HR2 HR3
      go_wp2_with fail
      go_roundw
      case rel=>exact⟨i+1,i,3,rfl,rfl,by go_num,by omega,HT,W4⟩
      case measure=>simp[intOf];omega
     have hr': ¬(r:Int)<3:=by omega
     have HT:=lH (show bestL (rnk E k c s) (cs.take (i+1)) 0 (0,0)=(b,r) by rw[HS.out,HRK.out];exact if_neg hr)
     clear HS HRK HR2 HR3
     go_wp2_with fail
     go_roundw
     case rel=>exact⟨i+1,b,r,rfl,rfl,by go_num,by omega,HT,W4⟩
     case measure=>simp[intOf];omega
    |false=>
     clear HR3i
     have y0:World.cell? wX ⟨qy,0,none⟩=some (.string ⟨key.toArray⟩):=BYX.out.cell 0 _ rfl
     have yl:=BYX.out.lt
     have hrk:=HR2.out (by rw[hv];rfl)
     cases hq:key==k with
     |true=>
      rw[hq,if_pos rfl] at hrk
      have HRK:=lH (show RK=2 from hrk)
      by_cases hr:r<2
      ·have hr':(r:Int)<2:=by omega
       have HT:=lH (show bestL (rnk E k c s) (cs.take (i+1)) 0 (0,0)=(i,2) by rw[HS.out,HRK.out];exact if_pos hr)
       clear HS HRK HR2 HR3
       go_wp2_with fail
       go_roundw
       case rel=>exact⟨i+1,i,2,rfl,rfl,by go_num,by omega,HT,W4⟩
       case measure=>simp[intOf];omega
      have hr': ¬(r:Int)<2:=by omega
      have HT:=lH (show bestL (rnk E k c s) (cs.take (i+1)) 0 (0,0)=(b,r) by rw[HS.out,HRK.out];exact if_neg hr)
      clear HS HRK HR2 HR3
      go_wp2_with fail
      go_roundw
      case rel=>exact⟨i+1,b,r,rfl,rfl,by go_num,by omega,HT,W4⟩
      case measure=>simp[intOf];omega
     |false=>
      rw[hq,if_neg (by simp)] at hrk
      cases hz:key==other with
      |true=>
       rw[hz,if_pos rfl] at hrk
       unfold other at hz
       have HRK:=lH (show RK=1 from hrk)
       by_cases hr:r<1
       ·have hr':(r:Int)<1:=by omega
        have HT:=lH (show bestL (rnk E k c s) (cs.take (i+1)) 0 (0,0)=(i,1) by rw[HS.out,HRK.out];exact if_pos hr)
        clear HS HRK HR2 HR3
        go_wp2_with fail
        go_roundw
        case rel=>exact⟨i+1,i,1,rfl,rfl,by go_num,by omega,HT,W4⟩
        case measure=>simp[intOf];omega
       have hr': ¬(r:Int)<1:=by omega
       have HT:=lH (show bestL (rnk E k c s) (cs.take (i+1)) 0 (0,0)=(b,r) by rw[HS.out,HRK.out];exact if_neg hr)
       clear HS HRK HR2 HR3
       go_wp2_with fail
       go_roundw
       case rel=>exact⟨i+1,b,r,rfl,rfl,by go_num,by omega,HT,W4⟩
       case measure=>simp[intOf];omega
      |false=>
       rw[hz,if_neg (by simp)] at hrk
       unfold other at hz
       have HRK:=lH (show RK=0 from hrk)
       have hr: ¬r<0:=by omega
       have hr': ¬(r:Int)<0:=by omega
       have HT:=lH (show bestL (rnk E k c s) (cs.take (i+1)) 0 (0,0)=(b,r) by rw[HS.out,HRK.out];exact if_neg hr)
       clear HS HRK HR2 HR3
       go_wp2_with fail
       go_roundw
       case rel=>exact⟨i+1,b,r,rfl,rfl,by go_num,by omega,HT,W4⟩
       case measure=>simp[intOf];omega
   |false=>
    clear CS D4
    have W4:=W3
    have BYX:=BY3
    clear W3 BY3
    generalize w3=wX at*
    have y0:World.cell? wX ⟨qy,0,none⟩=some (.string ⟨key.toArray⟩):=BYX.out.cell 0 _ rfl
    have yl:=BYX.out.lt
    have hrk:=HR2.out (by rw[hv];rfl)
    cases hq:key==k with
    |true=>
     rw[hq,if_pos rfl] at hrk
     have HRK:=lH (show RK=2 from hrk)
     by_cases hr:r<2
     ·have hr':(r:Int)<2:=by omega
      have HT:=lH (show bestL (rnk E k c s) (cs.take (i+1)) 0 (0,0)=(i,2) by rw[HS.out,HRK.out];exact if_pos hr)
      clear HS HRK HR2 HR3
      go_wp2_with fail
      go_roundw
      case rel=>exact⟨i+1,i,2,rfl,rfl,by go_num,by omega,HT,W4⟩
      case measure=>simp[intOf];omega
     have hr': ¬(r:Int)<2:=by omega
     have HT:=lH (show bestL (rnk E k c s) (cs.take (i+1)) 0 (0,0)=(b,r) by rw[HS.out,HRK.out];exact if_neg hr)
     clear HS HRK HR2 HR3
     go_wp2_with fail
     go_roundw
     case rel=>exact⟨i+1,b,r,rfl,rfl,by go_num,by omega,HT,W4⟩
     case measure=>simp[intOf];omega
    |false=>
     rw[hq,if_neg (by simp)] at hrk
     cases hz:key==other with
     |true=>
      rw[hz,if_pos rfl] at hrk
      unfold other at hz
      have HRK:=lH (show RK=1 from hrk)
      by_cases hr:r<1
      ·have hr':(r:Int)<1:=by omega
       have HT:=lH (show bestL (rnk E k c s) (cs.take (i+1)) 0 (0,0)=(i,1) by rw[HS.out,HRK.out];exact if_pos hr)
       clear HS HRK HR2 HR3
       go_wp2_with fail
       go_roundw
       case rel=>exact⟨i+1,i,1,rfl,rfl,by go_num,by omega,HT,W4⟩
       case measure=>simp[intOf];omega
      have hr': ¬(r:Int)<1:=by omega
      have HT:=lH (show bestL (rnk E k c s) (cs.take (i+1)) 0 (0,0)=(b,r) by rw[HS.out,HRK.out];exact if_neg hr)
      clear HS HRK HR2 HR3
      go_wp2_with fail
      go_roundw
      case rel=>exact⟨i+1,b,r,rfl,rfl,by go_num,by omega,HT,W4⟩
      case measure=>simp[intOf];omega
     |false=>
      rw[hz,if_neg (by simp)] at hrk
      unfold other at hz
      have HRK:=lH (show RK=0 from hrk)
      have hr: ¬r<0:=by omega
      have hr': ¬(r:Int)<0:=by omega
      have HT:=lH (show bestL (rnk E k c s) (cs.take (i+1)) 0 (0,0)=(b,r) by rw[HS.out,HRK.out];exact if_neg hr)
      clear HS HRK HR2 HR3
      go_wp2_with fail
      go_roundw
      case rel=>exact⟨i+1,b,r,rfl,rfl,by go_num,by omega,HT,W4⟩
      case measure=>simp[intOf];omega
  have ei:i=L:=by omega
  subst ei
  have HT:=lH HK.out
  rw[List.take_of_length_le (by omega)] at HT
  have L3:=L2.out.below HB.out
  have R3:=R2.out.below HB.out
  have l0:wr.drew.cell? ⟨q4,0,none⟩=some (.int .i64 A):=L3.drew.cell 0 _ rfl
  have l1:wr.drew.cell? ⟨q4,1,none⟩=some (.int .i64 B):=L3.drew.cell 1 _ rfl
  have r0:wr.drew.cell? ⟨q3,0,none⟩=some (.int .i64 0):=R3.drew.cell 0 _ rfl
  have r1:wr.drew.cell? ⟨q3,1,none⟩=some (.int .i64 0):=R3.drew.cell 1 _ rfl
  have f0:wr.drew.frozen? ⟨q3,0,none⟩=false:=R3.drew.free 0 (by simp)
  have f1:wr.drew.frozen? ⟨q3,1,none⟩=false:=R3.drew.free 1 (by simp)
  have rl:=R3.drew.lt
  have f0':wr.frozen? ⟨q3,0,none⟩=false:=R3.free 0 (by simp)
  have f1':wr.frozen? ⟨q3,1,none⟩=false:=R3.free 1 (by simp)
  have r0':wr.cell? ⟨q3,0,none⟩=some (.int .i64 0):=R3.cell 0 _ rfl
  have r1':wr.cell? ⟨q3,1,none⟩=some (.int .i64 0):=R3.cell 1 _ rfl
  have HZ:=lH (show w.heap.size≤q3 from HQ.out.1)
  have hq43:q4≠q3:=HQ2.out
  have WB:=lH (Below.drew (bT W2.out HB.out))
  clear L3 R3 L2 R2 N2 D2 HB HQ HQ2 CX CS
  go_wp2_with fail
  go_region
  go_wp2_with fail
  have E0:=(zHN (x:= .int .i64 A) (y:= .int .i64 B) r0' r1').2
  have E1:=World.cell?_setCell_same wr ⟨q3,0,none⟩ (.int .i64 A) r0'
  refine bodyPost_ret (v:= .tuple #[.int .i64 (b:Int),.agg #[.int .i64 A,.int .i64 B],.nilIface]) (by simp[results,Tryz.results28,go_sem,E0,E1];try rfl) rfl ?_
  exact⟨by rw[HT.out],(WB.out.setCell (p:=⟨q3,0,none⟩) HZ.out _).setCell (p:=⟨q3,1,none⟩) HZ.out _⟩
open Go.RowKit

structure Spk where
 t0:List UInt8
 t1:List UInt8
 t2:List UInt8
 t3:List UInt8
 t4:List UInt8
 B:Nat
 q:Nat
 base:Nat
def Spk.cells (S:Spk) (p v:Value):Array Value:= #[.string ⟨S.t0.toArray⟩,.string ⟨S.t1.toArray⟩,.string ⟨S.t2.toArray⟩,.string ⟨S.t3.toArray⟩,.string ⟨S.t4.toArray⟩,.map (some S.B),p,v]
def SpkAt (S:Spk) (l:List UInt8) (w:World):Prop:=
 S.base≤S.q∧ ∃p v,(p= .pointer none∨p= .pointer (some ⟨S.q,6,none⟩))∧w.heap[S.q]?=some (.cells (S.cells p v) 93 (0,0))∧w.ownsRow S.base 5 1 v l.length (Lib.byteCells l)∧v.ownBlock≠some S.q
def Kp (S:Spk) (w w':World):Prop:=Below S.base w w'∧Lib.OthersKept 5 (some S.q) w w'
theorem Kp.refl (S:Spk) (w:World):Kp S w w:=⟨Below.refl _ _,Lib.OthersKept.refl _ _ _⟩
theorem Kp.trans {S:Spk} {a b c:World} (h:Kp S a b) (k:Kp S b c):Kp S a c:=⟨h.1.trans k.1,h.2.trans k.2⟩
theorem zGB {e:TypeId} {b:Option Nat} {w w':World} (h:Below w.heap.size w w'):Lib.OthersKept e b w w':=fun k _ hk _ _=>(h.block k (Array.getElem?_eq_some_iff.1 hk).1).trans hk
theorem SpkAt.lt {S:Spk} {l:List UInt8} {w:World} (h:SpkAt S l w):S.base≤S.q∧S.q<w.heap.size:=by
 obtain⟨h1,p,v,_,h2,_⟩:=h
 exact⟨h1,(Array.getElem?_eq_some_iff.1 h2).1⟩
theorem Kp.of_below {S:Spk} {l:List UInt8} {w w':World} (h:SpkAt S l w) (hb:Below w.heap.size w w'):Kp S w w':=⟨hb.mono (by have:=h.lt;omega),zGB hb⟩
theorem zMF {base n k:Nat} {e:TypeId} {v:Value} {xs:List Value} {w w':World} (h:w.ownsRow base e k v n xs) (hb:Below w.heap.size w w'):w'.ownsRow base e k v n xs:=by
 refine⟨h.1,?_⟩
 rcases h.2 with h|⟨g,cap,cur,h1,h2,h3,h4⟩
 ·exact .inl h
 exact .inr ⟨g,cap,cur,h1,h2,(hb.block g (Array.getElem?_eq_some_iff.1 h3).1).trans h3,h4⟩
theorem SpkAt.below {S:Spk} {l:List UInt8} {w w':World} (h:SpkAt S l w) (hb:Below w.heap.size w w'):SpkAt S l w':=by
 have hlt:=h.lt
 obtain⟨h1,p,v,h2,h3,h4,h5⟩:=h
 exact⟨h1,p,v,h2,(hb.block S.q hlt.2).trans h3,zMF h4 hb,h5⟩
theorem Boxed.kp {S:Spk} {w w':World} {p:Nat} {T:TypeId} {cs:Array Value} (hk:Kp S w w') (h:w.heap[p]?=some (.cells cs T (0,0))) (hT:T≠ 5) (hp:p≠S.q):w'.heap[p]?=some (.cells cs T (0,0)):=
 hk.2 p _ h (by simpa using hp) (by intro c fz e;injection e with _ e _;exact hT e)

open Go.RowKit Go.MapKept
def KindsAt (B:Nat) (l:List (List UInt8×Bool)) (w:World):Prop:=
 ∃es c,w.heap[B]?=some (.map es c)∧es.toList.map (fun e=>(e.key,e.val))=l.map fun p=>(Value.string ⟨p.1.toArray⟩,Value.bool p.2)
theorem zEn (a b:List UInt8):((⟨a.toArray⟩:ByteArray)==⟨b.toArray⟩)=(b==a):=by
 rw[Bool.eq_iff_iff,bytes_beq]
 simp
 exact eq_comm
theorem zCn (t:List UInt8): ∀(es:List MapEntry) (l:List (List UInt8×Bool)) (i:Nat),es.map (fun e=>(e.key,e.val))=l.map (fun p=>(Value.string ⟨p.1.toArray⟩,Value.bool p.2))→
  (∀p,l.find? (fun p=>p.1==t)=some p→ ∃j,Instr.findNow .string (.string ⟨t.toArray⟩) es i=some (some (j,.bool p.2)))∧(l.find? (fun p=>p.1==t)=none→Instr.findNow .string (.string ⟨t.toArray⟩) es i=some none)
 | [],l,i,h=>by
  cases l with
  |nil=>exact⟨by simp,fun _=>rfl⟩
  |cons p r=>simp at h
 |e::es,l,i,h=>by
  cases l with
  |nil=>simp at h
  |cons q r=>
   simp only[List.map_cons,List.cons.injEq] at h
   obtain⟨h1,h2⟩:=h
   injection h1 with h3 h4
   have ih:=zCn t es r (i+1) h2
   unfold Instr.findNow
   rw[h3,List.find?_cons]
   show _∧_
   simp only[Instr.sameNow,zEn]
   cases hq:q.1==t with
   | true => exact ⟨fun p hp => by obtain rfl : q = p := by simpa using hp
                                   exact ⟨i, by rw [h4]⟩, fun hp => by simp at hp⟩
   |false=>exact ih
theorem zJM (w:World):KindsAt w.heap.size [] (w.alloc (.map #[] 0)):=⟨#[],0,zCm _ _ _ rfl,rfl⟩
theorem KindsAt.below {B:Nat} {l:List (List UInt8×Bool)} {w w':World} (h:KindsAt B l w) (hb:Below w.heap.size w w'):KindsAt B l w':=by
 obtain⟨es,c,h1,h2⟩:=h
 have hlt:B<w.heap.size:=(Array.getElem?_eq_some_iff.1 h1).1
 exact⟨es,c,(hb.block B hlt).trans h1,h2⟩
theorem KindsAt.lt {B:Nat} {l:List (List UInt8×Bool)} {w:World} (h:KindsAt B l w):B<w.heap.size:=by
 obtain⟨es,c,h1,_⟩:=h
 exact(Array.getElem?_eq_some_iff.1 h1).1
section
variable {P:Program} (T K E:TypeId) (hT:P.underlying T=some (.map K E)) (hK:P.underlying K=some .string)
include hT hK
theorem KindsAt.look {B:Nat} {l:List (List UInt8×Bool)} {w:World} (h:KindsAt B l w) {t:List UInt8} {p:List UInt8×Bool} (hp:l.find? (fun p=>p.1==t)=some p):
  (Instr.lookup T (.map (some B)) (.string ⟨t.toArray⟩) true).run P w= .ok (.tuple #[.bool p.2,.bool true]) w:=by
 obtain⟨es,c,h1,h2⟩:=h
 obtain⟨j,hj⟩:=(zCn t es.toList l 0 h2).1 p hp
 exact zGm T K E hT hK es c B j _ _ w h1 hj
theorem KindsAt.none {B:Nat} {l:List (List UInt8×Bool)} {w:World} (h:KindsAt B l w) {t:List UInt8} (hz:(zeroValue E).run P w= .ok (.bool false) w) (hp:l.find? (fun p=>p.1==t)= .none):
  (Instr.lookup T (.map (some B)) (.string ⟨t.toArray⟩) true).run P w= .ok (.tuple #[.bool false,.bool false]) w:=by
 obtain⟨es,c,h1,h2⟩:=h
 exact map_none T K E hT hK es c B _ _ w hz h1 ((zCn t es.toList l 0 h2).2 hp)
theorem KindsAt.put {B:Nat} {l:List (List UInt8×Bool)} {w:World} (h:KindsAt B l w) {t:List UInt8} (b:Bool) (hp:l.find? (fun p=>p.1==t)= .none):
  ∃w',(Instr.mapUpdate T (.map (some B)) (.string ⟨t.toArray⟩) (.bool b)).run P w= .ok () w'∧KindsAt B (l++ [(t,b)]) w'∧ ∀base W,base≤B→Below base W w→Below base W w':=by
 obtain⟨es,c,h1,h2⟩:=h
 have hlt:B<w.heap.size:=(Array.getElem?_eq_some_iff.1 h1).1
 have hf:=(zCn t es.toList l 0 h2).2 hp
 refine⟨{w with heap:=w.heap.setIfInBounds B (.map (es.push {key:= .string ⟨t.toArray⟩,val:= .bool b,born:=c}) (c+1))},?_,⟨_,_,(heap_set h1).1,?_⟩,fun base W hB hb=>?_⟩
 ·simp[Instr.mapUpdate,run_underlying hT,MapKept.run_getObj_map h1,run_checkKey hK (show IsKey .string (.string ⟨t.toArray⟩) from trivial),run_findKey hK hf,MapKept.run_setObj_map _ h1,Result.andThen]
 ·rw[Array.toList_push,List.map_append,h2,List.map_append];rfl
 exact⟨hb.os,hb.tape,hb.output,by simpa using hb.size,fun k hk=>((heap_set h1).2 k (by omega)).trans (hb.block k hk)⟩
end
open Go.RowKit Go.MapKept
def MapAt {α:Type} (val:α→Value) (B:Nat) (l:List (List UInt8×α)) (w:World):Prop:=
 ∃es c,w.heap[B]?=some (.map es c)∧es.toList.map (fun e=>(e.key,e.val))=l.map fun p=>(Value.string ⟨p.1.toArray⟩,val p.2)
section
variable {α:Type} {val:α→Value}
theorem zCX (t:List UInt8): ∀(es:List MapEntry) (l:List (List UInt8×α)) (i:Nat),es.map (fun e=>(e.key,e.val))=l.map (fun p=>(Value.string ⟨p.1.toArray⟩,val p.2))→
  (∀p,l.find? (fun p=>p.1==t)=some p→ ∃j,Instr.findNow .string (.string ⟨t.toArray⟩) es i=some (some (j,val p.2)))∧(l.find? (fun p=>p.1==t)=none→Instr.findNow .string (.string ⟨t.toArray⟩) es i=some none)
 | [],l,i,h=>by
  cases l with
  |nil=>exact⟨by simp,fun _=>rfl⟩
  |cons p r=>simp at h
 |e::es,l,i,h=>by
  cases l with
  |nil=>simp at h
  |cons q r=>
   simp only[List.map_cons,List.cons.injEq] at h
   obtain⟨h1,h2⟩:=h
   injection h1 with h3 h4
   have ih:=zCX t es r (i+1) h2
   unfold Instr.findNow
   rw[h3,List.find?_cons]
   show _∧_
   simp only[Instr.sameNow,zEn]
   cases hq:q.1==t with
   | true => exact ⟨fun p hp => by obtain rfl : q = p := by simpa using hp
                                   exact ⟨i, by rw [h4]⟩, fun hp => by simp at hp⟩
   |false=>exact ih
theorem zK7 (w:World):MapAt val w.heap.size [] (w.alloc (.map #[] 0)):=⟨#[],0,zCm _ _ _ rfl,rfl⟩
variable {B:Nat} {l:List (List UInt8×α)} {w w':World}
theorem MapAt.below (h:MapAt val B l w) (hb:Below w.heap.size w w'):MapAt val B l w':=by
 obtain⟨es,c,h1,h2⟩:=h
 have hlt:B<w.heap.size:=(Array.getElem?_eq_some_iff.1 h1).1
 exact⟨es,c,(hb.block B hlt).trans h1,h2⟩
theorem MapAt.kept (h:MapAt val B l w) (hb:w'.heap[B]?=w.heap[B]?):MapAt val B l w':=by
 obtain⟨es,c,h1,h2⟩:=h
 exact⟨es,c,hb.trans h1,h2⟩
theorem MapAt.lt (h:MapAt val B l w):B<w.heap.size:=by
 obtain⟨es,c,h1,_⟩:=h
 exact(Array.getElem?_eq_some_iff.1 h1).1
variable {P:Program} (T K E:TypeId) (hT:P.underlying T=some (.map K E)) (hK:P.underlying K=some .string)
include hT hK
theorem MapAt.look1 (h:MapAt val B l w) {t:List UInt8} {p:List UInt8×α} (hp:l.find? (fun p=>p.1==t)=some p):
  (Instr.lookup T (.map (some B)) (.string ⟨t.toArray⟩) false).run P w= .ok (val p.2) w:=by
 obtain⟨es,c,h1,h2⟩:=h
 obtain⟨j,hj⟩:=(zCX t es.toList l 0 h2).1 p hp
 simp[Instr.lookup,run_underlying hT,MapKept.run_getObj_map h1,run_checkKey hK (show IsKey .string (.string ⟨t.toArray⟩) from trivial),run_findKey hK hj,Result.andThen]
theorem MapAt.none1 (h:MapAt val B l w) {t:List UInt8} {z:Value} (hz:(zeroValue E).run P w= .ok z w) (hp:l.find? (fun p=>p.1==t)= .none):
  (Instr.lookup T (.map (some B)) (.string ⟨t.toArray⟩) false).run P w= .ok z w:=by
 obtain⟨es,c,h1,h2⟩:=h
 have hj:=(zCX t es.toList l 0 h2).2 hp
 simp[Instr.lookup,run_underlying hT,MapKept.run_getObj_map h1,run_checkKey hK (show IsKey .string (.string ⟨t.toArray⟩) from trivial),run_findKey hK hj,hz,Result.andThen]
theorem MapAt.put (h:MapAt val B l w) {t:List UInt8} (b:α) (hp:l.find? (fun p=>p.1==t)= .none):
  ∃w',(Instr.mapUpdate T (.map (some B)) (.string ⟨t.toArray⟩) (val b)).run P w= .ok () w'∧MapAt val B (l++ [(t,b)]) w'∧(∀k,k≠B→w'.heap[k]?=w.heap[k]?)∧w'.heap.size=w.heap.size∧ ∀base W,base≤B→Below base W w→Below base W w':=by
 obtain⟨es,c,h1,h2⟩:=h
 have hf:=(zCX t es.toList l 0 h2).2 hp
 refine⟨{w with heap:=w.heap.setIfInBounds B (.map (es.push {key:= .string ⟨t.toArray⟩,val:=val b,born:=c}) (c+1))},?_,⟨_,_,(heap_set h1).1,?_⟩,fun k hk=>(heap_set h1).2 k hk,by simp,fun base W hB hb=>?_⟩
 ·simp[Instr.mapUpdate,run_underlying hT,MapKept.run_getObj_map h1,run_checkKey hK (show IsKey .string (.string ⟨t.toArray⟩) from trivial),run_findKey hK hf,MapKept.run_setObj_map _ h1,Result.andThen]
 ·rw[Array.toList_push,List.map_append,h2,List.map_append];rfl
 exact⟨hb.os,hb.tape,hb.output,by simpa using hb.size,fun k hk=>((heap_set h1).2 k (by omega)).trans (hb.block k hk)⟩
end
open Go.RowKit Ms
open Dcm (okD)
def argV (a:Ag):Value:= .agg (acells a).toArray
abbrev mapOf (args:List Ag):List (List UInt8×Ag):=args.map fun a=>(a.name,a)
theorem zCY (args:List Ag) (t:List UInt8):(mapOf args).find? (fun p=>p.1==t)=(args.find? fun a=>a.name==t).map fun a=>(a.name,a):=by
 unfold mapOf
 rw[List.find?_map]
 rfl
theorem zK8 (w:World):(zeroValue 70).run Tryz.prog w= .ok (argV ⟨[],false,0,0,[]⟩) w:=by kernel_rfl
theorem zK9 {B:Nat} {args:List Ag} {w:World} (h:MapAt argV B (mapOf args) w) (t:List UInt8):(Instr.lookup 68 (.map (some B)) (.string ⟨t.toArray⟩) false).run Tryz.prog w= .ok (argV (argOf args t)) w:=by
 unfold argOf
 cases hf:args.find? (fun a=>a.name==t) with
 |none=>exact h.none1 (P:= Tryz.prog) 68 9 70 Tryz.underlying68 Tryz.underlying9 (zK8 w) (by rw[zCY,hf];rfl)
 |some a=>exact h.look1 (P:= Tryz.prog) 68 9 70 Tryz.underlying68 Tryz.underlying9 (p:=(a.name,a)) (by rw[zCY,hf];rfl)
structure EvW (w:World):Prop where
 t:TR w
 k:KindsW w
 n:NumerW w
theorem EvW.below {w w':World} (h:EvW w) (hb:Below w.heap.size w w'):EvW w':=⟨h.t.below hb,h.k.below hb,h.n.below hb⟩
structure Talk (S:Spk) (W0:World) (args:List Ag) (l:List UInt8) (w:World):Prop where
 spk:SpkAt S l w
 map:MapAt argV S.B (mapOf args) w
 base:Below W0.heap.size W0 w
 sb:S.base=W0.heap.size
 ne:S.B≠S.q
theorem Talk.below {S:Spk} {W0:World} {args:List Ag} {l:List UInt8} {w w':World} (h:Talk S W0 args l w) (hb:Below w.heap.size w w'):Talk S W0 args l w':=⟨h.spk.below hb,h.map.below hb,bT h.base hb,h.sb,h.ne⟩
theorem Talk.kp {S:Spk} {W0:World} {args:List Ag} {l:List UInt8} {w w':World} (h:Talk S W0 args l w) (hb:Below w.heap.size w w'):Kp S w w':=Kp.of_below h.spk hb
theorem zJN:errN 0= .nilIface:=rfl

theorem zLa {f:Nat} (K:Int) (T:List UInt8) (O:Int) (v:Value) (cs:Cs) (t0 t1 t2 t3 t4:List UInt8) (c s:Int) (w:World) (hT:TR w) (hK:KindsW w) (hS:SetFine t0 t1 t2 t3 t4) (hd:okD c s) (hO:0≤O∧O≤9) (hc:CassAt f w v cs) (hl:cs.length≤2000000):
  Calls Tryz.prog 28 #[.agg #[.int .i64 K,.string ⟨T.toArray⟩,.int .i64 O,v],.agg #[.string ⟨t0.toArray⟩,.string ⟨t1.toArray⟩,.string ⟨t2.toArray⟩,.string ⟨t3.toArray⟩,.string ⟨t4.toArray⟩],.agg #[.int .i64 c,.int .i64 s]] w fun e w'=>e= .returned (caseV (evS [t0,t1,t2,t3,t4]) cs c s O)∧Below w.heap.size w w':=by
 by_cases h:addOk c s (-O) 0
 ·have e:(evS [t0,t1,t2,t3,t4]).less c s O=some (Dcm.addC c s (-O) 0,Dcm.addS s 0):=if_pos h
  unfold caseV
  rw[e]
  exact zK6 K T O v cs t0 t1 t2 t3 t4 c s w hT hK hS hd hO hc hl h
 have e:(evS [t0,t1,t2,t3,t4]).less c s O=none:=if_neg h
 unfold caseV
 rw[e]
 exact zMD K T O v t0 t1 t2 t3 t4 c s w h hO
end Go.Proofs.YtjlchookakbomaaGreatDoor
