/- The walk of linguisterref1.DecText: a number's text. No conditions but the argument's own. -/
import Derived.Test.YtjlchookakbomaaGreatDoorEi31
set_option maxHeartbeats 8000000
set_option maxRecDepth 100000
namespace Go.Proofs.YtjlchookakbomaaGreatDoor
open Go.RowKit
open Dcm (P10 okD nrm mag flo lef)

theorem zLn (c U:Int) (hU:1≤U) (hc:c<0):(c<c.tdiv U*U∧c/U=c.tdiv U-1)∨(c.tdiv U*U=c∧c/U=c.tdiv U):=by
 obtain⟨n,rfl⟩: ∃n,c= -n:=⟨-c,by omega⟩
 have h1:=Int.emod_add_mul_ediv n U
 rw[Int.neg_tdiv,Int.tdiv_eq_ediv_of_nonneg (by omega),Int.neg_mul,Int.mul_comm]
 rcases Dcm.zFg n U (by omega) with⟨a,_,b⟩|⟨a,_,b⟩
 ·right;omega
 left;omega

theorem zAL (c s:Int) (w:World) (h:okD c s):
  Calls Tryz.prog 77 #[.agg #[.int .i64 c,.int .i64 s]] w fun e w'=>e= .returned (.int .i64 (flo c s))∧Below w.heap.size w w':=by
 obtain⟨s0,s9,c0,c1⟩:=h
 have CT:=lH fun w=>zAp s w s0 s9
 have hU:=Dcm.zAj s
 have hF:flo c s=c/P10 s:=rfl
 generalize P10 s=U at*
 by_cases hc:0≤c
 ·have h1:=Int.emod_add_mul_ediv c U
  have h2:=Int.emod_nonneg c (show U≠0 by omega)
  have h3:0≤c/U:=Int.ediv_nonneg hc (by omega)
  have h4:c/U≤c:=Int.ediv_le_self _ hc
  rw[Int.mul_comm] at h1
  have h5:c/U*U≤c:=by omega
  have h6:0≤c/U*U:=Int.mul_nonneg h3 (by omega)
  have d1:decide (c<c/U*U)=false:=zAa (by omega)
  have HF:=lH hF
  clear hF h1 h2
  obtain⟨T,hT⟩: ∃T,c/U=T:=⟨_,rfl⟩
  have HT:=lH hT
  rw[hT] at h3 h4 h5 h6 d1
  go_enter Tryz.func77,Tryz.ntmps77
  go_wp2_with (go_at_call 76;refine(CT.out _).mono ?_;rintro e w' ⟨rfl,rfl⟩)
  go_ret
  exact⟨zAl (by rw[HF.out,HT.out]),bA _ _⟩
 have tb:=Dcm.zEz c U hU.1 ⟨c0,c1⟩
 have hT0:=zLn c U hU.1 (by omega)
 have HF:=lH hF
 clear hF
 obtain⟨T,hT⟩: ∃T,c.tdiv U=T:=⟨_,rfl⟩
 rw[hT] at hT0 tb
 have hm: -1000000000000000≤T*U∧T*U≤0:=by
  have e:=Dcm.zCu 0 c U hU.1
  have m:=Dcm.zCv c U hU.1
  rcases hT0 with h|h
  ·refine⟨by omega,?_⟩
   have:T≤0:=by
    rw[←hT]
    obtain⟨n,rfl⟩: ∃n,c= -n:=⟨-c,by omega⟩
    rw[Int.neg_tdiv,Int.tdiv_eq_ediv_of_nonneg (by omega)]
    have:=Int.ediv_nonneg (show 0≤n by omega) (show 0≤U by omega)
    omega
   have h2:(-T)*U≥0:=Int.mul_nonneg (by omega) (by omega)
   rw[Int.neg_mul] at h2;omega
  omega
 obtain⟨m0,m1⟩:=hm
 rcases hT0 with⟨h1,h2⟩|⟨h1,h2⟩
 ·have d1:decide (c<T*U)=true:=zAd h1
  have HE:=lH h2
  clear h2
  go_enter Tryz.func77,Tryz.ntmps77
  go_wp2_with (go_at_call 76;refine(CT.out _).mono ?_;rintro e w' ⟨rfl,rfl⟩)
  go_ret
  exact⟨zAl (by rw[HF.out,HE.out]),bA _ _⟩
 have d1:decide (c<T*U)=false:=zAa (by omega)
 have HE:=lH h2
 clear h1 h2
 go_enter Tryz.func77,Tryz.ntmps77
 go_wp2_with (go_at_call 76;refine(CT.out _).mono ?_;rintro e w' ⟨rfl,rfl⟩)
 go_ret
 exact⟨zAl (by rw[HF.out,HE.out]),bA _ _⟩
open Go.RowKit
open Dcm (P10 okD nrm mag flo lef)

theorem zLo (a s b t:Int) (w:World) (ha:okD a s) (hb':okD b t) (hxy:flo a s=flo b t):
  Calls Tryz.prog 78 #[.agg #[.int .i64 a,.int .i64 s],.agg #[.int .i64 b,.int .i64 t]] w fun e w'=>e= .returned (.int .i64 (Dcm.ordV a s b t))∧Below w.heap.size w w':=by
 have CA:=lH fun w=>zAL a s w ha
 have CB:=lH fun w=>zAL b t w hb'
 have fa:=Dcm.zBl a s ⟨ha.2.2.1,ha.2.2.2⟩
 have fb:=Dcm.zBl b t ⟨hb'.2.2.1,hb'.2.2.2⟩
 have HV:=lH (show Dcm.ordV a s b t=if flo a s=flo b t then lef a s*P10 (9-s)-lef b t*P10 (9-t) else flo a s-flo b t from rfl)
 have ea:=Dcm.zAW a s
 have eb:=Dcm.zAW b t
 have la:=Dcm.zBb a s 9 ha.1 ha.2.1 (by omega)
 have lb:=Dcm.zBb b t 9 hb'.1 hb'.2.1 (by omega)
 have e9:P10 9=1000000000:=rfl
 have xa:=Dcm.zAZ a s
 have xb:=Dcm.zAZ b t
 have ua:=Dcm.zAj s
 have ub:=Dcm.zAj t
 rw[e9] at la lb
 obtain⟨s0,s9,a0,a1⟩:=ha
 obtain⟨t0,t9,b0,b1⟩:=hb'
 generalize Dcm.ordV a s b t=V at*
 generalize flo a s=X at*
 generalize flo b t=Y at*
 generalize lef a s=p at*
 generalize lef b t=q at*
 obtain⟨la1,la2,la3⟩:=la
 obtain⟨lb1,lb2,lb3⟩:=lb
 have ha1:a-X*P10 s=p:=by omega
 have hb1:b-Y*P10 t=q:=by omega
 have w1:IntKind.i64.wrap (X*P10 s)=X*P10 s:=IntWalk.i64_in _ (by omega)
 have w2:IntKind.i64.wrap (a-X*P10 s)=p:=by rw[IntWalk.i64_in _ (by omega)];exact ha1
 have w3:IntKind.i64.wrap (p*P10 (9-s))=p*P10 (9-s):=IntWalk.i64_in _ (by omega)
 have w4:IntKind.i64.wrap (Y*P10 t)=Y*P10 t:=IntWalk.i64_in _ (by omega)
 have w5:IntKind.i64.wrap (b-Y*P10 t)=q:=by rw[IntWalk.i64_in _ (by omega)];exact hb1
 have w6:IntKind.i64.wrap (q*P10 (9-t))=q*P10 (9-t):=IntWalk.i64_in _ (by omega)
 have w7:IntKind.i64.wrap (9-s)=9-s:=IntWalk.i64_in _ (by omega)
 have w8:IntKind.i64.wrap (9-t)=9-t:=IntWalk.i64_in _ (by omega)
 have HW:=lH (And.intro w1 (And.intro w2 (And.intro w3 (And.intro w4 (And.intro w5 (And.intro w6 (And.intro w7 w8)))))))
 clear la1 lb1 e9 ea eb ua ub xa xb w1 w2 w3 w4 w5 w6 w7 w8 ha1 hb1
 have HE:=lH (show V=p*P10 (9-s)-q*P10 (9-t) by rw[HV.out,if_pos hxy])
 obtain rfl:X=Y:=hxy
 clear HV
 go_enter Tryz.func78,Tryz.ntmps78
 go_wp2_with fail
 refine(CA.out _).mono ?_
 rintro e w1 ⟨rfl,hb⟩
 have B1_a:=Boxed.below (Boxed.alloc (Boxed.made _ #[.int .i64 a,.int .i64 s] 64) _) hb
 have B1_b:=Boxed.below (Boxed.made _ #[.int .i64 b,.int .i64 t] 64) hb
 have W1:=lH (bT (bT (bT (Below.refl w.heap.size w) (bA _ _)) (bA _ _)) hb)
 clear hb
 have ka0:=B1_a.cell 0 _ rfl
 have ka1:=B1_a.cell 1 _ rfl
 have kal:=B1_a.lt
 try simp at ka0 ka1 kal
 have kb0:=B1_b.cell 0 _ rfl
 have kb1:=B1_b.cell 1 _ rfl
 have kbl:=B1_b.lt
 try simp at kb0 kb1 kbl
 go_wp2_with fail
 refine(CB.out _).mono ?_
 rintro e w2 ⟨rfl,hb⟩
 clear ka0 ka1 kal kb0 kb1 kbl
 have B2_a:=B1_a.below hb
 have B2_b:=B1_b.below hb
 have W2:=lH (bT W1.out hb)
 clear hb B1_a B1_b W1
 have ka0:=B2_a.cell 0 _ rfl
 have ka1:=B2_a.cell 1 _ rfl
 have kal:=B2_a.lt
 try simp at ka0 ka1 kal
 have kb0:=B2_b.cell 0 _ rfl
 have kb1:=B2_b.cell 1 _ rfl
 have kbl:=B2_b.lt
 try simp at kb0 kb1 kbl
 go_wp2_with fail
 obtain⟨w1',w2',w3',w4',w5',w6',w7',w8'⟩:=HW.out
 go_big_quiet ((go_at_call 76;exact zAt (zAp _ _ (by omega) (by omega))))
 rename_i nq
 have WD:=lH (zAb W2.out nq)
 have yb0:(w2.drewN nq).cell? ⟨w.heap.size+1,0,none⟩=some (.int .i64 b):=by simpa using kb0
 have yb1:(w2.drewN nq).cell? ⟨w.heap.size+1,1,none⟩=some (.int .i64 t):=by simpa using kb1
 clear ka0 ka1 kal kb0 kb1 kbl W2
 generalize w2.drewN nq=w3 at*
 go_wp2_with fail
 go_big_quiet ((go_at_call 76;exact zAt (zAp _ _ (by omega) (by omega))))
 clear w1' w2' w3' w4' w5' w6' w7' w8'
 go_wp2_with fail
 go_ret
 exact⟨zAl (by rw[HE.out]),by repeat(first|exact WD.out|refine zAb ?_ _)⟩

theorem zLp (a s b t:Int) (w:World) (ha:okD a s) (hb':okD b t) (hxy: ¬flo a s=flo b t):
  Calls Tryz.prog 78 #[.agg #[.int .i64 a,.int .i64 s],.agg #[.int .i64 b,.int .i64 t]] w fun e w'=>e= .returned (.int .i64 (Dcm.ordV a s b t))∧Below w.heap.size w w':=by
 have CA:=lH fun w=>zAL a s w ha
 have CB:=lH fun w=>zAL b t w hb'
 have fa:=Dcm.zBl a s ⟨ha.2.2.1,ha.2.2.2⟩
 have fb:=Dcm.zBl b t ⟨hb'.2.2.1,hb'.2.2.2⟩
 have HV:=lH (show Dcm.ordV a s b t=if flo a s=flo b t then lef a s*P10 (9-s)-lef b t*P10 (9-t) else flo a s-flo b t from rfl)
 have ea:=Dcm.zAW a s
 have eb:=Dcm.zAW b t
 have la:=Dcm.zBb a s 9 ha.1 ha.2.1 (by omega)
 have lb:=Dcm.zBb b t 9 hb'.1 hb'.2.1 (by omega)
 have e9:P10 9=1000000000:=rfl
 have xa:=Dcm.zAZ a s
 have xb:=Dcm.zAZ b t
 have ua:=Dcm.zAj s
 have ub:=Dcm.zAj t
 rw[e9] at la lb
 obtain⟨s0,s9,a0,a1⟩:=ha
 obtain⟨t0,t9,b0,b1⟩:=hb'
 generalize Dcm.ordV a s b t=V at*
 generalize flo a s=X at*
 generalize flo b t=Y at*
 generalize lef a s=p at*
 generalize lef b t=q at*
 obtain⟨la1,la2,la3⟩:=la
 obtain⟨lb1,lb2,lb3⟩:=lb
 have ha1:a-X*P10 s=p:=by omega
 have hb1:b-Y*P10 t=q:=by omega
 have w1:IntKind.i64.wrap (X*P10 s)=X*P10 s:=IntWalk.i64_in _ (by omega)
 have w2:IntKind.i64.wrap (a-X*P10 s)=p:=by rw[IntWalk.i64_in _ (by omega)];exact ha1
 have w3:IntKind.i64.wrap (p*P10 (9-s))=p*P10 (9-s):=IntWalk.i64_in _ (by omega)
 have w4:IntKind.i64.wrap (Y*P10 t)=Y*P10 t:=IntWalk.i64_in _ (by omega)
 have w5:IntKind.i64.wrap (b-Y*P10 t)=q:=by rw[IntWalk.i64_in _ (by omega)];exact hb1
 have w6:IntKind.i64.wrap (q*P10 (9-t))=q*P10 (9-t):=IntWalk.i64_in _ (by omega)
 have w7:IntKind.i64.wrap (9-s)=9-s:=IntWalk.i64_in _ (by omega)
 have w8:IntKind.i64.wrap (9-t)=9-t:=IntWalk.i64_in _ (by omega)
 have HW:=lH (And.intro w1 (And.intro w2 (And.intro w3 (And.intro w4 (And.intro w5 (And.intro w6 (And.intro w7 w8)))))))
 clear la1 lb1 e9 ea eb ua ub xa xb w1 w2 w3 w4 w5 w6 w7 w8 ha1 hb1
 have d1:(X==Y)=false:=zAe hxy
 have d2:(X !=Y)=true:=by rw[bne,d1];rfl
 have HE:=lH (show V=X-Y by rw[HV.out,if_neg hxy])
 clear hxy HV HW
 go_enter Tryz.func78,Tryz.ntmps78
 go_wp2_with fail
 refine(CA.out _).mono ?_
 rintro e w1 ⟨rfl,hb⟩
 have B1_a:=Boxed.below (Boxed.alloc (Boxed.made _ #[.int .i64 a,.int .i64 s] 64) _) hb
 have B1_b:=Boxed.below (Boxed.made _ #[.int .i64 b,.int .i64 t] 64) hb
 have W1:=lH (bT (bT (bT (Below.refl w.heap.size w) (bA _ _)) (bA _ _)) hb)
 clear hb
 have ka0:=B1_a.cell 0 _ rfl
 have ka1:=B1_a.cell 1 _ rfl
 have kal:=B1_a.lt
 try simp at ka0 ka1 kal
 have kb0:=B1_b.cell 0 _ rfl
 have kb1:=B1_b.cell 1 _ rfl
 have kbl:=B1_b.lt
 try simp at kb0 kb1 kbl
 go_wp2_with fail
 refine(CB.out _).mono ?_
 rintro e w2 ⟨rfl,hb⟩
 clear ka0 ka1 kal kb0 kb1 kbl
 have B2_a:=B1_a.below hb
 have B2_b:=B1_b.below hb
 have W2:=lH (bT W1.out hb)
 clear hb B1_a B1_b W1
 have ka0:=B2_a.cell 0 _ rfl
 have ka1:=B2_a.cell 1 _ rfl
 have kal:=B2_a.lt
 try simp at ka0 ka1 kal
 have kb0:=B2_b.cell 0 _ rfl
 have kb1:=B2_b.cell 1 _ rfl
 have kbl:=B2_b.lt
 try simp at kb0 kb1 kbl
 go_wp2_with fail
 go_ret
 exact⟨zAl (by rw[HE.out]),by repeat(first|exact W2.out|refine zAb ?_ _)⟩

theorem zJV (a s b t:Int) (w:World) (ha:okD a s) (hb':okD b t):
  Calls Tryz.prog 78 #[.agg #[.int .i64 a,.int .i64 s],.agg #[.int .i64 b,.int .i64 t]] w fun e w'=>e= .returned (.int .i64 (Dcm.ordV a s b t))∧Below w.heap.size w w':=by
 by_cases h:flo a s=flo b t
 ·exact zLo a s b t w ha hb' h
 exact zLp a s b t w ha hb' h
open Go.RowKit Ms
open Dcm (okD)
namespace Ms
def OthM:Nat→List Nd→Prop
 |0,_=>True
 |f+1,m=> ∀x∈m,(x.kind=4∨x.kind=5)→(∃i,keyI x.cases other=some i)∧ ∀y∈x.cases,OthM f y.2
theorem zJW: ∀(f:Nat) (mark:Bool) (m:List Nd),chk f mark m=0→OthM f m
 |0,_,_,_=>trivial
 |f+1,mark,m,h=>by
  intro x hx h45
  obtain⟨p,hp⟩:=zEE (show msE (chk f) mark none m=0 from h) x hx
  obtain⟨_,_,h3⟩:=zHr hp
  refine⟨?_,fun y hy=>zJW f _ y.2 (zCI _ _ (h3 h45) y hy)⟩
  have hc:=(zCK _ _ (h3 h45)).2.2
  rw[List.nil_append] at hc
  cases hk:keyI x.cases other with
  |some i=>exact⟨i,rfl⟩
  |none=>
   unfold keyI at hk
   rw[List.findIdx?_eq_none_iff] at hk
   have hm:other∈x.cases.map (·.1):=by simpa using hc
   obtain⟨y,hy,e⟩:=List.mem_map.1 hm
   have:=hk y hy
   rw[e] at this
   simp at this
theorem zMR {f:Nat} {m:List Nd} {args:List Ag} (h:fitE f m args=0):OthM f m∧ ∀t,mnt f m t=true→hasA args t=true:=by
 unfold fitE at h
 split at h
 ·rename_i h1;exact absurd h h1
 rename_i h1
 have h1':namE f m=0:=by simpa using h1
 split at h
 ·rename_i h2;exact absurd h h2
 obtain⟨hm,_,_⟩:=zCe h1'
 refine⟨?_,fun t ht=>?_⟩
 ·unfold msgE at hm
  split at hm
  ·simp at hm
  exact zJW f false m hm
 obtain⟨n,hn,e⟩:=zEd f m ht
 obtain⟨a,ha,_⟩:=zDb.1 h n hn
 rw[e] at ha
 unfold hasA
 exact List.any_eq_true.2 ⟨a,List.mem_of_find?_eq_some ha,by simpa using List.find?_some ha⟩
theorem zNE {E:Ev} {cs:Cs} {c s lc ls:Int} {i:Nat} (h:exI E cs c s=some i):cntI E cs c s lc ls=i:=by
 unfold cntI;rw[h];rfl
theorem zLq {E:Ev} {cs:Cs} {c s lc ls:Int} {i:Nat} (h:exI E cs c s=none) (hk:keyI cs (E.kind lc ls)=some i):cntI E cs c s lc ls=i:=by
 unfold cntI;rw[h,hk];rfl
theorem zMS {E:Ev} {cs:Cs} {c s lc ls:Int} {i:Nat} (h:exI E cs c s=none) (hk:keyI cs (E.kind lc ls)=none) (ho:keyI cs other=some i):cntI E cs c s lc ls=i:=by
 unfold cntI;rw[h,hk,ho];rfl
theorem zBN {cs:Cs} {k:List UInt8} {i:Nat} (h:keyI cs k=some i):keyN cs k=(i:Int):=by unfold keyN;rw[h]
theorem zFv {cs:Cs} {k:List UInt8} (h:keyI cs k=none):keyN cs k= -1:=by unfold keyN;rw[h]
theorem zLr {E:Ev} {cs:Cs} {c s:Int} {k:Nat} {y:List UInt8×List Nd} (h:cs[k]?=some y) (h0:exI E (cs.take k) c s=none) (h1:(decide (0≤exV y.1)&&E.same c s (exV y.1))=true):exI E cs c s=some k:=by
 obtain⟨hk,e⟩:=List.getElem?_eq_some_iff.1 h
 refine List.findIdx?_eq_some_iff_getElem.2 ⟨hk,by rw[e];exact h1,fun j hj=>?_⟩
 have hm:cs[j]'(by omega)∈cs.take k:=List.mem_take_iff_getElem.2 ⟨j,by omega,rfl⟩
 have:=List.findIdx?_eq_none_iff.1 h0 _ hm
 simpa using this
theorem zMT {E:Ev} {cs:Cs} {c s:Int} {k:Nat} {y:List UInt8×List Nd} (h:cs[k]?=some y) (h0:exI E (cs.take k) c s=none) (h1:(decide (0≤exV y.1)&&E.same c s (exV y.1))=false):exI E (cs.take (k+1)) c s=none:=by
 unfold exI at*
 rw[List.findIdx?_eq_none_iff] at*
 intro z hz
 rw[List.take_add_one,h,Option.toList_some,List.mem_append] at hz
 rcases hz with hz|hz
 ·exact h0 z hz
 obtain rfl:z=y:=by simpa using hz
 exact h1
end Ms
open Go.RowKit Ms
open Dcm (okD)
theorem zGJ {f:Nat} (K:Int) (T:List UInt8) (O:Int) (v:Value) (cs:Cs) (t0 t1 t2 t3 t4:List UInt8) (c s a b:Int) (w:World) (hS:SetFine t0 t1 t2 t3 t4) (hd:okD c s) (hd2:okD a b) (hc:CassAt f w v cs) (hl:cs.length≤2000000) (ho: ∃i,keyI cs other=some i):
  Calls Tryz.prog 49 #[.agg #[.int .i64 K,.string ⟨T.toArray⟩,.int .i64 O,v],.agg #[.string ⟨t0.toArray⟩,.string ⟨t1.toArray⟩,.string ⟨t2.toArray⟩,.string ⟨t3.toArray⟩,.string ⟨t4.toArray⟩],.agg #[.int .i64 c,.int .i64 s],.agg #[.int .i64 a,.int .i64 b]] w fun e w'=>e= .returned (.int .i64 ((cntI (evS [t0,t1,t2,t3,t4]) cs c s a b:Nat):Int))∧Below w.heap.size w w':=by
 have CK:=lH fun w=>zIM t0 t1 t2 t3 t4 a b w hS.2 hS.1 hd2
 rw[show Rul.kindS [t0,t1,t2,t3,t4] (Rul.opsD a b) 0=(evS [t0,t1,t2,t3,t4]).kind a b from rfl] at CK
 have CE:=lH fun (key:List UInt8) (hk:key.length≤2000000) (wx:World)=>zEa key wx (by omega)
 have CO:=lH fun (n:Int) (h0:0≤n) (h1:n≤1000000000000000) (w:World)=>zJV c s n 0 w hd ⟨by omega,by omega,by omega,h1⟩
 have HO:=lH fun (n:Int) (h0:0≤n) (h1:n≤1000000000000000)=>(show(evS [t0,t1,t2,t3,t4]).same c s n=decide (Dcm.ordV c s n 0=0) from by
  have:=(Dcm.zKz hd (b:=n) (t:=0) ⟨by omega,by omega,by omega,h1⟩).2
  show decide (Dcm.nrm c s=Dcm.nrm n 0)=_
  by_cases h:Dcm.nrm c s=Dcm.nrm n 0
  ·rw[decide_eq_true h,decide_eq_true (this.2 h)]
  rw[decide_eq_false h,decide_eq_false (fun e=>h (this.1 e))])
 have HX:=lH (show ∀wx,Below w.heap.size w wx→CassAt f wx v cs from fun wx hb=>zAm hc hb)
 have CC:=lH fun (key:List UInt8) (wx:World) (hb:Below w.heap.size w wx)=>(show Calls Tryz.prog 47 #[.agg #[.int .i64 K,.string ⟨T.toArray⟩,.int .i64 O,v],.string ⟨key.toArray⟩] wx fun e w'=>e= .returned (.int .i64 (keyN cs key))∧Below wx.heap.size wx w' from by
  obtain⟨a9,n9,c9,rfl⟩:=hc.isSlice
  exact zEp K T O cs a9 n9 c9 key wx (zAm hc hb) hl)
 obtain⟨Ad,cap,rfl,hm,_⟩:=hc.spread
 have hcap:cs.length≤cap∨cs.length=0:=by
  rcases hc with⟨e,_⟩|⟨_,_,_,e,_,q,_,_⟩
  ·exact .inr (by rw[e];rfl)
  injection e with _ _ e;exact .inl (by omega)
 clear hc hS hd hd2
 generalize evS [t0,t1,t2,t3,t4]=E at*
 generalize hk0:E.kind a b=k at*
 generalize hL:cs.length=L at*
 have W4:=lH (show Below w.heap.size w (World.alloc (World.alloc (World.alloc (World.alloc w (.cells #[.int .i64 K,.string ⟨T.toArray⟩,.int .i64 O,.slice Ad L cap] 51)) (.cells #[.string ⟨t0.toArray⟩,.string ⟨t1.toArray⟩,.string ⟨t2.toArray⟩,.string ⟨t3.toArray⟩,.string ⟨t4.toArray⟩] 58)) (.cells #[.int .i64 c,.int .i64 s] 64)) (.cells #[.int .i64 a,.int .i64 b] 64)) from(bT (bT (bT (bA w (.cells #[.int .i64 K,.string ⟨T.toArray⟩,.int .i64 O,.slice Ad L cap] 51)) (bA (World.alloc w (.cells #[.int .i64 K,.string ⟨T.toArray⟩,.int .i64 O,.slice Ad L cap] 51)) (.cells #[.string ⟨t0.toArray⟩,.string ⟨t1.toArray⟩,.string ⟨t2.toArray⟩,.string ⟨t3.toArray⟩,.string ⟨t4.toArray⟩] 58))) (bA (World.alloc (World.alloc w (.cells #[.int .i64 K,.string ⟨T.toArray⟩,.int .i64 O,.slice Ad L cap] 51)) (.cells #[.string ⟨t0.toArray⟩,.string ⟨t1.toArray⟩,.string ⟨t2.toArray⟩,.string ⟨t3.toArray⟩,.string ⟨t4.toArray⟩] 58)) (.cells #[.int .i64 c,.int .i64 s] 64))) (bA (World.alloc (World.alloc (World.alloc w (.cells #[.int .i64 K,.string ⟨T.toArray⟩,.int .i64 O,.slice Ad L cap] 51)) (.cells #[.string ⟨t0.toArray⟩,.string ⟨t1.toArray⟩,.string ⟨t2.toArray⟩,.string ⟨t3.toArray⟩,.string ⟨t4.toArray⟩] 58)) (.cells #[.int .i64 c,.int .i64 s] 64)) (.cells #[.int .i64 a,.int .i64 b] 64))))
 have B0:=lH ((((Boxed.made w #[.int .i64 K,.string ⟨T.toArray⟩,.int .i64 O,.slice Ad L cap] 51).alloc (.cells #[.string ⟨t0.toArray⟩,.string ⟨t1.toArray⟩,.string ⟨t2.toArray⟩,.string ⟨t3.toArray⟩,.string ⟨t4.toArray⟩] 58)).alloc (.cells #[.int .i64 c,.int .i64 s] 64)).alloc (.cells #[.int .i64 a,.int .i64 b] 64))
 have B1:=lH (((Boxed.made (World.alloc w (.cells #[.int .i64 K,.string ⟨T.toArray⟩,.int .i64 O,.slice Ad L cap] 51)) #[.string ⟨t0.toArray⟩,.string ⟨t1.toArray⟩,.string ⟨t2.toArray⟩,.string ⟨t3.toArray⟩,.string ⟨t4.toArray⟩] 58).alloc (.cells #[.int .i64 c,.int .i64 s] 64)).alloc (.cells #[.int .i64 a,.int .i64 b] 64))
 have B2:=lH ((Boxed.made (World.alloc (World.alloc w (.cells #[.int .i64 K,.string ⟨T.toArray⟩,.int .i64 O,.slice Ad L cap] 51)) (.cells #[.string ⟨t0.toArray⟩,.string ⟨t1.toArray⟩,.string ⟨t2.toArray⟩,.string ⟨t3.toArray⟩,.string ⟨t4.toArray⟩] 58)) #[.int .i64 c,.int .i64 s] 64).alloc (.cells #[.int .i64 a,.int .i64 b] 64))
 have B3:=lH (Boxed.made (World.alloc (World.alloc (World.alloc w (.cells #[.int .i64 K,.string ⟨T.toArray⟩,.int .i64 O,.slice Ad L cap] 51)) (.cells #[.string ⟨t0.toArray⟩,.string ⟨t1.toArray⟩,.string ⟨t2.toArray⟩,.string ⟨t3.toArray⟩,.string ⟨t4.toArray⟩] 58)) (.cells #[.int .i64 c,.int .i64 s] 64)) #[.int .i64 a,.int .i64 b] 64)
 simp only[World.size_alloc] at B1 B2 B3
 go_enter Tryz.func49,Tryz.ntmps49
 go_wp2_with fail
 generalize (World.alloc (World.alloc (World.alloc (World.alloc w (.cells #[.int .i64 K,.string ⟨T.toArray⟩,.int .i64 O,.slice Ad L cap] 51)) (.cells #[.string ⟨t0.toArray⟩,.string ⟨t1.toArray⟩,.string ⟨t2.toArray⟩,.string ⟨t3.toArray⟩,.string ⟨t4.toArray⟩] 58)) (.cells #[.int .i64 c,.int .i64 s] 64)) (.cells #[.int .i64 a,.int .i64 b] 64))=w4 at*
 generalize w.heap.size+1+1+1=q3 at*
 generalize w.heap.size+1+1=q2 at*
 generalize w.heap.size+1=q1 at*
 go_loopw [9] (fun v9 wr=> ∃i:Nat,v9= .int .i64 (i:Int)∧i≤L∧Hid (exI E (cs.take i) c s=none)∧Hid (Below w4.heap.size w4 wr)) (fun v9 _=>L-(intOf v9).toNat)
 case atStart=>exact⟨0,rfl,Nat.zero_le _,lH rfl,lH (Below.refl _ _)⟩
 case round=>
  obtain⟨i,rfl,hi,HK,HB⟩:=hrel
  have WB:=lH (bT W4.out HB.out)
  have X0:=lH (B0.out.below HB.out)
  have X1:=lH (B1.out.below HB.out)
  have X2:=lH (B2.out.below HB.out)
  have X3:=lH (B3.out.below HB.out)
  have x3:wr.cell? ⟨w.heap.size,3,none⟩=some (.slice Ad L cap):=X0.out.cell 3 _ rfl
  have xl:=X0.out.lt
  by_cases hlt:i<L
  ·have hi':(i:Int)<(L:Int):=by omega
   have hcc:L≤cap:=by omega
   obtain⟨y,hy⟩: ∃y,cs[i]?=some y:=⟨cs[i]'(by omega),List.getElem?_eq_getElem (by omega)⟩
   obtain⟨A',cap',eA,_,hsp⟩:=(HX.out wr WB.out).spread
   injection eA with e1 e2 e3
   subst e1
   obtain⟨bk,off,rfl,hyc⟩:=hsp i y hy
   obtain⟨a9,n9,c9,g0,_,_,xk,_⟩:=hyc
   have CEi:=lH (CE.out y.1 xk wr)
   have hxb:=zLC y.1
   have HF:=lH fun (h:(decide (0≤exV y.1)&&E.same c s (exV y.1))=true)=>zNE (E:=E) (cs:=cs) (lc:=a) (ls:=b) (zLr hy HK.out h)
   have HS:=lH fun (h:(decide (0≤exV y.1)&&E.same c s (exV y.1))=false)=>zMT (E:=E) hy HK.out h
   clear hsp e2 e3 hy xk HX CE
   generalize exV y.1=V at*
   generalize y.1=key at*
   have wi:IntKind.i64.wrap ((i:Int)+1)=(i:Int)+1:=IntWalk.i64_in _ (by omega)
   go_wp2_with fail
   refine CEi.out.mono ?_
   rintro e w5 ⟨rfl,hb⟩
   have H5:=lH (bT HB.out hb)
   have Y2:=lH (X2.out.below hb)
   clear hb CEi x3 xl g0 X0 X1 X2 X3 WB HB
   cases hv:decide (0≤V) with
   |false=>
    have hv': ¬0≤V:=of_decide_eq_false hv
    have HS2:=lH (HS.out (by rw[hv];rfl))
    clear HF HS CO HO
    go_wp2_with fail
    go_roundw
    case rel=>exact⟨i+1,by go_num,by omega,HS2,H5⟩
    case measure=>simp[intOf];omega
   |true=>
    have h0:0≤V:=of_decide_eq_true hv
    have COi:=lH (CO.out V h0 hxb.2)
    have hsm:=HO.out V h0 hxb.2
    have d0:World.cell? w5 ⟨q2,0,none⟩=some (.int .i64 c):=Y2.out.cell 0 _ rfl
    have d1:World.cell? w5 ⟨q2,1,none⟩=some (.int .i64 s):=Y2.out.cell 1 _ rfl
    have dl:=Y2.out.lt
    generalize Dcm.ordV c s V 0=od at*
    clear CO HO
    go_wp2_with fail
    refine(COi.out _).mono ?_
    rintro e w6 ⟨rfl,hb⟩
    have H6:=lH (bT H5.out hb)
    clear hb COi d0 d1 dl H5 Y2
    by_cases hz:od=0
    ·subst hz
     have HR:=lH (HF.out (by rw[hv,hsm];rfl))
     clear HF HS hsm
     go_wp2_with fail
     go_ret
     exact⟨zAl (by rw[HR.out]),bT W4.out H6.out⟩
    have hze:(od==0)=false:=beq_eq_false_iff_ne.2 hz
    have HS2:=lH (HS.out (by rw[hv,hsm,decide_eq_false hz];rfl))
    clear HF HS hsm
    go_wp2_with fail
    go_roundw
    case rel=>exact⟨i+1,by go_num,by omega,HS2,H6⟩
    case measure=>simp[intOf];omega
  have ei:i=L:=by omega
  subst ei
  have HN:=lH (show exI E cs c s=none by have:=HK.out;rwa [List.take_of_length_le (by omega)] at this)
  have hi': ¬(i:Int)<(i:Int):=by omega
  obtain⟨io,hio⟩:=ho
  have HRK:=lH fun (j:Nat) (h:keyI cs k=some j)=>zLq (E:=E) (cs:=cs) (lc:=a) (ls:=b) HN.out (by rw[hk0];exact h)
  have HRO:=lH fun (h:keyI cs k=none)=>zMS (E:=E) (cs:=cs) (lc:=a) (ls:=b) HN.out (by rw[hk0];exact h) hio
  have HKO:=zBN hio
  have z0:wr.cell? ⟨w.heap.size,0,none⟩=some (.int .i64 K):=X0.out.cell 0 _ rfl
  have z1:wr.cell? ⟨w.heap.size,1,none⟩=some (.string ⟨T.toArray⟩):=X0.out.cell 1 _ rfl
  have z2:wr.cell? ⟨w.heap.size,2,none⟩=some (.int .i64 O):=X0.out.cell 2 _ rfl
  have u0:wr.cell? ⟨q1,0,none⟩=some (.string ⟨t0.toArray⟩):=X1.out.cell 0 _ rfl
  have u1:wr.cell? ⟨q1,1,none⟩=some (.string ⟨t1.toArray⟩):=X1.out.cell 1 _ rfl
  have u2:wr.cell? ⟨q1,2,none⟩=some (.string ⟨t2.toArray⟩):=X1.out.cell 2 _ rfl
  have u3:wr.cell? ⟨q1,3,none⟩=some (.string ⟨t3.toArray⟩):=X1.out.cell 3 _ rfl
  have u4:wr.cell? ⟨q1,4,none⟩=some (.string ⟨t4.toArray⟩):=X1.out.cell 4 _ rfl
  have l0:wr.cell? ⟨q3,0,none⟩=some (.int .i64 a):=X3.out.cell 0 _ rfl
  have l1:wr.cell? ⟨q3,1,none⟩=some (.int .i64 b):=X3.out.cell 1 _ rfl
  clear HX CE CO HO HN hk0 hio HK
  go_upto_region 7 with fail
  refine wp_region_held_drew (S:=fun w'=>w'.cell? ⟨w.heap.size,0,none⟩=some (.int .i64 K)∧w'.cell? ⟨w.heap.size,1,none⟩=some (.string ⟨T.toArray⟩)∧w'.cell? ⟨w.heap.size,2,none⟩=some (.int .i64 O)∧w'.cell? ⟨w.heap.size,3,none⟩=some (.slice Ad i cap)∧w'.cell? ⟨q1,0,none⟩=some (.string ⟨t0.toArray⟩)∧w'.cell? ⟨q1,1,none⟩=some (.string ⟨t1.toArray⟩)∧w'.cell? ⟨q1,2,none⟩=some (.string ⟨t2.toArray⟩)∧w'.cell? ⟨q1,3,none⟩=some (.string ⟨t3.toArray⟩)∧w'.cell? ⟨q1,4,none⟩=some (.string ⟨t4.toArray⟩)∧w'.cell? ⟨q3,0,none⟩=some (.int .i64 a)∧w'.cell? ⟨q3,1,none⟩=some (.int .i64 b)∧Hid (Below w.heap.size w w')) (by kernel_rfl) (⟨z0,z1,z2,x3,u0,u1,u2,u3,u4,l0,l1,lH (Below.drew WB.out)⟩) (fun hY9=>?_)
  refine tkr (d:=(some 36)) (v:=?v1) 0 rfl rfl hY9 ?hy1 ?rs1
  case hy1=>(intro w hSw;(try dsimp only at hSw);go_simp)<;>(try with_reducible rfl)
  (try simp only[Act.put,aI,aO,aS])
  refine tkr (d:=(some 37)) (v:=?v2) 1 rfl rfl hY9 ?hy2 ?rs2
  case hy2=>(intro w hSw;(try dsimp only at hSw);go_simp)<;>(try with_reducible rfl)
  (try simp only[Act.put,aI,aO,aS])
  refine tkr (d:=(some 38)) (v:=?v3) 2 rfl rfl hY9 ?hy3 ?rs3
  case hy3=>(intro w hSw;(try dsimp only at hSw);go_simp)<;>(try with_reducible rfl)
  (try simp only[Act.put,aI,aO,aS])
  refine zAc 3 rfl (by kernel_rfl) (by rfl) (fun K hK=>?_)
  go_simp
  refine(CK.out _).mono ?_
  rintro e w' ⟨rfl,hb⟩
  refine hK.out _ _ (by obtain⟨h0,h1,h2,h3,h4,h5,h6,h7,h8,h9,h10,hw⟩:=hY9;exact⟨cK h0 hb,cK h1 hb,cK h2 hb,cK h3 hb,cK h4 hb,cK h5 hb,cK h6 hb,cK h7 hb,cK h8 hb,cK h9 hb,cK h10 hb,lH (bT hw.out hb)⟩) (fun hY9=>?_)
  clear hK K
  (try simp only[Act.put,aI,aO,aS])
  refine zAc 4 rfl (by kernel_rfl) (by rfl) (fun K hK=>?_)
  go_simp
  refine(CC.out k _ (by obtain⟨_,_,_,_,_,_,_,_,_,_,_,h7⟩:=hY9;exact h7.out)).mono ?_
  rintro e w' ⟨rfl,hb⟩
  refine hK.out _ _ (by obtain⟨h0,h1,h2,h3,h4,h5,h6,h7,h8,h9,h10,hw⟩:=hY9;exact⟨cK h0 hb,cK h1 hb,cK h2 hb,cK h3 hb,cK h4 hb,cK h5 hb,cK h6 hb,cK h7 hb,cK h8 hb,cK h9 hb,cK h10 hb,lH (bT hw.out hb)⟩) (fun hY9=>?_)
  clear hK K
  (try simp only[Act.put,aI,aO,aS])
  refine tkr (d:=(some 11)) (v:=?v6) 5 rfl rfl hY9 ?hy6 ?rs6
  case hy6=>(intro w hSw;(try dsimp only at hSw);go_simp)<;>(try with_reducible rfl)
  (try simp only[Act.put,aI,aO,aS])
  refine wpAnyH_done (by kernel_rfl) ?_ _
  obtain⟨z0,z1,z2,z3,z4,z5,z6,z7,z8,z9,z10,zW⟩:=hY9
  rename World=>w6
  have zl:=World.block_lt_of_cell? _ _ z0
  clear u0 u1 u2 u3 u4 l0 l1 x3 xl CK X0 X1 X2 X3 B0 B1 B2 B3 WB HB
  cases hkk:keyI cs k with
  |some j=>
   have hkn:=zBN hkk
   have HR:=lH (HRK.out j hkk)
   rw[hkn]
   have hj0: ¬(j:Int)<0:=by omega
   clear HRK HRO
   go_wp2_with fail
   go_ret
   exact⟨zAl (by rw[HR.out]),zW.out⟩
  |none=>
   have hkn:=zFv hkk
   have HR:=lH (HRO.out hkk)
   rw[hkn]
   have CCi:=lH (CC.out other _ zW.out)
   rw[HKO] at CCi
   unfold other at CCi
   clear HRK HRO CC
   go_wp2_with fail
   refine CCi.out.mono ?_
   rintro e w7 ⟨rfl,hb⟩
   have W7:=lH (bT zW.out hb)
   clear hb CCi
   go_wp2_with fail
   go_ret
   exact⟨zAl (by rw[HR.out]),W7.out⟩
open Go.RowKit
open Dcm (okD)

theorem zDq (c s:Int) (w:World) (h:okD c s):
  Calls Tryz.prog 115 #[.agg #[.int .i64 c,.int .i64 s]] w fun e w'=>e= .returned (.agg #[.int .i64 (Nt.trim c s).1,.int .i64 (Nt.trim c s).2])∧Below w.heap.size w w':=by
 obtain⟨s0,s9,c0,c1⟩:=h
 obtain⟨m,rfl⟩: ∃m:Nat,s=(m:Int):=⟨s.toNat,by omega⟩
 unfold Nt.trim
 rw[Int.toNat_natCast]
 have D0:=lH ((Boxed.made w #[.int .i64 c,.int .i64 (m:Int)] 64).alloc (.cells #[.int .i64 0,.int .i64 0] 64))
 have Z0:=lH (Boxed.at (q:=w.heap.size+1) (Boxed.made (w.alloc (.cells #[.int .i64 c,.int .i64 (m:Int)] 64)) #[.int .i64 0,.int .i64 0] 64) (by simp))
 have W0:=lH (bT (bA w (.cells #[.int .i64 c,.int .i64 (m:Int)] 64)) (bA _ (.cells #[.int .i64 0,.int .i64 0] 64)))
 obtain⟨T,hT⟩: ∃T,T=Dcm.strip m c:=⟨_,rfl⟩
 rw[←hT]
 have HT:=lH hT.symm
 clear hT
 go_enter Tryz.func115,Tryz.ntmps115
 go_wp2_with fail
 generalize (w.alloc (.cells #[.int .i64 c,.int .i64 (m:Int)] 64)).alloc (.cells #[.int .i64 0,.int .i64 0] 64)=w1 at*
 go_loopw [] (fun wr=> ∃(c':Int) (n:Nat),Hid (Boxed wr w.heap.size #[.int .i64 c',.int .i64 (n:Int)])∧Hid (Boxed wr (w.heap.size+1) #[.int .i64 0,.int .i64 0])∧Hid (Below w.heap.size w wr)∧Hid (Dcm.strip n c'=T)∧ -1000000000000000≤c'∧c'≤1000000000000000∧n≤9) (fun wr=>(intOf ((wr.cell? ⟨w.heap.size,1,none⟩).getD .nilIface)).toNat)
 case atStart=>exact⟨c,m,D0,Z0,W0,HT,c0,c1,by omega⟩
 case round=>
  obtain⟨c',n,D,Z,HB,HS,b0,b1,n9⟩:=hrel
  clear D0 Z0 W0 HT c0 c1 s0 s9
  have d0:=D.out.cell 0 _ rfl
  have d1:=D.out.cell 1 _ rfl
  have df0:=D.out.free 0 (by simp)
  have df1:=D.out.free 1 (by simp)
  have dl:=D.out.lt
  have z0:=Z.out.cell 0 _ rfl
  have z1:=Z.out.cell 1 _ rfl
  have zf0:=Z.out.free 0 (by simp)
  have zf1:=Z.out.free 1 (by simp)
  have zl:=Z.out.lt
  cases n with
  |zero=>
   have e0:T=(0,c'):=HS.out.symm
   subst e0
   go_wp2_with fail
   refine bodyPost_ret (v:= .agg #[.int .i64 c',.int .i64 0]) (by simp[results,Tryz.results115,go_sem,z0,z1];try rfl) rfl ?_
   exact⟨rfl,by repeat(first|exact HB.out|refine zAb ?_ _|refine Below.setCell ?_ (by first|(simp;done)|omega|(simp;omega)) _)⟩
  |succ n=>
   have hn:(0:Int)<((n+1:Nat):Int):=by omega
   have w1':IntKind.i64.wrap (((n+1:Nat):Int)-1)=(n:Int):=by rw[IntWalk.i64_in _ (by omega)];omega
   by_cases h0:c'%10=0
   ·have r0:(c'.tmod 10==0)=true:=by rw[zDt,decide_eq_true h0]
    have q0:IntKind.i64.wrap (c'.tdiv 10)=c'/10:=by rw[zHw h0,IntWalk.i64_in _ (by omega)]
    have HS':=lH (show Dcm.strip n (c'/10)=T by rw[←HS.out,Dcm.strip,if_pos h0])
    have bb0: -1000000000000000≤c'/10:=by omega
    have bb1:c'/10≤1000000000000000:=by omega
    have e1:((n+1:Nat):Int)-1=(n:Int):=by omega
    have D2:=lH ((D.out.set 0 (.int .i64 (c'/10)) (by simp)).set 1 (.int .i64 (n:Int)) (by simp))
    have Z2:=lH ((Z.out.far (q:=w.heap.size) (by omega) 0 (.int .i64 (c'/10))).far (q:=w.heap.size) (by omega) 1 (.int .i64 (n:Int)))
    generalize c'/10=c2 at*
    generalize hM:((n+1:Nat):Int)=M at*
    clear h0 HS b0 b1
    go_wp2_with fail
    go_roundw
    case rel=>exact⟨c2,n,lH D2.out,lH Z2.out,lH (by repeat(first|exact HB.out|refine zAb ?_ _|refine Below.setCell ?_ (by first|(simp;done)|omega|(simp;omega)) _)),HS',bb0,bb1,by omega⟩
    case measure=>simp[intOf,go_sem,d1];omega
   have r0:(c'.tmod 10==0)=false:=by rw[zDt,decide_eq_false h0]
   have e0:T=(n+1,c'):=by rw[←HS.out,Dcm.strip,if_neg h0]
   subst e0
   clear h0 HS
   go_wp2_with fail
   refine bodyPost_ret (v:= .agg #[.int .i64 c',.int .i64 ((n+1:Nat):Int)]) (by simp[results,Tryz.results115,go_sem,z0,z1];try rfl) rfl ?_
   exact⟨rfl,by repeat(first|exact HB.out|refine zAb ?_ _|refine Below.setCell ?_ (by first|(simp;done)|omega|(simp;omega)) _)⟩
open Go.RowKit

theorem zBA (s:List UInt8) (g g2:Int) (c:List UInt8) (w:World) (h:g=0∨(s.length:Int)≤g) (_hs:s.length≤1000000000):
  Calls Tryz.prog 118 #[.string ⟨s.toArray⟩,.int .i64 g,.int .i64 g2,.string ⟨c.toArray⟩] w fun e w'=>e= .returned (.string ⟨s.toArray⟩)∧Drew w w':=by
 by_cases h0:g=0
 ·have b1:(g==0)=true:=zAo h0
  clear h h0
  go_enter Tryz.func118,Tryz.ntmps118
  go_wp2
  go_ret
  exact⟨rfl,Drew.refl _⟩
 have b1:(g==0)=false:=zAe h0
 have b2:decide ((s.length:Int)≤g)=true:=zAd (by omega)
 clear h h0
 go_enter Tryz.func118,Tryz.ntmps118
 go_wp2
 go_ret
 exact⟨rfl,Drew.refl _⟩

theorem zDK (n:Nat): ∀(s:List UInt8) (g g2:Nat) (c:UInt8) (w:World),s.length≤n→s.length≤1000000000→0<g→g≤4→0<g2→g2≤4→
  Calls Tryz.prog 118 #[.string ⟨s.toArray⟩,.int .i64 g,.int .i64 g2,.string ⟨[c].toArray⟩] w fun e w'=>e= .returned (.string ⟨(Grp.grouped g g2 s c).toArray⟩)∧Drew w w':=by
 induction n with
 |zero=>
  intro s g g2 c w hn hs g1 g4 h1 h4
  rw[Grp.zBG c (by omega)]
  exact zBA s g g2 [c] w (.inr (by omega)) hs
 |succ n ih=>
  intro s g g2 c w hn hs g1 g4 h1 h4
  by_cases hlt:g<s.length
  ·have IH:=lH ih
   clear ih
   have b1:((g:Int)==0)=false:=zAe (by omega)
   have d1:decide ((s.length:Int)≤(g:Int))=false:=zAa (by omega)
   have b2:((g2:Int)==0)=false:=zAe (by omega)
   have HG:=lH (Grp.zCq (g2:=g2) c g1 hlt)
   have HL:=lH (Grp.zBq s.length g2 g2 (s.take (s.length-g)) c (by simp))
   have S1:=fun w=>zBH (P:= Tryz.prog) 9 Tryz.underlying9 s ((s.length:Int)-(g:Int)) (s.length-g) (by omega) (by omega) w
   have S2:=fun w=>zCf (P:= Tryz.prog) 9 Tryz.underlying9 s ((s.length:Int)-(g:Int)) (s.length-g) (by omega) (by omega) w
   have CI:=lH fun w=>IH.out (s.take (s.length-g)) g2 g2 c w (by simp;omega) (by simp;omega) h1 h4 h1 h4
   have t1:(s.take (s.length-g)).length≤s.length:=by simp
   have t2:(s.drop (s.length-g)).length≤s.length:=by simp
   generalize Grp.grouped g g2 s c=RES at*
   generalize Grp.grouped g2 g2 (s.take (s.length-g)) c=X at*
   generalize s.take (s.length-g)=U at*
   generalize s.drop (s.length-g)=V at*
   have hx:=HL.out.1
   have A1:=fun w=>zAh (P:= Tryz.prog) X [c] (by simp;omega) w
   have A2: ∀w,(Op.stringOp .add ⟨(X++ [c]).toArray⟩ ⟨V.toArray⟩).run Tryz.prog w= .ok (.string ⟨RES.toArray⟩) w:=fun w=>by rw[HG.out];exact zAh (P:= Tryz.prog) (X++ [c]) V (by simp;omega) w
   generalize X++ [c]=Y at*
   clear HG HL
   go_enter Tryz.func118,Tryz.ntmps118
   go_wp2_with fail
   go_big_quiet ((go_at_call 118;exact zD7 (CI.out _)))
   go_wp2_with fail
   go_ret
   exact⟨rfl,by repeat(first|exact Drew.refl _|refine Drew.drewN ?_ _)⟩
  rw[Grp.zBG c (by omega)]
  exact zBA s g g2 [c] w (.inr (by omega)) hs
theorem zEQ (s:List UInt8) (g:Nat) (c:UInt8) (w:World) (hs:s.length≤1000000000) (g1:0<g) (g4:g≤4):
  Calls Tryz.prog 118 #[.string ⟨s.toArray⟩,.int .i64 g,.int .i64 0,.string ⟨[c].toArray⟩] w fun e w'=>e= .returned (.string ⟨(Grp.grouped g g s c).toArray⟩)∧Drew w w':=by
 by_cases hlt:g<s.length
 ·skip
  have b1:((g:Int)==0)=false:=zAe (by omega)
  have d1:decide ((s.length:Int)≤(g:Int))=false:=zAa (by omega)
  have HG:=lH (Grp.zCq (g2:=g) c g1 hlt)
  have HL:=lH (Grp.zBq s.length g g (s.take (s.length-g)) c (by simp))
  have S1:=fun w=>zBH (P:= Tryz.prog) 9 Tryz.underlying9 s ((s.length:Int)-(g:Int)) (s.length-g) (by omega) (by omega) w
  have S2:=fun w=>zCf (P:= Tryz.prog) 9 Tryz.underlying9 s ((s.length:Int)-(g:Int)) (s.length-g) (by omega) (by omega) w
  have CI:=lH fun w=>zDK s.length (s.take (s.length-g)) g g c w (by simp) (by simp;omega) g1 g4 g1 g4
  have t1:(s.take (s.length-g)).length≤s.length:=by simp
  have t2:(s.drop (s.length-g)).length≤s.length:=by simp
  generalize Grp.grouped g g s c=RES at*
  generalize Grp.grouped g g (s.take (s.length-g)) c=X at*
  generalize s.take (s.length-g)=U at*
  generalize s.drop (s.length-g)=V at*
  have hx:=HL.out.1
  have A1:=fun w=>zAh (P:= Tryz.prog) X [c] (by simp;omega) w
  have A2: ∀w,(Op.stringOp .add ⟨(X++ [c]).toArray⟩ ⟨V.toArray⟩).run Tryz.prog w= .ok (.string ⟨RES.toArray⟩) w:=fun w=>by rw[HG.out];exact zAh (P:= Tryz.prog) (X++ [c]) V (by simp;omega) w
  generalize X++ [c]=Y at*
  clear HG HL
  go_enter Tryz.func118,Tryz.ntmps118
  go_wp2_with fail
  go_big_quiet ((go_at_call 118;exact zD7 (CI.out _)))
  go_wp2_with fail
  go_ret
  exact⟨rfl,by repeat(first|exact Drew.refl _|refine Drew.drewN ?_ _)⟩
 rw[Grp.zBG c (by omega)]
 exact zBA s g 0 [c] w (.inr (by omega)) hs
theorem zGK (s:List UInt8) (g g2:Int) (c:UInt8) (w:World) (hs:s.length≤1000000000) (hG:rightG g g2):
  Calls Tryz.prog 118 #[.string ⟨s.toArray⟩,.int .i64 g,.int .i64 g2,.string ⟨#[c]⟩] w fun e w'=>e= .returned (.string ⟨(gout s g g2 c).toArray⟩)∧Drew w w':=by
 obtain⟨h1,h2,h3,h4⟩:=hG
 obtain⟨a,rfl⟩:=Int.eq_ofNat_of_zero_le h1
 obtain⟨b,rfl⟩:=Int.eq_ofNat_of_zero_le h3
 unfold gout
 by_cases ha:(a:Int)=0
 ·rw[if_pos ha]
  exact zBA s a b [c] w (.inl ha) hs
 rw[if_neg ha]
 by_cases hb:(b:Int)=0
 ·rw[if_pos hb,hb]
  exact zEQ s a c w hs (by omega) (by omega)
 rw[if_neg hb]
 exact zDK s.length s a b c w (Nat.le_refl _) hs (by omega) (by omega) (by omega) (by omega)
open Go.RowKit
open Dcm (P10 okD mag)

theorem zHT (n:Int) (w:World) (h0:0≤n) (h1:n≤9):Calls Tryz.prog 76 #[.int .i64 n] w fun e w'=>e= .returned (.int .i64 (P10 n))∧Below w.heap.size w w':=
 (zAp n w h0 h1).mono fun _ _ h=>⟨h.1,by rw[←h.2];exact Below.refl _ _⟩

theorem zG7 (c s:Int) (w:World) (h:okD c s) (hs:s=0) (g:List UInt8) (hg:Byt.sgn c=g) (hcg:(c<0∧g= [45])∨(¬c<0∧g= [])):
  Calls Tryz.prog 46 #[.agg #[.int .i64 c,.int .i64 s]] w fun e w'=>e= .returned (.string ⟨(Byt.decText c s).toArray⟩)∧Below w.heap.size w w':=by
 have e2:=Byt.zDD c s h
 have dl:=Byt.zBu c s h
 obtain⟨s0,s9,c0,c1⟩:=h
 have hm:0≤mag c∧mag c≤1000000000000000:=by unfold mag;split<;>omega
 have hP:=Dcm.zAj s
 have q0:0≤mag c/P10 s:=Int.ediv_nonneg hm.1 (by omega)
 have q1:mag c/P10 s≤mag c:=Int.ediv_le_self _ hm.1
 subst hs
 have ew:Byt.magT (mag c) 0=Lib.decDigits (mag c/P10 0).toNat:=by
  rw[show mag c/P10 0=mag c from Int.ediv_one _];exact if_pos (Int.le_refl 0)
 rw[hg,ew] at e2
 have CD:=lH fun w=>zBf (mag c/P10 0) w q0 (by omega)
 generalize Lib.decDigits (mag c/P10 0).toNat=M at*
 have HX:=lH e2
 rw[e2,List.length_append] at dl
 have AD: ∀w,(Op.stringOp .add ⟨#[45]⟩ ⟨M.toArray⟩).run Tryz.prog w= .ok (.string ⟨([45]++M).toArray⟩) w:=fun w=>zAh (P:= Tryz.prog) [45] M (by simp;omega) w
 generalize Byt.decText c 0=X at*
 clear e2 ew hg dl
 obtain⟨Y,hY⟩: ∃Y,[45]++M=Y:=⟨_,rfl⟩
 rw[hY] at AD
 have HY:=lH hY
 clear hY
 rcases hcg with⟨hc,rfl⟩|⟨hc,rfl⟩
 ·have dc:decide (c<0)=true:=zAd hc
  go_enter Tryz.func46,Tryz.ntmps46
  go_wp2_with fail
  refine(zAI _ _ (by omega) (by omega)).mono ?_
  rintro e w' ⟨rfl,rfl⟩
  go_wp2_with fail
  refine(zAp _ _ (by omega) (by omega)).mono ?_
  rintro e w' ⟨rfl,rfl⟩
  go_wp2_with fail
  refine(CD.out _).mono ?_
  rintro e w1 ⟨rfl,hb⟩
  have B1_d:=Boxed.below (Boxed.made _ #[.int .i64 c,.int .i64 0] 64) hb
  have W1:=lH (bT (bT (Below.refl w.heap.size w) (bA _ _)) hb)
  clear hb
  have kd0:=B1_d.cell 0 _ rfl
  have kd1:=B1_d.cell 1 _ rfl
  have kdl:=B1_d.lt
  try simp at kd0 kd1 kdl
  go_wp2_with fail
  go_ret
  exact⟨zBC (by rw[HX.out,HY.out]),W1.out⟩
 have dc:decide (c<0)=false:=zAa hc
 go_enter Tryz.func46,Tryz.ntmps46
 go_wp2_with fail
 refine(zAI _ _ (by omega) (by omega)).mono ?_
 rintro e w' ⟨rfl,rfl⟩
 go_wp2_with fail
 refine(zAp _ _ (by omega) (by omega)).mono ?_
 rintro e w' ⟨rfl,rfl⟩
 go_wp2_with fail
 refine(CD.out _).mono ?_
 rintro e w1 ⟨rfl,hb⟩
 have B1_d:=Boxed.below (Boxed.made _ #[.int .i64 c,.int .i64 0] 64) hb
 have W1:=lH (bT (bT (Below.refl w.heap.size w) (bA _ _)) hb)
 clear hb
 have kd0:=B1_d.cell 0 _ rfl
 have kd1:=B1_d.cell 1 _ rfl
 have kdl:=B1_d.lt
 try simp at kd0 kd1 kdl
 go_wp2_with fail
 go_ret
 exact⟨zBC (by rw[HX.out,List.nil_append]),W1.out⟩

theorem zG8 (c s:Int) (w:World) (h:okD c s) (hs:0<s) (g:List UInt8) (hg:Byt.sgn c=g) (hcg:(c<0∧g= [45])∨(¬c<0∧g= [])):
  Calls Tryz.prog 46 #[.agg #[.int .i64 c,.int .i64 s]] w fun e w'=>e= .returned (.string ⟨(Byt.decText c s).toArray⟩)∧Below w.heap.size w w':=by
 have e2:=Byt.zDD c s h
 have dl:=Byt.zBu c s h
 obtain⟨s0,s9,c0,c1⟩:=h
 have hm:0≤mag c∧mag c≤1000000000000000:=by unfold mag;split<;>omega
 have hP:=Dcm.zAj s
 have q0:0≤mag c/P10 s:=Int.ediv_nonneg hm.1 (by omega)
 have q1:mag c/P10 s≤mag c:=Int.ediv_le_self _ hm.1
 have r0:0≤mag c%P10 s:=Int.emod_nonneg _ (by omega)
 have r1:mag c%P10 s<P10 s:=Int.emod_lt_of_pos _ (by omega)
 have ew:Byt.magT (mag c) s=Lib.decDigits (mag c/P10 s).toNat++46::Dtx.pad s.toNat (mag c%P10 s).toNat:=if_neg (by omega)
 rw[hg,ew] at e2
 have CD:=lH fun w=>zBf (mag c/P10 s) w q0 (by omega)
 have CP:=lH fun w=>zD9 (mag c%P10 s) s w r0 (by omega) s0 (by omega)
 generalize Lib.decDigits (mag c/P10 s).toNat=D at*
 generalize Dtx.pad s.toNat (mag c%P10 s).toNat=P at*
 have HX:=lH e2
 rw[e2,List.length_append,List.length_append,List.length_cons] at dl
 generalize Byt.decText c s=X at*
 obtain⟨X1,hX1⟩: ∃Y,D++ [46]=Y:=⟨_,rfl⟩
 obtain⟨M,hM⟩: ∃Y,X1++P=Y:=⟨_,rfl⟩
 have lX:X1.length=D.length+1:=by rw[←hX1];simp
 have lM:M.length=D.length+1+P.length:=by rw[←hM,List.length_append,lX]
 have A1: ∀w,(Op.stringOp .add ⟨D.toArray⟩ ⟨#[46]⟩).run Tryz.prog w= .ok (.string ⟨X1.toArray⟩) w:=fun w=>by rw[←hX1];exact zAh (P:= Tryz.prog) D [46] (by simp;omega) w
 have A2: ∀w,(Op.stringOp .add ⟨X1.toArray⟩ ⟨P.toArray⟩).run Tryz.prog w= .ok (.string ⟨M.toArray⟩) w:=fun w=>by rw[←hM];exact zAh (P:= Tryz.prog) X1 P (by omega) w
 obtain⟨Y,hY⟩: ∃Y,[45]++M=Y:=⟨_,rfl⟩
 have AD: ∀w,(Op.stringOp .add ⟨#[45]⟩ ⟨M.toArray⟩).run Tryz.prog w= .ok (.string ⟨Y.toArray⟩) w:=fun w=>by rw[←hY];exact zAh (P:= Tryz.prog) [45] M (by simp;omega) w
 have HY:=lH hY
 have HMM:=lH (show D++46::P=M by rw[←hM,←hX1];simp)
 have d0:decide (0<s)=true:=zAd hs
 have pn:P10 s≠0:=by omega
 have tm:(mag c).tmod (P10 s)=mag c%P10 s:=Int.tmod_eq_emod_of_nonneg hm.1
 clear e2 ew hg dl hX1 hM hY lX lM
 obtain⟨m0,m1⟩:=hm
 rcases hcg with⟨hc,rfl⟩|⟨hc,rfl⟩
 ·have dc:decide (c<0)=true:=zAd hc
  go_enter Tryz.func46,Tryz.ntmps46
  go_wp2_with fail
  refine(zAI _ _ (by omega) (by omega)).mono ?_
  rintro e w' ⟨rfl,rfl⟩
  go_wp2_with fail
  refine(zAp _ _ (by omega) (by omega)).mono ?_
  rintro e w' ⟨rfl,rfl⟩
  go_wp2_with fail
  refine(CD.out _).mono ?_
  rintro e w1 ⟨rfl,hb⟩
  have B1_d:=Boxed.below (Boxed.made _ #[.int .i64 c,.int .i64 s] 64) hb
  have W1:=lH (bT (bT (Below.refl w.heap.size w) (bA _ _)) hb)
  clear hb
  have kd0:=B1_d.cell 0 _ rfl
  have kd1:=B1_d.cell 1 _ rfl
  have kdl:=B1_d.lt
  try simp at kd0 kd1 kdl
  go_wp2_with fail
  refine wp_region_held_drew (S:=fun w'=>w'.cell? ⟨w.heap.size,0,none⟩=some (.int .i64 c)∧w'.cell? ⟨w.heap.size,1,none⟩=some (.int .i64 s)∧Hid (Below w.heap.size w w')) (by kernel_rfl) (by exact⟨by simpa using kd0,by simpa using kd1,lH (zAb W1.out 1)⟩) (fun hY9=>?_)
  refine tkr (d:=(some 17)) (v:=?v1) 0 rfl rfl hY9 ?hy1 ?rs1
  case hy1=>(intro w hSw;(try dsimp only at hSw);go_simp)<;>(try with_reducible rfl)
  (try simp only[Act.put,aI,aO,aS])
  refine tkr (d:=(some 18)) (v:=?v2) 1 rfl rfl hY9 ?hy2 ?rs2
  case hy2=>(intro w hSw;(try dsimp only at hSw);go_simp)<;>(try with_reducible rfl)
  (try simp only[Act.put,aI,aO,aS])
  refine tkr (d:=(some 19)) (v:=?v3) 2 rfl rfl hY9 ?hy3 ?rs3
  case hy3=>(intro w hSw;(try dsimp only at hSw);go_simp)<;>(try with_reducible rfl)
  (try simp only[Act.put,aI,aO,aS])
  refine tkr (d:=(some 20)) (v:=?v4) 3 rfl rfl hY9 ?hy4 ?rs4
  case hy4=>(intro w hSw;(try dsimp only at hSw);go_simp)<;>(try with_reducible rfl)
  (try simp only[Act.put,aI,aO,aS])
  refine tkr (d:=(some 21)) (v:=?v5) 4 rfl rfl hY9 ?hy5 ?rs5
  case hy5=>(intro w hSw;(try dsimp only at hSw);go_simp)<;>(try with_reducible rfl)
  (try simp only[Act.put,aI,aO,aS])
  refine tkr (d:=(some 24)) (v:=?v6) 7 rfl rfl hY9 ?hy6 ?rs6
  case hy6=>(intro w hSw;(try dsimp only at hSw);go_simp)<;>(try with_reducible rfl)
  (try simp only[Act.put,aI,aO,aS])
  refine tkr (d:=(some 25)) (v:=?v7) 8 rfl rfl hY9 ?hy7 ?rs7
  case hy7=>(intro w hSw;(try dsimp only at hSw);go_simp)<;>(try with_reducible rfl)
  (try simp only[Act.put,aI,aO,aS])
  refine zAc 5 rfl (by kernel_rfl) (by rfl) (fun K hK=>?_)
  go_simp
  refine(zHT _ _ (by omega) (by omega)).mono ?_
  rintro e w' ⟨rfl,hb⟩
  refine hK.out _ _ (by obtain⟨h0,h1,hw⟩:=hY9;exact⟨cK h0 hb,cK h1 hb,lH (bT hw.out hb)⟩) (fun hY9=>?_)
  clear hK K
  (try simp only[Act.put,aI,aO,aS])
  refine tkr (d:=(some 23)) (v:=?v9) 6 rfl rfl hY9 ?hy9 ?rs9
  case hy9=>(intro w hSw;(try dsimp only at hSw);go_simp)<;>(try with_reducible rfl)
  (try simp only[Act.put,aI,aO,aS])
  refine zAc 9 rfl (by kernel_rfl) (by rfl) (fun K hK=>?_)
  go_simp
  refine(CP.out _).mono ?_
  rintro e w' ⟨rfl,hb⟩
  refine hK.out _ _ (by obtain⟨h0,h1,hw⟩:=hY9;exact⟨cK h0 hb,cK h1 hb,lH (bT hw.out hb)⟩) (fun hY9=>?_)
  clear hK K
  (try simp only[Act.put,aI,aO,aS])
  refine tkr (d:=(some 27)) (v:=?v11) 10 rfl rfl hY9 ?hy11 ?rs11
  case hy11=>(intro w hSw;(try dsimp only at hSw);go_simp)<;>(try with_reducible rfl)
  (try simp only[Act.put,aI,aO,aS])
  refine tkr (d:=(some 4)) (v:=?v12) 11 rfl rfl hY9 ?hy12 ?rs12
  case hy12=>(intro w hSw;(try dsimp only at hSw);go_simp)<;>(try with_reducible rfl)
  (try simp only[Act.put,aI,aO,aS])
  refine wpAnyH_done (by kernel_rfl) ?_ _
  obtain⟨z0,z1,zW⟩:=hY9
  clear kd0 kd1 kdl W1 B1_d
  go_wp2_with fail
  go_ret
  exact⟨zBC (by rw[HX.out,HMM.out,HY.out]),zW.out⟩
 have dc:decide (c<0)=false:=zAa hc
 go_enter Tryz.func46,Tryz.ntmps46
 go_wp2_with fail
 refine(zAI _ _ (by omega) (by omega)).mono ?_
 rintro e w' ⟨rfl,rfl⟩
 go_wp2_with fail
 refine(zAp _ _ (by omega) (by omega)).mono ?_
 rintro e w' ⟨rfl,rfl⟩
 go_wp2_with fail
 refine(CD.out _).mono ?_
 rintro e w1 ⟨rfl,hb⟩
 have B1_d:=Boxed.below (Boxed.made _ #[.int .i64 c,.int .i64 s] 64) hb
 have W1:=lH (bT (bT (Below.refl w.heap.size w) (bA _ _)) hb)
 clear hb
 have kd0:=B1_d.cell 0 _ rfl
 have kd1:=B1_d.cell 1 _ rfl
 have kdl:=B1_d.lt
 try simp at kd0 kd1 kdl
 go_wp2_with fail
 refine wp_region_held_drew (S:=fun w'=>w'.cell? ⟨w.heap.size,0,none⟩=some (.int .i64 c)∧w'.cell? ⟨w.heap.size,1,none⟩=some (.int .i64 s)∧Hid (Below w.heap.size w w')) (by kernel_rfl) (by exact⟨by simpa using kd0,by simpa using kd1,lH (zAb W1.out 1)⟩) (fun hY9=>?_)
 refine tkr (d:=(some 17)) (v:=?v13) 0 rfl rfl hY9 ?hy13 ?rs13
 case hy13=>(intro w hSw;(try dsimp only at hSw);go_simp)<;>(try with_reducible rfl)
 (try simp only[Act.put,aI,aO,aS])
 refine tkr (d:=(some 18)) (v:=?v14) 1 rfl rfl hY9 ?hy14 ?rs14
 case hy14=>(intro w hSw;(try dsimp only at hSw);go_simp)<;>(try with_reducible rfl)
 (try simp only[Act.put,aI,aO,aS])
 refine tkr (d:=(some 19)) (v:=?v15) 2 rfl rfl hY9 ?hy15 ?rs15
 case hy15=>(intro w hSw;(try dsimp only at hSw);go_simp)<;>(try with_reducible rfl)
 (try simp only[Act.put,aI,aO,aS])
 refine tkr (d:=(some 20)) (v:=?v16) 3 rfl rfl hY9 ?hy16 ?rs16
 case hy16=>(intro w hSw;(try dsimp only at hSw);go_simp)<;>(try with_reducible rfl)
 (try simp only[Act.put,aI,aO,aS])
 refine tkr (d:=(some 21)) (v:=?v17) 4 rfl rfl hY9 ?hy17 ?rs17
 case hy17=>(intro w hSw;(try dsimp only at hSw);go_simp)<;>(try with_reducible rfl)
 (try simp only[Act.put,aI,aO,aS])
 refine tkr (d:=(some 24)) (v:=?v18) 7 rfl rfl hY9 ?hy18 ?rs18
 case hy18=>(intro w hSw;(try dsimp only at hSw);go_simp)<;>(try with_reducible rfl)
 (try simp only[Act.put,aI,aO,aS])
 refine tkr (d:=(some 25)) (v:=?v19) 8 rfl rfl hY9 ?hy19 ?rs19
 case hy19=>(intro w hSw;(try dsimp only at hSw);go_simp)<;>(try with_reducible rfl)
 (try simp only[Act.put,aI,aO,aS])
 refine zAc 5 rfl (by kernel_rfl) (by rfl) (fun K hK=>?_)
 go_simp
 refine(zHT _ _ (by omega) (by omega)).mono ?_
 rintro e w' ⟨rfl,hb⟩
 refine hK.out _ _ (by obtain⟨h0,h1,hw⟩:=hY9;exact⟨cK h0 hb,cK h1 hb,lH (bT hw.out hb)⟩) (fun hY9=>?_)
 clear hK K
 (try simp only[Act.put,aI,aO,aS])
 refine tkr (d:=(some 23)) (v:=?v21) 6 rfl rfl hY9 ?hy21 ?rs21
 case hy21=>(intro w hSw;(try dsimp only at hSw);go_simp)<;>(try with_reducible rfl)
 (try simp only[Act.put,aI,aO,aS])
 refine zAc 9 rfl (by kernel_rfl) (by rfl) (fun K hK=>?_)
 go_simp
 refine(CP.out _).mono ?_
 rintro e w' ⟨rfl,hb⟩
 refine hK.out _ _ (by obtain⟨h0,h1,hw⟩:=hY9;exact⟨cK h0 hb,cK h1 hb,lH (bT hw.out hb)⟩) (fun hY9=>?_)
 clear hK K
 (try simp only[Act.put,aI,aO,aS])
 refine tkr (d:=(some 27)) (v:=?v23) 10 rfl rfl hY9 ?hy23 ?rs23
 case hy23=>(intro w hSw;(try dsimp only at hSw);go_simp)<;>(try with_reducible rfl)
 (try simp only[Act.put,aI,aO,aS])
 refine tkr (d:=(some 4)) (v:=?v24) 11 rfl rfl hY9 ?hy24 ?rs24
 case hy24=>(intro w hSw;(try dsimp only at hSw);go_simp)<;>(try with_reducible rfl)
 (try simp only[Act.put,aI,aO,aS])
 refine wpAnyH_done (by kernel_rfl) ?_ _
 obtain⟨z0,z1,zW⟩:=hY9
 clear kd0 kd1 kdl W1 B1_d
 go_wp2_with fail
 go_ret
 exact⟨zBC (by rw[HX.out,HMM.out,List.nil_append]),zW.out⟩

theorem zFw (c s:Int) (w:World) (h:okD c s):Calls Tryz.prog 46 #[.agg #[.int .i64 c,.int .i64 s]] w fun e w'=>e= .returned (.string ⟨(Byt.decText c s).toArray⟩)∧Below w.heap.size w w':=by
 have hcg:(c<0∧Byt.sgn c= [45])∨(¬c<0∧Byt.sgn c= []):=by
  by_cases hc:c<0
  ·exact .inl ⟨hc,if_pos hc⟩
  exact .inr ⟨hc,if_neg hc⟩
 by_cases hs:s=0
 ·exact zG7 c s w h hs _ rfl hcg
 exact zG8 c s w h (by have:=h.1;omega) _ rfl hcg
end Go.Proofs.YtjlchookakbomaaGreatDoor
