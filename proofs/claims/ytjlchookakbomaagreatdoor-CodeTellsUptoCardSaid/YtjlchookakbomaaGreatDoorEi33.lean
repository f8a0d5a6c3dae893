/- The walk of linguisterref1.RoundOf: a number rounded. No conditions but the arguments' own. -/
import Derived.Test.YtjlchookakbomaaGreatDoorEi32
set_option maxHeartbeats 20000000
set_option maxRecDepth 100000
namespace Go.Proofs.YtjlchookakbomaaGreatDoor
open Go.RowKit
open Dcm (P10 okD nrm mag flo lef)

theorem zIN (c s t way:Int) (w:World) (ha:okD c s) (t9:t≤9) (hst:s≤t) (hr:mag c*P10 (t-s)≤1000000000000000):
  Calls Tryz.prog 116 #[.agg #[.int .i64 c,.int .i64 s],.int .i64 t,.int .i64 way] w fun e w'=>e= .returned (.tuple #[.agg #[.int .i64 (c*P10 (t-s)),.int .i64 t],.bool true])∧Below w.heap.size w w':=by
 obtain⟨s0,s9,c0,c1⟩:=ha
 have hU:=Dcm.zAj (t-s)
 have hq:mag c≤1000000000000000/P10 (t-s):=(Int.le_ediv_iff_mul_le (by omega)).2 hr
 have hm: -1000000000000000≤c∧c≤1000000000000000:=⟨c0,c1⟩
 have d1:decide (1000000000000000/P10 (t-s)<mag c)=false:=zAa (by omega)
 have hcu: -1000000000000000≤c*P10 (t-s)∧c*P10 (t-s)≤1000000000000000:=by
  unfold mag at hr
  split at hr
  ·rw[Int.neg_mul] at hr;have:=Int.mul_nonneg (show 0≤ -c by omega) (show 0≤P10 (t-s) by omega);rw[Int.neg_mul] at this;omega
  have:=Int.mul_nonneg (show 0≤c by omega) (show 0≤P10 (t-s) by omega);omega
 obtain⟨u0,u1⟩:=hcu
 clear hq hr
 go_enter Tryz.func116,Tryz.ntmps116
 go_wp2_with (go_at_call 76;refine(zAp _ _ (by omega) (by omega)).mono ?_;rintro e w' ⟨rfl,rfl⟩)
 go_big_quiet ((first|(go_at_call 76;exact zAt (zAp _ _ (by omega) (by omega)))|(go_at_call 74;exact zAt (zAI _ _ (by omega) (by omega)))))
 go_wp2_with fail
 refine bodyPost_ret (v:= .tuple #[.agg #[.int .i64 (c*P10 (t-s)),.int .i64 t],.bool true]) (by simp[results,Tryz.results116,go_sem]) rfl ⟨rfl,?_⟩
 repeat(first|exact Below.refl _ _|refine zAb ?_ _|refine Below.setCell ?_ (by simp) _|refine Below.alloc ?_ (by first|(simp;done)|(simp;omega)) _)

inductive RofC (c L r U:Int):Int→Int→Prop
 |a1:decide (0<r)=false→RofC c L r U 1 L
 |b1:decide (0<r)=true→decide (c<0)=true→RofC c L r U 1 (L+1)
 |c1:decide (0<r)=true→decide (c<0)=false→RofC c L r U 1 L
 |a2:decide (0<r)=false→RofC c L r U 2 L
 |b2:decide (0<r)=true→RofC c L r U 2 L
 |a3:decide (0<r)=false→RofC c L r U 3 L
 |b3:decide (0<r)=true→RofC c L r U 3 (L+1)
 |a4:decide (0<r)=false→decide (U<2*r)=false→(2*r==U)=false→RofC c L r U 4 L
 |a5:decide (0<r)=false→decide (U<2*r)=false→(2*r==U)=false→RofC c L r U 5 L
 |b4:decide (0<r)=true→decide (U<2*r)=true→RofC c L r U 4 (L+1)
 |c4:decide (0<r)=true→decide (U<2*r)=false→(2*r==U)=false→RofC c L r U 4 L
 |d4:decide (0<r)=true→decide (U<2*r)=false→(2*r==U)=true→decide (0<c)=true→RofC c L r U 4 (L+1)
 |e4:decide (0<r)=true→decide (U<2*r)=false→(2*r==U)=true→decide (0<c)=false→RofC c L r U 4 L
 |b5:decide (0<r)=true→decide (U<2*r)=true→RofC c L r U 5 (L+1)
 |c5:decide (0<r)=true→decide (U<2*r)=false→(2*r==U)=false→RofC c L r U 5 L
 |d5:decide (0<r)=true→decide (U<2*r)=false→(2*r==U)=true→(mag L%2==1)=true→RofC c L r U 5 (L+1)
 |e5:decide (0<r)=true→decide (U<2*r)=false→(2*r==U)=true→(mag L%2==1)=false→RofC c L r U 5 L

theorem zAM (c s t L r U way R:Int) (w:World) (ha:okD c s) (t0:0≤t) (hst:t<s) (hU:P10 (s-t)=U) (hL:flo c (s-t)=L) (hr:lef c (s-t)=r) (h:RofC c L r U way R):
  Calls Tryz.prog 116 #[.agg #[.int .i64 c,.int .i64 s],.int .i64 t,.int .i64 way] w fun e w'=>e= .returned (.tuple #[.agg #[.int .i64 R,.int .i64 t],.bool true])∧Below w.heap.size w w':=by
 have C1:=lH fun w=>zAL c (s-t) w ⟨by omega,by have:=ha.2.1;omega,ha.2.2.1,ha.2.2.2⟩
 have C2:=lH fun w=>zAp (s-t) w (by omega) (by have:=ha.2.1;omega)
 have fb:=Dcm.zBl c (s-t) ⟨ha.2.2.1,ha.2.2.2⟩
 have fl:=Dcm.zAW c (s-t)
 have lb:=Dcm.zAZ c (s-t)
 have hU1:=Dcm.zAj (s-t)
 rw[hL] at C1 fb fl
 rw[hU] at C2 fl lb hU1
 rw[hr] at fl lb
 clear hL hU hr
 obtain⟨s0,s9,c0,c1⟩:=ha
 have mb:=Dcm.zB2 L
 have em:c-L*U=r:=by omega
 have hl1: -1000002000000000≤L*U:=by omega
 have hl2:L*U≤1000002000000000:=by omega
 have hem:=lH em
 clear em fl
 rcases h with⟨d0⟩|⟨d0,d1⟩|⟨d0,d1⟩|⟨d0⟩|⟨d0⟩|⟨d0⟩|⟨d0⟩|⟨d0,d1,d2⟩|⟨d0,d1,d2⟩|⟨d0,d1⟩|⟨d0,d1,d2⟩|⟨d0,d1,d2,d3⟩|⟨d0,d1,d2,d3⟩|⟨d0,d1⟩|⟨d0,d1,d2⟩|⟨d0,d1,d2,d3⟩|⟨d0,d1,d2,d3⟩
 all_goals
  go_enter Tryz.func116,Tryz.ntmps116
  go_wp2_with fail
  refine(C1.out _).mono ?_
  rintro e w1 ⟨rfl,hb⟩
  have B1_a:=Boxed.below (Boxed.alloc (Boxed.made _ #[.int .i64 c,.int .i64 s] 64) _) hb
  have B1_z:=Boxed.below (Boxed.made _ #[.int .i64 0,.int .i64 0] 64) hb
  have W1:=lH (bT (bT (bT (Below.refl w.heap.size w) (bA _ _)) (bA _ _)) hb)
  clear hb
  have ka0:=B1_a.cell 0 _ rfl
  have ka1:=B1_a.cell 1 _ rfl
  have kal:=B1_a.lt
  try simp at ka0 ka1 kal
  have kz0:=B1_z.cell 0 _ rfl
  have kz1:=B1_z.cell 1 _ rfl
  have kzl:=B1_z.lt
  try simp at kz0 kz1 kzl
  have zf0:=B1_z.free 0 (by simp)
  have zf1:=B1_z.free 1 (by simp)
  try simp at zf0 zf1
  go_wp2_with fail
  refine(C2.out _).mono ?_
  rintro e w2 ⟨rfl,rfl⟩
  have hem':=hem.out
  go_wp2_with (go_at_call 74;refine(zAI _ _ (by omega) (by omega)).mono ?_;rintro e w' ⟨rfl,rfl⟩)
  refine bodyPost_ret (by simp[results,Tryz.results116,go_sem,kz0,kz1]) rfl ⟨rfl,?_⟩
  repeat(first|exact W1.out|refine zAb ?_ _|refine Below.setCell ?_ (by simp) _|refine Below.alloc ?_ (by first|(simp;done)|(simp;omega)) _)

theorem zMU (c s t way:Int) (w:World) (h:rndE c s t way=0):
  Calls Tryz.prog 116 #[.agg #[.int .i64 c,.int .i64 s],.int .i64 t,.int .i64 way] w fun e w'=>e= .returned (.tuple #[.agg #[.int .i64 (Dcm.rndC c s t way),.int .i64 t],.bool true])∧Below w.heap.size w w':=by
 obtain⟨ha,t0,t9,w0,w1,hr⟩:=zBK.1 h
 by_cases hst:s≤t
 ·have e:Dcm.rndC c s t way=c*P10 (t-s):=by unfold Dcm.rndC;rw[if_pos hst]
  rw[e]
  exact zIN c s t way w ha t9 hst (hr hst)
 have e:=Dcm.zNt c s t way (by omega) w0 w1
 unfold Dcm.rndF at e
 rw[show c/P10 (s-t)=flo c (s-t) from rfl,show c%P10 (s-t)=lef c (s-t) from rfl] at e
 obtain⟨U,hU⟩: ∃U,P10 (s-t)=U:=⟨_,rfl⟩
 obtain⟨L,hL⟩: ∃L,flo c (s-t)=L:=⟨_,rfl⟩
 obtain⟨r,hr⟩: ∃r,lef c (s-t)=r:=⟨_,rfl⟩
 have lb:=Dcm.zAZ c (s-t)
 rw[hU,hL,hr] at e
 rw[hU,hr] at lb
 rw[e]
 rcases Dcm.ways way w0 w1 with rfl|rfl|rfl|rfl|rfl
 ·by_cases h0:0<r
  ·by_cases h1:c<0
   ·have u:Dcm.upB 1 L r U c=true:=by rw[Dcm.upB1,zAd h0,zAd h1];rfl
    rw[u]
    have g:=zAM c s t L r U 1 _ w ha t0 (by omega) hU hL hr (.b1 (zAd h0) (zAd h1))
    simpa using g
   have u:Dcm.upB 1 L r U c=false:=by rw[Dcm.upB1,zAd h0,zAa h1];rfl
   rw[u]
   have g:=zAM c s t L r U 1 _ w ha t0 (by omega) hU hL hr (.c1 (zAd h0) (zAa h1))
   simpa using g
  have u:Dcm.upB 1 L r U c=false:=by rw[Dcm.upB1,zAa h0];rfl
  rw[u]
  have g:=zAM c s t L r U 1 _ w ha t0 (by omega) hU hL hr (.a1 (zAa h0))
  simpa using g
 ·by_cases h0:0<r
  ·have u:Dcm.upB 2 L r U c=false:=by rw[Dcm.upB2]
   rw[u]
   have g:=zAM c s t L r U 2 _ w ha t0 (by omega) hU hL hr (.b2 (zAd h0))
   simpa using g
  have u:Dcm.upB 2 L r U c=false:=by rw[Dcm.upB2]
  rw[u]
  have g:=zAM c s t L r U 2 _ w ha t0 (by omega) hU hL hr (.a2 (zAa h0))
  simpa using g
 ·by_cases h0:0<r
  ·have u:Dcm.upB 3 L r U c=true:=by rw[Dcm.upB3,zAd h0]
   rw[u]
   have g:=zAM c s t L r U 3 _ w ha t0 (by omega) hU hL hr (.b3 (zAd h0))
   simpa using g
  have u:Dcm.upB 3 L r U c=false:=by rw[Dcm.upB3,zAa h0]
  rw[u]
  have g:=zAM c s t L r U 3 _ w ha t0 (by omega) hU hL hr (.a3 (zAa h0))
  simpa using g
 ·by_cases h0:0<r
  ·by_cases h1:U<2*r
   ·have u:Dcm.upB 4 L r U c=true:=by rw[Dcm.upB4,zAd h1];rfl
    rw[u]
    have g:=zAM c s t L r U 4 _ w ha t0 (by omega) hU hL hr (.b4 (zAd h0) (zAd h1))
    simpa using g
   by_cases h2:2*r=U
   ·by_cases h3:0<c
    ·have u:Dcm.upB 4 L r U c=true:=by rw[Dcm.upB4,zAa h1,zAd h2,zAd h3];rfl
     rw[u]
     have g:=zAM c s t L r U 4 _ w ha t0 (by omega) hU hL hr (.d4 (zAd h0) (zAa h1) (zAo h2) (zAd h3))
     simpa using g
    have u:Dcm.upB 4 L r U c=false:=by rw[Dcm.upB4,zAa h1,zAd h2,zAa h3];rfl
    rw[u]
    have g:=zAM c s t L r U 4 _ w ha t0 (by omega) hU hL hr (.e4 (zAd h0) (zAa h1) (zAo h2) (zAa h3))
    simpa using g
   have u:Dcm.upB 4 L r U c=false:=by rw[Dcm.upB4,zAa h1,zAa h2];rfl
   rw[u]
   have g:=zAM c s t L r U 4 _ w ha t0 (by omega) hU hL hr (.c4 (zAd h0) (zAa h1) (zAe h2))
   simpa using g
  have h1: ¬U<2*r:=by omega
  have h2: ¬2*r=U:=by omega
  have u:Dcm.upB 4 L r U c=false:=by rw[Dcm.upB4,zAa h1,zAa h2];rfl
  rw[u]
  have g:=zAM c s t L r U 4 _ w ha t0 (by omega) hU hL hr (.a4 (zAa h0) (zAa h1) (zAe h2))
  simpa using g
 by_cases h0:0<r
 ·by_cases h1:U<2*r
  ·have u:Dcm.upB 5 L r U c=true:=by rw[Dcm.upB5,zAd h1];rfl
   rw[u]
   have g:=zAM c s t L r U 5 _ w ha t0 (by omega) hU hL hr (.b5 (zAd h0) (zAd h1))
   simpa using g
  by_cases h2:2*r=U
  ·by_cases h3:mag L%2=1
   ·have u:Dcm.upB 5 L r U c=true:=by rw[Dcm.upB5,zAa h1,zAd h2,zAd h3];rfl
    rw[u]
    have g:=zAM c s t L r U 5 _ w ha t0 (by omega) hU hL hr (.d5 (zAd h0) (zAa h1) (zAo h2) (zAo h3))
    simpa using g
   have u:Dcm.upB 5 L r U c=false:=by rw[Dcm.upB5,zAa h1,zAd h2,zAa h3];rfl
   rw[u]
   have g:=zAM c s t L r U 5 _ w ha t0 (by omega) hU hL hr (.e5 (zAd h0) (zAa h1) (zAo h2) (zAe h3))
   simpa using g
  have u:Dcm.upB 5 L r U c=false:=by rw[Dcm.upB5,zAa h1,zAa h2];rfl
  rw[u]
  have g:=zAM c s t L r U 5 _ w ha t0 (by omega) hU hL hr (.c5 (zAd h0) (zAa h1) (zAe h2))
  simpa using g
 have h1: ¬U<2*r:=by omega
 have h2: ¬2*r=U:=by omega
 have u:Dcm.upB 5 L r U c=false:=by rw[Dcm.upB5,zAa h1,zAa h2];rfl
 rw[u]
 have g:=zAM c s t L r U 5 _ w ha t0 (by omega) hU hL hr (.a5 (zAa h0) (zAa h1) (zAe h2))
 simpa using g
end Go.Proofs.YtjlchookakbomaaGreatDoor
