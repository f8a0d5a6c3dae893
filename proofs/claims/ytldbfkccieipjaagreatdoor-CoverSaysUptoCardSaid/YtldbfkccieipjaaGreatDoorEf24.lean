/- The walk of linguisterref1.RoundOf: a number rounded. No conditions but the arguments' own. -/
import Derived.Test.YtldbfkccieipjaaGreatDoorEf3
namespace Go.Proofs.YtldbfkccieipjaaGreatDoor
set_option maxRecDepth 100000
open Go.RowKit
open Dcm (P10 okD nrm mag flo lef)

set_option maxHeartbeats 1000000 in
theorem rof_up_yes (c s t way:Int) (w:World) (ha:okD c s) (t9:t≤9) (hst:s≤t) (hr:mag c*P10 (t-s)≤1000000000000000):
  Calls Tryz.prog 60 #[.agg #[.int .i64 c,.int .i64 s],.int .i64 t,.int .i64 way] w fun e w'=>e= .returned (.tuple #[.agg #[.int .i64 (c*P10 (t-s)),.int .i64 t],.bool true])∧Below w.heap.size w w':=by
 obtain⟨s0,s9,c0,c1⟩:=ha
 have hU:=Dcm.P10_bd (t-s)
 have hq:mag c≤1000000000000000/P10 (t-s):=(Int.le_ediv_iff_mul_le (by omega)).2 hr
 have hm: -1000000000000000≤c∧c≤1000000000000000:=⟨c0,c1⟩
 have d1:decide (1000000000000000/P10 (t-s)<mag c)=false:=dec_no (by omega)
 have hcu: -1000000000000000≤c*P10 (t-s)∧c*P10 (t-s)≤1000000000000000:=by
  unfold mag at hr
  split at hr
  ·rw[Int.neg_mul] at hr;have:=Int.mul_nonneg (show 0≤ -c by omega) (show 0≤P10 (t-s) by omega);rw[Int.neg_mul] at this;omega
  ·have:=Int.mul_nonneg (show 0≤c by omega) (show 0≤P10 (t-s) by omega);omega
 obtain⟨u0,u1⟩:=hcu
 clear hq hr
 go_enter Tryz.func60,Tryz.ntmps60
 go_wp2_with (go_at_call 31;refine(ten_any _ _ (by omega) (by omega)).mono ?_;rintro e w' ⟨rfl,rfl⟩)
 go_big_quiet ((first|(go_at_call 31;exact quiet_left (ten_any _ _ (by omega) (by omega)))|(go_at_call 33;exact quiet_left (size_any _ _ (by omega) (by omega)))))
 go_wp2_with fail
 refine bodyPost_ret (v:= .tuple #[.agg #[.int .i64 (c*P10 (t-s)),.int .i64 t],.bool true]) (by simp[results,Tryz.results60,go_sem]) rfl ⟨rfl,?_⟩
 repeat(first|exact Below.refl _ _|refine blw_drewN ?_ _|refine Below.setCell ?_ (by simp) _|refine Below.alloc ?_ (by first|(simp;done)|(simp;omega)) _)

inductive RofC (c L r U:Int):Int→Int→Prop
 |a1:decide (0<r)=false→RofC c L r U 1 L
 |b1:decide (0<r)=true→decide (c<0)=true→RofC c L r U 1 (L+1)
 |c1:decide (0<r)=true→decide (c<0)=false→RofC c L r U 1 L
 |a2:decide (0<r)=false→RofC c L r U 2 L
 |b2:decide (0<r)=true→RofC c L r U 2 L
 |a3:decide (0<r)=false→RofC c L r U 3 L
 |b3:decide (0<r)=true→RofC c L r U 3 (L+1)
 |a4:decide (0<r)=false→decide (U<2*r)=false→(2*r==U)=false→RofC c L r U 4 L
 |a5:decide (0<r)=false→decide (U<2*r)=false→(2*r==U)=false→RofC c L r U 5 L
 |b4:decide (0<r)=true→decide (U<2*r)=true→RofC c L r U 4 (L+1)
 |c4:decide (0<r)=true→decide (U<2*r)=false→(2*r==U)=false→RofC c L r U 4 L
 |d4:decide (0<r)=true→decide (U<2*r)=false→(2*r==U)=true→decide (0<c)=true→RofC c L r U 4 (L+1)
 |e4:decide (0<r)=true→decide (U<2*r)=false→(2*r==U)=true→decide (0<c)=false→RofC c L r U 4 L
 |b5:decide (0<r)=true→decide (U<2*r)=true→RofC c L r U 5 (L+1)
 |c5:decide (0<r)=true→decide (U<2*r)=false→(2*r==U)=false→RofC c L r U 5 L
 |d5:decide (0<r)=true→decide (U<2*r)=false→(2*r==U)=true→(mag L%2==1)=true→RofC c L r U 5 (L+1)
 |e5:decide (0<r)=true→decide (U<2*r)=false→(2*r==U)=true→(mag L%2==1)=false→RofC c L r U 5 L

set_option maxHeartbeats 20000000 in
theorem rof_dn (c s t L r U way R:Int) (w:World) (ha:okD c s) (t0:0≤t) (hst:t<s) (hU:P10 (s-t)=U) (hL:flo c (s-t)=L) (hr:lef c (s-t)=r) (h:RofC c L r U way R):
  Calls Tryz.prog 60 #[.agg #[.int .i64 c,.int .i64 s],.int .i64 t,.int .i64 way] w fun e w'=>e= .returned (.tuple #[.agg #[.int .i64 R,.int .i64 t],.bool true])∧Below w.heap.size w w':=by
 have C1:=Lib.hid fun w=>floor_any c (s-t) w ⟨by omega,by have:=ha.2.1;omega,ha.2.2.1,ha.2.2.2⟩
 have C2:=Lib.hid fun w=>ten_any (s-t) w (by omega) (by have:=ha.2.1;omega)
 have fb:=Dcm.flo_bd c (s-t) ⟨ha.2.2.1,ha.2.2.2⟩
 have fl:=Dcm.flo_lef c (s-t)
 have lb:=Dcm.lef_bd c (s-t)
 have hU1:=Dcm.P10_bd (s-t)
 rw[hL] at C1 fb fl
 rw[hU] at C2 fl lb hU1
 rw[hr] at fl lb
 clear hL hU hr
 obtain⟨s0,s9,c0,c1⟩:=ha
 have mb:=Dcm.mag_bd L
 have em:c-L*U=r:=by omega
 have hl1: -1000002000000000≤L*U:=by omega
 have hl2:L*U≤1000002000000000:=by omega
 have hem:=Lib.hid em
 clear em fl
 rcases h with⟨d0⟩|⟨d0,d1⟩|⟨d0,d1⟩|⟨d0⟩|⟨d0⟩|⟨d0⟩|⟨d0⟩|⟨d0,d1,d2⟩|⟨d0,d1,d2⟩|⟨d0,d1⟩|⟨d0,d1,d2⟩|⟨d0,d1,d2,d3⟩|⟨d0,d1,d2,d3⟩|⟨d0,d1⟩|⟨d0,d1,d2⟩|⟨d0,d1,d2,d3⟩|⟨d0,d1,d2,d3⟩
 all_goals
  go_enter Tryz.func60,Tryz.ntmps60
  go_wp2_with fail
  refine(C1.out _).mono ?_
  rintro e w1 ⟨rfl,hb⟩
  have B1_a:=Boxed.below (Boxed.alloc (Boxed.made _ #[.int .i64 c,.int .i64 s] 31) _) hb
  have B1_z:=Boxed.below (Boxed.made _ #[.int .i64 0,.int .i64 0] 31) hb
  have W1:=Lib.hid (blw_trans (blw_trans (blw_trans (Below.refl w.heap.size w) (blw_alloc _ _)) (blw_alloc _ _)) hb)
  clear hb
  have ka0:=B1_a.cell 0 _ rfl
  have ka1:=B1_a.cell 1 _ rfl
  have kal:=B1_a.lt
  try simp at ka0 ka1 kal
  have kz0:=B1_z.cell 0 _ rfl
  have kz1:=B1_z.cell 1 _ rfl
  have kzl:=B1_z.lt
  try simp at kz0 kz1 kzl
  have zf0:=B1_z.free 0 (by simp)
  have zf1:=B1_z.free 1 (by simp)
  try simp at zf0 zf1
  go_wp2_with fail
  refine(C2.out _).mono ?_
  rintro e w2 ⟨rfl,rfl⟩
  have hem':=hem.out
  go_wp2_with (go_at_call 33;refine(size_any _ _ (by omega) (by omega)).mono ?_;rintro e w' ⟨rfl,rfl⟩)
  refine bodyPost_ret (by simp[results,Tryz.results60,go_sem,kz0,kz1]) rfl ⟨rfl,?_⟩
  repeat(first|exact W1.out|refine blw_drewN ?_ _|refine Below.setCell ?_ (by simp) _|refine Below.alloc ?_ (by first|(simp;done)|(simp;omega)) _)

theorem rof_yes (c s t way:Int) (w:World) (h:rndE c s t way=0):
  Calls Tryz.prog 60 #[.agg #[.int .i64 c,.int .i64 s],.int .i64 t,.int .i64 way] w fun e w'=>e= .returned (.tuple #[.agg #[.int .i64 (Dcm.rndC c s t way),.int .i64 t],.bool true])∧Below w.heap.size w w':=by
 obtain⟨ha,t0,t9,w0,w1,hr⟩:=rndE_zero.1 h
 by_cases hst:s≤t
 ·have e:Dcm.rndC c s t way=c*P10 (t-s):=by unfold Dcm.rndC;rw[if_pos hst]
  rw[e]
  exact rof_up_yes c s t way w ha t9 hst (hr hst)
 ·have e:=Dcm.rndC_F c s t way (by omega) w0 w1
  unfold Dcm.rndF at e
  rw[show c/P10 (s-t)=flo c (s-t) from rfl,show c%P10 (s-t)=lef c (s-t) from rfl] at e
  obtain⟨U,hU⟩: ∃U,P10 (s-t)=U:=⟨_,rfl⟩
  obtain⟨L,hL⟩: ∃L,flo c (s-t)=L:=⟨_,rfl⟩
  obtain⟨r,hr⟩: ∃r,lef c (s-t)=r:=⟨_,rfl⟩
  have lb:=Dcm.lef_bd c (s-t)
  rw[hU,hL,hr] at e
  rw[hU,hr] at lb
  rw[e]
  rcases Dcm.ways way w0 w1 with rfl|rfl|rfl|rfl|rfl
  ·by_cases h0:0<r
   ·by_cases h1:c<0
    ·have u:Dcm.upB 1 L r U c=true:=by rw[Dcm.upB1,dec_yes h0,dec_yes h1];rfl
     rw[u]
     have g:=rof_dn c s t L r U 1 _ w ha t0 (by omega) hU hL hr (.b1 (dec_yes h0) (dec_yes h1))
     simpa using g
    ·have u:Dcm.upB 1 L r U c=false:=by rw[Dcm.upB1,dec_yes h0,dec_no h1];rfl
     rw[u]
     have g:=rof_dn c s t L r U 1 _ w ha t0 (by omega) hU hL hr (.c1 (dec_yes h0) (dec_no h1))
     simpa using g
   ·have u:Dcm.upB 1 L r U c=false:=by rw[Dcm.upB1,dec_no h0];rfl
    rw[u]
    have g:=rof_dn c s t L r U 1 _ w ha t0 (by omega) hU hL hr (.a1 (dec_no h0))
    simpa using g
  ·by_cases h0:0<r
   ·have u:Dcm.upB 2 L r U c=false:=by rw[Dcm.upB2]
    rw[u]
    have g:=rof_dn c s t L r U 2 _ w ha t0 (by omega) hU hL hr (.b2 (dec_yes h0))
    simpa using g
   ·have u:Dcm.upB 2 L r U c=false:=by rw[Dcm.upB2]
    rw[u]
    have g:=rof_dn c s t L r U 2 _ w ha t0 (by omega) hU hL hr (.a2 (dec_no h0))
    simpa using g
  ·by_cases h0:0<r
   ·have u:Dcm.upB 3 L r U c=true:=by rw[Dcm.upB3,dec_yes h0]
    rw[u]
    have g:=rof_dn c s t L r U 3 _ w ha t0 (by omega) hU hL hr (.b3 (dec_yes h0))
    simpa using g
   ·have u:Dcm.upB 3 L r U c=false:=by rw[Dcm.upB3,dec_no h0]
    rw[u]
    have g:=rof_dn c s t L r U 3 _ w ha t0 (by omega) hU hL hr (.a3 (dec_no h0))
    simpa using g
  ·by_cases h0:0<r
   ·by_cases h1:U<2*r
    ·have u:Dcm.upB 4 L r U c=true:=by rw[Dcm.upB4,dec_yes h1];rfl
     rw[u]
     have g:=rof_dn c s t L r U 4 _ w ha t0 (by omega) hU hL hr (.b4 (dec_yes h0) (dec_yes h1))
     simpa using g
    ·by_cases h2:2*r=U
     ·by_cases h3:0<c
      ·have u:Dcm.upB 4 L r U c=true:=by rw[Dcm.upB4,dec_no h1,dec_yes h2,dec_yes h3];rfl
       rw[u]
       have g:=rof_dn c s t L r U 4 _ w ha t0 (by omega) hU hL hr (.d4 (dec_yes h0) (dec_no h1) (beq_yes h2) (dec_yes h3))
       simpa using g
      ·have u:Dcm.upB 4 L r U c=false:=by rw[Dcm.upB4,dec_no h1,dec_yes h2,dec_no h3];rfl
       rw[u]
       have g:=rof_dn c s t L r U 4 _ w ha t0 (by omega) hU hL hr (.e4 (dec_yes h0) (dec_no h1) (beq_yes h2) (dec_no h3))
       simpa using g
     ·have u:Dcm.upB 4 L r U c=false:=by rw[Dcm.upB4,dec_no h1,dec_no h2];rfl
      rw[u]
      have g:=rof_dn c s t L r U 4 _ w ha t0 (by omega) hU hL hr (.c4 (dec_yes h0) (dec_no h1) (beq_no h2))
      simpa using g
   ·have h1: ¬U<2*r:=by omega
    have h2: ¬2*r=U:=by omega
    have u:Dcm.upB 4 L r U c=false:=by rw[Dcm.upB4,dec_no h1,dec_no h2];rfl
    rw[u]
    have g:=rof_dn c s t L r U 4 _ w ha t0 (by omega) hU hL hr (.a4 (dec_no h0) (dec_no h1) (beq_no h2))
    simpa using g
  ·by_cases h0:0<r
   ·by_cases h1:U<2*r
    ·have u:Dcm.upB 5 L r U c=true:=by rw[Dcm.upB5,dec_yes h1];rfl
     rw[u]
     have g:=rof_dn c s t L r U 5 _ w ha t0 (by omega) hU hL hr (.b5 (dec_yes h0) (dec_yes h1))
     simpa using g
    ·by_cases h2:2*r=U
     ·by_cases h3:mag L%2=1
      ·have u:Dcm.upB 5 L r U c=true:=by rw[Dcm.upB5,dec_no h1,dec_yes h2,dec_yes h3];rfl
       rw[u]
       have g:=rof_dn c s t L r U 5 _ w ha t0 (by omega) hU hL hr (.d5 (dec_yes h0) (dec_no h1) (beq_yes h2) (beq_yes h3))
       simpa using g
      ·have u:Dcm.upB 5 L r U c=false:=by rw[Dcm.upB5,dec_no h1,dec_yes h2,dec_no h3];rfl
       rw[u]
       have g:=rof_dn c s t L r U 5 _ w ha t0 (by omega) hU hL hr (.e5 (dec_yes h0) (dec_no h1) (beq_yes h2) (beq_no h3))
       simpa using g
     ·have u:Dcm.upB 5 L r U c=false:=by rw[Dcm.upB5,dec_no h1,dec_no h2];rfl
      rw[u]
      have g:=rof_dn c s t L r U 5 _ w ha t0 (by omega) hU hL hr (.c5 (dec_yes h0) (dec_no h1) (beq_no h2))
      simpa using g
   ·have h1: ¬U<2*r:=by omega
    have h2: ¬2*r=U:=by omega
    have u:Dcm.upB 5 L r U c=false:=by rw[Dcm.upB5,dec_no h1,dec_no h2];rfl
    rw[u]
    have g:=rof_dn c s t L r U 5 _ w ha t0 (by omega) hU hL hr (.a5 (dec_no h0) (dec_no h1) (beq_no h2))
    simpa using g
end Go.Proofs.YtldbfkccieipjaaGreatDoor
