/- The walk of linguisterref1.Order: how two numbers stand. No conditions but the arguments' own. -/
import Derived.Test.YtldbfkccieipjaaGreatDoorEf2
import Derived.Test.YtldbfkccieipjaaGreatDoorEf1
import Derived.Test.YtldbfkccieipjaaGreatDoorEf0
namespace Go.Proofs.YtldbfkccieipjaaGreatDoor
set_option maxRecDepth 100000
open Go.RowKit
open Dcm (P10 okD nrm)

set_option maxHeartbeats 2000000 in
theorem round_down_pos_yes (c s t way U:Int) (w:World) (ha:okD c s) (t0:0≤t) (w0:1≤way) (w5:way≤5) (hst:t<s) (hc:0≤c) (hU:P10 (s-t)=U) (hn:Dcm.near way (c/U) (c%U) U 1=true):
  Calls Tryz.prog 189 #[.agg #[.int .i64 c,.int .i64 s],.int .i64 t,.int .i64 way] w fun e w'=>e= .returned (.tuple #[.agg #[.int .i64 (Dcm.rndC c s t way),.int .i64 t],.nilIface])∧Below w.heap.size w w':=by
 have C0:=Lib.hid fun w=>dchk_yes c s w ha
 obtain⟨s0,s1,c0,c1⟩:=ha
 have u0:=Dcm.P10_bd (s-t)
 rw[hU] at u0
 have q0:=Int.ediv_nonneg (by omega:0≤c) (by omega:0≤U)
 have q1:=Int.ediv_le_self U (by omega:0≤c)
 have r0:=Int.emod_nonneg c (by omega:U≠0)
 have r1:=Int.emod_lt_of_pos c (by omega:0<U)
 have C1: ∀w,Calls Tryz.prog 164 #[.int .i64 (s-t)] w fun e w'=>e= .returned (.int .i64 U)∧w=w':=fun w=>hU▸power_any (s-t) w (by omega) (by omega)
 have C1:=Lib.hid C1
 have C2: ∀w,Calls Tryz.prog 213 #[.int .i64 way,.int .i64 (c/U),.int .i64 (c%U),.int .i64 U,.int .i64 1] w fun e w'=>e= .returned (.bool true)∧w=w':=fun w=>hn▸near_any way (c/U) (c%U) U 1 w w0 w5 q0 (by omega) r0 (by omega) u0.1 u0.2
 have C2:=Lib.hid C2
 have HC:Dcm.rndC c s t way=c/U+1:=by
  have e1:Dcm.sgn c=1:=by unfold Dcm.sgn;split<;>omega
  have e2:Dcm.mag c=c:=by unfold Dcm.mag;split<;>omega
  unfold Dcm.rndC Dcm.rdU
  rw[if_neg (by omega),e1,e2,hU,hn]
  simp
 have HC:=Lib.hid HC
 clear hn hU
 go_enter Tryz.func189,Tryz.ntmps189
 go_wp2_with fail
 refine(C0.out _).mono ?_
 rintro e w1 ⟨rfl,hb⟩
 have B0:=Boxed.below (Boxed.alloc (Boxed.made _ #[.int .i64 c,.int .i64 s] 31) _) hb
 have B:=Boxed.below (Boxed.made _ #[.int .i64 0,.int .i64 0] 31) hb
 have j0:=B0.cell 0 _ rfl
 have j1:=B0.cell 1 _ rfl
 have k0:=B.cell 0 _ rfl
 have k1:=B.cell 1 _ rfl
 have f0:=B.free 0 (by decide)
 have f1:=B.free 1 (by decide)
 simp at k0 k1 f0 f1
 have W1:=Lib.hid (blw_trans (blw_trans (blw_alloc w _) (blw_alloc _ _)) hb)
 clear hb B B0 C0
 go_wp2_with fail
 go_big_quiet (fail)
 go_wp2_with fail
 refine(C1.out _).mono ?_
 rintro e w' ⟨rfl,rfl⟩
 go_wp2_with fail
 go_big_quiet (fail)
 go_wp2_with fail
 refine(C2.out _).mono ?_
 rintro e w' ⟨rfl,rfl⟩
 go_wp2
 refine bodyPost_ret (v:= .tuple #[.agg #[.int .i64 (c/U+1),.int .i64 t],.nilIface]) (by simp[results,Tryz.results189,go_sem,k0,k1]) rfl ⟨by rw[HC.out],?_⟩
 exact(Below.setCell (blw_drewN W1.out _) (by simp) _).setCell (by simp) _

set_option maxHeartbeats 2000000 in
theorem round_down_pos_no (c s t way U:Int) (w:World) (ha:okD c s) (t0:0≤t) (w0:1≤way) (w5:way≤5) (hst:t<s) (hc:0≤c) (hU:P10 (s-t)=U) (hn:Dcm.near way (c/U) (c%U) U 1=false):
  Calls Tryz.prog 189 #[.agg #[.int .i64 c,.int .i64 s],.int .i64 t,.int .i64 way] w fun e w'=>e= .returned (.tuple #[.agg #[.int .i64 (Dcm.rndC c s t way),.int .i64 t],.nilIface])∧Below w.heap.size w w':=by
 have C0:=Lib.hid fun w=>dchk_yes c s w ha
 obtain⟨s0,s1,c0,c1⟩:=ha
 have u0:=Dcm.P10_bd (s-t)
 rw[hU] at u0
 have q0:=Int.ediv_nonneg (by omega:0≤c) (by omega:0≤U)
 have q1:=Int.ediv_le_self U (by omega:0≤c)
 have r0:=Int.emod_nonneg c (by omega:U≠0)
 have r1:=Int.emod_lt_of_pos c (by omega:0<U)
 have C1: ∀w,Calls Tryz.prog 164 #[.int .i64 (s-t)] w fun e w'=>e= .returned (.int .i64 U)∧w=w':=fun w=>hU▸power_any (s-t) w (by omega) (by omega)
 have C1:=Lib.hid C1
 have C2: ∀w,Calls Tryz.prog 213 #[.int .i64 way,.int .i64 (c/U),.int .i64 (c%U),.int .i64 U,.int .i64 1] w fun e w'=>e= .returned (.bool false)∧w=w':=fun w=>hn▸near_any way (c/U) (c%U) U 1 w w0 w5 q0 (by omega) r0 (by omega) u0.1 u0.2
 have C2:=Lib.hid C2
 have HC:Dcm.rndC c s t way=c/U:=by
  have e1:Dcm.sgn c=1:=by unfold Dcm.sgn;split<;>omega
  have e2:Dcm.mag c=c:=by unfold Dcm.mag;split<;>omega
  unfold Dcm.rndC Dcm.rdU
  rw[if_neg (by omega),e1,e2,hU,hn]
  simp
 have HC:=Lib.hid HC
 clear hn hU
 go_enter Tryz.func189,Tryz.ntmps189
 go_wp2_with fail
 refine(C0.out _).mono ?_
 rintro e w1 ⟨rfl,hb⟩
 have B0:=Boxed.below (Boxed.alloc (Boxed.made _ #[.int .i64 c,.int .i64 s] 31) _) hb
 have B:=Boxed.below (Boxed.made _ #[.int .i64 0,.int .i64 0] 31) hb
 have j0:=B0.cell 0 _ rfl
 have j1:=B0.cell 1 _ rfl
 have k0:=B.cell 0 _ rfl
 have k1:=B.cell 1 _ rfl
 have f0:=B.free 0 (by decide)
 have f1:=B.free 1 (by decide)
 simp at k0 k1 f0 f1
 have W1:=Lib.hid (blw_trans (blw_trans (blw_alloc w _) (blw_alloc _ _)) hb)
 clear hb B B0 C0
 go_wp2_with fail
 go_big_quiet (fail)
 go_wp2_with fail
 refine(C1.out _).mono ?_
 rintro e w' ⟨rfl,rfl⟩
 go_wp2_with fail
 go_big_quiet (fail)
 go_wp2_with fail
 refine(C2.out _).mono ?_
 rintro e w' ⟨rfl,rfl⟩
 go_wp2
 refine bodyPost_ret (v:= .tuple #[.agg #[.int .i64 (c/U),.int .i64 t],.nilIface]) (by simp[results,Tryz.results189,go_sem,k0,k1]) rfl ⟨by rw[HC.out],?_⟩
 exact(Below.setCell (blw_drewN W1.out _) (by simp) _).setCell (by simp) _

set_option maxHeartbeats 2000000 in
theorem round_down_neg_yes (n s t way U:Int) (w:World) (ha:okD (-n) s) (t0:0≤t) (w0:1≤way) (w5:way≤5) (hst:t<s) (hc:0<n) (hU:P10 (s-t)=U) (hn:Dcm.near way (n/U) (n%U) U (-1)=true):
  Calls Tryz.prog 189 #[.agg #[.int .i64 (-n),.int .i64 s],.int .i64 t,.int .i64 way] w fun e w'=>e= .returned (.tuple #[.agg #[.int .i64 (Dcm.rndC (-n) s t way),.int .i64 t],.nilIface])∧Below w.heap.size w w':=by
 have C0:=Lib.hid fun w=>dchk_yes (-n) s w ha
 obtain⟨s0,s1,c0,c1⟩:=ha
 have u0:=Dcm.P10_bd (s-t)
 rw[hU] at u0
 have q0:=Int.ediv_nonneg (by omega:0≤n) (by omega:0≤U)
 have q1:=Int.ediv_le_self U (by omega:0≤n)
 have r0:=Int.emod_nonneg n (by omega:U≠0)
 have r1:=Int.emod_lt_of_pos n (by omega:0<U)
 have C1: ∀w,Calls Tryz.prog 164 #[.int .i64 (s-t)] w fun e w'=>e= .returned (.int .i64 U)∧w=w':=fun w=>hU▸power_any (s-t) w (by omega) (by omega)
 have C1:=Lib.hid C1
 have C2: ∀w,Calls Tryz.prog 213 #[.int .i64 way,.int .i64 (n/U),.int .i64 (n%U),.int .i64 U,.int .i64 (-1)] w fun e w'=>e= .returned (.bool true)∧w=w':=fun w=>hn▸near_any way (n/U) (n%U) U (-1) w w0 w5 q0 (by omega) r0 (by omega) u0.1 u0.2
 have C2:=Lib.hid C2
 have HC:Dcm.rndC (-n) s t way= -(n/U+1):=by
  have e1:Dcm.sgn (-n)=(-1):=by unfold Dcm.sgn;split<;>omega
  have e2:Dcm.mag (-n)=n:=by unfold Dcm.mag;split<;>omega
  unfold Dcm.rndC Dcm.rdU
  rw[if_neg (by omega),e1,e2,hU,hn]
  simp
 have HC:=Lib.hid HC
 clear hn hU
 go_enter Tryz.func189,Tryz.ntmps189
 go_wp2_with fail
 refine(C0.out _).mono ?_
 rintro e w1 ⟨rfl,hb⟩
 have B0:=Boxed.below (Boxed.alloc (Boxed.made _ #[.int .i64 (-n),.int .i64 s] 31) _) hb
 have B:=Boxed.below (Boxed.made _ #[.int .i64 0,.int .i64 0] 31) hb
 have j0:=B0.cell 0 _ rfl
 have j1:=B0.cell 1 _ rfl
 have k0:=B.cell 0 _ rfl
 have k1:=B.cell 1 _ rfl
 have f0:=B.free 0 (by decide)
 have f1:=B.free 1 (by decide)
 simp at k0 k1 f0 f1
 have W1:=Lib.hid (blw_trans (blw_trans (blw_alloc w _) (blw_alloc _ _)) hb)
 clear hb B B0 C0
 go_wp2_with fail
 go_big_quiet (fail)
 go_wp2_with fail
 refine(C1.out _).mono ?_
 rintro e w' ⟨rfl,rfl⟩
 go_wp2_with fail
 go_big_quiet (fail)
 go_wp2_with fail
 refine(C2.out _).mono ?_
 rintro e w' ⟨rfl,rfl⟩
 go_wp2
 refine bodyPost_ret (v:= .tuple #[.agg #[.int .i64 (-(n/U+1)),.int .i64 t],.nilIface]) (by simp[results,Tryz.results189,go_sem,k0,k1]) rfl ⟨by rw[HC.out],?_⟩
 exact(Below.setCell (blw_drewN W1.out _) (by simp) _).setCell (by simp) _

set_option maxHeartbeats 2000000 in
theorem round_down_neg_no (n s t way U:Int) (w:World) (ha:okD (-n) s) (t0:0≤t) (w0:1≤way) (w5:way≤5) (hst:t<s) (hc:0<n) (hU:P10 (s-t)=U) (hn:Dcm.near way (n/U) (n%U) U (-1)=false):
  Calls Tryz.prog 189 #[.agg #[.int .i64 (-n),.int .i64 s],.int .i64 t,.int .i64 way] w fun e w'=>e= .returned (.tuple #[.agg #[.int .i64 (Dcm.rndC (-n) s t way),.int .i64 t],.nilIface])∧Below w.heap.size w w':=by
 have C0:=Lib.hid fun w=>dchk_yes (-n) s w ha
 obtain⟨s0,s1,c0,c1⟩:=ha
 have u0:=Dcm.P10_bd (s-t)
 rw[hU] at u0
 have q0:=Int.ediv_nonneg (by omega:0≤n) (by omega:0≤U)
 have q1:=Int.ediv_le_self U (by omega:0≤n)
 have r0:=Int.emod_nonneg n (by omega:U≠0)
 have r1:=Int.emod_lt_of_pos n (by omega:0<U)
 have C1: ∀w,Calls Tryz.prog 164 #[.int .i64 (s-t)] w fun e w'=>e= .returned (.int .i64 U)∧w=w':=fun w=>hU▸power_any (s-t) w (by omega) (by omega)
 have C1:=Lib.hid C1
 have C2: ∀w,Calls Tryz.prog 213 #[.int .i64 way,.int .i64 (n/U),.int .i64 (n%U),.int .i64 U,.int .i64 (-1)] w fun e w'=>e= .returned (.bool false)∧w=w':=fun w=>hn▸near_any way (n/U) (n%U) U (-1) w w0 w5 q0 (by omega) r0 (by omega) u0.1 u0.2
 have C2:=Lib.hid C2
 have HC:Dcm.rndC (-n) s t way= -(n/U):=by
  have e1:Dcm.sgn (-n)=(-1):=by unfold Dcm.sgn;split<;>omega
  have e2:Dcm.mag (-n)=n:=by unfold Dcm.mag;split<;>omega
  unfold Dcm.rndC Dcm.rdU
  rw[if_neg (by omega),e1,e2,hU,hn]
  simp
 have HC:=Lib.hid HC
 clear hn hU
 go_enter Tryz.func189,Tryz.ntmps189
 go_wp2_with fail
 refine(C0.out _).mono ?_
 rintro e w1 ⟨rfl,hb⟩
 have B0:=Boxed.below (Boxed.alloc (Boxed.made _ #[.int .i64 (-n),.int .i64 s] 31) _) hb
 have B:=Boxed.below (Boxed.made _ #[.int .i64 0,.int .i64 0] 31) hb
 have j0:=B0.cell 0 _ rfl
 have j1:=B0.cell 1 _ rfl
 have k0:=B.cell 0 _ rfl
 have k1:=B.cell 1 _ rfl
 have f0:=B.free 0 (by decide)
 have f1:=B.free 1 (by decide)
 simp at k0 k1 f0 f1
 have W1:=Lib.hid (blw_trans (blw_trans (blw_alloc w _) (blw_alloc _ _)) hb)
 clear hb B B0 C0
 go_wp2_with fail
 go_big_quiet (fail)
 go_wp2_with fail
 refine(C1.out _).mono ?_
 rintro e w' ⟨rfl,rfl⟩
 go_wp2_with fail
 go_big_quiet (fail)
 go_wp2_with fail
 refine(C2.out _).mono ?_
 rintro e w' ⟨rfl,rfl⟩
 go_wp2
 refine bodyPost_ret (v:= .tuple #[.agg #[.int .i64 (-(n/U)),.int .i64 t],.nilIface]) (by simp[results,Tryz.results189,go_sem,k0,k1]) rfl ⟨by rw[HC.out],?_⟩
 exact(Below.setCell (blw_drewN W1.out _) (by simp) _).setCell (by simp) _
open Go.RowKit
open Dcm (P10 okD nrm)

/-- what is wrong with a rounding: 0: nothing -/
def rndE (c s t way:Int):Int:=
 if ¬okD c s then 1 else if t<0∨9<t then 1 else if way<1∨5<way then 3 else if Dcm.rndOk c s t then 0 else 1
theorem rndE_zero {c s t way:Int}:rndE c s t way=0↔okD c s∧0≤t∧t≤9∧1≤way∧way≤5∧Dcm.rndOk c s t:=by
 unfold rndE
 by_cases h1:okD c s
 ·by_cases h2:t<0∨9<t
  ·simp[h1,h2];omega
  ·by_cases h3:way<1∨5<way
   ·simp[h1,h2,h3];omega
   ·by_cases h4:Dcm.rndOk c s t
    ·simp[h1,h2,h3,h4];omega
    ·simp[h1,h2,h3,h4]
 ·simp[h1]
theorem round_yes (c s t way:Int) (w:World) (h:rndE c s t way=0):
  Calls Tryz.prog 189 #[.agg #[.int .i64 c,.int .i64 s],.int .i64 t,.int .i64 way] w fun e w'=>e= .returned (.tuple #[.agg #[.int .i64 (Dcm.rndC c s t way),.int .i64 t],.nilIface])∧Below w.heap.size w w':=by
 obtain⟨ha,t0,t1,w0,w5,hr⟩:=rndE_zero.1 h
 by_cases hst:s≤t
 ·have hr:=hr hst
  unfold Dcm.mag at hr
  by_cases hc:c<0
  ·rw[if_pos hc] at hr
   exact round_up_neg c s t way w ha t1 w0 w5 hst hc hr
  ·rw[if_neg hc] at hr
   exact round_up_pos c s t way w ha t1 w0 w5 hst (by omega) hr
 ·by_cases hc:c<0
  ·cases hn:Dcm.near way (-c/P10 (s-t)) (-c%P10 (s-t)) (P10 (s-t)) (-1)
   ·have g:=round_down_neg_no (-c) s t way _ w (by rwa [Int.neg_neg]) t0 w0 w5 (by omega) (by omega) rfl hn
    rwa [Int.neg_neg] at g
   ·have g:=round_down_neg_yes (-c) s t way _ w (by rwa [Int.neg_neg]) t0 w0 w5 (by omega) (by omega) rfl hn
    rwa [Int.neg_neg] at g
  ·cases hn:Dcm.near way (c/P10 (s-t)) (c%P10 (s-t)) (P10 (s-t)) 1
   ·exact round_down_pos_no c s t way _ w ha t0 w0 w5 (by omega) (by omega) rfl hn
   ·exact round_down_pos_yes c s t way _ w ha t0 w0 w5 (by omega) (by omega) rfl hn
open Go.RowKit
open Dcm (P10 okD nrm)

theorem rndC_ok {c s t way:Int} (h:rndE c s t way=0):okD (Dcm.rndC c s t way) t:=by
 obtain⟨ha,t0,t1,w0,w1,hr⟩:=rndE_zero.1 h
 obtain⟨s0,s1,a0,a1⟩:=ha
 by_cases hst:s≤t
 ·have hr:=hr hst
  have e:Dcm.rndC c s t way=c*P10 (t-s):=by unfold Dcm.rndC;rw[if_pos hst]
  rw[e]
  refine⟨t0,t1,?_,?_⟩
  ·unfold Dcm.mag at hr;split at hr
   ·rw[Int.neg_mul] at hr;omega
   ·have:=Int.mul_nonneg (by omega:0≤c) (by have:=Dcm.P10_pos (t-s);omega:0≤P10 (t-s));omega
  ·unfold Dcm.mag at hr;split at hr
   ·have:=Int.mul_neg_of_neg_of_pos (by omega:c<0) (Dcm.P10_pos (t-s));omega
   ·omega
 ·obtain⟨b0,b1,_⟩:=Dcm.near_facts c s t way ⟨a0,a1⟩ s1 t0 (by omega) w0 w1
  exact⟨t0,t1,by omega,by omega⟩
open Go.RowKit
open Dcm (P10 okD nrm)

end Go.Proofs.YtldbfkccieipjaaGreatDoor
namespace Go.Proofs.YtldbfkccieipjaaGreatDoor.Dcm

/-- the greatest whole number that is no greater -/
def flo (c s:Int):Int:=c/P10 s
/-- what is left of a number behind that -/
def lef (c s:Int):Int:=c%P10 s
theorem flo_lef (c s:Int):c=flo c s*P10 s+lef c s:=by
 have:=Int.emod_add_mul_ediv c (P10 s)
 unfold flo lef
 rw[Int.mul_comm];omega
theorem lef_bd (c s:Int):0≤lef c s∧lef c s<P10 s:=
 ⟨Int.emod_nonneg _ (by have:=P10_pos s;omega),Int.emod_lt_of_pos _ (P10_pos s)⟩
theorem flo_bd (c s:Int) (h: -1000000000000000≤c∧c≤1000000000000000): -1000000000000000≤flo c s∧flo c s≤1000000000000000:=by
 have h1:=flo_lef c s
 have h2:=lef_bd c s
 have h3:=P10_pos s
 generalize flo c s=x at*
 generalize lef c s=r at*
 generalize P10 s=U at*
 constructor
 ·rcases Int.lt_or_le x (-1000000000000000) with g|g
  ·have:(x+1)*U≤(-1000000000000000)*1:=by
    have:(-(x+1))*U≥1000000000000000*1:=Int.mul_le_mul (by omega) (by omega) (by omega) (by omega)
    rw[Int.neg_mul] at this;omega
   rw[Int.add_mul] at this;omega
  ·exact g
 ·rcases Int.lt_or_le 1000000000000000 x with g|g
  ·have:x*U≥1000000000000001*1:=Int.mul_le_mul (by omega) (by omega) (by omega) (by omega)
   omega
  ·exact g
/-- so far in a greater unit -/
theorem lef_scale (c s S:Int) (s0:0≤s) (h:s≤S) (S9:S≤9):c*P10 (S-s)=flo c s*P10 S+lef c s*P10 (S-s)∧0≤lef c s*P10 (S-s)∧lef c s*P10 (S-s)<P10 S:=by
 have h1:=flo_lef c s
 have h2:=lef_bd c s
 have e:P10 s*P10 (S-s)=P10 S:=by rw[P10_mul s (S-s) s0 (by omega) (by omega)];congr 1;omega
 have h3:=P10_pos (S-s)
 generalize flo c s=x at*
 generalize lef c s=r at*
 generalize P10 (S-s)=V at*
 refine⟨?_,Int.mul_nonneg h2.1 (by omega),?_⟩
 ·rw[h1,Int.add_mul,Int.mul_assoc,e]
 ·rw[←e];exact Int.mul_lt_mul_of_pos_right h2.2 h3
def ordV (a s b t:Int):Int:=if flo a s=flo b t then lef a s*P10 (9-s)-lef b t*P10 (9-t) else flo a s-flo b t
theorem ordV_nrm {a s b t:Int} (ha:okD a s) (hb:okD b t):(ordV a s b t<0↔nrm a s<nrm b t)∧(ordV a s b t=0↔nrm a s=nrm b t):=by
 have e1:=lef_scale a s 9 ha.1 ha.2.1 (by omega)
 have e2:=lef_scale b t 9 hb.1 hb.2.1 (by omega)
 have e9:P10 9=1000000000:=rfl
 rw[e9] at e1 e2
 unfold ordV nrm
 generalize a*P10 (9-s)=A at*
 generalize b*P10 (9-t)=B at*
 generalize lef a s*P10 (9-s)=p at*
 generalize lef b t*P10 (9-t)=q at*
 generalize flo a s=x at*
 generalize flo b t=y at*
 split<;>constructor<;>constructor<;>omega

/-- is it rounded up from the lesser one? -/
def upB (way low rest U c:Int):Bool:=
 if way=1 then decide (0<rest)&&decide (c<0)
 else if way=3 then decide (0<rest)
 else if way=4 then decide (U<2*rest)||decide (2*rest=U)&&decide (0<c)
 else if way=5 then decide (U<2*rest)||decide (2*rest=U)&&decide (mag low%2=1)
 else false
theorem upB1 (low rest U c:Int):upB 1 low rest U c=(decide (0<rest)&&decide (c<0)):=rfl
theorem upB2 (low rest U c:Int):upB 2 low rest U c=false:=rfl
theorem upB3 (low rest U c:Int):upB 3 low rest U c=decide (0<rest):=rfl
theorem upB4 (low rest U c:Int):upB 4 low rest U c=(decide (U<2*rest)||decide (2*rest=U)&&decide (0<c)):=rfl
theorem upB5 (low rest U c:Int):upB 5 low rest U c=(decide (U<2*rest)||decide (2*rest=U)&&decide (mag low%2=1)):=rfl
def rndF (c U way:Int):Int:=c/U+if upB way (c/U) (c%U) U c then 1 else 0
theorem neg_parts (n U:Int) (hU:0<U):((-n)/U= -(n/U)∧(-n)%U=0∧n%U=0)∨((-n)/U= -(n/U)-1∧(-n)%U=U-n%U∧0<n%U):=by
 have h1:=Int.emod_add_mul_ediv n U
 have h2:=Int.emod_nonneg n (show U≠0 by omega)
 have h3:=Int.emod_lt_of_pos n hU
 by_cases h:n%U=0
 ·left
  have:=(Int.ediv_emod_unique (a:= -n) (b:=U) (r:=0) (q:= -(n/U)) hU).2 ⟨by rw[Int.mul_neg];omega,by omega,hU⟩
  exact⟨this.1,this.2,h⟩
 ·right
  have:=(Int.ediv_emod_unique (a:= -n) (b:=U) (r:=U-n%U) (q:= -(n/U)-1) hU).2 ⟨by rw[Int.mul_sub,Int.mul_neg];omega,by omega,by omega⟩
  exact⟨this.1,this.2,by omega⟩
theorem rndC_F (c s t way:Int) (h:t<s) (h0:1≤way) (h1:way≤5):rndC c s t way=rndF c (P10 (s-t)) way:=by
 have hU:=P10_pos (s-t)
 unfold rndC rndF
 rw[if_neg (by omega)]
 generalize P10 (s-t)=U at*
 unfold rdU
 by_cases hc:c<0
 ·have e1:mag c= -c:=by unfold mag;rw[if_pos hc]
  have e2:sgn c= -1:=by unfold sgn;rw[if_pos hc]
  obtain⟨n,rfl⟩: ∃n,c= -n:=⟨-c,by omega⟩
  rw[e1,e2,Int.neg_neg]
  have hn:0<n:=by omega
  have g1:=Int.emod_add_mul_ediv n U
  have g2:=Int.emod_nonneg n (show U≠0 by omega)
  have g3:=Int.emod_lt_of_pos n hU
  have g4:0≤n/U:=Int.ediv_nonneg (by omega) (by omega)
  have np:=neg_parts n U hU
  clear g1 e1 e2
  generalize n/U=q at*
  generalize n%U=r at*
  have m1:mag (-q)=q:=by unfold mag;split<;>omega
  have m2:mag (-q-1)=q+1:=by unfold mag;split<;>omega
  rcases np with⟨a,b,d⟩|⟨a,b,d⟩
  ·rw[a,b,d]
   rcases ways way h0 h1 with rfl|rfl|rfl|rfl|rfl
   all_goals
    simp only[near,upB]
    simp
    try omega
  ·rw[a,b]
   rcases ways way h0 h1 with rfl|rfl|rfl|rfl|rfl
   ·simp[near,upB];omega
   ·simp[near,upB];omega
   ·simp[near,upB];omega
   ·simp only[near,upB]
    by_cases k:U≤2*r
    ·simp[show ¬U<2*(U-r) by omega,k];omega
    ·simp[show U<2*(U-r) by omega,k]
   ·simp only[near,upB,m2]
    by_cases k:U<2*r
    ·simp[show ¬U<2*(U-r) by omega,k,show ¬2*(U-r)=U by omega];omega
    ·by_cases k2:2*r=U
     ·have e:2*(U-r)=U:=by omega
      by_cases k3:q%2=1
      ·simp[k2,e,k3,show ¬(q+1)%2=1 by omega];omega
      ·simp[k2,e,k3,show(q+1)%2=1 by omega]
     ·simp[show U<2*(U-r) by omega,k,k2]
 ·have e1:mag c=c:=by unfold mag;rw[if_neg hc]
  have e2:sgn c=1∨c=0:=by unfold sgn;rw[if_neg hc];first|(left;rfl)|(split<;>omega)
  rw[e1]
  have g2:=Int.emod_nonneg c (show U≠0 by omega)
  have g3:=Int.emod_lt_of_pos c hU
  have g4:0≤c/U:=Int.ediv_nonneg (by omega) (by omega)
  have m:mag (c/U)=c/U:=by unfold mag;split<;>omega
  rcases e2 with e2|rfl
  ·rw[e2]
   rcases ways way h0 h1 with rfl|rfl|rfl|rfl|rfl
   ·simp[near,upB,hc]
   ·simp[near,upB]
   ·simp[near,upB]
   ·simp only[near,upB]
    generalize hr:c%U=r at*
    by_cases k:U<2*r
    ·simp[k,show U≤2*r by omega]
    ·by_cases k2:2*r=U
     ·have cp:0<c:=by
       rcases Int.lt_or_le 0 c with g|g
       ·exact g
       ·exfalso
        have h0:c=0:=by omega
        have h1:r=0:=by rw[←hr,h0,Int.zero_emod]
        omega
      simp[k2,cp]
     ·simp[k,k2,show ¬U≤2*r by omega]
   ·simp[near,upB,m]
  ·simp[near,upB]
   first|done|(repeat' split)<;>omega
/-- the sum, and if there is room -/
theorem addC_F (a s b t:Int) (ha:okD a s) (hb:okD b t):
  (flo a s+flo b t)*P10 (addS s t)+lef a s*P10 (addS s t-s)+lef b t*P10 (addS s t-t)=addC a s b t∧
  0≤lef a s*P10 (addS s t-s)∧lef a s*P10 (addS s t-s)<P10 (addS s t)∧0≤lef b t*P10 (addS s t-t)∧lef b t*P10 (addS s t-t)<P10 (addS s t):=by
 obtain⟨s0,s9,_,_⟩:=ha
 obtain⟨t0,t9,_,_⟩:=hb
 have hS:s≤addS s t∧t≤addS s t∧addS s t≤9:=by unfold addS;split<;>omega
 have e1:=lef_scale a s (addS s t) s0 hS.1 hS.2.2
 have e2:=lef_scale b t (addS s t) t0 hS.2.1 hS.2.2
 refine⟨?_,e1.2.1,e1.2.2,e2.2.1,e2.2.2⟩
 have e3:addC a s b t=a*P10 (addS s t-s)+b*P10 (addS s t-t):=by
  unfold addC addS
  by_cases h:s≤t
  ·rw[if_pos h,if_pos h,Int.sub_self,P10_0];omega
  ·rw[if_neg h,if_neg h,Int.sub_self,P10_0];omega
 rw[e3,e1.1,e2.1,Int.add_mul];omega
theorem add_far (x y p q u:Int) (hu:1≤u) (hp:0≤p∧p<u) (hq:0≤q∧q<u) (h:1000000000000000/u+2<mag (x+y)):1000000000000000<mag ((x+y)*u+p+q):=by
 have h1:(1000000000000000/u)*u+1000000000000000%u=1000000000000000:=by rw[Int.mul_comm];exact Int.mul_ediv_add_emod _ _
 have h2:=Int.emod_lt_of_pos 1000000000000000 (show 0<u by omega)
 generalize 1000000000000000/u=M at*
 generalize x+y=z at*
 unfold mag at h
 split at h
 ·have:(M+3)*u≤(-z)*u:=Int.mul_le_mul_of_nonneg_right (by omega) (by omega)
  rw[Int.add_mul,Int.neg_mul] at this
  unfold mag;split<;>omega
 ·have:(M+3)*u≤z*u:=Int.mul_le_mul_of_nonneg_right (by omega) (by omega)
  rw[Int.add_mul] at this
  unfold mag;split<;>omega
theorem add_near (x y u:Int) (hu:1≤u) (hu1:u≤1000000000) (h: ¬1000000000000000/u+2<mag (x+y)): -1000002000000000≤(x+y)*u∧(x+y)*u≤1000002000000000∧ -1000000000000002≤x+y∧x+y≤1000000000000002:=by
 have h1:(1000000000000000/u)*u+1000000000000000%u=1000000000000000:=by rw[Int.mul_comm];exact Int.mul_ediv_add_emod _ _
 have h2:=Int.emod_nonneg 1000000000000000 (show u≠0 by omega)
 have h3:1000000000000000/u≤1000000000000000:=Int.ediv_le_self _ (by omega)
 generalize 1000000000000000/u=M at*
 generalize x+y=z at*
 have b: -(M+2)≤z∧z≤M+2:=by unfold mag at h;split at h<;>omega
 have g1:z*u≤(M+2)*u:=Int.mul_le_mul_of_nonneg_right b.2 (by omega)
 have g2:(-(M+2))*u≤z*u:=Int.mul_le_mul_of_nonneg_right b.1 (by omega)
 rw[Int.neg_mul] at g2
 rw[Int.add_mul] at g1 g2
 omega
end Go.Proofs.YtldbfkccieipjaaGreatDoor.Dcm
namespace Go.Proofs.YtldbfkccieipjaaGreatDoor
open Go.RowKit
open Dcm (P10 okD nrm mag flo lef)

theorem tdiv_flo (c U:Int) (hU:1≤U) (hc:c<0):(c<c.tdiv U*U∧c/U=c.tdiv U-1)∨(c.tdiv U*U=c∧c/U=c.tdiv U):=by
 obtain⟨n,rfl⟩: ∃n,c= -n:=⟨-c,by omega⟩
 have h1:=Int.emod_add_mul_ediv n U
 rw[Int.neg_tdiv,Int.tdiv_eq_ediv_of_nonneg (by omega),Int.neg_mul,Int.mul_comm]
 rcases Dcm.neg_parts n U (by omega) with⟨a,_,b⟩|⟨a,_,b⟩
 ·right;omega
 ·left;omega

set_option maxHeartbeats 400000 in
theorem floor_any (c s:Int) (w:World) (h:okD c s):
  Calls Tryz.prog 32 #[.agg #[.int .i64 c,.int .i64 s]] w fun e w'=>e= .returned (.int .i64 (flo c s))∧Below w.heap.size w w':=by
 obtain⟨s0,s9,c0,c1⟩:=h
 have CT:=Lib.hid fun w=>ten_any s w s0 s9
 have hU:=Dcm.P10_bd s
 have hF:flo c s=c/P10 s:=rfl
 generalize P10 s=U at*
 by_cases hc:0≤c
 ·have h1:=Int.emod_add_mul_ediv c U
  have h2:=Int.emod_nonneg c (show U≠0 by omega)
  have h3:0≤c/U:=Int.ediv_nonneg hc (by omega)
  have h4:c/U≤c:=Int.ediv_le_self _ hc
  rw[Int.mul_comm] at h1
  have h5:c/U*U≤c:=by omega
  have h6:0≤c/U*U:=Int.mul_nonneg h3 (by omega)
  have d1:decide (c<c/U*U)=false:=dec_no (by omega)
  have HF:=Lib.hid hF
  clear hF h1 h2
  obtain⟨T,hT⟩: ∃T,c/U=T:=⟨_,rfl⟩
  have HT:=Lib.hid hT
  rw[hT] at h3 h4 h5 h6 d1
  go_enter Tryz.func32,Tryz.ntmps32
  go_wp2_with (go_at_call 31;refine(CT.out _).mono ?_;rintro e w' ⟨rfl,rfl⟩)
  go_ret
  exact⟨ret_int (by rw[HF.out,HT.out]),blw_alloc _ _⟩
 ·have tb:=Dcm.tdiv_bd c U hU.1 ⟨c0,c1⟩
  have hT0:=tdiv_flo c U hU.1 (by omega)
  have HF:=Lib.hid hF
  clear hF
  obtain⟨T,hT⟩: ∃T,c.tdiv U=T:=⟨_,rfl⟩
  rw[hT] at hT0 tb
  have hm: -1000000000000000≤T*U∧T*U≤0:=by
   have e:=Dcm.sum_quo 0 c U hU.1
   have m:=Dcm.tmod_bd c U hU.1
   rcases hT0 with h|h
   ·refine⟨by omega,?_⟩
    have:T≤0:=by
     rw[←hT]
     obtain⟨n,rfl⟩: ∃n,c= -n:=⟨-c,by omega⟩
     rw[Int.neg_tdiv,Int.tdiv_eq_ediv_of_nonneg (by omega)]
     have:=Int.ediv_nonneg (show 0≤n by omega) (show 0≤U by omega)
     omega
    have h2:(-T)*U≥0:=Int.mul_nonneg (by omega) (by omega)
    rw[Int.neg_mul] at h2;omega
   ·omega
  obtain⟨m0,m1⟩:=hm
  rcases hT0 with⟨h1,h2⟩|⟨h1,h2⟩
  ·have d1:decide (c<T*U)=true:=dec_yes h1
   have HE:=Lib.hid h2
   clear h2
   go_enter Tryz.func32,Tryz.ntmps32
   go_wp2_with (go_at_call 31;refine(CT.out _).mono ?_;rintro e w' ⟨rfl,rfl⟩)
   go_ret
   exact⟨ret_int (by rw[HF.out,HE.out]),blw_alloc _ _⟩
  ·have d1:decide (c<T*U)=false:=dec_no (by omega)
   have HE:=Lib.hid h2
   clear h1 h2
   go_enter Tryz.func32,Tryz.ntmps32
   go_wp2_with (go_at_call 31;refine(CT.out _).mono ?_;rintro e w' ⟨rfl,rfl⟩)
   go_ret
   exact⟨ret_int (by rw[HF.out,HE.out]),blw_alloc _ _⟩
open Go.RowKit
open Dcm (P10 okD nrm mag flo lef)

set_option maxHeartbeats 1000000 in
theorem order_eq (a s b t:Int) (w:World) (ha:okD a s) (hb':okD b t) (hxy:flo a s=flo b t):
  Calls Tryz.prog 26 #[.agg #[.int .i64 a,.int .i64 s],.agg #[.int .i64 b,.int .i64 t]] w fun e w'=>e= .returned (.int .i64 (Dcm.ordV a s b t))∧Below w.heap.size w w':=by
 have CA:=Lib.hid fun w=>floor_any a s w ha
 have CB:=Lib.hid fun w=>floor_any b t w hb'
 have fa:=Dcm.flo_bd a s ⟨ha.2.2.1,ha.2.2.2⟩
 have fb:=Dcm.flo_bd b t ⟨hb'.2.2.1,hb'.2.2.2⟩
 have HV:=Lib.hid (show Dcm.ordV a s b t=if flo a s=flo b t then lef a s*P10 (9-s)-lef b t*P10 (9-t) else flo a s-flo b t from rfl)
 have ea:=Dcm.flo_lef a s
 have eb:=Dcm.flo_lef b t
 have la:=Dcm.lef_scale a s 9 ha.1 ha.2.1 (by omega)
 have lb:=Dcm.lef_scale b t 9 hb'.1 hb'.2.1 (by omega)
 have e9:P10 9=1000000000:=rfl
 have xa:=Dcm.lef_bd a s
 have xb:=Dcm.lef_bd b t
 have ua:=Dcm.P10_bd s
 have ub:=Dcm.P10_bd t
 rw[e9] at la lb
 obtain⟨s0,s9,a0,a1⟩:=ha
 obtain⟨t0,t9,b0,b1⟩:=hb'
 generalize Dcm.ordV a s b t=V at*
 generalize flo a s=X at*
 generalize flo b t=Y at*
 generalize lef a s=p at*
 generalize lef b t=q at*
 obtain⟨la1,la2,la3⟩:=la
 obtain⟨lb1,lb2,lb3⟩:=lb
 have ha1:a-X*P10 s=p:=by omega
 have hb1:b-Y*P10 t=q:=by omega
 have w1:IntKind.i64.wrap (X*P10 s)=X*P10 s:=IntWalk.i64_in _ (by omega)
 have w2:IntKind.i64.wrap (a-X*P10 s)=p:=by rw[IntWalk.i64_in _ (by omega)];exact ha1
 have w3:IntKind.i64.wrap (p*P10 (9-s))=p*P10 (9-s):=IntWalk.i64_in _ (by omega)
 have w4:IntKind.i64.wrap (Y*P10 t)=Y*P10 t:=IntWalk.i64_in _ (by omega)
 have w5:IntKind.i64.wrap (b-Y*P10 t)=q:=by rw[IntWalk.i64_in _ (by omega)];exact hb1
 have w6:IntKind.i64.wrap (q*P10 (9-t))=q*P10 (9-t):=IntWalk.i64_in _ (by omega)
 have w7:IntKind.i64.wrap (9-s)=9-s:=IntWalk.i64_in _ (by omega)
 have w8:IntKind.i64.wrap (9-t)=9-t:=IntWalk.i64_in _ (by omega)
 have HW:=Lib.hid (And.intro w1 (And.intro w2 (And.intro w3 (And.intro w4 (And.intro w5 (And.intro w6 (And.intro w7 w8)))))))
 clear la1 lb1 e9 ea eb ua ub xa xb w1 w2 w3 w4 w5 w6 w7 w8 ha1 hb1
 have HE:=Lib.hid (show V=p*P10 (9-s)-q*P10 (9-t) by rw[HV.out,if_pos hxy])
 obtain rfl:X=Y:=hxy
 clear HV
 go_enter Tryz.func26,Tryz.ntmps26
 go_wp2_with fail
 refine(CA.out _).mono ?_
 rintro e w1 ⟨rfl,hb⟩
 have B1_a:=Boxed.below (Boxed.alloc (Boxed.made _ #[.int .i64 a,.int .i64 s] 31) _) hb
 have B1_b:=Boxed.below (Boxed.made _ #[.int .i64 b,.int .i64 t] 31) hb
 have W1:=Lib.hid (blw_trans (blw_trans (blw_trans (Below.refl w.heap.size w) (blw_alloc _ _)) (blw_alloc _ _)) hb)
 clear hb
 have ka0:=B1_a.cell 0 _ rfl
 have ka1:=B1_a.cell 1 _ rfl
 have kal:=B1_a.lt
 try simp at ka0 ka1 kal
 have kb0:=B1_b.cell 0 _ rfl
 have kb1:=B1_b.cell 1 _ rfl
 have kbl:=B1_b.lt
 try simp at kb0 kb1 kbl
 go_wp2_with fail
 refine(CB.out _).mono ?_
 rintro e w2 ⟨rfl,hb⟩
 clear ka0 ka1 kal kb0 kb1 kbl
 have B2_a:=B1_a.below hb
 have B2_b:=B1_b.below hb
 have W2:=Lib.hid (blw_trans W1.out hb)
 clear hb B1_a B1_b W1
 have ka0:=B2_a.cell 0 _ rfl
 have ka1:=B2_a.cell 1 _ rfl
 have kal:=B2_a.lt
 try simp at ka0 ka1 kal
 have kb0:=B2_b.cell 0 _ rfl
 have kb1:=B2_b.cell 1 _ rfl
 have kbl:=B2_b.lt
 try simp at kb0 kb1 kbl
 go_wp2_with fail
 obtain⟨w1',w2',w3',w4',w5',w6',w7',w8'⟩:=HW.out
 go_big_quiet ((go_at_call 31;exact quiet_left (ten_any _ _ (by omega) (by omega))))
 rename_i nq
 have WD:=Lib.hid (blw_drewN W2.out nq)
 have yb0:(w2.drewN nq).cell? ⟨w.heap.size+1,0,none⟩=some (.int .i64 b):=by simpa using kb0
 have yb1:(w2.drewN nq).cell? ⟨w.heap.size+1,1,none⟩=some (.int .i64 t):=by simpa using kb1
 clear ka0 ka1 kal kb0 kb1 kbl W2
 generalize w2.drewN nq=w3 at*
 go_wp2_with fail
 go_big_quiet ((go_at_call 31;exact quiet_left (ten_any _ _ (by omega) (by omega))))
 clear w1' w2' w3' w4' w5' w6' w7' w8'
 go_wp2_with fail
 go_ret
 exact⟨ret_int (by rw[HE.out]),by repeat(first|exact WD.out|refine blw_drewN ?_ _)⟩

set_option maxHeartbeats 1000000 in
theorem order_ne (a s b t:Int) (w:World) (ha:okD a s) (hb':okD b t) (hxy: ¬flo a s=flo b t):
  Calls Tryz.prog 26 #[.agg #[.int .i64 a,.int .i64 s],.agg #[.int .i64 b,.int .i64 t]] w fun e w'=>e= .returned (.int .i64 (Dcm.ordV a s b t))∧Below w.heap.size w w':=by
 have CA:=Lib.hid fun w=>floor_any a s w ha
 have CB:=Lib.hid fun w=>floor_any b t w hb'
 have fa:=Dcm.flo_bd a s ⟨ha.2.2.1,ha.2.2.2⟩
 have fb:=Dcm.flo_bd b t ⟨hb'.2.2.1,hb'.2.2.2⟩
 have HV:=Lib.hid (show Dcm.ordV a s b t=if flo a s=flo b t then lef a s*P10 (9-s)-lef b t*P10 (9-t) else flo a s-flo b t from rfl)
 have ea:=Dcm.flo_lef a s
 have eb:=Dcm.flo_lef b t
 have la:=Dcm.lef_scale a s 9 ha.1 ha.2.1 (by omega)
 have lb:=Dcm.lef_scale b t 9 hb'.1 hb'.2.1 (by omega)
 have e9:P10 9=1000000000:=rfl
 have xa:=Dcm.lef_bd a s
 have xb:=Dcm.lef_bd b t
 have ua:=Dcm.P10_bd s
 have ub:=Dcm.P10_bd t
 rw[e9] at la lb
 obtain⟨s0,s9,a0,a1⟩:=ha
 obtain⟨t0,t9,b0,b1⟩:=hb'
 generalize Dcm.ordV a s b t=V at*
 generalize flo a s=X at*
 generalize flo b t=Y at*
 generalize lef a s=p at*
 generalize lef b t=q at*
 obtain⟨la1,la2,la3⟩:=la
 obtain⟨lb1,lb2,lb3⟩:=lb
 have ha1:a-X*P10 s=p:=by omega
 have hb1:b-Y*P10 t=q:=by omega
 have w1:IntKind.i64.wrap (X*P10 s)=X*P10 s:=IntWalk.i64_in _ (by omega)
 have w2:IntKind.i64.wrap (a-X*P10 s)=p:=by rw[IntWalk.i64_in _ (by omega)];exact ha1
 have w3:IntKind.i64.wrap (p*P10 (9-s))=p*P10 (9-s):=IntWalk.i64_in _ (by omega)
 have w4:IntKind.i64.wrap (Y*P10 t)=Y*P10 t:=IntWalk.i64_in _ (by omega)
 have w5:IntKind.i64.wrap (b-Y*P10 t)=q:=by rw[IntWalk.i64_in _ (by omega)];exact hb1
 have w6:IntKind.i64.wrap (q*P10 (9-t))=q*P10 (9-t):=IntWalk.i64_in _ (by omega)
 have w7:IntKind.i64.wrap (9-s)=9-s:=IntWalk.i64_in _ (by omega)
 have w8:IntKind.i64.wrap (9-t)=9-t:=IntWalk.i64_in _ (by omega)
 have HW:=Lib.hid (And.intro w1 (And.intro w2 (And.intro w3 (And.intro w4 (And.intro w5 (And.intro w6 (And.intro w7 w8)))))))
 clear la1 lb1 e9 ea eb ua ub xa xb w1 w2 w3 w4 w5 w6 w7 w8 ha1 hb1
 have d1:(X==Y)=false:=beq_no hxy
 have d2:(X !=Y)=true:=by rw[bne,d1];rfl
 have HE:=Lib.hid (show V=X-Y by rw[HV.out,if_neg hxy])
 clear hxy HV HW
 go_enter Tryz.func26,Tryz.ntmps26
 go_wp2_with fail
 refine(CA.out _).mono ?_
 rintro e w1 ⟨rfl,hb⟩
 have B1_a:=Boxed.below (Boxed.alloc (Boxed.made _ #[.int .i64 a,.int .i64 s] 31) _) hb
 have B1_b:=Boxed.below (Boxed.made _ #[.int .i64 b,.int .i64 t] 31) hb
 have W1:=Lib.hid (blw_trans (blw_trans (blw_trans (Below.refl w.heap.size w) (blw_alloc _ _)) (blw_alloc _ _)) hb)
 clear hb
 have ka0:=B1_a.cell 0 _ rfl
 have ka1:=B1_a.cell 1 _ rfl
 have kal:=B1_a.lt
 try simp at ka0 ka1 kal
 have kb0:=B1_b.cell 0 _ rfl
 have kb1:=B1_b.cell 1 _ rfl
 have kbl:=B1_b.lt
 try simp at kb0 kb1 kbl
 go_wp2_with fail
 refine(CB.out _).mono ?_
 rintro e w2 ⟨rfl,hb⟩
 clear ka0 ka1 kal kb0 kb1 kbl
 have B2_a:=B1_a.below hb
 have B2_b:=B1_b.below hb
 have W2:=Lib.hid (blw_trans W1.out hb)
 clear hb B1_a B1_b W1
 have ka0:=B2_a.cell 0 _ rfl
 have ka1:=B2_a.cell 1 _ rfl
 have kal:=B2_a.lt
 try simp at ka0 ka1 kal
 have kb0:=B2_b.cell 0 _ rfl
 have kb1:=B2_b.cell 1 _ rfl
 have kbl:=B2_b.lt
 try simp at kb0 kb1 kbl
 go_wp2_with fail
 go_ret
 exact⟨ret_int (by rw[HE.out]),by repeat(first|exact W2.out|refine blw_drewN ?_ _)⟩

theorem order_any (a s b t:Int) (w:World) (ha:okD a s) (hb':okD b t):
  Calls Tryz.prog 26 #[.agg #[.int .i64 a,.int .i64 s],.agg #[.int .i64 b,.int .i64 t]] w fun e w'=>e= .returned (.int .i64 (Dcm.ordV a s b t))∧Below w.heap.size w w':=by
 by_cases h:flo a s=flo b t
 ·exact order_eq a s b t w ha hb' h
 ·exact order_ne a s b t w ha hb' h
end Go.Proofs.YtldbfkccieipjaaGreatDoor
