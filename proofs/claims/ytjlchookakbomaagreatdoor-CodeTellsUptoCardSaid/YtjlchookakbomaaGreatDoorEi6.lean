/- A rounding whatever its end; what is rounded is a number. -/
import Derived.Test.YtjlchookakbomaaGreatDoorEi5
set_option maxHeartbeats 2000000
set_option maxRecDepth 100000
namespace Go.Proofs.YtjlchookakbomaaGreatDoor
open Go.RowKit
open Dcm (P10 okD nrm)

theorem zCN (way p r u s:Int) (w:World) (w0:1≤way) (w1:way≤5) (p0:0≤p) (p1:p≤1000000000000000) (r0:0≤r) (r1:r≤1000000000) (_u0:1≤u) (_u1:u≤1000000000):
  Calls Tryz.prog 136 #[.int .i64 way,.int .i64 p,.int .i64 r,.int .i64 u,.int .i64 s] w fun e w'=>e= .returned (.bool (Dcm.near way p r u s))∧w=w':=by
 rcases Dcm.ways way w0 w1 with rfl|rfl|rfl|rfl|rfl
 all_goals
  clear w0 w1
  go_enter Tryz.func136,Tryz.ntmps136
  go_wp2
 all_goals
  go_ret
  exact⟨zAg (by by_cases hp2:p%2=1<;>simp_all [Dcm.near]<;>try omega),rfl⟩

theorem zHy (n s:Int) (w:World) (n0:0≤n) (n1:n≤1000000000000000) (s0:0≤s) (s1:s≤9) (hr:n*P10 s≤1000000000000000):
  Calls Tryz.prog 135 #[.int .i64 n,.int .i64 s] w fun e w'=>e= .returned (.tuple #[.int .u64 0,.int .u64 (n*P10 s)])∧w=w':=by
 have h:=zDX n s w n0 n1 s0 s1
 have hp:=Int.mul_nonneg n0 (by have:=Dcm.zAN s;omega:0≤P10 s)
 have e1:hiW (n*P10 s)=0:=by unfold hiW;omega
 have e2:loW (n*P10 s)=n*P10 s:=by unfold loW;omega
 rwa [e1,e2] at h

theorem zGd (c s t way:Int) (w:World) (ha:okD c s) (t1:t≤9) (w0:1≤way) (w5:way≤5) (hst:s≤t) (hc:0≤c) (hr:c*P10 (t-s)≤1000000000000000):
  Calls Tryz.prog 87 #[.agg #[.int .i64 c,.int .i64 s],.int .i64 t,.int .i64 way] w fun e w'=>e= .returned (.tuple #[.agg #[.int .i64 (Dcm.rndC c s t way),.int .i64 t],.nilIface])∧Below w.heap.size w w':=by
 have C0:=lH fun w=>zAx c s w ha
 have C1:=lH fun w=>zHy c (t-s) w (by omega) (by have:=ha.2.2;omega) (by omega) (by have:=ha.1;omega) hr
 have hC:Dcm.rndC c s t way=c*P10 (t-s):=by unfold Dcm.rndC;rw[if_pos hst]
 have hp:=Int.mul_nonneg (by omega:0≤c) (by have:=Dcm.zAN (t-s);omega:0≤P10 (t-s))
 obtain⟨s0,s1,c0,c1⟩:=ha
 have hL:c*P10 (t-s)=c*P10 (t-s):=by rfl
 rw[hL] at hC
 have HC:=lH hC
 clear hL hC
 generalize c*P10 (t-s)=L at*
 have t0:0≤t:=by omega
 go_enter Tryz.func87,Tryz.ntmps87
 go_wp2_with fail
 refine(C0.out _).mono ?_
 rintro e w1 ⟨rfl,hb⟩
 have B0:=Boxed.below (Boxed.alloc (Boxed.made _ #[.int .i64 c,.int .i64 s] 64) _) hb
 have B:=Boxed.below (Boxed.made _ #[.int .i64 0,.int .i64 0] 64) hb
 have j0:=B0.cell 0 _ rfl
 have j1:=B0.cell 1 _ rfl
 have k0:=B.cell 0 _ rfl
 have k1:=B.cell 1 _ rfl
 have f0:=B.free 0 (by decide)
 have f1:=B.free 1 (by decide)
 simp at k0 k1 f0 f1
 have W1:=lH (bT (bT (bA w _) (bA _ _)) hb)
 clear hb B B0 C0
 go_wp2_with fail
 go_big_quiet (fail)
 go_wp2_with fail
 refine(C1.out _).mono ?_
 rintro e w' ⟨rfl,rfl⟩
 go_wp2
 refine bodyPost_ret (v:= .tuple #[.agg #[.int .i64 (L),.int .i64 t],.nilIface]) (by simp[results,Tryz.results87,go_sem,k0,k1]) rfl ⟨by rw[HC.out],?_⟩
 exact(Below.setCell (zAb W1.out _) (by simp) _).setCell (by simp) _

theorem zGe (c s t way:Int) (w:World) (ha:okD c s) (t1:t≤9) (w0:1≤way) (w5:way≤5) (hst:s≤t) (hc:c<0) (hr:(-c)*P10 (t-s)≤1000000000000000):
  Calls Tryz.prog 87 #[.agg #[.int .i64 c,.int .i64 s],.int .i64 t,.int .i64 way] w fun e w'=>e= .returned (.tuple #[.agg #[.int .i64 (Dcm.rndC c s t way),.int .i64 t],.nilIface])∧Below w.heap.size w w':=by
 have C0:=lH fun w=>zAx c s w ha
 have C1:=lH fun w=>zHy (-c) (t-s) w (by omega) (by have:=ha.2.2;omega) (by omega) (by have:=ha.1;omega) hr
 have hC:Dcm.rndC c s t way=c*P10 (t-s):=by unfold Dcm.rndC;rw[if_pos hst]
 have hp:=Int.mul_nonneg (by omega:0≤(-c)) (by have:=Dcm.zAN (t-s);omega:0≤P10 (t-s))
 obtain⟨s0,s1,c0,c1⟩:=ha
 have hL:c*P10 (t-s)= -((-c)*P10 (t-s)):=by rw[Int.neg_mul,Int.neg_neg]
 rw[hL] at hC
 have HC:=lH hC
 clear hL hC
 generalize (-c)*P10 (t-s)=L at*
 have t0:0≤t:=by omega
 go_enter Tryz.func87,Tryz.ntmps87
 go_wp2_with fail
 refine(C0.out _).mono ?_
 rintro e w1 ⟨rfl,hb⟩
 have B0:=Boxed.below (Boxed.alloc (Boxed.made _ #[.int .i64 c,.int .i64 s] 64) _) hb
 have B:=Boxed.below (Boxed.made _ #[.int .i64 0,.int .i64 0] 64) hb
 have j0:=B0.cell 0 _ rfl
 have j1:=B0.cell 1 _ rfl
 have k0:=B.cell 0 _ rfl
 have k1:=B.cell 1 _ rfl
 have f0:=B.free 0 (by decide)
 have f1:=B.free 1 (by decide)
 simp at k0 k1 f0 f1
 have W1:=lH (bT (bT (bA w _) (bA _ _)) hb)
 clear hb B B0 C0
 go_wp2_with fail
 go_big_quiet (fail)
 go_wp2_with fail
 refine(C1.out _).mono ?_
 rintro e w' ⟨rfl,rfl⟩
 go_wp2
 refine bodyPost_ret (v:= .tuple #[.agg #[.int .i64 (-L),.int .i64 t],.nilIface]) (by simp[results,Tryz.results87,go_sem,k0,k1]) rfl ⟨by rw[HC.out],?_⟩
 exact(Below.setCell (zAb W1.out _) (by simp) _).setCell (by simp) _

open Go.RowKit
open Dcm (P10 okD nrm)

theorem zDe (c s t way U:Int) (w:World) (ha:okD c s) (t0:0≤t) (w0:1≤way) (w5:way≤5) (hst:t<s) (hc:0≤c) (hU:P10 (s-t)=U) (hn:Dcm.near way (c/U) (c%U) U 1=true):
  Calls Tryz.prog 87 #[.agg #[.int .i64 c,.int .i64 s],.int .i64 t,.int .i64 way] w fun e w'=>e= .returned (.tuple #[.agg #[.int .i64 (Dcm.rndC c s t way),.int .i64 t],.nilIface])∧Below w.heap.size w w':=by
 have C0:=lH fun w=>zAx c s w ha
 obtain⟨s0,s1,c0,c1⟩:=ha
 have u0:=Dcm.zAj (s-t)
 rw[hU] at u0
 have q0:=Int.ediv_nonneg (by omega:0≤c) (by omega:0≤U)
 have q1:=Int.ediv_le_self U (by omega:0≤c)
 have r0:=Int.emod_nonneg c (by omega:U≠0)
 have r1:=Int.emod_lt_of_pos c (by omega:0<U)
 have C1: ∀w,Calls Tryz.prog 97 #[.int .i64 (s-t)] w fun e w'=>e= .returned (.int .i64 U)∧w=w':=fun w=>hU▸zBk (s-t) w (by omega) (by omega)
 have C1:=lH C1
 have C2: ∀w,Calls Tryz.prog 136 #[.int .i64 way,.int .i64 (c/U),.int .i64 (c%U),.int .i64 U,.int .i64 1] w fun e w'=>e= .returned (.bool true)∧w=w':=fun w=>hn▸zCN way (c/U) (c%U) U 1 w w0 w5 q0 (by omega) r0 (by omega) u0.1 u0.2
 have C2:=lH C2
 have HC:Dcm.rndC c s t way=c/U+1:=by
  have e1:Dcm.sgn c=1:=by unfold Dcm.sgn;split<;>omega
  have e2:Dcm.mag c=c:=by unfold Dcm.mag;split<;>omega
  unfold Dcm.rndC Dcm.rdU
  rw[if_neg (by omega),e1,e2,hU,hn]
  simp
 have HC:=lH HC
 clear hn hU
 go_enter Tryz.func87,Tryz.ntmps87
 go_wp2_with fail
 refine(C0.out _).mono ?_
 rintro e w1 ⟨rfl,hb⟩
 have B0:=Boxed.below (Boxed.alloc (Boxed.made _ #[.int .i64 c,.int .i64 s] 64) _) hb
 have B:=Boxed.below (Boxed.made _ #[.int .i64 0,.int .i64 0] 64) hb
 have j0:=B0.cell 0 _ rfl
 have j1:=B0.cell 1 _ rfl
 have k0:=B.cell 0 _ rfl
 have k1:=B.cell 1 _ rfl
 have f0:=B.free 0 (by decide)
 have f1:=B.free 1 (by decide)
 simp at k0 k1 f0 f1
 have W1:=lH (bT (bT (bA w _) (bA _ _)) hb)
 clear hb B B0 C0
 go_wp2_with fail
 go_big_quiet (fail)
 go_wp2_with fail
 refine(C1.out _).mono ?_
 rintro e w' ⟨rfl,rfl⟩
 go_wp2_with fail
 go_big_quiet (fail)
 go_wp2_with fail
 refine(C2.out _).mono ?_
 rintro e w' ⟨rfl,rfl⟩
 go_wp2
 refine bodyPost_ret (v:= .tuple #[.agg #[.int .i64 (c/U+1),.int .i64 t],.nilIface]) (by simp[results,Tryz.results87,go_sem,k0,k1]) rfl ⟨by rw[HC.out],?_⟩
 exact(Below.setCell (zAb W1.out _) (by simp) _).setCell (by simp) _

theorem zDA (c s t way U:Int) (w:World) (ha:okD c s) (t0:0≤t) (w0:1≤way) (w5:way≤5) (hst:t<s) (hc:0≤c) (hU:P10 (s-t)=U) (hn:Dcm.near way (c/U) (c%U) U 1=false):
  Calls Tryz.prog 87 #[.agg #[.int .i64 c,.int .i64 s],.int .i64 t,.int .i64 way] w fun e w'=>e= .returned (.tuple #[.agg #[.int .i64 (Dcm.rndC c s t way),.int .i64 t],.nilIface])∧Below w.heap.size w w':=by
 have C0:=lH fun w=>zAx c s w ha
 obtain⟨s0,s1,c0,c1⟩:=ha
 have u0:=Dcm.zAj (s-t)
 rw[hU] at u0
 have q0:=Int.ediv_nonneg (by omega:0≤c) (by omega:0≤U)
 have q1:=Int.ediv_le_self U (by omega:0≤c)
 have r0:=Int.emod_nonneg c (by omega:U≠0)
 have r1:=Int.emod_lt_of_pos c (by omega:0<U)
 have C1: ∀w,Calls Tryz.prog 97 #[.int .i64 (s-t)] w fun e w'=>e= .returned (.int .i64 U)∧w=w':=fun w=>hU▸zBk (s-t) w (by omega) (by omega)
 have C1:=lH C1
 have C2: ∀w,Calls Tryz.prog 136 #[.int .i64 way,.int .i64 (c/U),.int .i64 (c%U),.int .i64 U,.int .i64 1] w fun e w'=>e= .returned (.bool false)∧w=w':=fun w=>hn▸zCN way (c/U) (c%U) U 1 w w0 w5 q0 (by omega) r0 (by omega) u0.1 u0.2
 have C2:=lH C2
 have HC:Dcm.rndC c s t way=c/U:=by
  have e1:Dcm.sgn c=1:=by unfold Dcm.sgn;split<;>omega
  have e2:Dcm.mag c=c:=by unfold Dcm.mag;split<;>omega
  unfold Dcm.rndC Dcm.rdU
  rw[if_neg (by omega),e1,e2,hU,hn]
  simp
 have HC:=lH HC
 clear hn hU
 go_enter Tryz.func87,Tryz.ntmps87
 go_wp2_with fail
 refine(C0.out _).mono ?_
 rintro e w1 ⟨rfl,hb⟩
 have B0:=Boxed.below (Boxed.alloc (Boxed.made _ #[.int .i64 c,.int .i64 s] 64) _) hb
 have B:=Boxed.below (Boxed.made _ #[.int .i64 0,.int .i64 0] 64) hb
 have j0:=B0.cell 0 _ rfl
 have j1:=B0.cell 1 _ rfl
 have k0:=B.cell 0 _ rfl
 have k1:=B.cell 1 _ rfl
 have f0:=B.free 0 (by decide)
 have f1:=B.free 1 (by decide)
 simp at k0 k1 f0 f1
 have W1:=lH (bT (bT (bA w _) (bA _ _)) hb)
 clear hb B B0 C0
 go_wp2_with fail
 go_big_quiet (fail)
 go_wp2_with fail
 refine(C1.out _).mono ?_
 rintro e w' ⟨rfl,rfl⟩
 go_wp2_with fail
 go_big_quiet (fail)
 go_wp2_with fail
 refine(C2.out _).mono ?_
 rintro e w' ⟨rfl,rfl⟩
 go_wp2
 refine bodyPost_ret (v:= .tuple #[.agg #[.int .i64 (c/U),.int .i64 t],.nilIface]) (by simp[results,Tryz.results87,go_sem,k0,k1]) rfl ⟨by rw[HC.out],?_⟩
 exact(Below.setCell (zAb W1.out _) (by simp) _).setCell (by simp) _

theorem zDf (n s t way U:Int) (w:World) (ha:okD (-n) s) (t0:0≤t) (w0:1≤way) (w5:way≤5) (hst:t<s) (hc:0<n) (hU:P10 (s-t)=U) (hn:Dcm.near way (n/U) (n%U) U (-1)=true):
  Calls Tryz.prog 87 #[.agg #[.int .i64 (-n),.int .i64 s],.int .i64 t,.int .i64 way] w fun e w'=>e= .returned (.tuple #[.agg #[.int .i64 (Dcm.rndC (-n) s t way),.int .i64 t],.nilIface])∧Below w.heap.size w w':=by
 have C0:=lH fun w=>zAx (-n) s w ha
 obtain⟨s0,s1,c0,c1⟩:=ha
 have u0:=Dcm.zAj (s-t)
 rw[hU] at u0
 have q0:=Int.ediv_nonneg (by omega:0≤n) (by omega:0≤U)
 have q1:=Int.ediv_le_self U (by omega:0≤n)
 have r0:=Int.emod_nonneg n (by omega:U≠0)
 have r1:=Int.emod_lt_of_pos n (by omega:0<U)
 have C1: ∀w,Calls Tryz.prog 97 #[.int .i64 (s-t)] w fun e w'=>e= .returned (.int .i64 U)∧w=w':=fun w=>hU▸zBk (s-t) w (by omega) (by omega)
 have C1:=lH C1
 have C2: ∀w,Calls Tryz.prog 136 #[.int .i64 way,.int .i64 (n/U),.int .i64 (n%U),.int .i64 U,.int .i64 (-1)] w fun e w'=>e= .returned (.bool true)∧w=w':=fun w=>hn▸zCN way (n/U) (n%U) U (-1) w w0 w5 q0 (by omega) r0 (by omega) u0.1 u0.2
 have C2:=lH C2
 have HC:Dcm.rndC (-n) s t way= -(n/U+1):=by
  have e1:Dcm.sgn (-n)=(-1):=by unfold Dcm.sgn;split<;>omega
  have e2:Dcm.mag (-n)=n:=by unfold Dcm.mag;split<;>omega
  unfold Dcm.rndC Dcm.rdU
  rw[if_neg (by omega),e1,e2,hU,hn]
  simp
 have HC:=lH HC
 clear hn hU
 go_enter Tryz.func87,Tryz.ntmps87
 go_wp2_with fail
 refine(C0.out _).mono ?_
 rintro e w1 ⟨rfl,hb⟩
 have B0:=Boxed.below (Boxed.alloc (Boxed.made _ #[.int .i64 (-n),.int .i64 s] 64) _) hb
 have B:=Boxed.below (Boxed.made _ #[.int .i64 0,.int .i64 0] 64) hb
 have j0:=B0.cell 0 _ rfl
 have j1:=B0.cell 1 _ rfl
 have k0:=B.cell 0 _ rfl
 have k1:=B.cell 1 _ rfl
 have f0:=B.free 0 (by decide)
 have f1:=B.free 1 (by decide)
 simp at k0 k1 f0 f1
 have W1:=lH (bT (bT (bA w _) (bA _ _)) hb)
 clear hb B B0 C0
 go_wp2_with fail
 go_big_quiet (fail)
 go_wp2_with fail
 refine(C1.out _).mono ?_
 rintro e w' ⟨rfl,rfl⟩
 go_wp2_with fail
 go_big_quiet (fail)
 go_wp2_with fail
 refine(C2.out _).mono ?_
 rintro e w' ⟨rfl,rfl⟩
 go_wp2
 refine bodyPost_ret (v:= .tuple #[.agg #[.int .i64 (-(n/U+1)),.int .i64 t],.nilIface]) (by simp[results,Tryz.results87,go_sem,k0,k1]) rfl ⟨by rw[HC.out],?_⟩
 exact(Below.setCell (zAb W1.out _) (by simp) _).setCell (by simp) _

theorem zDB (n s t way U:Int) (w:World) (ha:okD (-n) s) (t0:0≤t) (w0:1≤way) (w5:way≤5) (hst:t<s) (hc:0<n) (hU:P10 (s-t)=U) (hn:Dcm.near way (n/U) (n%U) U (-1)=false):
  Calls Tryz.prog 87 #[.agg #[.int .i64 (-n),.int .i64 s],.int .i64 t,.int .i64 way] w fun e w'=>e= .returned (.tuple #[.agg #[.int .i64 (Dcm.rndC (-n) s t way),.int .i64 t],.nilIface])∧Below w.heap.size w w':=by
 have C0:=lH fun w=>zAx (-n) s w ha
 obtain⟨s0,s1,c0,c1⟩:=ha
 have u0:=Dcm.zAj (s-t)
 rw[hU] at u0
 have q0:=Int.ediv_nonneg (by omega:0≤n) (by omega:0≤U)
 have q1:=Int.ediv_le_self U (by omega:0≤n)
 have r0:=Int.emod_nonneg n (by omega:U≠0)
 have r1:=Int.emod_lt_of_pos n (by omega:0<U)
 have C1: ∀w,Calls Tryz.prog 97 #[.int .i64 (s-t)] w fun e w'=>e= .returned (.int .i64 U)∧w=w':=fun w=>hU▸zBk (s-t) w (by omega) (by omega)
 have C1:=lH C1
 have C2: ∀w,Calls Tryz.prog 136 #[.int .i64 way,.int .i64 (n/U),.int .i64 (n%U),.int .i64 U,.int .i64 (-1)] w fun e w'=>e= .returned (.bool false)∧w=w':=fun w=>hn▸zCN way (n/U) (n%U) U (-1) w w0 w5 q0 (by omega) r0 (by omega) u0.1 u0.2
 have C2:=lH C2
 have HC:Dcm.rndC (-n) s t way= -(n/U):=by
  have e1:Dcm.sgn (-n)=(-1):=by unfold Dcm.sgn;split<;>omega
  have e2:Dcm.mag (-n)=n:=by unfold Dcm.mag;split<;>omega
  unfold Dcm.rndC Dcm.rdU
  rw[if_neg (by omega),e1,e2,hU,hn]
  simp
 have HC:=lH HC
 clear hn hU
 go_enter Tryz.func87,Tryz.ntmps87
 go_wp2_with fail
 refine(C0.out _).mono ?_
 rintro e w1 ⟨rfl,hb⟩
 have B0:=Boxed.below (Boxed.alloc (Boxed.made _ #[.int .i64 (-n),.int .i64 s] 64) _) hb
 have B:=Boxed.below (Boxed.made _ #[.int .i64 0,.int .i64 0] 64) hb
 have j0:=B0.cell 0 _ rfl
 have j1:=B0.cell 1 _ rfl
 have k0:=B.cell 0 _ rfl
 have k1:=B.cell 1 _ rfl
 have f0:=B.free 0 (by decide)
 have f1:=B.free 1 (by decide)
 simp at k0 k1 f0 f1
 have W1:=lH (bT (bT (bA w _) (bA _ _)) hb)
 clear hb B B0 C0
 go_wp2_with fail
 go_big_quiet (fail)
 go_wp2_with fail
 refine(C1.out _).mono ?_
 rintro e w' ⟨rfl,rfl⟩
 go_wp2_with fail
 go_big_quiet (fail)
 go_wp2_with fail
 refine(C2.out _).mono ?_
 rintro e w' ⟨rfl,rfl⟩
 go_wp2
 refine bodyPost_ret (v:= .tuple #[.agg #[.int .i64 (-(n/U)),.int .i64 t],.nilIface]) (by simp[results,Tryz.results87,go_sem,k0,k1]) rfl ⟨by rw[HC.out],?_⟩
 exact(Below.setCell (zAb W1.out _) (by simp) _).setCell (by simp) _
open Go.RowKit
open Dcm (P10 okD nrm)

def rndE (c s t way:Int):Int:=
 if ¬okD c s then 1 else if t<0∨9<t then 1 else if way<1∨5<way then 3 else if Dcm.rndOk c s t then 0 else 1
theorem zBK {c s t way:Int}:rndE c s t way=0↔okD c s∧0≤t∧t≤9∧1≤way∧way≤5∧Dcm.rndOk c s t:=by
 unfold rndE
 by_cases h1:okD c s
 ·by_cases h2:t<0∨9<t
  ·simp[h1,h2];omega
  by_cases h3:way<1∨5<way
  ·simp[h1,h2,h3];omega
  by_cases h4:Dcm.rndOk c s t
  ·simp[h1,h2,h3,h4];omega
  simp[h1,h2,h3,h4]
 simp[h1]
theorem zJk (c s t way:Int) (w:World) (h:rndE c s t way=0):
  Calls Tryz.prog 87 #[.agg #[.int .i64 c,.int .i64 s],.int .i64 t,.int .i64 way] w fun e w'=>e= .returned (.tuple #[.agg #[.int .i64 (Dcm.rndC c s t way),.int .i64 t],.nilIface])∧Below w.heap.size w w':=by
 obtain⟨ha,t0,t1,w0,w5,hr⟩:=zBK.1 h
 by_cases hst:s≤t
 ·have hr:=hr hst
  unfold Dcm.mag at hr
  by_cases hc:c<0
  ·rw[if_pos hc] at hr
   exact zGe c s t way w ha t1 w0 w5 hst hc hr
  rw[if_neg hc] at hr
  exact zGd c s t way w ha t1 w0 w5 hst (by omega) hr
 by_cases hc:c<0
 ·cases hn:Dcm.near way (-c/P10 (s-t)) (-c%P10 (s-t)) (P10 (s-t)) (-1)
  ·have g:=zDB (-c) s t way _ w (by rwa [Int.neg_neg]) t0 w0 w5 (by omega) (by omega) rfl hn
   rwa [Int.neg_neg] at g
  have g:=zDf (-c) s t way _ w (by rwa [Int.neg_neg]) t0 w0 w5 (by omega) (by omega) rfl hn
  rwa [Int.neg_neg] at g
 cases hn:Dcm.near way (c/P10 (s-t)) (c%P10 (s-t)) (P10 (s-t)) 1
 ·exact zDA c s t way _ w ha t0 w0 w5 (by omega) (by omega) rfl hn
 exact zDe c s t way _ w ha t0 w0 w5 (by omega) (by omega) rfl hn
open Go.RowKit
open Dcm (P10 okD nrm)

theorem zHz {c s t way:Int} (h:rndE c s t way=0):okD (Dcm.rndC c s t way) t:=by
 obtain⟨ha,t0,t1,w0,w1,hr⟩:=zBK.1 h
 obtain⟨s0,s1,a0,a1⟩:=ha
 by_cases hst:s≤t
 ·have hr:=hr hst
  have e:Dcm.rndC c s t way=c*P10 (t-s):=by unfold Dcm.rndC;rw[if_pos hst]
  rw[e]
  refine⟨t0,t1,?_,?_⟩
  ·unfold Dcm.mag at hr;split at hr
   ·rw[Int.neg_mul] at hr;omega
   have:=Int.mul_nonneg (by omega:0≤c) (by have:=Dcm.zAN (t-s);omega:0≤P10 (t-s));omega
  unfold Dcm.mag at hr;split at hr
  ·have:=Int.mul_neg_of_neg_of_pos (by omega:c<0) (Dcm.zAN (t-s));omega
  omega
 obtain⟨b0,b1,_⟩:=Dcm.zD8 c s t way ⟨a0,a1⟩ s1 t0 (by omega) w0 w1
 exact⟨t0,t1,by omega,by omega⟩
end Go.Proofs.YtjlchookakbomaaGreatDoor
