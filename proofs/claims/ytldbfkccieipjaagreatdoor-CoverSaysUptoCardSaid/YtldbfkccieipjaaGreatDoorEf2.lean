/- The walks of package dec: nearer, Round. No conditions but the arguments' own. -/
import Derived.Test.YtldbfkccieipjaaGreatDoorEf0
namespace Go.Proofs.YtldbfkccieipjaaGreatDoor
set_option maxRecDepth 100000
open Go.RowKit
open Dcm (P10 okD nrm)

set_option maxHeartbeats 400000 in
theorem ten_any (n:Int) (w:World) (h0:0≤n) (h1:n≤9):
  Calls Tryz.prog 31 #[.int .i64 n] w fun e w'=>e= .returned (.int .i64 (P10 n))∧w=w':=by
 go_enter Tryz.func31,Tryz.ntmps31
 go_wp2
 go_loop [3,4] (fun t i=> ∃k:Int,0≤k∧k≤n∧i= .int .i64 k∧t= .int .i64 (P10 k)) (fun _ i=>(n-intOf i).toNat)
 case atStart=>exact⟨0,by omega,by omega,rfl,rfl⟩
 case round=>
  obtain⟨k,k0,k1,rfl,rfl⟩:=hrel
  have hb:=Dcm.P10_bd k
  by_cases hlt:k<n
  ·have hs:=Lib.hid (Dcm.P10_succ k k0 (by omega))
   go_wp2
   go_round
   case rel=>exact⟨k+1,by omega,by omega,by go_num,by rw[hs.out]⟩
   case measure=>simp[intOf];omega
  ·obtain rfl:k=n:=by omega
   go_wp2
   go_ret
   exact⟨rfl,rfl⟩
set_option maxHeartbeats 400000 in
theorem size_any (n:Int) (w:World) (h0: -9223372036854775807≤n) (h1:n≤9223372036854775807):
  Calls Tryz.prog 33 #[.int .i64 n] w fun e w'=>e= .returned (.int .i64 (Dcm.mag n))∧w=w':=by
 by_cases h:n<0
 ·have e:Dcm.mag n= -n:=by unfold Dcm.mag;rw[if_pos h]
  have E:=Lib.hid e
  clear e
  go_enter Tryz.func33,Tryz.ntmps33
  go_wp2
  go_ret
  exact⟨ret_int (by rw[E.out]),rfl⟩
 ·have e:Dcm.mag n=n:=by unfold Dcm.mag;rw[if_neg h]
  have E:=Lib.hid e
  clear e
  go_enter Tryz.func33,Tryz.ntmps33
  go_wp2
  go_ret
  exact⟨ret_int (by rw[E.out]),rfl⟩

open Go.RowKit
open Dcm (P10 okD nrm)

set_option maxHeartbeats 1000000 in
theorem near_any (way p r u s:Int) (w:World) (w0:1≤way) (w1:way≤5) (p0:0≤p) (p1:p≤1000000000000000) (r0:0≤r) (r1:r≤1000000000) (_u0:1≤u) (_u1:u≤1000000000):
  Calls Tryz.prog 213 #[.int .i64 way,.int .i64 p,.int .i64 r,.int .i64 u,.int .i64 s] w fun e w'=>e= .returned (.bool (Dcm.near way p r u s))∧w=w':=by
 rcases Dcm.ways way w0 w1 with rfl|rfl|rfl|rfl|rfl
 all_goals
  clear w0 w1
  go_enter Tryz.func213,Tryz.ntmps213
  go_wp2
 all_goals
  go_ret
  exact⟨ret_bool (by by_cases hp2:p%2=1<;>simp_all [Dcm.near]<;>try omega),rfl⟩

theorem wide_in (n s:Int) (w:World) (n0:0≤n) (n1:n≤1000000000000000) (s0:0≤s) (s1:s≤9) (hr:n*P10 s≤1000000000000000):
  Calls Tryz.prog 192 #[.int .i64 n,.int .i64 s] w fun e w'=>e= .returned (.tuple #[.int .u64 0,.int .u64 (n*P10 s)])∧w=w':=by
 have h:=wide_any n s w n0 n1 s0 s1
 have hp:=Int.mul_nonneg n0 (by have:=Dcm.P10_pos s;omega:0≤P10 s)
 have e1:hiW (n*P10 s)=0:=by unfold hiW;omega
 have e2:loW (n*P10 s)=n*P10 s:=by unfold loW;omega
 rwa [e1,e2] at h

set_option maxHeartbeats 2000000 in
theorem round_up_pos (c s t way:Int) (w:World) (ha:okD c s) (t1:t≤9) (w0:1≤way) (w5:way≤5) (hst:s≤t) (hc:0≤c) (hr:c*P10 (t-s)≤1000000000000000):
  Calls Tryz.prog 189 #[.agg #[.int .i64 c,.int .i64 s],.int .i64 t,.int .i64 way] w fun e w'=>e= .returned (.tuple #[.agg #[.int .i64 (Dcm.rndC c s t way),.int .i64 t],.nilIface])∧Below w.heap.size w w':=by
 have C0:=Lib.hid fun w=>dchk_yes c s w ha
 have C1:=Lib.hid fun w=>wide_in c (t-s) w (by omega) (by have:=ha.2.2;omega) (by omega) (by have:=ha.1;omega) hr
 have hC:Dcm.rndC c s t way=c*P10 (t-s):=by unfold Dcm.rndC;rw[if_pos hst]
 have hp:=Int.mul_nonneg (by omega:0≤c) (by have:=Dcm.P10_pos (t-s);omega:0≤P10 (t-s))
 obtain⟨s0,s1,c0,c1⟩:=ha
 have hL:c*P10 (t-s)=c*P10 (t-s):=by rfl
 rw[hL] at hC
 have HC:=Lib.hid hC
 clear hL hC
 generalize c*P10 (t-s)=L at*
 have t0:0≤t:=by omega
 go_enter Tryz.func189,Tryz.ntmps189
 go_wp2_with fail
 refine(C0.out _).mono ?_
 rintro e w1 ⟨rfl,hb⟩
 have B0:=Boxed.below (Boxed.alloc (Boxed.made _ #[.int .i64 c,.int .i64 s] 31) _) hb
 have B:=Boxed.below (Boxed.made _ #[.int .i64 0,.int .i64 0] 31) hb
 have j0:=B0.cell 0 _ rfl
 have j1:=B0.cell 1 _ rfl
 have k0:=B.cell 0 _ rfl
 have k1:=B.cell 1 _ rfl
 have f0:=B.free 0 (by decide)
 have f1:=B.free 1 (by decide)
 simp at k0 k1 f0 f1
 have W1:=Lib.hid (blw_trans (blw_trans (blw_alloc w _) (blw_alloc _ _)) hb)
 clear hb B B0 C0
 go_wp2_with fail
 go_big_quiet (fail)
 go_wp2_with fail
 refine(C1.out _).mono ?_
 rintro e w' ⟨rfl,rfl⟩
 go_wp2
 refine bodyPost_ret (v:= .tuple #[.agg #[.int .i64 (L),.int .i64 t],.nilIface]) (by simp[results,Tryz.results189,go_sem,k0,k1]) rfl ⟨by rw[HC.out],?_⟩
 exact(Below.setCell (blw_drewN W1.out _) (by simp) _).setCell (by simp) _

set_option maxHeartbeats 2000000 in
theorem round_up_neg (c s t way:Int) (w:World) (ha:okD c s) (t1:t≤9) (w0:1≤way) (w5:way≤5) (hst:s≤t) (hc:c<0) (hr:(-c)*P10 (t-s)≤1000000000000000):
  Calls Tryz.prog 189 #[.agg #[.int .i64 c,.int .i64 s],.int .i64 t,.int .i64 way] w fun e w'=>e= .returned (.tuple #[.agg #[.int .i64 (Dcm.rndC c s t way),.int .i64 t],.nilIface])∧Below w.heap.size w w':=by
 have C0:=Lib.hid fun w=>dchk_yes c s w ha
 have C1:=Lib.hid fun w=>wide_in (-c) (t-s) w (by omega) (by have:=ha.2.2;omega) (by omega) (by have:=ha.1;omega) hr
 have hC:Dcm.rndC c s t way=c*P10 (t-s):=by unfold Dcm.rndC;rw[if_pos hst]
 have hp:=Int.mul_nonneg (by omega:0≤(-c)) (by have:=Dcm.P10_pos (t-s);omega:0≤P10 (t-s))
 obtain⟨s0,s1,c0,c1⟩:=ha
 have hL:c*P10 (t-s)= -((-c)*P10 (t-s)):=by rw[Int.neg_mul,Int.neg_neg]
 rw[hL] at hC
 have HC:=Lib.hid hC
 clear hL hC
 generalize (-c)*P10 (t-s)=L at*
 have t0:0≤t:=by omega
 go_enter Tryz.func189,Tryz.ntmps189
 go_wp2_with fail
 refine(C0.out _).mono ?_
 rintro e w1 ⟨rfl,hb⟩
 have B0:=Boxed.below (Boxed.alloc (Boxed.made _ #[.int .i64 c,.int .i64 s] 31) _) hb
 have B:=Boxed.below (Boxed.made _ #[.int .i64 0,.int .i64 0] 31) hb
 have j0:=B0.cell 0 _ rfl
 have j1:=B0.cell 1 _ rfl
 have k0:=B.cell 0 _ rfl
 have k1:=B.cell 1 _ rfl
 have f0:=B.free 0 (by decide)
 have f1:=B.free 1 (by decide)
 simp at k0 k1 f0 f1
 have W1:=Lib.hid (blw_trans (blw_trans (blw_alloc w _) (blw_alloc _ _)) hb)
 clear hb B B0 C0
 go_wp2_with fail
 go_big_quiet (fail)
 go_wp2_with fail
 refine(C1.out _).mono ?_
 rintro e w' ⟨rfl,rfl⟩
 go_wp2
 refine bodyPost_ret (v:= .tuple #[.agg #[.int .i64 (-L),.int .i64 t],.nilIface]) (by simp[results,Tryz.results189,go_sem,k0,k1]) rfl ⟨by rw[HC.out],?_⟩
 exact(Below.setCell (blw_drewN W1.out _) (by simp) _).setCell (by simp) _

end Go.Proofs.YtldbfkccieipjaaGreatDoor
