/- Messages: how one lies in memory, and how many nodes it has: the plain law. No program. -/
import Derived.Test.YtldbfkccieipjaaGreatDoorEf3
import Derived.Test.YtldbfkccieipjaaGreatDoorProg
import Derived.Test.YtldbfkccieipjaaGreatDoorEf0
import Derived.WalkKit
import Derived.ProofKit
import Derived.OpenShut
import Derived.LaidMore
import Derived.Lib.LaidTab
import Derived.Lib.SmallJoins
import Derived.Stop.Joined
import Derived.SevenTiedAt
import Derived.Deep.RegionHeld3
import Derived.Lib.Split
import Derived.Lib.ItoaNum
import Derived.Lib.AtoiAll
import Derived.Lib.AtoiAllCases
import Derived.Lib.IndexMore
import Derived.Lib.Strings
import Derived.Lib.Repeat
import Derived.Lib.Join
import Derived.Lib.SplitLaws
import Derived.Laws.AppendOwn
namespace Go.Proofs.YtldbfkccieipjaaGreatDoor
set_option maxRecDepth 100000
open Go.RowKit
open Dcm (P10 okD nrm mag flo lef)

set_option maxHeartbeats 2000000 in
theorem aof_far (a s b t:Int) (w:World) (ha:okD a s) (hb':okD b t) (hf:1000000000000000/P10 (Dcm.addS s t)+2<mag (flo a s+flo b t)):
  Calls Tryz.prog 14 #[.agg #[.int .i64 a,.int .i64 s],.agg #[.int .i64 b,.int .i64 t]] w fun e w'=>e= .returned (.tuple #[.agg #[.int .i64 0,.int .i64 0],.bool false])∧Below w.heap.size w w':=by
 have CA:=Lib.hid fun w=>floor_any a s w ha
 have CB:=Lib.hid fun w=>floor_any b t w hb'
 have fa:=Dcm.flo_bd a s ⟨ha.2.2.1,ha.2.2.2⟩
 have fb:=Dcm.flo_bd b t ⟨hb'.2.2.1,hb'.2.2.2⟩
 have ea:=Dcm.flo_lef a s
 have eb:=Dcm.flo_lef b t
 have aF:=Dcm.addC_F a s b t ha hb'
 have xa:=Dcm.lef_bd a s
 have xb:=Dcm.lef_bd b t
 have ua:=Dcm.P10_bd s
 have ub:=Dcm.P10_bd t
 have uS:=Dcm.P10_bd (Dcm.addS s t)
 have mb:=Dcm.mag_bd (flo a s+flo b t)
 have hS:s≤Dcm.addS s t∧t≤Dcm.addS s t∧Dcm.addS s t≤9:=by have:=ha.2.1;have:=hb'.2.1;unfold Dcm.addS;split<;>omega
 have hmx:max s t=Dcm.addS s t:=by unfold Dcm.addS;split<;>omega
 have qb:0≤1000000000000000/P10 (Dcm.addS s t):=Int.ediv_nonneg (by omega) (by omega)
 have qb1:1000000000000000/P10 (Dcm.addS s t)≤1000000000000000:=Int.ediv_le_self _ (by omega)
 obtain⟨s0,s9,a0,a1⟩:=ha
 obtain⟨t0,t9,b0,b1⟩:=hb'
 obtain⟨aF1,aF2,aF3,aF4,aF5⟩:=aF
 generalize Dcm.addC a s b t=V at*
 generalize Dcm.addS s t=S at*
 generalize flo a s=X at*
 generalize flo b t=Y at*
 generalize lef a s=p at*
 generalize lef b t=q at*
 have ha1:a-X*P10 s=p:=by omega
 have hb1:b-Y*P10 t=q:=by omega
 have w1:IntKind.i64.wrap (X*P10 s)=X*P10 s:=IntWalk.i64_in _ (by omega)
 have w2:IntKind.i64.wrap (a-X*P10 s)=p:=by rw[IntWalk.i64_in _ (by omega)];exact ha1
 have w3:IntKind.i64.wrap (p*P10 (S-s))=p*P10 (S-s):=IntWalk.i64_in _ (by omega)
 have w4:IntKind.i64.wrap (Y*P10 t)=Y*P10 t:=IntWalk.i64_in _ (by omega)
 have w5:IntKind.i64.wrap (b-Y*P10 t)=q:=by rw[IntWalk.i64_in _ (by omega)];exact hb1
 have w6:IntKind.i64.wrap (q*P10 (S-t))=q*P10 (S-t):=IntWalk.i64_in _ (by omega)
 have w7:IntKind.i64.wrap (S-s)=S-s:=IntWalk.i64_in _ (by omega)
 have w8:IntKind.i64.wrap (S-t)=S-t:=IntWalk.i64_in _ (by omega)
 have w9:IntKind.i64.wrap (X+Y)=X+Y:=IntWalk.i64_in _ (by omega)
 have wa:IntKind.i64.wrap (1000000000000000/P10 S+2)=1000000000000000/P10 S+2:=IntWalk.i64_in _ (by omega)
 have HA:=Lib.hid (And.intro w1 (And.intro w2 (And.intro w3 w7)))
 have HB:=Lib.hid (And.intro w4 (And.intro w5 (And.intro w6 w8)))
 have HC:=Lib.hid (And.intro w9 wa)
 have d1:decide (1000000000000000/P10 S+2<mag (X+Y))=true:=dec_yes hf
 have HM:=Lib.hid hmx
 clear w1 w2 w3 w4 w5 w6 w7 w8 w9 wa ha1 hb1 ea eb aF1 hf hmx
 go_enter Tryz.func14,Tryz.ntmps14
 have hmx:=HM.out
 go_wp2_with fail
 clear hmx
 refine(ten_any _ _ (by omega) (by omega)).mono ?_
 rintro e w' ⟨rfl,rfl⟩
 go_wp2_with fail
 refine(CA.out _).mono ?_
 rintro e w1 ⟨rfl,hb⟩
 have B1_a:=Boxed.below (Boxed.alloc (Boxed.alloc (Boxed.made _ #[.int .i64 a,.int .i64 s] 31) _) _) hb
 have B1_b:=Boxed.below (Boxed.alloc (Boxed.made _ #[.int .i64 b,.int .i64 t] 31) _) hb
 have B1_z:=Boxed.below (Boxed.made _ #[.int .i64 0,.int .i64 0] 31) hb
 have W1:=Lib.hid (blw_trans (blw_trans (blw_trans (blw_trans (Below.refl w.heap.size w) (blw_alloc _ _)) (blw_alloc _ _)) (blw_alloc _ _)) hb)
 clear hb
 have ka0:=B1_a.cell 0 _ rfl
 have ka1:=B1_a.cell 1 _ rfl
 have kal:=B1_a.lt
 try simp at ka0 ka1 kal
 have kb0:=B1_b.cell 0 _ rfl
 have kb1:=B1_b.cell 1 _ rfl
 have kbl:=B1_b.lt
 try simp at kb0 kb1 kbl
 have kz0:=B1_z.cell 0 _ rfl
 have kz1:=B1_z.cell 1 _ rfl
 have kzl:=B1_z.lt
 try simp at kz0 kz1 kzl
 go_wp2_with fail
 refine(CB.out _).mono ?_
 rintro e w2 ⟨rfl,hb⟩
 clear ka0 ka1 kal kb0 kb1 kbl kz0 kz1 kzl
 have B2_a:=B1_a.below hb
 have B2_b:=B1_b.below hb
 have B2_z:=B1_z.below hb
 have W2:=Lib.hid (blw_trans W1.out hb)
 clear hb B1_a B1_b B1_z W1
 have ka0:=B2_a.cell 0 _ rfl
 have ka1:=B2_a.cell 1 _ rfl
 have kal:=B2_a.lt
 try simp at ka0 ka1 kal
 have kb0:=B2_b.cell 0 _ rfl
 have kb1:=B2_b.cell 1 _ rfl
 have kbl:=B2_b.lt
 try simp at kb0 kb1 kbl
 have kz0:=B2_z.cell 0 _ rfl
 have kz1:=B2_z.cell 1 _ rfl
 have kzl:=B2_z.lt
 try simp at kz0 kz1 kzl
 have zf0:=B2_z.free 0 (by simp)
 have zf1:=B2_z.free 1 (by simp)
 try simp at zf0 zf1
 go_wp2_with fail
 obtain⟨w1',w2',w3',w4'⟩:=HA.out
 go_big_quiet ((go_at_call 31;exact quiet_left (ten_any _ _ (by omega) (by omega))))
 rename Nat=>nq1
 clear w1' w2' w3' w4'
 have WD1:=Lib.hid (blw_drewN W2.out nq1)
 have yb0:(w2.drewN nq1).cell? ⟨w.heap.size+1,0,none⟩=some (.int .i64 b):=by first|(simpa using kb0)|(simpa using yb0)
 have yb1:(w2.drewN nq1).cell? ⟨w.heap.size+1,1,none⟩=some (.int .i64 t):=by first|(simpa using kb1)|(simpa using yb1)
 have yz0:(w2.drewN nq1).cell? ⟨w.heap.size+2,0,none⟩=some (.int .i64 0):=by first|(simpa using kz0)|(simpa using yz0)
 have yz1:(w2.drewN nq1).cell? ⟨w.heap.size+2,1,none⟩=some (.int .i64 0):=by first|(simpa using kz1)|(simpa using yz1)
 have zg0:(w2.drewN nq1).frozen? ⟨w.heap.size+2,0,none⟩=false:=by first|(simpa using zf0)|(simpa using zg0)
 have zg1:(w2.drewN nq1).frozen? ⟨w.heap.size+2,1,none⟩=false:=by first|(simpa using zf1)|(simpa using zg1)
 have ylz:w.heap.size+2<(w2.drewN nq1).heap.size:=by simpa using kzl
 clear ka0 ka1 kal kb0 kb1 kbl kz0 kz1 kzl W2 zf0 zf1 B2_a B2_b B2_z
 generalize w2.drewN nq1=w3 at*
 go_wp2_with fail
 obtain⟨w1',w2',w3',w4'⟩:=HB.out
 go_big_quiet ((go_at_call 31;exact quiet_left (ten_any _ _ (by omega) (by omega))))
 rename Nat=>nq2
 clear w1' w2' w3' w4'
 have WD2:=Lib.hid (blw_drewN WD1.out nq2)
 have qyz0:(w3.drewN nq2).cell? ⟨w.heap.size+2,0,none⟩=some (.int .i64 0):=by simpa using yz0
 have qyz1:(w3.drewN nq2).cell? ⟨w.heap.size+2,1,none⟩=some (.int .i64 0):=by simpa using yz1
 have qzg0:(w3.drewN nq2).frozen? ⟨w.heap.size+2,0,none⟩=false:=by simpa using zg0
 have qzg1:(w3.drewN nq2).frozen? ⟨w.heap.size+2,1,none⟩=false:=by simpa using zg1
 have qlz:w.heap.size+2<(w3.drewN nq2).heap.size:=by simpa using ylz
 clear WD1 yb0 yb1 yz0 yz1 zg0 zg1 ylz
 generalize w3.drewN nq2=w4 at*
 go_wp2_with fail
 obtain⟨w1',w2'⟩:=HC.out
 go_big_quiet ((go_at_call 33;exact quiet_left (size_any _ _ (by omega) (by omega))))
 clear w1' w2'
 go_wp2_with fail
 refine bodyPost_ret (v:= .tuple #[.agg #[.int .i64 0,.int .i64 0],.bool false]) (by simp[results,Tryz.results14,go_sem,qyz0,qyz1]) rfl ⟨rfl,?_⟩
 repeat(first|exact WD2.out|refine blw_drewN ?_ _|refine Below.setCell ?_ (by simp;omega) _)

set_option maxHeartbeats 2000000 in
theorem aof_no (a s b t:Int) (w:World) (ha:okD a s) (hb':okD b t) (hf: ¬1000000000000000/P10 (Dcm.addS s t)+2<mag (flo a s+flo b t)) (hn:1000000000000000<mag (Dcm.addC a s b t)):
  Calls Tryz.prog 14 #[.agg #[.int .i64 a,.int .i64 s],.agg #[.int .i64 b,.int .i64 t]] w fun e w'=>e= .returned (.tuple #[.agg #[.int .i64 0,.int .i64 0],.bool false])∧Below w.heap.size w w':=by
 have CA:=Lib.hid fun w=>floor_any a s w ha
 have CB:=Lib.hid fun w=>floor_any b t w hb'
 have fa:=Dcm.flo_bd a s ⟨ha.2.2.1,ha.2.2.2⟩
 have fb:=Dcm.flo_bd b t ⟨hb'.2.2.1,hb'.2.2.2⟩
 have ea:=Dcm.flo_lef a s
 have eb:=Dcm.flo_lef b t
 have aF:=Dcm.addC_F a s b t ha hb'
 have xa:=Dcm.lef_bd a s
 have xb:=Dcm.lef_bd b t
 have ua:=Dcm.P10_bd s
 have ub:=Dcm.P10_bd t
 have uS:=Dcm.P10_bd (Dcm.addS s t)
 have mb:=Dcm.mag_bd (flo a s+flo b t)
 have hS:s≤Dcm.addS s t∧t≤Dcm.addS s t∧Dcm.addS s t≤9:=by have:=ha.2.1;have:=hb'.2.1;unfold Dcm.addS;split<;>omega
 have hmx:max s t=Dcm.addS s t:=by unfold Dcm.addS;split<;>omega
 have qb:0≤1000000000000000/P10 (Dcm.addS s t):=Int.ediv_nonneg (by omega) (by omega)
 have qb1:1000000000000000/P10 (Dcm.addS s t)≤1000000000000000:=Int.ediv_le_self _ (by omega)
 have nr:=Dcm.add_near (flo a s) (flo b t) (P10 (Dcm.addS s t)) uS.1 uS.2 hf
 obtain⟨s0,s9,a0,a1⟩:=ha
 obtain⟨t0,t9,b0,b1⟩:=hb'
 obtain⟨aF1,aF2,aF3,aF4,aF5⟩:=aF
 generalize Dcm.addC a s b t=V at*
 generalize Dcm.addS s t=S at*
 generalize flo a s=X at*
 generalize flo b t=Y at*
 generalize lef a s=p at*
 generalize lef b t=q at*
 have ha1:a-X*P10 s=p:=by omega
 have hb1:b-Y*P10 t=q:=by omega
 have w1:IntKind.i64.wrap (X*P10 s)=X*P10 s:=IntWalk.i64_in _ (by omega)
 have w2:IntKind.i64.wrap (a-X*P10 s)=p:=by rw[IntWalk.i64_in _ (by omega)];exact ha1
 have w3:IntKind.i64.wrap (p*P10 (S-s))=p*P10 (S-s):=IntWalk.i64_in _ (by omega)
 have w4:IntKind.i64.wrap (Y*P10 t)=Y*P10 t:=IntWalk.i64_in _ (by omega)
 have w5:IntKind.i64.wrap (b-Y*P10 t)=q:=by rw[IntWalk.i64_in _ (by omega)];exact hb1
 have w6:IntKind.i64.wrap (q*P10 (S-t))=q*P10 (S-t):=IntWalk.i64_in _ (by omega)
 have w7:IntKind.i64.wrap (S-s)=S-s:=IntWalk.i64_in _ (by omega)
 have w8:IntKind.i64.wrap (S-t)=S-t:=IntWalk.i64_in _ (by omega)
 have w9:IntKind.i64.wrap (X+Y)=X+Y:=IntWalk.i64_in _ (by omega)
 have wa:IntKind.i64.wrap (1000000000000000/P10 S+2)=1000000000000000/P10 S+2:=IntWalk.i64_in _ (by omega)
 have HA:=Lib.hid (And.intro w1 (And.intro w2 (And.intro w3 w7)))
 have HB:=Lib.hid (And.intro w4 (And.intro w5 (And.intro w6 w8)))
 have HC:=Lib.hid (And.intro w9 wa)
 have d1:decide (1000000000000000/P10 S+2<mag (X+Y))=false:=dec_no hf
 obtain⟨n0,n1,n2,n3⟩:=nr
 have HV:=Lib.hid aF1
 have d2:decide (1000000000000000<mag V)=true:=dec_yes hn
 have vb: -1000006000000000≤V∧V≤1000006000000000:=by omega
 obtain⟨v0,v1⟩:=vb
 have HM:=Lib.hid hmx
 clear w1 w2 w3 w4 w5 w6 w7 w8 w9 wa ha1 hb1 ea eb aF1 hf hmx hn
 go_enter Tryz.func14,Tryz.ntmps14
 have hmx:=HM.out
 go_wp2_with fail
 clear hmx
 refine(ten_any _ _ (by omega) (by omega)).mono ?_
 rintro e w' ⟨rfl,rfl⟩
 go_wp2_with fail
 refine(CA.out _).mono ?_
 rintro e w1 ⟨rfl,hb⟩
 have B1_a:=Boxed.below (Boxed.alloc (Boxed.alloc (Boxed.made _ #[.int .i64 a,.int .i64 s] 31) _) _) hb
 have B1_b:=Boxed.below (Boxed.alloc (Boxed.made _ #[.int .i64 b,.int .i64 t] 31) _) hb
 have B1_z:=Boxed.below (Boxed.made _ #[.int .i64 0,.int .i64 0] 31) hb
 have W1:=Lib.hid (blw_trans (blw_trans (blw_trans (blw_trans (Below.refl w.heap.size w) (blw_alloc _ _)) (blw_alloc _ _)) (blw_alloc _ _)) hb)
 clear hb
 have ka0:=B1_a.cell 0 _ rfl
 have ka1:=B1_a.cell 1 _ rfl
 have kal:=B1_a.lt
 try simp at ka0 ka1 kal
 have kb0:=B1_b.cell 0 _ rfl
 have kb1:=B1_b.cell 1 _ rfl
 have kbl:=B1_b.lt
 try simp at kb0 kb1 kbl
 have kz0:=B1_z.cell 0 _ rfl
 have kz1:=B1_z.cell 1 _ rfl
 have kzl:=B1_z.lt
 try simp at kz0 kz1 kzl
 go_wp2_with fail
 refine(CB.out _).mono ?_
 rintro e w2 ⟨rfl,hb⟩
 clear ka0 ka1 kal kb0 kb1 kbl kz0 kz1 kzl
 have B2_a:=B1_a.below hb
 have B2_b:=B1_b.below hb
 have B2_z:=B1_z.below hb
 have W2:=Lib.hid (blw_trans W1.out hb)
 clear hb B1_a B1_b B1_z W1
 have ka0:=B2_a.cell 0 _ rfl
 have ka1:=B2_a.cell 1 _ rfl
 have kal:=B2_a.lt
 try simp at ka0 ka1 kal
 have kb0:=B2_b.cell 0 _ rfl
 have kb1:=B2_b.cell 1 _ rfl
 have kbl:=B2_b.lt
 try simp at kb0 kb1 kbl
 have kz0:=B2_z.cell 0 _ rfl
 have kz1:=B2_z.cell 1 _ rfl
 have kzl:=B2_z.lt
 try simp at kz0 kz1 kzl
 have zf0:=B2_z.free 0 (by simp)
 have zf1:=B2_z.free 1 (by simp)
 try simp at zf0 zf1
 go_wp2_with fail
 obtain⟨w1',w2',w3',w4'⟩:=HA.out
 go_big_quiet ((go_at_call 31;exact quiet_left (ten_any _ _ (by omega) (by omega))))
 rename Nat=>nq1
 clear w1' w2' w3' w4'
 have WD1:=Lib.hid (blw_drewN W2.out nq1)
 have yb0:(w2.drewN nq1).cell? ⟨w.heap.size+1,0,none⟩=some (.int .i64 b):=by first|(simpa using kb0)|(simpa using yb0)
 have yb1:(w2.drewN nq1).cell? ⟨w.heap.size+1,1,none⟩=some (.int .i64 t):=by first|(simpa using kb1)|(simpa using yb1)
 have yz0:(w2.drewN nq1).cell? ⟨w.heap.size+2,0,none⟩=some (.int .i64 0):=by first|(simpa using kz0)|(simpa using yz0)
 have yz1:(w2.drewN nq1).cell? ⟨w.heap.size+2,1,none⟩=some (.int .i64 0):=by first|(simpa using kz1)|(simpa using yz1)
 have zg0:(w2.drewN nq1).frozen? ⟨w.heap.size+2,0,none⟩=false:=by first|(simpa using zf0)|(simpa using zg0)
 have zg1:(w2.drewN nq1).frozen? ⟨w.heap.size+2,1,none⟩=false:=by first|(simpa using zf1)|(simpa using zg1)
 have ylz:w.heap.size+2<(w2.drewN nq1).heap.size:=by simpa using kzl
 clear ka0 ka1 kal kb0 kb1 kbl kz0 kz1 kzl W2 zf0 zf1 B2_a B2_b B2_z
 generalize w2.drewN nq1=w3 at*
 go_wp2_with fail
 obtain⟨w1',w2',w3',w4'⟩:=HB.out
 go_big_quiet ((go_at_call 31;exact quiet_left (ten_any _ _ (by omega) (by omega))))
 rename Nat=>nq2
 clear w1' w2' w3' w4'
 have WD2:=Lib.hid (blw_drewN WD1.out nq2)
 have qyz0:(w3.drewN nq2).cell? ⟨w.heap.size+2,0,none⟩=some (.int .i64 0):=by simpa using yz0
 have qyz1:(w3.drewN nq2).cell? ⟨w.heap.size+2,1,none⟩=some (.int .i64 0):=by simpa using yz1
 have qzg0:(w3.drewN nq2).frozen? ⟨w.heap.size+2,0,none⟩=false:=by simpa using zg0
 have qzg1:(w3.drewN nq2).frozen? ⟨w.heap.size+2,1,none⟩=false:=by simpa using zg1
 have qlz:w.heap.size+2<(w3.drewN nq2).heap.size:=by simpa using ylz
 clear WD1 yb0 yb1 yz0 yz1 zg0 zg1 ylz
 generalize w3.drewN nq2=w4 at*
 go_wp2_with fail
 obtain⟨w1',w2'⟩:=HC.out
 go_big_quiet ((go_at_call 33;exact quiet_left (size_any _ _ (by omega) (by omega))))
 clear w1' w2'
 have hv':=HV.out
 go_wp2_with (go_at_call 33;refine(size_any _ _ (by omega) (by omega)).mono ?_;rintro e w' ⟨rfl,rfl⟩)
 refine bodyPost_ret (v:= .tuple #[.agg #[.int .i64 0,.int .i64 0],.bool false]) (by simp[results,Tryz.results14,go_sem,qyz0,qyz1]) rfl ⟨rfl,?_⟩
 repeat(first|exact WD2.out|refine blw_drewN ?_ _|refine Below.setCell ?_ (by simp;omega) _)

set_option maxHeartbeats 2000000 in
theorem aof_ok (a s b t:Int) (w:World) (ha:okD a s) (hb':okD b t) (hf: ¬1000000000000000/P10 (Dcm.addS s t)+2<mag (flo a s+flo b t)) (hn: ¬1000000000000000<mag (Dcm.addC a s b t)):
  Calls Tryz.prog 14 #[.agg #[.int .i64 a,.int .i64 s],.agg #[.int .i64 b,.int .i64 t]] w fun e w'=>e= .returned (.tuple #[.agg #[.int .i64 (Dcm.addC a s b t),.int .i64 (Dcm.addS s t)],.bool true])∧Below w.heap.size w w':=by
 have CA:=Lib.hid fun w=>floor_any a s w ha
 have CB:=Lib.hid fun w=>floor_any b t w hb'
 have fa:=Dcm.flo_bd a s ⟨ha.2.2.1,ha.2.2.2⟩
 have fb:=Dcm.flo_bd b t ⟨hb'.2.2.1,hb'.2.2.2⟩
 have ea:=Dcm.flo_lef a s
 have eb:=Dcm.flo_lef b t
 have aF:=Dcm.addC_F a s b t ha hb'
 have xa:=Dcm.lef_bd a s
 have xb:=Dcm.lef_bd b t
 have ua:=Dcm.P10_bd s
 have ub:=Dcm.P10_bd t
 have uS:=Dcm.P10_bd (Dcm.addS s t)
 have mb:=Dcm.mag_bd (flo a s+flo b t)
 have hS:s≤Dcm.addS s t∧t≤Dcm.addS s t∧Dcm.addS s t≤9:=by have:=ha.2.1;have:=hb'.2.1;unfold Dcm.addS;split<;>omega
 have hmx:max s t=Dcm.addS s t:=by unfold Dcm.addS;split<;>omega
 have qb:0≤1000000000000000/P10 (Dcm.addS s t):=Int.ediv_nonneg (by omega) (by omega)
 have qb1:1000000000000000/P10 (Dcm.addS s t)≤1000000000000000:=Int.ediv_le_self _ (by omega)
 have nr:=Dcm.add_near (flo a s) (flo b t) (P10 (Dcm.addS s t)) uS.1 uS.2 hf
 obtain⟨s0,s9,a0,a1⟩:=ha
 obtain⟨t0,t9,b0,b1⟩:=hb'
 obtain⟨aF1,aF2,aF3,aF4,aF5⟩:=aF
 generalize Dcm.addC a s b t=V at*
 generalize Dcm.addS s t=S at*
 generalize flo a s=X at*
 generalize flo b t=Y at*
 generalize lef a s=p at*
 generalize lef b t=q at*
 have ha1:a-X*P10 s=p:=by omega
 have hb1:b-Y*P10 t=q:=by omega
 have w1:IntKind.i64.wrap (X*P10 s)=X*P10 s:=IntWalk.i64_in _ (by omega)
 have w2:IntKind.i64.wrap (a-X*P10 s)=p:=by rw[IntWalk.i64_in _ (by omega)];exact ha1
 have w3:IntKind.i64.wrap (p*P10 (S-s))=p*P10 (S-s):=IntWalk.i64_in _ (by omega)
 have w4:IntKind.i64.wrap (Y*P10 t)=Y*P10 t:=IntWalk.i64_in _ (by omega)
 have w5:IntKind.i64.wrap (b-Y*P10 t)=q:=by rw[IntWalk.i64_in _ (by omega)];exact hb1
 have w6:IntKind.i64.wrap (q*P10 (S-t))=q*P10 (S-t):=IntWalk.i64_in _ (by omega)
 have w7:IntKind.i64.wrap (S-s)=S-s:=IntWalk.i64_in _ (by omega)
 have w8:IntKind.i64.wrap (S-t)=S-t:=IntWalk.i64_in _ (by omega)
 have w9:IntKind.i64.wrap (X+Y)=X+Y:=IntWalk.i64_in _ (by omega)
 have wa:IntKind.i64.wrap (1000000000000000/P10 S+2)=1000000000000000/P10 S+2:=IntWalk.i64_in _ (by omega)
 have HA:=Lib.hid (And.intro w1 (And.intro w2 (And.intro w3 w7)))
 have HB:=Lib.hid (And.intro w4 (And.intro w5 (And.intro w6 w8)))
 have HC:=Lib.hid (And.intro w9 wa)
 have d1:decide (1000000000000000/P10 S+2<mag (X+Y))=false:=dec_no hf
 obtain⟨n0,n1,n2,n3⟩:=nr
 have HV:=Lib.hid aF1
 have d2:decide (1000000000000000<mag V)=false:=dec_no hn
 have vb: -1000006000000000≤V∧V≤1000006000000000:=by omega
 obtain⟨v0,v1⟩:=vb
 have HM:=Lib.hid hmx
 clear w1 w2 w3 w4 w5 w6 w7 w8 w9 wa ha1 hb1 ea eb aF1 hf hmx hn
 go_enter Tryz.func14,Tryz.ntmps14
 have hmx:=HM.out
 go_wp2_with fail
 clear hmx
 refine(ten_any _ _ (by omega) (by omega)).mono ?_
 rintro e w' ⟨rfl,rfl⟩
 go_wp2_with fail
 refine(CA.out _).mono ?_
 rintro e w1 ⟨rfl,hb⟩
 have B1_a:=Boxed.below (Boxed.alloc (Boxed.alloc (Boxed.made _ #[.int .i64 a,.int .i64 s] 31) _) _) hb
 have B1_b:=Boxed.below (Boxed.alloc (Boxed.made _ #[.int .i64 b,.int .i64 t] 31) _) hb
 have B1_z:=Boxed.below (Boxed.made _ #[.int .i64 0,.int .i64 0] 31) hb
 have W1:=Lib.hid (blw_trans (blw_trans (blw_trans (blw_trans (Below.refl w.heap.size w) (blw_alloc _ _)) (blw_alloc _ _)) (blw_alloc _ _)) hb)
 clear hb
 have ka0:=B1_a.cell 0 _ rfl
 have ka1:=B1_a.cell 1 _ rfl
 have kal:=B1_a.lt
 try simp at ka0 ka1 kal
 have kb0:=B1_b.cell 0 _ rfl
 have kb1:=B1_b.cell 1 _ rfl
 have kbl:=B1_b.lt
 try simp at kb0 kb1 kbl
 have kz0:=B1_z.cell 0 _ rfl
 have kz1:=B1_z.cell 1 _ rfl
 have kzl:=B1_z.lt
 try simp at kz0 kz1 kzl
 go_wp2_with fail
 refine(CB.out _).mono ?_
 rintro e w2 ⟨rfl,hb⟩
 clear ka0 ka1 kal kb0 kb1 kbl kz0 kz1 kzl
 have B2_a:=B1_a.below hb
 have B2_b:=B1_b.below hb
 have B2_z:=B1_z.below hb
 have W2:=Lib.hid (blw_trans W1.out hb)
 clear hb B1_a B1_b B1_z W1
 have ka0:=B2_a.cell 0 _ rfl
 have ka1:=B2_a.cell 1 _ rfl
 have kal:=B2_a.lt
 try simp at ka0 ka1 kal
 have kb0:=B2_b.cell 0 _ rfl
 have kb1:=B2_b.cell 1 _ rfl
 have kbl:=B2_b.lt
 try simp at kb0 kb1 kbl
 have kz0:=B2_z.cell 0 _ rfl
 have kz1:=B2_z.cell 1 _ rfl
 have kzl:=B2_z.lt
 try simp at kz0 kz1 kzl
 have zf0:=B2_z.free 0 (by simp)
 have zf1:=B2_z.free 1 (by simp)
 try simp at zf0 zf1
 go_wp2_with fail
 obtain⟨w1',w2',w3',w4'⟩:=HA.out
 go_big_quiet ((go_at_call 31;exact quiet_left (ten_any _ _ (by omega) (by omega))))
 rename Nat=>nq1
 clear w1' w2' w3' w4'
 have WD1:=Lib.hid (blw_drewN W2.out nq1)
 have yb0:(w2.drewN nq1).cell? ⟨w.heap.size+1,0,none⟩=some (.int .i64 b):=by first|(simpa using kb0)|(simpa using yb0)
 have yb1:(w2.drewN nq1).cell? ⟨w.heap.size+1,1,none⟩=some (.int .i64 t):=by first|(simpa using kb1)|(simpa using yb1)
 have yz0:(w2.drewN nq1).cell? ⟨w.heap.size+2,0,none⟩=some (.int .i64 0):=by first|(simpa using kz0)|(simpa using yz0)
 have yz1:(w2.drewN nq1).cell? ⟨w.heap.size+2,1,none⟩=some (.int .i64 0):=by first|(simpa using kz1)|(simpa using yz1)
 have zg0:(w2.drewN nq1).frozen? ⟨w.heap.size+2,0,none⟩=false:=by first|(simpa using zf0)|(simpa using zg0)
 have zg1:(w2.drewN nq1).frozen? ⟨w.heap.size+2,1,none⟩=false:=by first|(simpa using zf1)|(simpa using zg1)
 have ylz:w.heap.size+2<(w2.drewN nq1).heap.size:=by simpa using kzl
 clear ka0 ka1 kal kb0 kb1 kbl kz0 kz1 kzl W2 zf0 zf1 B2_a B2_b B2_z
 generalize w2.drewN nq1=w3 at*
 go_wp2_with fail
 obtain⟨w1',w2',w3',w4'⟩:=HB.out
 go_big_quiet ((go_at_call 31;exact quiet_left (ten_any _ _ (by omega) (by omega))))
 rename Nat=>nq2
 clear w1' w2' w3' w4'
 have WD2:=Lib.hid (blw_drewN WD1.out nq2)
 have qyz0:(w3.drewN nq2).cell? ⟨w.heap.size+2,0,none⟩=some (.int .i64 0):=by simpa using yz0
 have qyz1:(w3.drewN nq2).cell? ⟨w.heap.size+2,1,none⟩=some (.int .i64 0):=by simpa using yz1
 have qzg0:(w3.drewN nq2).frozen? ⟨w.heap.size+2,0,none⟩=false:=by simpa using zg0
 have qzg1:(w3.drewN nq2).frozen? ⟨w.heap.size+2,1,none⟩=false:=by simpa using zg1
 have qlz:w.heap.size+2<(w3.drewN nq2).heap.size:=by simpa using ylz
 clear WD1 yb0 yb1 yz0 yz1 zg0 zg1 ylz
 generalize w3.drewN nq2=w4 at*
 go_wp2_with fail
 obtain⟨w1',w2'⟩:=HC.out
 go_big_quiet ((go_at_call 33;exact quiet_left (size_any _ _ (by omega) (by omega))))
 clear w1' w2'
 have hv':=HV.out
 go_wp2_with (go_at_call 33;refine(size_any _ _ (by omega) (by omega)).mono ?_;rintro e w' ⟨rfl,rfl⟩)
 refine bodyPost_ret (v:= .tuple #[.agg #[.int .i64 V,.int .i64 S],.bool true]) (by simp[results,Tryz.results14,go_sem,qyz0,qyz1]) rfl ⟨rfl,?_⟩
 repeat(first|exact WD2.out|refine blw_drewN ?_ _|refine Below.setCell ?_ (by simp;omega) _)

theorem aof_yes (a s b t:Int) (w:World) (h:addOk a s b t):
  Calls Tryz.prog 14 #[.agg #[.int .i64 a,.int .i64 s],.agg #[.int .i64 b,.int .i64 t]] w fun e w'=>e= .returned (.tuple #[.agg #[.int .i64 (Dcm.addC a s b t),.int .i64 (Dcm.addS s t)],.bool true])∧Below w.heap.size w w':=by
 obtain⟨ha,hb,h1,h2⟩:=h
 have hn: ¬1000000000000000<mag (Dcm.addC a s b t):=by unfold mag;split<;>omega
 refine aof_ok a s b t w ha hb (fun hf=>hn ?_) hn
 have F:=Dcm.addC_F a s b t ha hb
 have:=Dcm.add_far (flo a s) (flo b t) _ _ (P10 (Dcm.addS s t)) (Dcm.P10_bd _).1 ⟨F.2.1,F.2.2.1⟩ ⟨F.2.2.2.1,F.2.2.2.2⟩ hf
 rwa [F.1] at this
theorem aof_bad (a s b t:Int) (w:World) (ha:okD a s) (hb:okD b t) (h: ¬addOk a s b t):
  Calls Tryz.prog 14 #[.agg #[.int .i64 a,.int .i64 s],.agg #[.int .i64 b,.int .i64 t]] w fun e w'=>e= .returned (.tuple #[.agg #[.int .i64 0,.int .i64 0],.bool false])∧Below w.heap.size w w':=by
 by_cases hf:1000000000000000/P10 (Dcm.addS s t)+2<mag (flo a s+flo b t)
 ·exact aof_far a s b t w ha hb hf
 ·exact aof_no a s b t w ha hb hf (by
   rcases Int.lt_or_le 1000000000000000 (mag (Dcm.addC a s b t)) with g|g
   ·exact g
   ·exact absurd ⟨ha,hb,by unfold mag at g;split at g<;>omega,by unfold mag at g;split at g<;>omega⟩ h)
open Go.RowKit
open Dcm (P10 okD)

set_option maxHeartbeats 1000000 in
theorem dflt_no (c s:Int) (w:World) (h:okD c s):
  Calls Tryz.prog 12 #[.agg #[.int .i64 c,.int .i64 s]] w fun e w'=>e= .returned (.bool false)∧Below w.heap.size w w':=by
 obtain⟨h1,h2,h3,h4⟩:=h
 have d1:decide (s<0)=false:=dec_no (by omega)
 have d2:decide (9<s)=false:=dec_no (by omega)
 have d3:decide (c< -1000000000000000)=false:=dec_no (by omega)
 have d4:decide (1000000000000000<c)=false:=dec_no (by omega)
 go_enter Tryz.func12,Tryz.ntmps12
 go_wp2
 go_ret
 exact⟨rfl,blw_alloc _ _⟩
set_option maxHeartbeats 1000000 in
theorem dflt_yes (c s:Int) (w:World) (h: ¬okD c s):
  Calls Tryz.prog 12 #[.agg #[.int .i64 c,.int .i64 s]] w fun e w'=>e= .returned (.bool true)∧Below w.heap.size w w':=by
 by_cases h1:s<0
 ·go_enter Tryz.func12,Tryz.ntmps12
  go_wp2
  go_ret
  exact⟨rfl,blw_alloc _ _⟩
 by_cases h2:9<s
 ·go_enter Tryz.func12,Tryz.ntmps12
  go_wp2
  go_ret
  exact⟨rfl,blw_alloc _ _⟩
 by_cases h3:c< -1000000000000000
 ·go_enter Tryz.func12,Tryz.ntmps12
  go_wp2
  go_ret
  exact⟨rfl,blw_alloc _ _⟩
 by_cases h4:1000000000000000<c
 ·go_enter Tryz.func12,Tryz.ntmps12
  go_wp2
  go_ret
  exact⟨rfl,blw_alloc _ _⟩
 exact absurd ⟨by omega,by omega,by omega,by omega⟩ h

open Go.ChangeShapes Go.WideShapes Go.ChangeAt Go.RowKit

section
variable {H:Type} {enc:TypeId×Value→H} {P:Program}
theorem trodAll_below (hl:laidOutB P=true) {W W':World} (hb:Below W.heap.size W W'): ∀{ts:List TypeId} {vs:List Value} {ds:List (DataW H)} {ps:List MemPlace},
  ts.all (fun t=>P.readableRec t&&decide (t<P.types.size))=true→DataW.TrodAll enc P W 0 (fun _=>true) true ts vs ds ps→(∀x∈ps,x.block<W.heap.size)→
  DataW.TrodAll enc P W' 0 (fun b=>decide (b<W.heap.size)) true ts vs ds ps:=by
 intro ts
 induction ts with
 |nil=>
  intro vs ds ps _ h _
  obtain⟨rfl,rfl,rfl⟩:=trodAll_nil h
  exact trodAll_mk0
 |cons t ts ih=>
  intro vs ds ps hr h hlt
  simp only[List.all_cons,Bool.and_eq_true,decide_eq_true_eq] at hr
  obtain⟨v,vs',d,ds',p,q,rfl,rfl,rfl,h0,hs⟩:=trodAll_cons h
  exact trodAll_cons_mk (Below.trod hl hr.1.1 hr.1.2 h0 hb fun x hx=>hlt x (List.mem_append.2 (.inl hx))) (ih hr.2 hs fun x hx=>hlt x (List.mem_append.2 (.inr hx)))

theorem trodAll_length {W:World} {base:Nat} {spare:Nat→Bool} {held:Bool}: ∀{ts:List TypeId} {vs:List Value} {ds:List (DataW H)} {ps:List MemPlace},
  DataW.TrodAll enc P W base spare held ts vs ds ps→ds.length=ts.length:=by
 intro ts
 induction ts with
 |nil=>intro vs ds ps h;obtain⟨rfl,rfl,rfl⟩:=trodAll_nil h;rfl
 |cons t ts ih=>intro vs ds ps h;obtain⟨v,vs',d,ds',p,q,rfl,rfl,rfl,h0,hs⟩:=trodAll_cons h;simp[ih hs]

theorem law_post {fn:Func} {s:ChangeSpec} {tb:TypeId} (hl:laidOutB P=true) (hres:fn.resultTypes= #[tb]) (hbool:P.underlying tb=some .bool) (hv:s.vars= [])
  (hread:fn.params.toList.all (fun t=>P.readableRec t&&decide (t<P.types.size))=true)
  (hs: ∀ds:List (DataW H),ds.length=fn.params.toList.length→s.fn H ds={results:= [.lit (.bool true)],args:=ds})
  {W W':World} {args:Array Value} {ds gs:List (DataW H)} {before:List MemPlace} (hW:DataW.Whole enc P fn.params.toList s.vars false W args.toList ds gs before) (hb:Below W.heap.size W W'):
  s.post enc P fn false true false false W args (.bool true) W':=by
 have hW':=hW
 have hlt:=hW.lt
 obtain⟨p,q,hA,hV,rfl,hfz,hnd⟩:=hW
 rw[hv] at hV
 obtain⟨rfl,rfl⟩:=trodVars_none hV
 have e:=hs ds (trodAll_length hA)
 simp only[List.append_nil] at hlt hW'
 refine⟨ds,[],_,[],p,[],hW',?_,?_,?_,hb.frame _,fun h=>by cases h⟩
 ·rw[List.append_nil,e,hres]
  exact trodAll_mk1 (shut_bool hbool true)
 ·rw[List.append_nil,e]
  exact trodAll_below hl hb hread hA fun x hx=>hlt x (by simpa using hx)
 ·rw[List.append_nil,e,hv];rfl
end
open Go.RowKit

section
variable {P:Program} {l:List Oper} {Q:Exit→Act→World→Prop} {md:Region.Mode} {S:World→Prop}
/-- take number i: it yields v in every world that meets S -/
theorem take_run {d:Option Nat} {oi:Oper} {v:Value} {fuel:Nat} {listed:Array Bool} {a:Act} {w:World} (i:Nat) (hi:l[i]?=some oi) (hd:oi.dst=d)
  (hs:Region.noSelect l.toArray=true) (hf:Region.free md l.toArray listed i=true) (hr:(Region.ready md l.toArray listed).contains i=true)
  (hQ: ∀c a w,Q (.panic c) (a.put d v) w→Q (.panic c) a w) (hw:Region.wanted oi (yielded l.toArray a.tmps)=true) (hS:S w)
  (hrun: ∀w,S w→(execOp a.eval oi).run P w= .ok (.value v) w)
  (h:wpAnyH P md l.toArray Q S fuel (listed.setIfInBounds i true) (a.put d v) w):wpAnyH P md l.toArray Q S (fuel+1) listed a w:=by
 subst hd
 exact wpAnyH_take (by simpa using hi) hs hf hr hQ (.inl ⟨hw,hrun⟩) hS h
/-- pass number i over: its guard is not met -/
theorem take_skip {d:Option Nat} {oi:Oper} {fuel:Nat} {listed:Array Bool} {a:Act} {w:World} (i:Nat) (hi:l[i]?=some oi) (hd:oi.dst=d)
  (hs:Region.noSelect l.toArray=true) (hf:Region.free md l.toArray listed i=true) (hr:(Region.ready md l.toArray listed).contains i=true)
  (hQ: ∀c a w,Q (.panic c) (a.put d undef) w→Q (.panic c) a w) (hw:Region.wanted oi (yielded l.toArray a.tmps)=false) (hS:S w)
  (h:wpAnyH P md l.toArray Q S fuel (listed.setIfInBounds i true) (a.put d undef) w):wpAnyH P md l.toArray Q S (fuel+1) listed a w:=by
 subst hd
 exact wpAnyH_take (by simpa using hi) hs hf hr hQ (.inr ⟨hw,rfl⟩) hS h
/-- number i alone may come up: a call -/
theorem take_call {oi:Oper} {fuel:Nat} {listed:Array Bool} {a:Act} {w:World} (i:Nat) (hi:l[i]?=some oi) (hr:Region.ready md l.toArray listed= [i]) (hw:Region.wanted oi (yielded l.toArray a.tmps)=true)
  (h: ∀K':Act→World→Prop,Shut (∀a w,S w→(S w→wpAnyH P md l.toArray Q S fuel (listed.setIfInBounds i true) a w)→K' a w)→Oper.wp P oi a w K' Q):wpAnyH P md l.toArray Q S (fuel+1) listed a w:=
 wpAnyH_ready hr (by simp) (AllReadyH.cons (by simpa using hi) (fun K' hK=>by rw[if_pos hw];exact h K' hK) AllReadyH.nil)
/-- the same, with what closes by computing left to the elaborator -/
theorem tkr {d:Option Nat} {oi:Oper} {v:Value} {fuel:Nat} {listed:Array Bool} {a:Act} {w:World} (i:Nat) (hi:l[i]?=some oi) (hd:oi.dst=d)
  (hS:S w) (hrun: ∀w,S w→(execOp a.eval oi).run P w= .ok (.value v) w) (h:wpAnyH P md l.toArray Q S fuel (listed.setIfInBounds i true) (a.put d v) w)
  (hs:Region.noSelect l.toArray=true:=by kernel_rfl) (hf:Region.free md l.toArray listed i=true:=by kernel_rfl) (hr:(Region.ready md l.toArray listed).contains i=true:=by kernel_rfl)
  (hQ: ∀c a w,Q (.panic c) (a.put d v) w→Q (.panic c) a w:=by exact fun _ _ _ h=>h) (hw:Region.wanted oi (yielded l.toArray a.tmps)=true:=by rfl):wpAnyH P md l.toArray Q S (fuel+1) listed a w:=
 take_run i hi hd hs hf hr hQ hw hS hrun h
theorem tks {d:Option Nat} {oi:Oper} {fuel:Nat} {listed:Array Bool} {a:Act} {w:World} (i:Nat) (hi:l[i]?=some oi) (hd:oi.dst=d)
  (hS:S w) (h:wpAnyH P md l.toArray Q S fuel (listed.setIfInBounds i true) (a.put d undef) w)
  (hs:Region.noSelect l.toArray=true:=by kernel_rfl) (hf:Region.free md l.toArray listed i=true:=by kernel_rfl) (hr:(Region.ready md l.toArray listed).contains i=true:=by kernel_rfl)
  (hQ: ∀c a w,Q (.panic c) (a.put d undef) w→Q (.panic c) a w:=by exact fun _ _ _ h=>h) (hw:Region.wanted oi (yielded l.toArray a.tmps)=false:=by rfl):wpAnyH P md l.toArray Q S (fuel+1) listed a w:=
 take_skip i hi hd hs hf hr hQ hw hS h
end
end Go.Proofs.YtldbfkccieipjaaGreatDoor
namespace Spl
open Go Go.Lib

theorem split_hit {s sub:List UInt8} {i:Nat} (hsub:sub≠ []) (h:index s sub=i):split s sub=s.take i::split (s.drop (i+sub.length)) sub:=by
 have hne:((i:Int)== -1)=false:=by rw[beq_eq_false_iff_ne];omega
 unfold split
 rw[count_hit hsub h,Nat.add_comm 1]
 simp[splitK,h,hne]
theorem split_miss {s sub:List UInt8} (h:index s sub= -1):split s sub= [s]:=by
 unfold split
 rw[count_miss h]
 rfl
theorem splitK_len {sub:List UInt8} (hsub:sub≠ []): ∀(k:Nat) (s:List UInt8),count s sub=k→(splitK sub 0 k s).length=k+1
 |0,_,_=>rfl
 |k+1,s,h=>by
  by_cases hi:index s sub= -1
  ·rw[count_miss hi] at h;omega
  ·have hg:=index_ge s sub
   have he:index s sub=((index s sub).toNat:Int):=by omega
   rw[count_hit hsub he] at h
   have hb:(index s sub== -1)=false:=by rw[beq_eq_false_iff_ne];exact hi
   simp only[splitK,hb,Bool.false_eq_true,if_false,List.length_cons]
   rw[splitK_len hsub k _ (by omega)]
theorem split_len {s sub:List UInt8} (hsub:sub≠ []):(split s sub).length=count s sub+1:=splitK_len hsub _ s rfl
theorem occ_drop (s sub:List UInt8) (a j:Nat):occAt (s.drop a) sub j=occAt s sub (a+j):=by
 unfold occAt
 rw[List.drop_drop]

/-- what the loop of a cut keeps: the pieces so far, from where the next one is, up to where it is looked for -/
def Inv (s sub:List UInt8) (P:List (List UInt8)) (a b:Nat):Prop:=split s sub=P++split (s.drop a) sub∧ ∀j,a≤j→j<b→occAt s sub j=false
theorem inv_start (s sub:List UInt8):Inv s sub [] 0 0:=⟨rfl,fun j _ h=>by omega⟩
theorem inv_miss {s sub:List UInt8} {P:List (List UInt8)} {a b:Nat} (h:Inv s sub P a b) (hb:b+sub.length≤s.length) (hx: ¬(s.drop b).take sub.length=sub):Inv s sub P a (b+1):=by
 refine⟨h.1,fun j h1 h2=>?_⟩
 by_cases e:j=b
 ·subst e
  rw[occAt_iff_take s sub j hb]
  exact beq_eq_false_iff_ne.2 hx
 ·exact h.2 j h1 (by omega)
theorem inv_hit {s sub:List UInt8} {P:List (List UInt8)} {a b:Nat} (h:Inv s sub P a b) (hsub:sub≠ []) (hab:a≤b) (hb:b+sub.length≤s.length) (hx:(s.drop b).take sub.length=sub):
  Inv s sub (P++ [(s.drop a).take (b-a)]) (b+sub.length) (b+sub.length):=by
 refine⟨?_,fun j _ h2=>by omega⟩
 have hi:index (s.drop a) sub=((b-a:Nat):Int):=by
  refine index_first (by rw[List.length_drop];omega) ?_ fun j hj=>?_
  ·rw[occ_drop,show a+(b-a)=b by omega,occAt_iff_take s sub b hb,hx]
   exact beq_self_eq_true _
  ·rw[occ_drop]
   exact h.2 _ (by omega) (by omega)
 rw[h.1,split_hit hsub hi,List.drop_drop,show a+(b-a+sub.length)=b+sub.length by omega]
 simp
theorem inv_end {s sub:List UInt8} {P:List (List UInt8)} {a b:Nat} (h:Inv s sub P a b) (hsub:sub≠ []) (hb: ¬b+sub.length≤s.length):split s sub=P++ [s.drop a]:=by
 have hi:index (s.drop a) sub= -1:=by
  refine index_none fun j _=>?_
  rw[occ_drop]
  by_cases hj:a+j<b
  ·exact h.2 _ (by omega) hj
  ·cases ho:occAt s sub (a+j) with
   |false=>rfl
   |true=>
    rcases occAt_room ho with g|g
    ·omega
    ·exact absurd g hsub
 rw[h.1,split_miss hi]
end Spl
namespace Byt
open Go Go.Lib
theorem idx_hit {c:UInt8}: ∀{X:List UInt8} (Y:List UInt8),c∉X→index (X++c::Y) [c]=X.length
 | [],Y,_=>by simp[index]
 |b::X,Y,h=>by
  have hb: ¬c=b:=fun e=>h (by simp[e])
  have hx:c∉X:=fun e=>h (by simp[e])
  have ih:=idx_hit (c:=c) Y hx
  have e: [c].isPrefixOf (b::(X++c::Y))=false:=by simp[List.isPrefixOf,hb]
  rw[List.cons_append,index,if_neg (by rw[e];decide),ih,if_neg (by simp)]
  simp
theorem idx_miss {c:UInt8}: ∀{X:List UInt8},c∉X→index X [c]= -1
 | [],_=>by simp[index]
 |b::X,h=>by
  have hb: ¬c=b:=fun e=>h (by simp[e])
  have hx:c∉X:=fun e=>h (by simp[e])
  have ih:=idx_miss (c:=c) hx
  have e: [c].isPrefixOf (b::X)=false:=by simp[List.isPrefixOf,hb]
  rw[index,if_neg (by rw[e];decide),if_pos (by rw[ih];decide)]
theorem splitK_hit {c:UInt8} {X:List UInt8} (k:Nat) (Y:List UInt8) (h:c∉X):splitK [c] 0 (k+1) (X++c::Y)=X::splitK [c] 0 k Y:=by
 rw[splitK,idx_hit Y h,if_neg (by simp)]
 have e1:(X++c::Y).take ((X.length:Int).toNat+0)=X:=by simp
 have e2:(X++c::Y).drop ((X.length:Int).toNat+ [c].length)=Y:=by
  rw[Int.toNat_natCast,←List.drop_drop,List.drop_left];rfl
 rw[e1,e2]
theorem splitK_miss {c:UInt8} {X:List UInt8} (k:Nat) (h:c∉X):splitK [c] 0 k X= [X]:=by
 cases k with
 |zero=>rfl
 |succ k=>rw[splitK,idx_miss h];rfl
end Byt
namespace Dtx
open Go Go.Lib
/-- a number's digits, so many at least -/
def pad (k:Nat) (u:Nat):List UInt8:=List.replicate (k-(decDigits u).length) 48++decDigits u
theorem dd1 {u:Nat} (h:u<10):decDigits u= [UInt8.ofNat (48+u)]:=by rw[decDigits,dif_pos h]
theorem dd2 {u:Nat} (h: ¬u<10):decDigits u=decDigits (u/10)++ [UInt8.ofNat (48+u%10)]:=by rw[decDigits,dif_neg h]
end Dtx
namespace Byt
open Go Go.Lib
/-- a digit, as a byte -/
theorem dig_byte {u:Nat} (h:u<10):(UInt8.ofNat (48+u)).toNat=48+u:=by rw[UInt8.toNat_ofNat'];omega
theorem parse_cons {a u:Nat} {l:List UInt8} (ha:a<100000000000000000) (h:u<10):parseUint10 a (UInt8.ofNat (48+u)::l)=parseUint10 (a*10+u) l:=by
 rw[parseUint10,dig_byte h,if_pos (by omega),if_neg (by omega),if_neg (by omega),show 48+u-48=u by omega]
end Byt
namespace Byt
open Go Go.Lib

/-- only digits -/
def AllDig (l:List UInt8):Prop:= ∀c∈l,48≤c.toNat∧c.toNat≤57
theorem dig_decDigits: ∀(k u:Nat),u<k→AllDig (decDigits u)
 |0,u,h=>by omega
 |k+1,u,h=>by
  by_cases hu:u<10
  ·rw[Dtx.dd1 hu]
   intro c hc
   rw[List.mem_singleton.1 hc,dig_byte hu];omega
  ·rw[Dtx.dd2 hu]
   intro c hc
   rcases List.mem_append.1 hc with hc|hc
   ·exact dig_decDigits k (u/10) (by omega) c hc
   ·rw[List.mem_singleton.1 hc,dig_byte (by omega)];omega
theorem digits_all (u:Nat):AllDig (decDigits u):=dig_decDigits (u+1) u (by omega)
theorem digits_ne (u:Nat):decDigits u≠ []:=by
 by_cases hu:u<10
 ·rw[Dtx.dd1 hu];simp
 ·rw[Dtx.dd2 hu];simp
theorem digits_short: ∀(k u:Nat),u<10^k→0<k→(decDigits u).length≤k
 |0,u,h,h0=>by omega
 |k+1,u,h,_=>by
  by_cases hu:u<10
  ·rw[Dtx.dd1 hu];simp
  ·rw[Dtx.dd2 hu,List.length_append,List.length_singleton]
   have hk:0<k:=by
    cases k with
    |zero=>omega
    |succ k=>omega
   have:=digits_short k (u/10) (by rw[Nat.pow_succ] at h;omega) hk
   omega
theorem parse_digits: ∀(k u:Nat) (Y:List UInt8),u<k→u<1000000000000000000→parseUint10 0 (decDigits u++Y)=parseUint10 u Y
 |0,u,Y,h,_=>by omega
 |k+1,u,Y,h,hu=>by
  by_cases h1:u<10
  ·rw[Dtx.dd1 h1]
   show parseUint10 0 (UInt8.ofNat (48+u)::Y)=_
   rw[parse_cons (by omega) h1]
   congr 1;omega
  ·rw[Dtx.dd2 h1,List.append_assoc,parse_digits k (u/10) _ (by omega) (by omega)]
   show parseUint10 (u/10) (UInt8.ofNat (48+u%10)::Y)=_
   rw[parse_cons (by omega) (by omega)]
   congr 1;omega
theorem parse_noughts: ∀(z:Nat) (Y:List UInt8),parseUint10 0 (List.replicate z 48++Y)=parseUint10 0 Y
 |0,Y=>rfl
 |z+1,Y=>by
  rw[List.replicate_succ]
  show parseUint10 0 (UInt8.ofNat (48+0)::(List.replicate z 48++Y))=_
  rw[parse_cons (by omega) (by omega)]
  exact parse_noughts z Y
/-- the digits with noughts ahead -/
def zdig (z u:Nat):List UInt8:=List.replicate z 48++decDigits u
theorem zdig_all (z u:Nat):AllDig (zdig z u):=fun c hc=>by
 rcases List.mem_append.1 hc with hc|hc
 ·rw[(List.mem_replicate.1 hc).2];decide
 ·exact digits_all u c hc
theorem zdig_mag (z u:Nat) (hu:u<1000000000000000000):parseMag (zdig z u)= .ok u:=by
 unfold parseMag zdig
 rw[if_neg (by intro e;exact digits_ne u (List.append_eq_nil_iff.1 e).2),parse_noughts]
 have:=parse_digits (u+1) u [] (by omega) hu
 rw[List.append_nil] at this
 rw[this];rfl
def sgn (c:Int):List UInt8:=if c<0 then [45] else []
theorem zdig_atoi (z:Nat) (c:Int) (h:c.natAbs<1000000000000000000):atoiAll (sgn c++zdig z c.natAbs)= .ok c:=by
 by_cases hc:c<0
 ·unfold sgn
  rw[if_pos hc]
  show atoiAll (45::zdig z c.natAbs)=_
  rw[atoiAll_minus,zdig_mag z _ h]
  simp only[signed]
  rw[if_neg (by omega)]
  congr 1;omega
 ·unfold sgn
  rw[if_neg hc,List.nil_append]
  cases e:zdig z c.natAbs with
  |nil=>exact absurd (List.append_eq_nil_iff.1 e).2 (digits_ne _)
  |cons x r=>
   have hx:=zdig_all z c.natAbs x (by rw[e];exact List.mem_cons_self ..)
   rw[atoiAll_plain x r (by omega) (by omega),←e,zdig_mag z _ h]
   simp only[signless]
   rw[if_neg (by omega)]
   congr 1;omega
/-- how many noughts ahead -/
def zn (c s:Int):Nat:=s.toNat+1-(decDigits c.natAbs).length
/-- the text of a number -/
def decText (c s:Int):List UInt8:=
 if s≤0 then sgn c++decDigits c.natAbs
 else sgn c++(zdig (zn c s) c.natAbs).take ((zdig (zn c s) c.natAbs).length-s.toNat)++ [46]++(zdig (zn c s) c.natAbs).drop ((zdig (zn c s) c.natAbs).length-s.toNat)
theorem zdig_len (c s:Int):s.toNat<(zdig (zn c s) c.natAbs).length:=by
 have:=List.length_pos_iff.2 (digits_ne c.natAbs)
 unfold zdig zn
 rw[List.length_append,List.length_replicate];omega
theorem no_point {l:List UInt8} (h:AllDig l):(46:UInt8)∉l:=fun e=>by have:=h 46 e;exact absurd this.1 (by decide)
theorem sgn_point (c:Int):(46:UInt8)∉sgn c:=by unfold sgn;split<;>simp
theorem cut_hit {X:List UInt8} (Y:List UInt8) (h:(46:UInt8)∉X):cut (X++46::Y) [46]=(X,Y,true):=by
 unfold cut
 rw[idx_hit Y h,if_pos (by omega)]
 simp
theorem cut_miss {X:List UInt8} (h:(46:UInt8)∉X):cut X [46]=(X,[],false):=by
 unfold cut
 rw[idx_miss h,if_neg (by omega)]
theorem dec_len (c s:Int) (h:0≤s∧s≤9∧ -1000000000000000≤c∧c≤1000000000000000):(decText c s).length≤100:=by
 obtain⟨s0,s9,c0,c1⟩:=h
 have hd:=digits_short 16 c.natAbs (by omega) (by omega)
 have hg:(sgn c).length≤1:=by unfold sgn;split<;>simp
 have hz:(zdig (zn c s) c.natAbs).length≤30:=by
  unfold zdig zn
  rw[List.length_append,List.length_replicate];omega
 unfold decText
 split
 ·rw[List.length_append];omega
 ·simp only[List.length_append,List.length_take,List.length_drop,List.length_singleton];omega
theorem trim_itoa (c:Int):trimPrefix (itoa c) [45]=decDigits c.natAbs:=by
 unfold trimPrefix itoa hasPrefix
 by_cases hc:c<0
 ·rw[if_pos hc]
  simp[List.isPrefixOf]
 ·rw[if_neg hc]
  have e:c.toNat=c.natAbs:=by omega
  rw[e]
  cases hD:decDigits c.natAbs with
  |nil=>exact absurd hD (digits_ne _)
  |cons x r=>
   have hx:=digits_all c.natAbs x (by rw[hD];exact List.mem_cons_self ..)
   have hne:((45:UInt8)==x)=false:=by
    rw[beq_eq_false_iff_ne]
    rintro rfl
    exact absurd hx.1 (by decide)
   simp[List.isPrefixOf,hne]
theorem repeat_noughts: ∀n,repeatL [48] n=List.replicate n 48
 |0=>rfl
 |n+1=>by rw[repeatL,repeat_noughts n,List.replicate_succ];rfl
end Byt
namespace Rul
open Go Go.Lib

/-- where a text of more signs stands: by one sign of it that stands nowhere ahead -/
theorem idx_sub {c:UInt8} {sub X:List UInt8} (Y:List UInt8) {k:Nat} (hk:sub[k]?=some c) (hno:c∉sub.take k) (h:c∉X):index (X++sub++Y) sub=X.length:=by
 refine index_first (by simp) ?_ fun j hj=>?_
 ·unfold occAt
  rw[List.append_assoc,List.drop_left]
  exact List.isPrefixOf_iff_prefix.2 (List.prefix_append _ _)
 ·cases ho:occAt (X++sub++Y) sub j with
  |false=>rfl
  |true=>
   exfalso
   obtain⟨T,hT⟩:=List.isPrefixOf_iff_prefix.1 (show sub.isPrefixOf ((X++sub++Y).drop j)=true from ho)
   have hkl:k<sub.length:=(List.getElem?_eq_some_iff.1 hk).1
   have e1:(X++sub++Y)[j+k]?=some c:=by
    rw[←List.getElem?_drop,←hT,List.getElem?_append_left hkl,hk]
   by_cases hx:j+k<X.length
   ·rw[List.append_assoc,List.getElem?_append_left hx] at e1
    exact h (List.mem_of_getElem? e1)
   ·rw[List.append_assoc,List.getElem?_append_right (by omega),List.getElem?_append_left (by omega)] at e1
    refine hno (List.mem_of_getElem? (i:=j+k-X.length) ?_)
    rw[List.getElem?_take,if_pos (by omega)];exact e1
theorem idx_none {c:UInt8} {sub X:List UInt8} (hc:c∈sub) (h:c∉X):index X sub= -1:=by
 refine index_none fun j _=>?_
 cases ho:occAt X sub j with
 |false=>rfl
 |true=>
  exfalso
  obtain⟨T,hT⟩:=List.isPrefixOf_iff_prefix.1 (show sub.isPrefixOf (X.drop j)=true from ho)
  exact h (List.mem_of_mem_drop (hT▸List.mem_append_left _ hc))
theorem sub_ne {c:UInt8} {sub:List UInt8} {k:Nat} (hk:sub[k]?=some c):sub≠ []:=by
 rintro rfl;simp at hk
theorem split_at {c:UInt8} {sub X:List UInt8} (Y:List UInt8) {k:Nat} (hk:sub[k]?=some c) (hno:c∉sub.take k) (h:c∉X):split (X++sub++Y) sub=X::split Y sub:=by
 rw[Spl.split_hit (sub_ne hk) (idx_sub Y hk hno h)]
 congr 1
 ·rw[List.append_assoc,List.take_left]
 ·congr 1
  rw[←List.length_append,List.drop_left]
theorem split_none {c:UInt8} {sub X:List UInt8} (hc:c∈sub) (h:c∉X):split X sub= [X]:=Spl.split_miss (idx_none hc h)
theorem split_join {c:UInt8} {sub:List UInt8} {k:Nat} (hk:sub[k]?=some c) (hno:c∉sub.take k): ∀{l:List (List UInt8)},l≠ []→(∀p∈l,c∉p)→split (join l sub) sub=l
 | [],h,_=>absurd rfl h
 | [x],_,h=>by rw[join_one];exact split_none (List.mem_of_getElem? hk) (h x (by simp))
 |x::y::r,_,h=>by
  have e:join (x::y::r) sub=x++sub++join (y::r) sub:=by
   rw[join_cons,join_cons];unfold joinTail;simp
  rw[e,split_at _ hk hno (h x (by simp)),split_join hk hno (by simp) (fun p hp=>h p (by simp at hp⊢;exact .inr hp))]
theorem cut_at {c:UInt8} {sub X:List UInt8} (Y:List UInt8) {k:Nat} (hk:sub[k]?=some c) (hno:c∉sub.take k) (h:c∉X):cut (X++sub++Y) sub=(X,Y,true):=by
 have e:=idx_sub Y hk hno h
 unfold cut
 rw[e,if_pos (by omega)]
 congr 1
 ·rw[Int.toNat_natCast,List.append_assoc,List.take_left]
 ·congr 1
  rw[Int.toNat_natCast,←List.length_append,List.drop_left]
theorem cut_none {c:UInt8} {sub X:List UInt8} (hc:c∈sub) (h:c∉X):cut X sub=(X,[],false):=by
 unfold cut
 rw[idx_none hc h,if_neg (by decide)]

/-- a relation of a rule -/
structure Rl where
 op:UInt8
 mod:Int
 no:Bool
 rs:List (Int×Int)
abbrev Rule:=List (List Rl)

/-- the digits of a number from 0 on -/
def dg (v:Int):List UInt8:=decDigits v.toNat
def rngT (p:Int×Int):List UInt8:=if p.1=p.2 then dg p.1 else dg p.1++ [46,46]++dg p.2
def eqS:List UInt8:= [32,61,32]
def neS:List UInt8:= [32,33,61,32]
def pcS:List UInt8:= [32,37,32]
def andS:List UInt8:= [32,97,110,100,32]
def orS:List UInt8:= [32,111,114,32]
def headT (r:Rl):List UInt8:=if r.mod=0 then [r.op] else [r.op]++pcS++dg r.mod
def relT (r:Rl):List UInt8:=headT r++(if r.no then neS else eqS)++join (r.rs.map rngT) [44]
def partT (l:List Rl):List UInt8:=join (l.map relT) andS
def ruleT (r:Rule):List UInt8:=join (r.map partT) orS

def num (s:List UInt8):Int:=match atoiAll s with| .ok v=>v|_=> -1
def rngP (w:List UInt8):Int×Int:=(num (cut w [46,46]).1,num (if (cut w [46,46]).2.2 then (cut w [46,46]).2.1 else (cut w [46,46]).1))
def hd (w:List UInt8):List UInt8×List UInt8:=if (cut w eqS).2.2 then ((cut w eqS).1,(cut w eqS).2.1) else ((cut w neS).1,(cut w neS).2.1)
def opP (l:List UInt8):UInt8:=match l with| [c]=>c|_=>0
def relP (w:List UInt8):Rl:=
 {op:=opP (cut (hd w).1 pcS).1,mod:=if (cut (hd w).1 pcS).2.2 then num (cut (hd w).1 pcS).2.1 else 0,no:=!(cut w eqS).2.2,rs:=(split (hd w).2 [44]).map rngP}
def partP (s:List UInt8):List Rl:=(split s andS).map relP
def ruleP (s:List UInt8):Rule:=(split s orS).map partP

def rngOk (p:Int×Int):Bool:=decide (0≤p.1)&&decide (p.1≤p.2)&&decide (p.2≤1000000)
def opOk (c:UInt8):Bool:= [110,105,118,119,102,116].contains c
def relOk (r:Rl):Bool:=opOk r.op&&decide (0≤r.mod)&&decide (r.mod≤1000000)&&!r.rs.isEmpty&&r.rs.all rngOk
def partOk (l:List Rl):Bool:=!l.isEmpty&&l.all relOk
def shapeOk (r:Rule):Bool:=!r.isEmpty&&r.all partOk
def count (r:Rule):Nat:=(r.map (·.length)).sum
/-- what is wrong with a rule -/
def ruleE (r:Rule):Int:=if shapeOk r then (if 20<count r then 4 else 0) else 3

theorem dg_dig (v:Int):Byt.AllDig (dg v):=Byt.digits_all _
theorem dg_no {v:Int} {c:UInt8} (h:c.toNat<48∨57<c.toNat):c∉dg v:=fun e=>by
 have:=dg_dig v c e;omega
theorem num_dg (v:Int) (h0:0≤v) (h1:v≤1000000):num (dg v)=v:=by
 have h:=Byt.zdig_atoi 0 v (by omega)
 have e:Byt.sgn v++Byt.zdig 0 v.natAbs=dg v:=by
  unfold Byt.sgn Byt.zdig dg
  rw[if_neg (by omega),show v.natAbs=v.toNat by omega]
  simp
 rw[e] at h
 unfold num
 rw[h]
theorem rngT_no {p:Int×Int} {c:UInt8} (h:c.toNat<46∨57<c.toNat):c∉rngT p:=by
 have d: ∀v,c∉dg v:=fun v=>dg_no (by omega)
 have n:c≠46:=by rintro rfl;revert h;decide
 unfold rngT
 split
 ·exact d _
 ·simp[d,n]
theorem rngP_T (p:Int×Int) (h:rngOk p=true):rngP (rngT p)=p:=by
 obtain⟨a,b⟩:=p
 simp only[rngOk,Bool.and_eq_true,decide_eq_true_eq] at h
 obtain⟨⟨h0,h1⟩,h2⟩:=h
 have na:=num_dg a h0 (by omega)
 have nb:=num_dg b (by omega) h2
 unfold rngP rngT
 dsimp only
 split
 ·rename_i e
  subst e
  rw[cut_none (c:=46) (by simp) (dg_no (by decide))]
  simp[na]
 ·rw[cut_at (c:=46) (k:=0) _ rfl (by simp) (dg_no (by decide))]
  simp[na,nb]
theorem join_no {c:UInt8} {sub:List UInt8} (hs:c∉sub): ∀{l:List (List UInt8)},(∀p∈l,c∉p)→c∉join l sub
 | [],_=>by rw[join_nil];simp
 | [x],h=>by rw[join_one];exact h x (by simp)
 |x::y::r,h=>by
  have e:join (x::y::r) sub=x++sub++join (y::r) sub:=by
   rw[join_cons,join_cons];unfold joinTail;simp
  rw[e]
  have a:=h x (by simp)
  have b:=join_no hs (l:=y::r) (fun p hp=>h p (by simp at hp⊢;exact .inr hp))
  simp only[List.mem_append,not_or]
  exact⟨⟨a,hs⟩,b⟩
theorem rngs_no {rs:List (Int×Int)} {c:UInt8} (h:c.toNat<44∨57<c.toNat):c∉join (rs.map rngT) [44]:=
 join_no (by simp;rintro rfl;revert h;decide) fun p hp=>by
  obtain⟨x,_,rfl⟩:=List.mem_map.1 hp
  exact rngT_no (by omega)
theorem op_cases {c:UInt8} (h:opOk c=true):c=110∨c=105∨c=118∨c=119∨c=102∨c=116:=by
 simpa[opOk] using h
theorem head_no {r:Rl} (h:opOk r.op=true) {c:UInt8} (hc:c=61∨c=33∨c=97∨c=111∨c=44):c∉headT r:=by
 have n1:c≠r.op:=by
  rcases op_cases h with e|e|e|e|e|e<;>rcases hc with rfl|rfl|rfl|rfl|rfl<;>rw[e]<;>decide
 have n2:c∉dg r.mod:=dg_no (by rcases hc with rfl|rfl|rfl|rfl|rfl<;>decide)
 have n3:c∉pcS:=by rcases hc with rfl|rfl|rfl|rfl|rfl<;>decide
 unfold headT
 split
 ·simpa using n1
 ·simp[n1,n2,n3]
theorem relT_no {r:Rl} (h:opOk r.op=true) {c:UInt8} (hc:c=97∨c=111):c∉relT r:=by
 have n1:=head_no h (c:=c) (by rcases hc with rfl|rfl<;>simp)
 have n2:c∉join (r.rs.map rngT) [44]:=rngs_no (by rcases hc with rfl|rfl<;>decide)
 have n3:c∉(if r.no then neS else eqS):=by rcases hc with rfl|rfl<;>split<;>decide
 unfold relT
 simp[n1,n2,n3]
theorem headP_T (r:Rl) (h:relOk r=true):opP (cut (headT r) pcS).1=r.op∧(if (cut (headT r) pcS).2.2 then num (cut (headT r) pcS).2.1 else 0)=r.mod:=by
 simp only[relOk,Bool.and_eq_true,decide_eq_true_eq] at h
 obtain⟨⟨⟨⟨h0,h1⟩,h2⟩,_⟩,_⟩:=h
 have n1:(37:UInt8)∉ [r.op]:=by
  rcases op_cases h0 with e|e|e|e|e|e<;>rw[e]<;>decide
 unfold headT
 split
 ·rename_i e
  rw[cut_none (c:=37) (by decide) n1]
  simp[opP,e]
 ·rw[cut_at (c:=37) (k:=1) _ rfl (by decide) n1]
  simp[opP,num_dg r.mod h1 h2]
theorem relP_T (r:Rl) (h:relOk r=true):relP (relT r)=r:=by
 obtain⟨e1,e2⟩:=headP_T r h
 simp only[relOk,Bool.and_eq_true,decide_eq_true_eq] at h
 obtain⟨⟨⟨⟨h0,_⟩,_⟩,h3⟩,h4⟩:=h
 have e3:(split (join (r.rs.map rngT) [44]) [44]).map rngP=r.rs:=by
  rw[split_join (c:=44) (k:=0) rfl (by simp) (by simpa using h3) (fun p hp=>by obtain⟨x,_,rfl⟩:=List.mem_map.1 hp;exact rngT_no (by decide)),List.map_map]
  rw[List.map_congr_left (f:=rngP∘rngT) (g:=id) (fun p hp=>rngP_T p (List.all_eq_true.1 h4 p hp))]
  simp
 have key:(cut (relT r) eqS).2.2=!r.no∧hd (relT r)=(headT r,join (r.rs.map rngT) [44]):=by
  have nh:=head_no h0 (c:=61) (by simp)
  cases hn:r.no with
  |false=>
   have e:relT r=headT r++eqS++join (r.rs.map rngT) [44]:=by unfold relT;rw[hn];rfl
   have c:=cut_at (c:=61) (k:=1) (sub:=eqS) (join (r.rs.map rngT) [44]) rfl (by decide) nh
   rw[←e] at c
   unfold hd
   rw[c]
   exact⟨rfl,rfl⟩
  |true=>
   have e:relT r=headT r++neS++join (r.rs.map rngT) [44]:=by unfold relT;rw[hn];rfl
   have c:=cut_at (c:=33) (k:=1) (sub:=neS) (join (r.rs.map rngT) [44]) rfl (by decide) (head_no h0 (by simp))
   rw[←e] at c
   have c2:cut (relT r) eqS=(relT r,[],false):=by
    unfold cut
    have i:index (relT r) eqS= -1:=by
     refine index_none fun j _=>?_
     cases ho:occAt (relT r) eqS j with
     |false=>rfl
     |true=>
      exfalso
      obtain⟨T,hT⟩:=List.isPrefixOf_iff_prefix.1 (show eqS.isPrefixOf ((relT r).drop j)=true from ho)
      have g0:(relT r)[j]?=some 32:=by rw[←Nat.add_zero j,←List.getElem?_drop,←hT];rfl
      have g1:(relT r)[j+1]?=some 61:=by rw[←List.getElem?_drop,←hT];rfl
      rw[e,List.append_assoc] at g0 g1
      have hj:(headT r).length≤j+1:=by
       rcases Nat.lt_or_ge (j+1) (headT r).length with hl|hl
       ·rw[List.getElem?_append_left hl] at g1;exact absurd (List.mem_of_getElem? g1) nh
       ·exact hl
      rw[List.getElem?_append_right hj] at g1
      have hm: ∀m:Nat,(neS++join (r.rs.map rngT) [44])[m]?=some 61→m=2:=fun m hm=>by
       match m with
       |0=>exact absurd (show some (32:UInt8)=some 61 from hm) (by decide)
       |1=>exact absurd (show some (33:UInt8)=some 61 from hm) (by decide)
       |2=>rfl
       |3=>exact absurd (show some (32:UInt8)=some 61 from hm) (by decide)
       |m+4=>
        have:(join (r.rs.map rngT) [44])[m]?=some 61:=hm
        exact absurd (List.mem_of_getElem? this) (rngs_no (by decide))
      have:=hm _ g1
      rw[List.getElem?_append_right (by omega),show j-(headT r).length=1 by omega] at g0
      exact absurd (show some (33:UInt8)=some 32 from g0) (by decide)
    rw[i,if_neg (by decide)]
   unfold hd
   rw[c2,c]
   exact⟨rfl,rfl⟩
 unfold relP
 rw[key.1,key.2]
 dsimp only
 rw[e1,e2,e3,Bool.not_not]
theorem part_parts {l:List Rl} (h:partOk l=true):l≠ []∧ ∀x∈l,relOk x=true:=by
 simp only[partOk,Bool.and_eq_true,Bool.not_eq_true',List.isEmpty_eq_false_iff] at h
 exact⟨h.1,List.all_eq_true.1 h.2⟩
theorem shape_parts {r:Rule} (h:shapeOk r=true):r≠ []∧ ∀x∈r,partOk x=true:=by
 simp only[shapeOk,Bool.and_eq_true,Bool.not_eq_true',List.isEmpty_eq_false_iff] at h
 exact⟨h.1,List.all_eq_true.1 h.2⟩
theorem op_of {r:Rl} (h:relOk r=true):opOk r.op=true:=by
 simp only[relOk,Bool.and_eq_true,decide_eq_true_eq] at h
 exact h.1.1.1.1
theorem partP_T (l:List Rl) (h:partOk l=true):partP (partT l)=l:=by
 obtain⟨h1,h2⟩:=part_parts h
 unfold partP partT
 rw[split_join (c:=97) (k:=1) rfl (by decide) (by simpa using h1) (fun p hp=>by obtain⟨x,hx,rfl⟩:=List.mem_map.1 hp;exact relT_no (op_of (h2 x hx)) (by simp)),List.map_map]
 rw[List.map_congr_left (f:=relP∘relT) (g:=id) (fun p hp=>relP_T p (h2 p hp))]
 simp
theorem partT_no {l:List Rl} (h:partOk l=true):(111:UInt8)∉partT l:=
 join_no (by decide) fun p hp=>by
  obtain⟨x,hx,rfl⟩:=List.mem_map.1 hp
  exact relT_no (op_of ((part_parts h).2 x hx)) (by simp)
/-- there and back -/
theorem ruleP_T (r:Rule) (h:shapeOk r=true):ruleP (ruleT r)=r:=by
 obtain⟨h1,h2⟩:=shape_parts h
 unfold ruleP ruleT
 rw[split_join (c:=111) (k:=1) rfl (by decide) (by simpa using h1) (fun p hp=>by obtain⟨x,hx,rfl⟩:=List.mem_map.1 hp;exact partT_no (h2 x hx)),List.map_map]
 rw[List.map_congr_left (f:=partP∘partT) (g:=id) (fun p hp=>partP_T p (h2 p hp))]
 simp
theorem ruleE_zero {r:Rule}:ruleE r=0↔shapeOk r=true∧count r≤20:=by
 unfold ruleE
 split
 ·split<;>constructor<;>intro h
  ·omega
  ·omega
  ·exact⟨by assumption,by omega⟩
  ·rfl
 ·constructor
  ·intro h;omega
  ·intro h;exact absurd h.1 (by assumption)
end Rul
namespace Go.Proofs.YtldbfkccieipjaaGreatDoor
open Go.RowKit

/-- a slice of elements of m cells each, of which each lies as C says -/
def SlAt {α:Type} (m:Nat) (C:World→Nat→Nat→α→Prop) (w:World) (v:Value) (l:List α):Prop:=
 (l= []∧ ∃a c,v= .slice a 0 c)∨
 ∃b off cap,v= .slice (some ⟨b,off,none⟩) l.length cap∧0<l.length∧l.length≤cap∧cap≤maxLen∧ ∀(j:Nat) x,l[j]?=some x→C w b (off+j*m) x
theorem SlAt.imp {α:Type} {m:Nat} {C:World→Nat→Nat→α→Prop} {w w':World} {v:Value} {l:List α} (h:SlAt m C w v l) (hC: ∀b k x,x∈l→C w b k x→C w' b k x):SlAt m C w' v l:=by
 rcases h with h|⟨b,off,cap,h1,h2,h3,h4,h5⟩
 ·exact .inl h
 ·exact .inr ⟨b,off,cap,h1,h2,h3,h4,fun j x hx=>hC _ _ _ (List.mem_of_getElem? hx) (h5 j x hx)⟩
theorem SlAt.spread {α:Type} {m:Nat} {C:World→Nat→Nat→α→Prop} {w:World} {v:Value} {l:List α} (h:SlAt m C w v l):
  ∃A cap,v= .slice A l.length cap∧l.length≤maxLen∧ ∀(j:Nat) x,l[j]?=some x→ ∃b off,A=some ⟨b,off,none⟩∧C w b (off+j*m) x:=by
 rcases h with⟨rfl,a,c,rfl⟩|⟨b,off,cap,rfl,_,h3,h4,h5⟩
 ·exact⟨a,c,rfl,Nat.zero_le _,fun j x hx=>by simp at hx⟩
 ·exact⟨_,cap,rfl,by omega,fun j x hx=>⟨b,off,rfl,h5 j x hx⟩⟩
theorem SlAt.isSlice {α:Type} {m:Nat} {C:World→Nat→Nat→α→Prop} {w:World} {v:Value} {l:List α} (h:SlAt m C w v l): ∃a n c,v= .slice a n c:=by
 obtain⟨A,cap,e,_⟩:=h.spread
 exact⟨_,_,_,e⟩
/-- a range's two cells -/
def RngC (w:World) (b k:Nat) (p:Int×Int):Prop:=w.cell? ⟨b,k,none⟩=some (.int .i64 p.1)∧w.cell? ⟨b,k+1,none⟩=some (.int .i64 p.2)
/-- a relation's four cells -/
def RelC (w:World) (b k:Nat) (r:Rul.Rl):Prop:= ∃a n c,w.cell? ⟨b,k,none⟩=some (.int .u8 (r.op.toNat:Int))∧w.cell? ⟨b,k+1,none⟩=some (.int .i64 r.mod)∧w.cell? ⟨b,k+2,none⟩=some (.bool r.no)∧w.cell? ⟨b,k+3,none⟩=some (.slice a n c)∧SlAt 2 RngC w (.slice a n c) r.rs
/-- a part's cell -/
def PartC (w:World) (b k:Nat) (l:List Rul.Rl):Prop:= ∃a n c,w.cell? ⟨b,k,none⟩=some (.slice a n c)∧SlAt 4 RelC w (.slice a n c) l
theorem RngC.below {w w':World} {b k:Nat} {p:Int×Int} (h:RngC w b k p) (hb:Below w.heap.size w w'):RngC w' b k p:=⟨cell_keep h.1 hb,cell_keep h.2 hb⟩
theorem SlAt.rngs_below {w w':World} {v:Value} {l:List (Int×Int)} (h:SlAt 2 RngC w v l) (hb:Below w.heap.size w w'):SlAt 2 RngC w' v l:=h.imp fun _ _ _ _ g=>g.below hb
theorem RelC.below {w w':World} {b k:Nat} {r:Rul.Rl} (h:RelC w b k r) (hb:Below w.heap.size w w'):RelC w' b k r:=by
 obtain⟨a,n,c,h0,h1,h2,h3,h4⟩:=h
 exact⟨a,n,c,cell_keep h0 hb,cell_keep h1 hb,cell_keep h2 hb,cell_keep h3 hb,h4.rngs_below hb⟩
theorem SlAt.rels_below {w w':World} {v:Value} {l:List Rul.Rl} (h:SlAt 4 RelC w v l) (hb:Below w.heap.size w w'):SlAt 4 RelC w' v l:=h.imp fun _ _ _ _ g=>g.below hb
theorem PartC.below {w w':World} {b k:Nat} {l:List Rul.Rl} (h:PartC w b k l) (hb:Below w.heap.size w w'):PartC w' b k l:=by
 obtain⟨a,n,c,h0,h1⟩:=h
 exact⟨a,n,c,cell_keep h0 hb,h1.rels_below hb⟩
theorem SlAt.rule_below {w w':World} {v:Value} {l:Rul.Rule} (h:SlAt 1 PartC w v l) (hb:Below w.heap.size w w'):SlAt 1 PartC w' v l:=h.imp fun _ _ _ _ g=>g.below hb
theorem any_take' {α:Type} {L:List α} {p:α→Bool} {k:Nat} {x:α} (h:L[k]?=some x):(L.take (k+1)).any p=((L.take k).any p||p x):=by
 rw[List.take_add_one,h];simp
open Go.RowKit
namespace Ms
/-- a node: its kind, text, offset, cases; a case: its key and body -/
inductive Nd where
 |mk (kind:Int) (text:List UInt8) (off:Int) (cases:List (List UInt8×List Nd))
def Nd.kind:Nd→Int| .mk k _ _ _=>k
def Nd.text:Nd→List UInt8| .mk _ t _ _=>t
def Nd.off:Nd→Int| .mk _ _ o _=>o
def Nd.cases:Nd→List (List UInt8×List Nd)| .mk _ _ _ c=>c
/-- a node's four cells, and what hangs on them -/
def NdC:Nat→World→Nat→Nat→Nd→Prop
 |0,_,_,_,_=>False
 |f+1,w,b,k,x=> ∃a n c,w.cell? ⟨b,k,none⟩=some (.int .i64 x.kind)∧w.cell? ⟨b,k+1,none⟩=some (.string ⟨x.text.toArray⟩)∧w.cell? ⟨b,k+2,none⟩=some (.int .i64 x.off)∧w.cell? ⟨b,k+3,none⟩=some (.slice a n c)∧
   SlAt 2 (fun w b k y=> ∃a n c,w.cell? ⟨b,k,none⟩=some (.string ⟨y.1.toArray⟩)∧w.cell? ⟨b,k+1,none⟩=some (.slice a n c)∧SlAt 4 (NdC f) w (.slice a n c) y.2∧y.1.length≤2000000∧y.2.length≤2000000) w (.slice a n c) x.cases∧x.text.length≤2000000∧x.cases.length≤2000000
/-- a case's two cells, and what hangs on them -/
def CsC (f:Nat) (w:World) (b k:Nat) (y:List UInt8×List Nd):Prop:= ∃a n c,w.cell? ⟨b,k,none⟩=some (.string ⟨y.1.toArray⟩)∧w.cell? ⟨b,k+1,none⟩=some (.slice a n c)∧SlAt 4 (NdC f) w (.slice a n c) y.2∧y.1.length≤2000000∧y.2.length≤2000000
abbrev MsgAt (f:Nat):=SlAt 4 (NdC f)
abbrev CassAt (f:Nat):=SlAt 2 (CsC f)
theorem NdC.below: ∀(f:Nat) {w w':World} {b k:Nat} {x:Nd},NdC f w b k x→Below w.heap.size w w'→NdC f w' b k x
 |0,_,_,_,_,_,h,_=>h
 |f+1,w,w',b,k,x,h,hb=>by
  obtain⟨a,n,c,h0,h1,h2,h3,h4,h5,h6⟩:=h
  refine⟨a,n,c,cell_keep h0 hb,cell_keep h1 hb,cell_keep h2 hb,cell_keep h3 hb,h4.imp fun b k y _ g=>?_,h5,h6⟩
  obtain⟨a',n',c',g0,g1,g2,g3⟩:=g
  exact⟨a',n',c',cell_keep g0 hb,cell_keep g1 hb,g2.imp fun _ _ _ _ q=>NdC.below f q hb,g3⟩
theorem msg_below {f:Nat} {w w':World} {v:Value} {m:List Nd} (h:MsgAt f w v m) (hb:Below w.heap.size w w'):MsgAt f w' v m:=h.imp fun _ _ _ _ q=>NdC.below f q hb
theorem CsC.below {f:Nat} {w w':World} {b k:Nat} {y:List UInt8×List Nd} (h:CsC f w b k y) (hb:Below w.heap.size w w'):CsC f w' b k y:=by
 obtain⟨a',n',c',g0,g1,g2,g3⟩:=h
 exact⟨a',n',c',cell_keep g0 hb,cell_keep g1 hb,msg_below g2 hb,g3⟩
theorem cass_below {f:Nat} {w w':World} {v:Value} {l:List (List UInt8×List Nd)} (h:CassAt f w v l) (hb:Below w.heap.size w w'):CassAt f w' v l:=h.imp fun _ _ _ _ q=>q.below hb
/-- the cases that are looked at -/
def casesOf (x:Nd):List (List UInt8×List Nd):=if x.kind=4∨x.kind=5 then x.cases else []
def bodies (m:List Nd):List (List Nd):=(m.map fun x=>(casesOf x).map (·.2)).flatten
/-- so many and those of the bodies; too many? -/
def lgo (F:List Nd→Int×Bool):Int→List (List Nd)→Int×Bool
 |n,[]=>(n,decide (60<n))
 |n,b::r=>if (F b).2||decide (60<n+(F b).1) then (n+(F b).1,true) else lgo F (n+(F b).1) r
/-- how many nodes; too many, or one too deep? -/
def lrg:Nat→List Nd→Int×Bool
 |0,m=>(0,!m.isEmpty)
 |d+1,m=>lgo (lrg d) m.length (bodies m)
theorem bodies_cons (x:Nd) (m:List Nd):bodies (x::m)=(casesOf x).map (·.2)++bodies m:=by simp[bodies]
theorem lgo_bd {F:List Nd→Int×Bool} {K:Int} (L:List (List Nd)) (hF: ∀b∈L,0≤(F b).1∧(F b).1≤K) (hK:0≤K) (B:Int) (hB:60≤B): ∀n:Int,0≤n→n≤B→0≤(lgo F n L).1∧(lgo F n L).1≤B+K:=by
 induction L with
 |nil=>intro n h0 h1;exact⟨h0,by show n≤_;omega⟩
 |cons b r ih=>
  intro n h0 h1
  have hb:=hF b (by simp)
  unfold lgo
  split
  ·exact⟨by show 0≤n+_;omega,by show n+_≤_;omega⟩
  ·rename_i h
   have: ¬60<n+(F b).1:=by
    intro g;apply h;rw[decide_eq_true g];simp
   exact ih (fun b hb=>hF b (by simp[hb])) _ (by omega) (by omega)
/-- every list is of so many at most -/
theorem lrg_bd: ∀(d f:Nat) {w:World} {v:Value} {m:List Nd},MsgAt f w v m→m.length≤2000000→0≤(lrg d m).1∧(lrg d m).1≤(d:Int)*3000000
 |0,_,_,_,_,_,_=>⟨Int.le_refl _,by simp[lrg]⟩
 |d+1,f,w,v,m,h,hl=>by
  obtain⟨A,cap,e,_,hx⟩:=h.spread
  have hb: ∀b∈bodies m,0≤(lrg d b).1∧(lrg d b).1≤(d:Int)*3000000:=by
   intro b hb
   unfold bodies at hb
   obtain⟨l,hl1,hl2⟩:=List.mem_flatten.1 hb
   obtain⟨x,hxm,rfl⟩:=List.mem_map.1 hl1
   obtain⟨y,hy,rfl⟩:=List.mem_map.1 hl2
   obtain⟨j,hj,ej⟩:=List.getElem_of_mem hxm
   obtain⟨bb,off,_,hc⟩:=hx j x (by rw[List.getElem?_eq_getElem hj,ej])
   cases f with
   |zero=>exact absurd hc (by simp[NdC])
   |succ f=>
    obtain⟨a,n,c,_,_,_,_,h4,_,_⟩:=hc
    obtain⟨A',cap',_,_,hy'⟩:=h4.spread
    have hyc:y∈x.cases:=by
     unfold casesOf at hy
     split at hy
     ·exact hy
     ·simp at hy
    obtain⟨i,hi,ei⟩:=List.getElem_of_mem hyc
    obtain⟨b2,off2,_,a',n',c',_,_,g2,_,g4⟩:=hy' i y (by rw[List.getElem?_eq_getElem hi,ei])
    exact lrg_bd d f g2 g4
  have:=lgo_bd (F:=lrg d) (bodies m) hb (by omega) 2000060 (by omega) m.length (by omega) (by omega)
  exact⟨this.1,by show(lgo (lrg d) _ _).1≤_;omega⟩
/-- from a place on -/
theorem lgo_cases (F:List Nd→Int×Bool) {x:Nd} {m:List Nd} {i:Nat} (h:m[i]?=some x) (n:Int):lgo F n (bodies (m.drop i))=lgo F n ((casesOf x).map (·.2)++bodies (m.drop (i+1))):=by
 obtain⟨hi,e⟩:=List.getElem?_eq_some_iff.1 h
 rw[List.drop_eq_getElem_cons hi,e,bodies_cons]
theorem cases_step {l:List (List UInt8×List Nd)} {k:Nat} {y:List UInt8×List Nd} (h:l[k]?=some y):(l.drop k).map (·.2)=y.2::(l.drop (k+1)).map (·.2):=by
 obtain⟨hi,e⟩:=List.getElem?_eq_some_iff.1 h
 rw[List.drop_eq_getElem_cons hi,e,List.map_cons]
end Ms
end Go.Proofs.YtldbfkccieipjaaGreatDoor
