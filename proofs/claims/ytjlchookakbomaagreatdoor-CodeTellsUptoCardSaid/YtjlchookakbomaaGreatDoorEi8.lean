/- Rules and their texts: how long they are; of what a rule holds. Plain law: no program. -/
import Derived.Test.YtjlchookakbomaaGreatDoorEi7
set_option maxHeartbeats 4000000
set_option maxRecDepth 100000
namespace Go.Proofs.YtjlchookakbomaaGreatDoor
open Go.RowKit
open Dcm (P10 okD nrm)

theorem zKx (a s b t:Int) (w:World) (ha: ¬okD a s):Calls Tryz.prog 58 #[.agg #[.int .i64 a,.int .i64 s],.agg #[.int .i64 b,.int .i64 t]] w fun e w'=>e= .returned (.tuple #[.agg #[.int .i64 0,.int .i64 0],errV 1])∧Below w.heap.size w w':=by
 have C1:=lH fun w=>zDu a s w ha
 clear ha
 go_enter Tryz.func58,Tryz.ntmps58
 go_wp2_with fail
 refine(C1.out _).mono ?_
 rintro e w1 ⟨rfl,hb⟩
 have A1:=Boxed.below (Boxed.alloc (Boxed.alloc (Boxed.made _ #[.int .i64 a,.int .i64 s] 64) _) _) hb
 have B1:=Boxed.below (Boxed.alloc (Boxed.made _ #[.int .i64 b,.int .i64 t] 64) _) hb
 have Z1:=Boxed.below (Boxed.made _ #[.int .i64 0,.int .i64 0] 64) hb
 have W1:=lH (bT (bT (bT (bA w _) (bA _ _)) (bA _ _)) hb)
 clear hb C1
 have ka0:=A1.cell 0 _ rfl
 have ka1:=A1.cell 1 _ rfl
 have kb0:=B1.cell 0 _ rfl
 have kb1:=B1.cell 1 _ rfl
 have kz0:=Z1.cell 0 _ rfl
 have kz1:=Z1.cell 1 _ rfl
 have fz0:=Z1.free 0 (by decide)
 have fz1:=Z1.free 1 (by decide)
 try simp at ka0 ka1 kb0 kb1 kz0 kz1 fz0 fz1
 go_wp2
 refine bodyPost_ret (v:= .tuple #[.agg #[.int .i64 0,.int .i64 0],errV 1]) (by simp[results,Tryz.results58,go_sem,kz0,kz1]) rfl ⟨rfl,?_⟩
 exact(Below.setCell (Below.setCell W1.out (by simp<;>omega) _) (by simp<;>omega) _)

theorem zKy (a s b t:Int) (w:World) (ha:okD a s) (hb': ¬okD b t):Calls Tryz.prog 58 #[.agg #[.int .i64 a,.int .i64 s],.agg #[.int .i64 b,.int .i64 t]] w fun e w'=>e= .returned (.tuple #[.agg #[.int .i64 0,.int .i64 0],errV 1])∧Below w.heap.size w w':=by
 have C1:=lH fun w=>zAx a s w ha
 have C2:=lH fun w=>zDu b t w hb'
 clear ha hb'
 go_enter Tryz.func58,Tryz.ntmps58
 go_wp2_with fail
 refine(C1.out _).mono ?_
 rintro e w1 ⟨rfl,hb⟩
 have A1:=Boxed.below (Boxed.alloc (Boxed.alloc (Boxed.made _ #[.int .i64 a,.int .i64 s] 64) _) _) hb
 have B1:=Boxed.below (Boxed.alloc (Boxed.made _ #[.int .i64 b,.int .i64 t] 64) _) hb
 have Z1:=Boxed.below (Boxed.made _ #[.int .i64 0,.int .i64 0] 64) hb
 have W1:=lH (bT (bT (bT (bA w _) (bA _ _)) (bA _ _)) hb)
 clear hb C1
 have ka0:=A1.cell 0 _ rfl
 have ka1:=A1.cell 1 _ rfl
 have kb0:=B1.cell 0 _ rfl
 have kb1:=B1.cell 1 _ rfl
 try simp at ka0 ka1 kb0 kb1
 go_wp2_with fail
 refine(C2.out _).mono ?_
 rintro e w2 ⟨rfl,hb⟩
 have A2:=A1.below hb
 have B2:=B1.below hb
 have Z2:=Z1.below hb
 have W2:=lH (bT W1.out hb)
 clear hb C2 A1 B1 Z1 W1 ka0 ka1 kb0 kb1
 have ka0:=A2.cell 0 _ rfl
 have ka1:=A2.cell 1 _ rfl
 have kb0:=B2.cell 0 _ rfl
 have kb1:=B2.cell 1 _ rfl
 have kz0:=Z2.cell 0 _ rfl
 have kz1:=Z2.cell 1 _ rfl
 have fz0:=Z2.free 0 (by decide)
 have fz1:=Z2.free 1 (by decide)
 try simp at ka0 ka1 kb0 kb1 kz0 kz1 fz0 fz1
 go_wp2
 refine bodyPost_ret (v:= .tuple #[.agg #[.int .i64 0,.int .i64 0],errV 1]) (by simp[results,Tryz.results58,go_sem,kz0,kz1]) rfl ⟨rfl,?_⟩
 exact(Below.setCell (Below.setCell W2.out (by simp<;>omega) _) (by simp<;>omega) _)

inductive AddC (Q U M t:Int):Value→Prop
 |ok: ¬2000000000000000/U+1<Q→ ¬Q< -(2000000000000000/U)-1→ ¬Q*U+M< -1000000000000000→ ¬1000000000000000<Q*U+M→AddC Q U M t (.tuple #[.agg #[.int .i64 (Q*U+M),.int .i64 t],.nilIface])
 |far:2000000000000000/U+1<Q→AddC Q U M t (.tuple #[.agg #[.int .i64 0,.int .i64 0],errV 1])
 |far2: ¬2000000000000000/U+1<Q→Q< -(2000000000000000/U)-1→AddC Q U M t (.tuple #[.agg #[.int .i64 0,.int .i64 0],errV 1])
 |lo: ¬2000000000000000/U+1<Q→ ¬Q< -(2000000000000000/U)-1→Q*U+M< -1000000000000000→AddC Q U M t (.tuple #[.agg #[.int .i64 0,.int .i64 0],errV 1])
 |hi: ¬2000000000000000/U+1<Q→ ¬Q< -(2000000000000000/U)-1→ ¬Q*U+M< -1000000000000000→1000000000000000<Q*U+M→AddC Q U M t (.tuple #[.agg #[.int .i64 0,.int .i64 0],errV 1])

theorem zB3 (a s b t U:Int) (V:Value) (w:World) (ha:okD a s) (hb':okD b t) (hst:s≤t) (hU:P10 (t-s)=U) (h:AddC (a+b.tdiv U) U (b.tmod U) t V):
  Calls Tryz.prog 58 #[.agg #[.int .i64 a,.int .i64 s],.agg #[.int .i64 b,.int .i64 t]] w fun e w'=>e= .returned V∧Below w.heap.size w w':=by
 have C1:=lH fun w=>zAx a s w ha
 have C2:=lH fun w=>zAx b t w hb'
 obtain⟨s0,s1,a0,a1⟩:=ha
 obtain⟨t0,t1,b0,b1⟩:=hb'
 have u0:=Dcm.zAj (t-s)
 rw[hU] at u0
 have C3: ∀w,Calls Tryz.prog 97 #[.int .i64 (t-s)] w fun e w'=>e= .returned (.int .i64 U)∧w=w':=fun w=>hU▸zBk (t-s) w (by omega) (by omega)
 have C3:=lH C3
 clear hU
 have q0:=Dcm.zEz b U u0.1 ⟨by omega,by omega⟩
 have r0:=Dcm.zCv b U u0.1
 have Q0:=Int.ediv_nonneg (by omega:(0:Int)≤2000000000000000) (by omega:0≤U)
 have Q1:=Int.ediv_le_self U (by omega:(0:Int)≤2000000000000000)
 rcases h with⟨hs1,hs2,hn1,hn2⟩|⟨hs1⟩|⟨hs1,hs2⟩|⟨hs1,hs2,hn1⟩|⟨hs1,hs2,hn1,hn2⟩
 all_goals
  try have n0:=Dcm.zFR (a+b.tdiv U) U u0.1 u0.2 ⟨hs1,hs2⟩
  go_enter Tryz.func58,Tryz.ntmps58
  go_wp2_with fail
  refine(C1.out _).mono ?_
  rintro e w1 ⟨rfl,hb⟩
  have A1:=Boxed.below (Boxed.alloc (Boxed.alloc (Boxed.made _ #[.int .i64 a,.int .i64 s] 64) _) _) hb
  have B1:=Boxed.below (Boxed.alloc (Boxed.made _ #[.int .i64 b,.int .i64 t] 64) _) hb
  have Z1:=Boxed.below (Boxed.made _ #[.int .i64 0,.int .i64 0] 64) hb
  have W1:=lH (bT (bT (bT (bA w _) (bA _ _)) (bA _ _)) hb)
  clear hb C1
  have ka0:=A1.cell 0 _ rfl
  have ka1:=A1.cell 1 _ rfl
  have kb0:=B1.cell 0 _ rfl
  have kb1:=B1.cell 1 _ rfl
  try simp at ka0 ka1 kb0 kb1
  go_wp2_with fail
  refine(C2.out _).mono ?_
  rintro e w2 ⟨rfl,hb⟩
  have A2:=A1.below hb
  have B2:=B1.below hb
  have Z2:=Z1.below hb
  have W2:=lH (bT W1.out hb)
  clear hb C2 A1 B1 Z1 W1 ka0 ka1 kb0 kb1
  have A2:=A2.at (q:=w.heap.size) rfl
  have B2:=B2.at (q:=w.heap.size+1) (by simp)
  have Z2:=Z2.at (q:=w.heap.size+1+1) (by simp)
  have ka0:=A2.cell 0 _ rfl
  have ka1:=A2.cell 1 _ rfl
  have kb0:=B2.cell 0 _ rfl
  have kb1:=B2.cell 1 _ rfl
  have kz0:=Z2.cell 0 _ rfl
  have kz1:=Z2.cell 1 _ rfl
  have fz0:=Z2.free 0 (by decide)
  have fz1:=Z2.free 1 (by decide)
  try simp at ka0 ka1 kb0 kb1 kz0 kz1 fz0 fz1
  have e9:(-2000000000000000:Int).tdiv U= -(2000000000000000/U):=by rw[Int.neg_tdiv,Int.tdiv_eq_ediv_of_nonneg (by omega)]
  go_wp2_with fail
  refine(C3.out _).mono ?_
  rintro e w' ⟨rfl,rfl⟩
  go_wp2_with fail
  go_big_quiet (fail)
  go_wp2
  refine bodyPost_ret (by simp[results,Tryz.results58,go_sem,kz0,kz1]) rfl ⟨rfl,?_⟩
  exact(by
   repeat(first|exact W2.out|refine zAb ?_ _|refine Below.setCell ?_ (by simp<;>omega) _))

theorem zB4 (a s b t U:Int) (V:Value) (w:World) (ha:okD a s) (hb':okD b t) (hst:t<s) (hU:P10 (s-t)=U) (h:AddC (b+a.tdiv U) U (a.tmod U) s V):
  Calls Tryz.prog 58 #[.agg #[.int .i64 a,.int .i64 s],.agg #[.int .i64 b,.int .i64 t]] w fun e w'=>e= .returned V∧Below w.heap.size w w':=by
 have C1:=lH fun w=>zAx a s w ha
 have C2:=lH fun w=>zAx b t w hb'
 obtain⟨s0,s1,a0,a1⟩:=ha
 obtain⟨t0,t1,b0,b1⟩:=hb'
 have u0:=Dcm.zAj (s-t)
 rw[hU] at u0
 have C3: ∀w,Calls Tryz.prog 97 #[.int .i64 (s-t)] w fun e w'=>e= .returned (.int .i64 U)∧w=w':=fun w=>hU▸zBk (s-t) w (by omega) (by omega)
 have C3:=lH C3
 clear hU
 have q0:=Dcm.zEz a U u0.1 ⟨by omega,by omega⟩
 have r0:=Dcm.zCv a U u0.1
 have Q0:=Int.ediv_nonneg (by omega:(0:Int)≤2000000000000000) (by omega:0≤U)
 have Q1:=Int.ediv_le_self U (by omega:(0:Int)≤2000000000000000)
 rcases h with⟨hs1,hs2,hn1,hn2⟩|⟨hs1⟩|⟨hs1,hs2⟩|⟨hs1,hs2,hn1⟩|⟨hs1,hs2,hn1,hn2⟩
 all_goals
  try have n0:=Dcm.zFR (b+a.tdiv U) U u0.1 u0.2 ⟨hs1,hs2⟩
  go_enter Tryz.func58,Tryz.ntmps58
  go_wp2_with fail
  refine(C1.out _).mono ?_
  rintro e w1 ⟨rfl,hb⟩
  have A1:=Boxed.below (Boxed.alloc (Boxed.alloc (Boxed.made _ #[.int .i64 a,.int .i64 s] 64) _) _) hb
  have B1:=Boxed.below (Boxed.alloc (Boxed.made _ #[.int .i64 b,.int .i64 t] 64) _) hb
  have Z1:=Boxed.below (Boxed.made _ #[.int .i64 0,.int .i64 0] 64) hb
  have W1:=lH (bT (bT (bT (bA w _) (bA _ _)) (bA _ _)) hb)
  clear hb C1
  have ka0:=A1.cell 0 _ rfl
  have ka1:=A1.cell 1 _ rfl
  have kb0:=B1.cell 0 _ rfl
  have kb1:=B1.cell 1 _ rfl
  try simp at ka0 ka1 kb0 kb1
  go_wp2_with fail
  refine(C2.out _).mono ?_
  rintro e w2 ⟨rfl,hb⟩
  have A2:=A1.below hb
  have B2:=B1.below hb
  have Z2:=Z1.below hb
  have W2:=lH (bT W1.out hb)
  clear hb C2 A1 B1 Z1 W1 ka0 ka1 kb0 kb1
  have A2:=A2.at (q:=w.heap.size) rfl
  have B2:=B2.at (q:=w.heap.size+1) (by simp)
  have Z2:=Z2.at (q:=w.heap.size+1+1) (by simp)
  have ka0:=A2.cell 0 _ rfl
  have ka1:=A2.cell 1 _ rfl
  have kb0:=B2.cell 0 _ rfl
  have kb1:=B2.cell 1 _ rfl
  try simp at ka0 ka1 kb0 kb1
  have fa0:=A2.free 0 (by simp)
  have fa1:=A2.free 1 (by simp)
  have fb0:=B2.free 0 (by simp)
  have fb1:=B2.free 1 (by simp)
  go_wp2_with fail
  have A3:=(((A2.set 0 (.int .i64 b) (by simp)).set 1 (.int .i64 t) (by simp)).far (q:=w.heap.size+1) (by omega) 0 (.int .i64 a)).far (q:=w.heap.size+1) (by omega) 1 (.int .i64 s)
  have B3:=(((B2.far (q:=w.heap.size) (by omega) 0 (.int .i64 b)).far (q:=w.heap.size) (by omega) 1 (.int .i64 t)).set 0 (.int .i64 a) (by simp)).set 1 (.int .i64 s) (by simp)
  have Z3:=(((Z2.far (q:=w.heap.size) (by omega) 0 (.int .i64 b)).far (q:=w.heap.size) (by omega) 1 (.int .i64 t)).far (q:=w.heap.size+1) (by omega) 0 (.int .i64 a)).far (q:=w.heap.size+1) (by omega) 1 (.int .i64 s)
  have W3:=lH ((((W2.out.setCell (p:=⟨w.heap.size,0,none⟩) (Nat.le_refl _) (.int .i64 b)).setCell (p:=⟨w.heap.size,1,none⟩) (Nat.le_refl _) (.int .i64 t)).setCell (p:=⟨w.heap.size+1,0,none⟩) (Nat.le_succ _) (.int .i64 a)).setCell (p:=⟨w.heap.size+1,1,none⟩) (Nat.le_succ _) (.int .i64 s))
  clear A2 B2 Z2 W2 ka0 ka1 kb0 kb1 fa0 fa1 fb0 fb1
  generalize (((w2.setCell ⟨w.heap.size,0,none⟩ (.int .i64 b)).setCell ⟨w.heap.size,1,none⟩ (.int .i64 t)).setCell ⟨w.heap.size+1,0,none⟩ (.int .i64 a)).setCell ⟨w.heap.size+1,1,none⟩ (.int .i64 s)=w3 at*
  have ka0:=A3.cell 0 _ rfl
  have ka1:=A3.cell 1 _ rfl
  have kb0:=B3.cell 0 _ rfl
  have kb1:=B3.cell 1 _ rfl
  have kz0:=Z3.cell 0 _ rfl
  have kz1:=Z3.cell 1 _ rfl
  have fz0:=Z3.free 0 (by simp)
  have fz1:=Z3.free 1 (by simp)
  clear A3 B3 Z3
  have e9:(-2000000000000000:Int).tdiv U= -(2000000000000000/U):=by rw[Int.neg_tdiv,Int.tdiv_eq_ediv_of_nonneg (by omega)]
  refine(C3.out _).mono ?_
  rintro e w' ⟨rfl,rfl⟩
  go_wp2_with fail
  go_big_quiet (fail)
  go_wp2
  refine bodyPost_ret (by simp[results,Tryz.results58,go_sem,kz0,kz1]) rfl ⟨rfl,?_⟩
  exact(by
   repeat(first|exact W3.out|refine zAb ?_ _|refine Below.setCell ?_ (by simp<;>omega) _))

def addOk (a s b t:Int):Prop:=okD a s∧okD b t∧ -1000000000000000≤Dcm.addC a s b t∧Dcm.addC a s b t≤1000000000000000
instance (a s b t:Int):Decidable (addOk a s b t):=by unfold addOk;infer_instance
theorem zMb (a s b t:Int) (w:World) (h:addOk a s b t):
  Calls Tryz.prog 58 #[.agg #[.int .i64 a,.int .i64 s],.agg #[.int .i64 b,.int .i64 t]] w fun e w'=>e= .returned (.tuple #[.agg #[.int .i64 (Dcm.addC a s b t),.int .i64 (Dcm.addS s t)],.nilIface])∧Below w.heap.size w w':=by
 obtain⟨ha,hb,h1,h2⟩:=h
 unfold Dcm.addC Dcm.addS at*
 by_cases hst:s≤t
 ·rw[if_pos hst] at h1 h2⊢
  rw[if_pos hst]
  have u0:=(Dcm.zAj (t-s)).1
  have e:=Dcm.zCu a b (P10 (t-s)) u0
  have r0:=Dcm.zCv b (P10 (t-s)) u0
  have far:=Dcm.zHf (a+b.tdiv (P10 (t-s))) (b.tmod (P10 (t-s))) (P10 (t-s)) u0 r0
  rw[←e]
  exact zB3 a s b t _ _ w ha hb hst rfl (.ok (fun g=>by have:=far (.inl g);omega) (fun g=>by have:=far (.inr g);omega) (by omega) (by omega))
 rw[if_neg hst] at h1 h2⊢
 rw[if_neg hst]
 have u0:=(Dcm.zAj (s-t)).1
 have e:=Dcm.zCu b a (P10 (s-t)) u0
 have r0:=Dcm.zCv a (P10 (s-t)) u0
 have far:=Dcm.zHf (b+a.tdiv (P10 (s-t))) (a.tmod (P10 (s-t))) (P10 (s-t)) u0 r0
 rw[←e]
 exact zB4 a s b t _ _ w ha hb (by omega) rfl (.ok (fun g=>by have:=far (.inl g);omega) (fun g=>by have:=far (.inr g);omega) (by omega) (by omega))
theorem zNs (a s b t:Int) (w:World) (h: ¬addOk a s b t):
  Calls Tryz.prog 58 #[.agg #[.int .i64 a,.int .i64 s],.agg #[.int .i64 b,.int .i64 t]] w fun e w'=>e= .returned (.tuple #[.agg #[.int .i64 0,.int .i64 0],errV 1])∧Below w.heap.size w w':=by
 by_cases ha:okD a s
 ·by_cases hb:okD b t
  ·have h3: ¬(-1000000000000000≤Dcm.addC a s b t∧Dcm.addC a s b t≤1000000000000000):=fun g=>h ⟨ha,hb,g.1,g.2⟩
   unfold Dcm.addC at h3
   by_cases hst:s≤t
   ·rw[if_pos hst] at h3
    have u0:=(Dcm.zAj (t-s)).1
    have e:=Dcm.zCu a b (P10 (t-s)) u0
    by_cases g1:2000000000000000/P10 (t-s)+1<a+b.tdiv (P10 (t-s))
    ·exact zB3 a s b t _ _ w ha hb hst rfl (.far g1)
    by_cases g2:a+b.tdiv (P10 (t-s))< -(2000000000000000/P10 (t-s))-1
    ·exact zB3 a s b t _ _ w ha hb hst rfl (.far2 g1 g2)
    by_cases g3:(a+b.tdiv (P10 (t-s)))*P10 (t-s)+b.tmod (P10 (t-s))< -1000000000000000
    ·exact zB3 a s b t _ _ w ha hb hst rfl (.lo g1 g2 g3)
    exact zB3 a s b t _ _ w ha hb hst rfl (.hi g1 g2 g3 (by omega))
   rw[if_neg hst] at h3
   have u0:=(Dcm.zAj (s-t)).1
   have e:=Dcm.zCu b a (P10 (s-t)) u0
   by_cases g1:2000000000000000/P10 (s-t)+1<b+a.tdiv (P10 (s-t))
   ·exact zB4 a s b t _ _ w ha hb (by omega) rfl (.far g1)
   by_cases g2:b+a.tdiv (P10 (s-t))< -(2000000000000000/P10 (s-t))-1
   ·exact zB4 a s b t _ _ w ha hb (by omega) rfl (.far2 g1 g2)
   by_cases g3:(b+a.tdiv (P10 (s-t)))*P10 (s-t)+a.tmod (P10 (s-t))< -1000000000000000
   ·exact zB4 a s b t _ _ w ha hb (by omega) rfl (.lo g1 g2 g3)
   exact zB4 a s b t _ _ w ha hb (by omega) rfl (.hi g1 g2 g3 (by omega))
  exact zKy a s b t w ha hb
 exact zKx a s b t w ha
end Go.Proofs.YtjlchookakbomaaGreatDoor
namespace Go.Proofs.YtjlchookakbomaaGreatDoor.Dcm

def flo (c s:Int):Int:=c/P10 s
def lef (c s:Int):Int:=c%P10 s
theorem zAW (c s:Int):c=flo c s*P10 s+lef c s:=by
 have:=Int.emod_add_mul_ediv c (P10 s)
 unfold flo lef
 rw[Int.mul_comm];omega
theorem zAZ (c s:Int):0≤lef c s∧lef c s<P10 s:=
 ⟨Int.emod_nonneg _ (by have:=zAN s;omega),Int.emod_lt_of_pos _ (zAN s)⟩
theorem zBl (c s:Int) (h: -1000000000000000≤c∧c≤1000000000000000): -1000000000000000≤flo c s∧flo c s≤1000000000000000:=by
 have h1:=zAW c s
 have h2:=zAZ c s
 have h3:=zAN s
 generalize flo c s=x at*
 generalize lef c s=r at*
 generalize P10 s=U at*
 constructor
 ·rcases Int.lt_or_le x (-1000000000000000) with g|g
  ·have:(x+1)*U≤(-1000000000000000)*1:=by
    have:(-(x+1))*U≥1000000000000000*1:=Int.mul_le_mul (by omega) (by omega) (by omega) (by omega)
    rw[Int.neg_mul] at this;omega
   rw[Int.add_mul] at this;omega
  exact g
 rcases Int.lt_or_le 1000000000000000 x with g|g
 ·have:x*U≥1000000000000001*1:=Int.mul_le_mul (by omega) (by omega) (by omega) (by omega)
  omega
 exact g
theorem zBb (c s S:Int) (s0:0≤s) (h:s≤S) (S9:S≤9):c*P10 (S-s)=flo c s*P10 S+lef c s*P10 (S-s)∧0≤lef c s*P10 (S-s)∧lef c s*P10 (S-s)<P10 S:=by
 have h1:=zAW c s
 have h2:=zAZ c s
 have e:P10 s*P10 (S-s)=P10 S:=by rw[zLL s (S-s) s0 (by omega) (by omega)];congr 1;omega
 have h3:=zAN (S-s)
 generalize flo c s=x at*
 generalize lef c s=r at*
 generalize P10 (S-s)=V at*
 refine⟨?_,Int.mul_nonneg h2.1 (by omega),?_⟩
 ·rw[h1,Int.add_mul,Int.mul_assoc,e]
 rw[←e];exact Int.mul_lt_mul_of_pos_right h2.2 h3
def ordV (a s b t:Int):Int:=if flo a s=flo b t then lef a s*P10 (9-s)-lef b t*P10 (9-t) else flo a s-flo b t
theorem zKz {a s b t:Int} (ha:okD a s) (hb:okD b t):(ordV a s b t<0↔nrm a s<nrm b t)∧(ordV a s b t=0↔nrm a s=nrm b t):=by
 have e1:=zBb a s 9 ha.1 ha.2.1 (by omega)
 have e2:=zBb b t 9 hb.1 hb.2.1 (by omega)
 have e9:P10 9=1000000000:=rfl
 rw[e9] at e1 e2
 unfold ordV nrm
 generalize a*P10 (9-s)=A at*
 generalize b*P10 (9-t)=B at*
 generalize lef a s*P10 (9-s)=p at*
 generalize lef b t*P10 (9-t)=q at*
 generalize flo a s=x at*
 generalize flo b t=y at*
 split<;>constructor<;>constructor<;>omega

def upB (way low rest U c:Int):Bool:=
 if way=1 then decide (0<rest)&&decide (c<0)
 else if way=3 then decide (0<rest)
 else if way=4 then decide (U<2*rest)||decide (2*rest=U)&&decide (0<c)
 else if way=5 then decide (U<2*rest)||decide (2*rest=U)&&decide (mag low%2=1)
 else false
theorem upB1 (low rest U c:Int):upB 1 low rest U c=(decide (0<rest)&&decide (c<0)):=rfl
theorem upB2 (low rest U c:Int):upB 2 low rest U c=false:=rfl
theorem upB3 (low rest U c:Int):upB 3 low rest U c=decide (0<rest):=rfl
theorem upB4 (low rest U c:Int):upB 4 low rest U c=(decide (U<2*rest)||decide (2*rest=U)&&decide (0<c)):=rfl
theorem upB5 (low rest U c:Int):upB 5 low rest U c=(decide (U<2*rest)||decide (2*rest=U)&&decide (mag low%2=1)):=rfl
def rndF (c U way:Int):Int:=c/U+if upB way (c/U) (c%U) U c then 1 else 0
theorem zFg (n U:Int) (hU:0<U):((-n)/U= -(n/U)∧(-n)%U=0∧n%U=0)∨((-n)/U= -(n/U)-1∧(-n)%U=U-n%U∧0<n%U):=by
 have h1:=Int.emod_add_mul_ediv n U
 have h2:=Int.emod_nonneg n (show U≠0 by omega)
 have h3:=Int.emod_lt_of_pos n hU
 by_cases h:n%U=0
 ·left
  have:=(Int.ediv_emod_unique (a:= -n) (b:=U) (r:=0) (q:= -(n/U)) hU).2 ⟨by rw[Int.mul_neg];omega,by omega,hU⟩
  exact⟨this.1,this.2,h⟩
 right
 have:=(Int.ediv_emod_unique (a:= -n) (b:=U) (r:=U-n%U) (q:= -(n/U)-1) hU).2 ⟨by rw[Int.mul_sub,Int.mul_neg];omega,by omega,by omega⟩
 exact⟨this.1,this.2,by omega⟩
theorem zNt (c s t way:Int) (h:t<s) (h0:1≤way) (h1:way≤5):rndC c s t way=rndF c (P10 (s-t)) way:=by
 have hU:=zAN (s-t)
 unfold rndC rndF
 rw[if_neg (by omega)]
 generalize P10 (s-t)=U at*
 unfold rdU
 by_cases hc:c<0
 ·have e1:mag c= -c:=by unfold mag;rw[if_pos hc]
  have e2:sgn c= -1:=by unfold sgn;rw[if_pos hc]
  obtain⟨n,rfl⟩: ∃n,c= -n:=⟨-c,by omega⟩
  rw[e1,e2,Int.neg_neg]
  have hn:0<n:=by omega
  have g1:=Int.emod_add_mul_ediv n U
  have g2:=Int.emod_nonneg n (show U≠0 by omega)
  have g3:=Int.emod_lt_of_pos n hU
  have g4:0≤n/U:=Int.ediv_nonneg (by omega) (by omega)
  have np:=zFg n U hU
  clear g1 e1 e2
  generalize n/U=q at*
  generalize n%U=r at*
  have m1:mag (-q)=q:=by unfold mag;split<;>omega
  have m2:mag (-q-1)=q+1:=by unfold mag;split<;>omega
  rcases np with⟨a,b,d⟩|⟨a,b,d⟩
  ·rw[a,b,d]
   rcases ways way h0 h1 with rfl|rfl|rfl|rfl|rfl
   all_goals
    simp only[near,upB]
    simp
    try omega
  rw[a,b]
  rcases ways way h0 h1 with rfl|rfl|rfl|rfl|rfl
  ·simp[near,upB];omega
  ·simp[near,upB];omega
  ·simp[near,upB];omega
  ·simp only[near,upB]
   by_cases k:U≤2*r
   ·simp[show ¬U<2*(U-r) by omega,k];omega
   simp[show U<2*(U-r) by omega,k]
  simp only[near,upB,m2]
  by_cases k:U<2*r
  ·simp[show ¬U<2*(U-r) by omega,k,show ¬2*(U-r)=U by omega];omega
  by_cases k2:2*r=U
  ·have e:2*(U-r)=U:=by omega
   by_cases k3:q%2=1
   ·simp[k2,e,k3,show ¬(q+1)%2=1 by omega];omega
   simp[k2,e,k3,show(q+1)%2=1 by omega]
  simp[show U<2*(U-r) by omega,k,k2]
 have e1:mag c=c:=by unfold mag;rw[if_neg hc]
 have e2:sgn c=1∨c=0:=by unfold sgn;rw[if_neg hc];first|(left;rfl)|(split<;>omega)
 rw[e1]
 have g2:=Int.emod_nonneg c (show U≠0 by omega)
 have g3:=Int.emod_lt_of_pos c hU
 have g4:0≤c/U:=Int.ediv_nonneg (by omega) (by omega)
 have m:mag (c/U)=c/U:=by unfold mag;split<;>omega
 rcases e2 with e2|rfl
 ·rw[e2]
  rcases ways way h0 h1 with rfl|rfl|rfl|rfl|rfl
  ·simp[near,upB,hc]
  ·simp[near,upB]
  ·simp[near,upB]
  ·simp only[near,upB]
   generalize hr:c%U=r at*
   by_cases k:U<2*r
   ·simp[k,show U≤2*r by omega]
   by_cases k2:2*r=U
   ·have cp:0<c:=by
     rcases Int.lt_or_le 0 c with g|g
     ·exact g
     exfalso
     have h0:c=0:=by omega
     have h1:r=0:=by rw[←hr,h0,Int.zero_emod]
     omega
    simp[k2,cp]
   simp[k,k2,show ¬U≤2*r by omega]
  simp[near,upB,m]
 simp[near,upB]
 first|done|(repeat' split)<;>omega
theorem zEf (a s b t:Int) (ha:okD a s) (hb:okD b t):
  (flo a s+flo b t)*P10 (addS s t)+lef a s*P10 (addS s t-s)+lef b t*P10 (addS s t-t)=addC a s b t∧
  0≤lef a s*P10 (addS s t-s)∧lef a s*P10 (addS s t-s)<P10 (addS s t)∧0≤lef b t*P10 (addS s t-t)∧lef b t*P10 (addS s t-t)<P10 (addS s t):=by
 obtain⟨s0,s9,_,_⟩:=ha
 obtain⟨t0,t9,_,_⟩:=hb
 have hS:s≤addS s t∧t≤addS s t∧addS s t≤9:=by unfold addS;split<;>omega
 have e1:=zBb a s (addS s t) s0 hS.1 hS.2.2
 have e2:=zBb b t (addS s t) t0 hS.2.1 hS.2.2
 refine⟨?_,e1.2.1,e1.2.2,e2.2.1,e2.2.2⟩
 have e3:addC a s b t=a*P10 (addS s t-s)+b*P10 (addS s t-t):=by
  unfold addC addS
  by_cases h:s≤t
  ·rw[if_pos h,if_pos h,Int.sub_self,zLB];omega
  rw[if_neg h,if_neg h,Int.sub_self,zLB];omega
 rw[e3,e1.1,e2.1,Int.add_mul];omega
theorem zMc (x y p q u:Int) (hu:1≤u) (hp:0≤p∧p<u) (hq:0≤q∧q<u) (h:1000000000000000/u+2<mag (x+y)):1000000000000000<mag ((x+y)*u+p+q):=by
 have h1:(1000000000000000/u)*u+1000000000000000%u=1000000000000000:=by rw[Int.mul_comm];exact Int.mul_ediv_add_emod _ _
 have h2:=Int.emod_lt_of_pos 1000000000000000 (show 0<u by omega)
 generalize 1000000000000000/u=M at*
 generalize x+y=z at*
 unfold mag at h
 split at h
 ·have:(M+3)*u≤(-z)*u:=Int.mul_le_mul_of_nonneg_right (by omega) (by omega)
  rw[Int.add_mul,Int.neg_mul] at this
  unfold mag;split<;>omega
 have:(M+3)*u≤z*u:=Int.mul_le_mul_of_nonneg_right (by omega) (by omega)
 rw[Int.add_mul] at this
 unfold mag;split<;>omega
theorem zGg (x y u:Int) (hu:1≤u) (hu1:u≤1000000000) (h: ¬1000000000000000/u+2<mag (x+y)): -1000002000000000≤(x+y)*u∧(x+y)*u≤1000002000000000∧ -1000000000000002≤x+y∧x+y≤1000000000000002:=by
 have h1:(1000000000000000/u)*u+1000000000000000%u=1000000000000000:=by rw[Int.mul_comm];exact Int.mul_ediv_add_emod _ _
 have h2:=Int.emod_nonneg 1000000000000000 (show u≠0 by omega)
 have h3:1000000000000000/u≤1000000000000000:=Int.ediv_le_self _ (by omega)
 generalize 1000000000000000/u=M at*
 generalize x+y=z at*
 have b: -(M+2)≤z∧z≤M+2:=by unfold mag at h;split at h<;>omega
 have g1:z*u≤(M+2)*u:=Int.mul_le_mul_of_nonneg_right b.2 (by omega)
 have g2:(-(M+2))*u≤z*u:=Int.mul_le_mul_of_nonneg_right b.1 (by omega)
 rw[Int.neg_mul] at g2
 rw[Int.add_mul] at g1 g2
 omega
end Go.Proofs.YtjlchookakbomaaGreatDoor.Dcm
namespace Rul
open Go Go.Lib

theorem zEg {sub:List UInt8} (hs:sub≠ []): ∀(k:Nat) (s:List UInt8),s.length≤k→lens (split s sub)+sub.length*(split s sub).length=s.length+sub.length:=by
 intro k
 induction k with
 |zero=>
  intro s h
  have e:s= []:=List.eq_nil_of_length_eq_zero (by omega)
  subst e
  have hi:index [] sub<0:=by
   have r:=index_room [] sub
   have:=List.length_pos_iff.2 hs
   simp at r
   omega
  rw[Spl.zBz (by have:=index_ge [] sub;omega)]
  simp[lens]
 |succ k ih=>
  intro s h
  by_cases hi:index s sub<0
  ·rw[Spl.zBz (by have:=index_ge s sub;omega)]
   simp[lens]
  obtain⟨i,hi'⟩: ∃i:Nat,index s sub=i:=⟨(index s sub).toNat,by omega⟩
  have room:=index_room s sub (by omega)
  have hp:=List.length_pos_iff.2 hs
  rw[Spl.zCa hs hi']
  have q:=ih (s.drop (i+sub.length)) (by rw[List.length_drop];omega)
  rw[List.length_drop] at q
  have e:lens (s.take i::split (s.drop (i+sub.length)) sub)=i+lens (split (s.drop (i+sub.length)) sub):=by
   simp[lens];omega
  rw[e,List.length_cons,Nat.mul_succ]
  omega
theorem zAA {s sub:List UInt8} (hs:sub≠ []):(split s sub).length≤s.length+1:=by
 have h:=zEg hs _ s (Nat.le_refl _)
 have hp:=List.length_pos_iff.2 hs
 have q:1*(split s sub).length≤sub.length*(split s sub).length:=Nat.mul_le_mul_right _ hp
 have:(split s sub).length+sub.length≤s.length+1+sub.length∨True:= .inr trivial
 rcases Nat.eq_or_lt_of_le hp with e|e
 ·rw[←e] at h;omega
 have hl:0<(split s sub).length:=by rw[Spl.zBi hs];omega
 obtain⟨m,hm⟩: ∃m,(split s sub).length=m+1:=⟨_,(Nat.succ_pred_eq_of_pos hl).symm⟩
 rw[hm] at h⊢
 rw[Nat.mul_succ] at h
 have:1*m≤sub.length*m:=Nat.mul_le_mul_right _ hp
 omega
theorem zEG (s:List UInt8):(ruleP s).length≤s.length+1∧count (ruleP s)≤2*s.length+2:=by
 have h1:=zAA (s:=s) (sub:=orS) (by decide)
 have h2:=zEg (sub:=orS) (by decide) _ s (Nat.le_refl _)
 refine⟨by unfold ruleP;rw[List.length_map];exact h1,?_⟩
 have key: ∀l:List (List UInt8),((l.map partP).map (·.length)).sum≤lens l+l.length:=by
  intro l
  induction l with
  |nil=>simp[lens]
  |cons a l ih=>
   have ha:=zAA (s:=a) (sub:=andS) (by decide)
   have e:lens (a::l)=a.length+lens l:=by simp[lens]
   rw[e,List.map_cons,List.map_cons,List.sum_cons,List.length_cons]
   have:(partP a).length≤a.length+1:=by unfold partP;rw[List.length_map];exact ha
   omega
 have:=key (split s orS)
 unfold count ruleP
 have:0≤orS.length*(split s orS).length:=Nat.zero_le _
 have h3:lens (split s orS)≤s.length:=by
  have hl:0<(split s orS).length:=by rw[Spl.zBi (by decide)];omega
  have:orS.length*1≤orS.length*(split s orS).length:=Nat.mul_le_mul_left _ hl
  omega
 omega
theorem zH9 {sub:List UInt8}: ∀(k:Nat) (s x:List UInt8),x∈splitK sub 0 k s→x.length≤s.length:=by
 intro k
 induction k with
 |zero=>intro s x hx;simp[splitK] at hx;rw[hx];omega
 |succ k ih=>
  intro s x hx
  unfold splitK at hx
  split at hx
  ·simp at hx;rw[hx];omega
  rcases List.mem_cons.1 hx with rfl|hx
  ·simp;omega
  have:=ih _ x hx
  simp at this;omega
theorem zBL {s sub x:List UInt8} (hx:x∈split s sub):x.length≤s.length:=zH9 _ s x hx
theorem zNu (s:List UInt8):(hd s).2.length≤s.length:=by
 unfold hd
 split
 ·unfold cut;split
  ·simp only[List.length_drop];omega
  simp
 unfold cut;split
 ·simp only[List.length_drop];omega
 simp
theorem rs_P (s:List UInt8): ∀l∈ruleP s,∀x∈l,x.rs.length≤s.length+1:=by
 intro l hl x hx
 obtain⟨p,hp,rfl⟩:=List.mem_map.1 hl
 obtain⟨q,hq,rfl⟩:=List.mem_map.1 hx
 have h1:=zBL hp
 have h2:=zBL hq
 have h3:=zNu q
 have h4:=zAA (s:=(hd q).2) (sub:= [44]) (by decide)
 show((split (hd q).2 [44]).map rngP).length≤_
 rw[List.length_map]
 omega

theorem zB5 {v:Int} (h:v≤1000000):(dg v).length≤7:=Byt.zAD 7 v.toNat (by omega) (by omega)
theorem zDY {p:Int×Int} (h:rngOk p=true):(rngT p).length≤16:=by
 simp only[rngOk,Bool.and_eq_true,decide_eq_true_eq] at h
 have h1:=zB5 (v:=p.1) (by omega)
 have h2:=zB5 (v:=p.2) (by omega)
 unfold rngT
 split
 ·omega
 simp only[List.length_append,List.length_cons,List.length_nil];omega
theorem zB6 {l:List (List UInt8)} {sep:List UInt8} {k:Nat} (h: ∀x∈l,x.length≤k):Lst.total l sep≤l.length*(k+sep.length):=by
 unfold Lst.total
 have:lens l≤l.length*k:=by
  induction l with
  |nil=>simp[lens]
  |cons a l ih=>
   have e:lens (a::l)=a.length+lens l:=by simp[lens]
   have h1:=h a (by simp)
   have h2:=ih (fun x hx=>h x (by simp[hx]))
   rw[e,List.length_cons,Nat.succ_mul]
   omega
 rw[Nat.mul_add,Nat.mul_comm sep.length]
 omega
theorem zAT {r:Rl} (h:relOk r=true):opOk r.op=true∧0≤r.mod∧r.mod≤1000000∧r.rs≠ []∧ ∀p∈r.rs,rngOk p=true:=by
 simp only[relOk,Bool.and_eq_true,decide_eq_true_eq,Bool.not_eq_true',List.isEmpty_eq_false_iff,List.all_eq_true] at h
 exact⟨h.1.1.1.1,h.1.1.1.2,h.1.1.2,h.1.2,h.2⟩
theorem zKA {r:Rl} {m:Nat} (h:relOk r=true) (hm:r.rs.length≤m):(relT r).length≤15+m*17:=by
 obtain⟨_,_,h2,_,h4⟩:=zAT h
 have hd:=zB5 h2
 have t:=zB6 (l:=r.rs.map rngT) (sep:= [44]) (k:=16) (fun x hx=>by
  obtain⟨p,hp,rfl⟩:=List.mem_map.1 hx
  exact zDY (h4 p hp))
 have j:=Lst.zCx (r.rs.map rngT) [44]
 rw[List.length_map] at t
 have q:r.rs.length*(16+([44]:List UInt8).length)≤m*17:=Nat.mul_le_mul_right _ hm
 have hh:(headT r).length≤11:=by
  unfold headT
  split
  ·simp
  simp only[List.length_append,List.length_cons,List.length_nil,pcS];omega
 have hn:(if r.no then neS else eqS).length≤4:=by split<;>decide
 unfold relT
 simp only[List.length_append]
 omega
theorem zCg {r:Rule} {l:List Rl} (h:l∈r):l.length≤count r:=by
 unfold count
 induction r with
 |nil=>simp at h
 |cons a r ih=>
  rcases List.mem_cons.1 h with rfl|h
  ·simp
  have:=ih h
  simp;omega
theorem zDi {r:Rule} (h: ∀l∈r,l≠ []):r.length≤count r:=by
 unfold count
 induction r with
 |nil=>simp
 |cons a r ih=>
  have:=ih (fun l hl=>h l (by simp[hl]))
  have:=List.length_pos_iff.2 (h a (by simp))
  simp;omega
theorem zFh {r:Rule} (h:ruleE r=0) (hm: ∀l∈r,∀x∈l,x.rs.length≤100000001):
  Lst.total (r.map partT) [32,111,114,32]≤2000000000000∧ ∀l∈r,l.length≤4000000001∧Lst.total (l.map relT) [32,97,110,100,32]≤2000000000000∧ ∀x∈l,Lst.total (x.rs.map rngT) [44]≤2000000000000:=by
 obtain⟨hs,hc⟩:=ruleE_zero.1 h
 obtain⟨hr,hp⟩:=zAC hs
 have hlen:r.length≤20:=Nat.le_trans (zDi (fun l hl=>(zAE (hp l hl)).1)) hc
 have part: ∀l∈r,Lst.total (l.map relT) [32,97,110,100,32]≤34000001000:=by
  intro l hl
  have t:=zB6 (l:=l.map relT) (sep:= [32,97,110,100,32]) (k:=1700000032) (fun x hx=>by
   obtain⟨q,hq,rfl⟩:=List.mem_map.1 hx
   exact zKA ((zAE (hp l hl)).2 q hq) (hm l hl q hq))
  rw[List.length_map] at t
  have:l.length≤20:=Nat.le_trans (zCg hl) hc
  have:l.length*(1700000032+([32,97,110,100,32]:List UInt8).length)≤20*(1700000032+([32,97,110,100,32]:List UInt8).length):=Nat.mul_le_mul_right _ this
  simp only[List.length_cons,List.length_nil] at*
  omega
 refine⟨?_,fun l hl=>⟨?_,?_,fun x hx=>?_⟩⟩
 ·have t:=zB6 (l:=r.map partT) (sep:= [32,111,114,32]) (k:=34000001000) (fun x hx=>by
   obtain⟨l,hl,rfl⟩:=List.mem_map.1 hx
   exact Nat.le_trans (Lst.zCx _ _) (part l hl))
  rw[List.length_map] at t
  have:r.length*(34000001000+([32,111,114,32]:List UInt8).length)≤20*(34000001000+([32,111,114,32]:List UInt8).length):=Nat.mul_le_mul_right _ hlen
  simp only[List.length_cons,List.length_nil] at*
  omega
 ·have:=zCg hl;omega
 ·have:=part l hl;omega
 have t:=zB6 (l:=x.rs.map rngT) (sep:= [44]) (k:=16) (fun y hy=>by
  obtain⟨p,hp',rfl⟩:=List.mem_map.1 hy
  exact zDY ((zAT ((zAE (hp l hl)).2 x hx)).2.2.2.2 p hp'))
 rw[List.length_map] at t
 have:x.rs.length*(16+([44]:List UInt8).length)≤100000001*(16+([44]:List UInt8).length):=Nat.mul_le_mul_right _ (hm l hl x hx)
 simp only[List.length_cons,List.length_nil] at*
 omega

def parseOk (s:List UInt8):Bool:=decide (ruleE (ruleP s)=0)&&(ruleT (ruleP s)==s)
theorem zA3 {s:List UInt8}:parseOk s=true↔ruleE (ruleP s)=0∧ruleT (ruleP s)=s:=by
 unfold parseOk
 simp
theorem zAu {r:Rule} (h:ruleE r=0):parseOk (ruleT r)=true∧ruleP (ruleT r)=r:=by
 have e:=zLJ r (ruleE_zero.1 h).1
 exact⟨zA3.2 (by rw[e];exact⟨h,rfl⟩),e⟩

structure Op5 where
 i:Int
 v:Int
 w:Int
 f:Int
 t:Int
def opv (c:UInt8) (o:Op5):Int:=if c=110 then o.i else if c=105 then o.i else if c=118 then o.v else if c=119 then o.w else if c=102 then o.f else if c=116 then o.t else 0
def opx (r:Rl) (o:Op5):Int:=if r.mod=0 then opv r.op o else (opv r.op o).tmod r.mod
def rngHas (x:Int) (p:Int×Int):Bool:=decide (p.1≤x)&&decide (x≤p.2)
def relH (r:Rl) (o:Op5):Bool:=(r.rs.any (rngHas (opx r o))&&(!decide (r.op=110)||decide (o.t=0))) !=r.no
def partH (l:List Rl) (o:Op5):Bool:=l.all (relH · o)
def ruleH (r:Rule) (o:Op5):Bool:=r.any (partH · o)
end Rul
