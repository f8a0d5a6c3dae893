/- Stores into boxes. -/
import Derived.WalkKit
import Derived.WalkSpells
import Derived.WalkLawsBesides
import Derived.IntWalk
import Derived.BigQuiet
import Derived.Deep.QuietTactic
import Derived.Outline
import Derived.Lib.Hide
import Derived.Below
import Derived.Test.YtldbfkccieipjaaGreatDoorShelf
namespace Go.Proofs.YtldbfkccieipjaaGreatDoor
set_option maxRecDepth 100000
open Go.RowKit

/-- block p holds the values vs, and may be written -/
structure Boxed (w:World) (p:Nat) (vs:Array Value):Prop where
 lt:p<w.heap.size
 cell: ∀(j:Nat) (v:Value),vs[j]?=some v→w.cell? ⟨p,j,none⟩=some v
 free: ∀(j:Nat),j<vs.size→w.frozen? ⟨p,j,none⟩=false
theorem Boxed.below {w w':World} {p:Nat} {vs:Array Value} (h:Boxed w p vs) (hb:Below w.heap.size w w'):Boxed w' p vs:=
 ⟨Nat.lt_of_lt_of_le h.lt hb.size,fun j v hj=>(hb.cell (p:=⟨p,j,none⟩) h.lt).trans (h.cell j v hj),fun j hj=>(hb.frozen (p:=⟨p,j,none⟩) h.lt).trans (h.free j hj)⟩
theorem Boxed.made (w:World) (vs:Array Value) (t:TypeId):Boxed (w.alloc (.cells vs t)) w.heap.size vs:=by
 refine⟨by simp,fun j v hj=>?_,fun j hj=>?_⟩
 ·simp[go_sem,hj]
 ·simp[go_sem]
theorem blw_alloc (w:World) (o:Obj):Below w.heap.size w (w.alloc o):=(Below.refl _ _).alloc (Nat.le_refl _) o
theorem blw_trans {a b c:World} (h:Below a.heap.size a b) (k:Below b.heap.size b c):Below a.heap.size a c:=h.trans (k.mono h.size)
theorem blw_drewN {B:Nat} {a w:World} (h:Below B a w) (n:Nat):Below B a (w.drewN n):=⟨h.os,h.tape,h.output,h.size,h.block⟩
theorem Boxed.alloc {w:World} {p:Nat} {vs:Array Value} (h:Boxed w p vs) (o:Obj):Boxed (w.alloc o) p vs:=h.below (blw_alloc w o)
theorem Boxed.drew {w:World} {p:Nat} {vs:Array Value} (h:Boxed w p vs):Boxed w.drew p vs:=⟨h.lt,h.cell,h.free⟩
theorem Boxed.drewN {w:World} {p:Nat} {vs:Array Value} (h:Boxed w p vs) (n:Nat):Boxed (w.drewN n) p vs:=⟨h.lt,h.cell,h.free⟩
theorem cell_keep {w w':World} {a:Addr} {v:Value} (h:w.cell? a=some v) (hb:Below w.heap.size w w'):w'.cell? a=some v:=(hb.cell (World.block_lt_of_cell? w a h)).trans h
theorem ret_int {k:IntKind} {a b:Int} (h:a=b):Ending.returned (.int k a)= .returned (.int k b):=by rw[h]
theorem ret_bool {a b:Bool} (h:a=b):Ending.returned (.bool a)= .returned (.bool b):=by rw[h]
theorem quiet_left {P:Program} {f:FuncId} {args:Array Value} {w:World} {n:Nat} {v:Value}
  (h:Calls P f args (w.drewN n) fun e w'=>e= .returned v∧w.drewN n=w'):Calls P f args (w.drewN n) fun e w''=>e= .returned v∧ ∃m,w''=w.drewN m:=
 h.mono fun _ _ ⟨he,hm⟩=>⟨he,n,hm.symm⟩
theorem dec_no {p:Prop} [Decidable p] (h: ¬p):decide p=false:=decide_eq_false h
theorem dec_yes {p:Prop} [Decidable p] (h:p):decide p=true:=decide_eq_true h
theorem beq_no {a b:Int} (h:a≠b):(a==b)=false:=beq_eq_false_iff_ne.2 h
theorem beq_yes {a b:Int} (h:a=b):(a==b)=true:=beq_iff_eq.2 h
open Go.RowKit

/-- an error by its number -/
abbrev errV (n:Int):Value:= .iface 60 (.int .i64 n)
end Go.Proofs.YtldbfkccieipjaaGreatDoor
namespace Go.Proofs.YtldbfkccieipjaaGreatDoor.Dcm
/-- ten, so often with itself (from 0 to 9) -/
def P10 (n:Int):Int:=if n≤0 then 1 else if n=1 then 10 else if n=2 then 100 else if n=3 then 1000 else if n=4 then 10000 else if n=5 then 100000 else if n=6 then 1000000 else if n=7 then 10000000 else if n=8 then 100000000 else 1000000000
theorem ten (s:Int) (h0:0≤s) (h1:s≤9):s=0∨s=1∨s=2∨s=3∨s=4∨s=5∨s=6∨s=7∨s=8∨s=9:=by omega
theorem P10_0:P10 0=1:=rfl
theorem P10_succ (n:Int) (h0:0≤n) (h:n≤8):P10 (n+1)=P10 n*10:=by
 rcases ten n h0 (by omega) with rfl|rfl|rfl|rfl|rfl|rfl|rfl|rfl|rfl|rfl<;>simp[P10] at h⊢
theorem P10_bd (n:Int):1≤P10 n∧P10 n≤1000000000:=by
 unfold P10
 repeat' split
 all_goals omega
theorem P10_mul (s t:Int) (h0:0≤s) (h1:0≤t) (h2:s+t≤9):P10 s*P10 t=P10 (s+t):=by
 rcases ten s h0 (by omega) with rfl|rfl|rfl|rfl|rfl|rfl|rfl|rfl|rfl|rfl<;>rcases ten t h1 (by omega) with rfl|rfl|rfl|rfl|rfl|rfl|rfl|rfl|rfl|rfl<;>first|rfl|omega
def okD (c s:Int):Prop:=0≤s∧s≤9∧ -1000000000000000≤c∧c≤1000000000000000
instance (c s:Int):Decidable (okD c s):=by unfold okD;infer_instance
def nrm (c s:Int):Int:=c*P10 (9-s)
theorem lt_iff (a s b t:Int) (hs0:0≤s) (hs:s≤9) (ht0:0≤t) (ht:t≤9):a*P10 t<b*P10 s↔nrm a s<nrm b t:=by
 unfold nrm
 rcases ten s hs0 hs with rfl|rfl|rfl|rfl|rfl|rfl|rfl|rfl|rfl|rfl<;>rcases ten t ht0 ht with rfl|rfl|rfl|rfl|rfl|rfl|rfl|rfl|rfl|rfl<;>simp[P10]<;>omega
theorem eq_iff (a s b t:Int) (hs0:0≤s) (hs:s≤9) (ht0:0≤t) (ht:t≤9):a*P10 t=b*P10 s↔nrm a s=nrm b t:=by
 have h1:=lt_iff a s b t hs0 hs ht0 ht
 have h2:=lt_iff b t a s ht0 ht hs0 hs
 omega
theorem P10_pos (n:Int):0<P10 n:=by have:=P10_bd n;omega
/-- two words of a product compared -/
theorem words_lt {A B:Int}:A<B↔(A/18446744073709551616<B/18446744073709551616∨A/18446744073709551616=B/18446744073709551616∧A%18446744073709551616<B%18446744073709551616):=by omega
theorem words_eq {A B:Int}:A=B↔(A/18446744073709551616=B/18446744073709551616∧A%18446744073709551616=B%18446744073709551616):=by omega

def sgn (c:Int):Int:=if c<0 then-1 else 1
def mag (c:Int):Int:=if c<0 then-c else c
theorem mag_bd (c:Int):0≤mag c:=by unfold mag;split<;>omega
/-- is what is cut off rounded away from nought? -/
def near (way whole rest unit sign:Int):Bool:=
 if way=2 then decide (0<rest)&&decide (sign<0)
 else if way=3 then decide (0<rest)&&decide (0<sign)
 else if way=4 then decide (unit≤2*rest)
 else if way=5 then decide (unit<2*rest)||(decide (2*rest=unit)&&decide (whole%2=1))
 else false
def rdU (N U way sign:Int):Int:=N/U+if near way (N/U) (N%U) U sign then 1 else 0
/-- the coefficient of what is rounded -/
def rndC (c s t way:Int):Int:=if s≤t then c*P10 (t-s) else sgn c*rdU (mag c) (P10 (s-t)) way (sgn c)
/-- is there room? -/
def rndOk (c s t:Int):Prop:=s≤t→mag c*P10 (t-s)≤1000000000000000
instance (c s t:Int):Decidable (rndOk c s t):=by unfold rndOk;infer_instance
theorem ways (w:Int) (h0:1≤w) (h1:w≤5):w=1∨w=2∨w=3∨w=4∨w=5:=by omega
/-- what is rounded off -/
theorem near_facts (c s t way:Int) (hc: -1000000000000000≤c∧c≤1000000000000000) (s1:s≤9) (t0:0≤t) (ht:t<s) (h0:1≤way) (h1:way≤5):
  -100000000000001≤rndC c s t way∧rndC c s t way≤100000000000001∧
  mag (c-rndC c s t way*P10 (s-t))<P10 (s-t)∧
  ((way=4∨way=5)→2*mag (c-rndC c s t way*P10 (s-t))≤P10 (s-t))∧
  (way=5→2*mag (c-rndC c s t way*P10 (s-t))=P10 (s-t)→(rndC c s t way)%2=0)∧
  (way=2→0≤c-rndC c s t way*P10 (s-t))∧(way=3→c-rndC c s t way*P10 (s-t)≤0)∧
  (way=1→(0≤c∧0≤c-rndC c s t way*P10 (s-t))∨(c≤0∧c-rndC c s t way*P10 (s-t)≤0)):=by
 obtain⟨k,hk⟩: ∃k,k=s-t:=⟨_,rfl⟩
 unfold rndC;rw[if_neg (by omega),←hk]
 have k1:k=1∨k=2∨k=3∨k=4∨k=5∨k=6∨k=7∨k=8∨k=9:=by omega
 clear hk s1 t0 ht
 unfold rdU sgn mag near
 rcases k1 with rfl|rfl|rfl|rfl|rfl|rfl|rfl|rfl|rfl<;>simp only[P10,Int.reduceLE,Int.reduceEq,if_true,if_false]<;>
  rcases ways way h0 h1 with rfl|rfl|rfl|rfl|rfl<;>simp only[Int.reduceEq,if_true,if_false,Bool.and_eq_true,Bool.or_eq_true,decide_eq_true_eq,Bool.false_eq_true,false_implies,true_implies,or_false,false_or,and_true,true_and]<;>
  by_cases hA:c<0<;>(try simp only[hA,if_true,if_false])<;>(repeat' split)<;>omega
/-- the sum's coefficient, and how many digits it has behind the point -/
def addC (a s b t:Int):Int:=if s≤t then a*P10 (t-s)+b else b*P10 (s-t)+a
def addS (s t:Int):Int:=if s≤t then t else s
/-- what is added, in the walk's own way -/
theorem sum_quo (a b U:Int) (_hU:1≤U):(a+b.tdiv U)*U+b.tmod U=a*U+b:=by
 have:=Int.mul_tdiv_add_tmod b U
 rw[Int.mul_comm] at this
 rw[Int.add_mul];omega
theorem tdiv_bd (b U:Int) (_hU:1≤U) (hb: -1000000000000000≤b∧b≤1000000000000000): -1000000000000000≤b.tdiv U∧b.tdiv U≤1000000000000000:=by
 have h1:=Int.natAbs_tdiv_le_natAbs b U
 omega
theorem tmod_bd (b U:Int) (hU:1≤U): -U<b.tmod U∧b.tmod U<U:=by
 have h1:=Int.tmod_lt_of_pos b (by omega:0<U)
 have h2:=Int.tmod_lt_of_pos (-b) (by omega:0<U)
 rw[Int.neg_tmod] at h2
 omega
/-- the sum that is no sum: far off -/
theorem sum_far (S r U:Int) (hU:1≤U) (hr: -U<r∧r<U) (hS:2000000000000000/U+1<S∨S< -(2000000000000000/U)-1):1000000000000000<S*U+r∨S*U+r< -1000000000000000:=by
 have h1:2000000000000000/U*U+2000000000000000%U=2000000000000000:=by rw[Int.mul_comm];exact Int.mul_ediv_add_emod _ _
 have h2:=Int.emod_lt_of_pos 2000000000000000 (by omega:0<U)
 rcases hS with h|h
 ·have:(2000000000000000/U+1+1)*U≤S*U:=Int.mul_le_mul_of_nonneg_right (by omega) (by omega)
  rw[Int.add_mul,Int.add_mul] at this;omega
 ·have:S*U≤(-(2000000000000000/U)-1-1)*U:=Int.mul_le_mul_of_nonneg_right (by omega) (by omega)
  rw[Int.sub_mul,Int.sub_mul,Int.neg_mul] at this;omega
theorem sum_near (S U:Int) (hU:1≤U) (hU1:U≤1000000000) (hS: ¬2000000000000000/U+1<S∧ ¬S< -(2000000000000000/U)-1): -2000001000000000≤S*U∧S*U≤2000001000000000:=by
 have h1:2000000000000000/U*U+2000000000000000%U=2000000000000000:=by rw[Int.mul_comm];exact Int.mul_ediv_add_emod _ _
 have h2:=Int.emod_nonneg 2000000000000000 (by omega:U≠0)
 constructor
 ·have:(-(2000000000000000/U)-1)*U≤S*U:=Int.mul_le_mul_of_nonneg_right (by omega) (by omega)
  rw[Int.sub_mul,Int.neg_mul] at this;omega
 ·have:S*U≤(2000000000000000/U+1)*U:=Int.mul_le_mul_of_nonneg_right (by omega) (by omega)
  rw[Int.add_mul] at this;omega
/-- noughts at the end struck: how many digits are left, and they -/
def strip:Nat→Int→Nat×Int
 |0,t=>(0,t)
 |w+1,t=>if t%10=0 then strip w (t/10) else (w+1,t)
theorem strip_le: ∀(w:Nat) (t:Int),(strip w t).1≤w
 |0,_=>Nat.le_refl _
 |w+1,t=>by unfold strip;split;exact Nat.le_succ_of_le (strip_le w _);exact Nat.le_refl _
theorem strip_end: ∀(w:Nat) (t:Int),(strip w t).1=0∨(strip w t).2%10≠0
 |0,_=> .inl rfl
 |w+1,t=>by
  unfold strip;split
  ·exact strip_end w _
  ·rename_i h;exact .inr h
theorem strip_mul: ∀(w:Nat) (t:Int),w≤9→(strip w t).2*P10 (w-(strip w t).1)=t
 |0,t,_=>by simp[strip,P10]
 |w+1,t,h=>by
  unfold strip;split
  ·rename_i h0
   have:=strip_mul w (t/10) (by omega)
   have hl:=strip_le w (t/10)
   have e:((w+1:Nat):Int)-((strip w (t/10)).1:Int)=((w:Int)-((strip w (t/10)).1:Int))+1:=by omega
   rw[e,P10_succ _ (by omega) (by omega),←Int.mul_assoc,this];omega
  ·simp[P10]
end Go.Proofs.YtldbfkccieipjaaGreatDoor.Dcm
namespace Go.Proofs.YtldbfkccieipjaaGreatDoor
open Go.RowKit
open Dcm (P10 okD nrm)


set_option maxHeartbeats 400000 in
theorem dchk_yes (c s:Int) (w:World) (h:okD c s):
  Calls Tryz.prog 57 #[.agg #[.int .i64 c,.int .i64 s]] w fun e w'=>e= .returned .nilIface∧Below w.heap.size w w':=by
 obtain⟨h1,h2,h3,h4⟩:=h
 have d1:decide (s<0)=false:=dec_no (by omega)
 have d2:decide (9<s)=false:=dec_no (by omega)
 have d3:decide (c< -1000000000000000)=false:=dec_no (by omega)
 have d4:decide (1000000000000000<c)=false:=dec_no (by omega)
 go_enter Tryz.func57,Tryz.ntmps57
 go_wp2
 go_ret
 exact⟨rfl,blw_alloc _ _⟩
set_option maxHeartbeats 1000000 in
theorem dchk_no (c s:Int) (w:World) (h: ¬okD c s):
  Calls Tryz.prog 57 #[.agg #[.int .i64 c,.int .i64 s]] w fun e w'=>e= .returned (errV 1)∧Below w.heap.size w w':=by
 by_cases h1:s<0
 ·go_enter Tryz.func57,Tryz.ntmps57
  go_wp2
  go_ret
  exact⟨rfl,blw_alloc _ _⟩
 by_cases h2:9<s
 ·go_enter Tryz.func57,Tryz.ntmps57
  go_wp2
  go_ret
  exact⟨rfl,blw_alloc _ _⟩
 by_cases h3:c< -1000000000000000
 ·go_enter Tryz.func57,Tryz.ntmps57
  go_wp2
  go_ret
  exact⟨rfl,blw_alloc _ _⟩
 by_cases h4:1000000000000000<c
 ·go_enter Tryz.func57,Tryz.ntmps57
  go_wp2
  go_ret
  exact⟨rfl,blw_alloc _ _⟩
 exact absurd ⟨by omega,by omega,by omega,by omega⟩ h

set_option maxHeartbeats 400000 in
theorem power_any (n:Int) (w:World) (h0:0≤n) (h1:n≤9):
  Calls Tryz.prog 164 #[.int .i64 n] w fun e w'=>e= .returned (.int .i64 (P10 n))∧w=w':=by
 go_enter Tryz.func164,Tryz.ntmps164
 go_wp2
 go_loop [3,5] (fun t i=> ∃k:Int,0≤k∧k≤n∧i= .int .i64 k∧t= .int .i64 (P10 k)) (fun _ i=>(n-intOf i).toNat)
 case atStart=>exact⟨0,by omega,by omega,rfl,rfl⟩
 case round=>
  obtain⟨k,k0,k1,rfl,rfl⟩:=hrel
  have hb:=Dcm.P10_bd k
  by_cases hlt:k<n
  ·have hs:=Lib.hid (Dcm.P10_succ k k0 (by omega))
   go_wp2
   go_round
   case rel=>exact⟨k+1,by omega,by omega,by go_num,by rw[hs.out]⟩
   case measure=>simp[intOf];omega
  ·obtain rfl:k=n:=by omega
   go_wp2
   go_ret
   exact⟨rfl,rfl⟩

/-- the words of a product -/
def hiW (A:Int):Int:=A/18446744073709551616
def loW (A:Int):Int:=A%18446744073709551616
theorem mul64_any (x y:Int) (w:World) (x0:0≤x) (x1:x≤1000000000000000) (y0:0≤y) (y1:y≤1000000000):
  Calls Tryz.prog 196 #[.int .u64 x,.int .u64 y] w fun e w'=>e= .returned (.tuple #[.int .u64 (hiW (x*y)),.int .u64 (loW (x*y))])∧w=w':=by
 obtain⟨a,rfl⟩:=Int.eq_ofNat_of_zero_le x0
 obtain⟨b,rfl⟩:=Int.eq_ofNat_of_zero_le y0
 refine(Tryz.bits_Mul64 a b (by omega) (by omega) w).mono fun e w' ⟨he,hw⟩=>⟨?_,hw.symm⟩
 rw[he];unfold hiW loW;simp

set_option maxHeartbeats 400000 in
theorem wide_any (n s:Int) (w:World) (n0:0≤n) (n1:n≤1000000000000000) (s0:0≤s) (s1:s≤9):
  Calls Tryz.prog 192 #[.int .i64 n,.int .i64 s] w fun e w'=>e= .returned (.tuple #[.int .u64 (hiW (n*P10 s)),.int .u64 (loW (n*P10 s))])∧w=w':=by
 have hb:=Dcm.P10_bd s
 go_enter Tryz.func192,Tryz.ntmps192
 go_wp2_with fail
 refine(power_any _ _ s0 s1).mono ?_
 rintro e w' ⟨rfl,rfl⟩
 go_wp2_with fail
 refine(mul64_any _ _ _ n0 n1 (by omega) (by omega)).mono ?_
 rintro e w' ⟨rfl,rfl⟩
 go_wp2
 go_ret2
 exact⟨rfl,rfl⟩
open Go.RowKit
open Dcm (P10 okD nrm)

/-- how two numbers' values stand -/
def cmpN (a s b t:Int):Int:=if nrm a s<nrm b t then-1 else if nrm a s=nrm b t then 0 else 1
/-- how two products stand -/
def cmpP (A B:Int):Int:=if A<B then-1 else if A=B then 0 else 1
theorem cmpP_N {a s b t:Int} (ha:okD a s) (hb:okD b t):cmpP (a*P10 t) (b*P10 s)=cmpN a s b t:=by
 have h1:=Dcm.lt_iff a s b t ha.1 ha.2.1 hb.1 hb.2.1
 have h2:=Dcm.eq_iff a s b t ha.1 ha.2.1 hb.1 hb.2.1
 unfold cmpP cmpN
 simp only[h1,h2]

set_option maxHeartbeats 1000000 in
theorem compared_w1 (a s b t h l k m:Int) (w:World) (a0:0≤a) (b0:0≤b) (h1:h<k)
  (c1: ∀w,Calls Tryz.prog 192 #[.int .i64 a,.int .i64 t] w fun e w'=>e= .returned (.tuple #[.int .u64 h,.int .u64 l])∧w=w')
  (c2: ∀w,Calls Tryz.prog 192 #[.int .i64 b,.int .i64 s] w fun e w'=>e= .returned (.tuple #[.int .u64 k,.int .u64 m])∧w=w'):
  Calls Tryz.prog 167 #[.agg #[.int .i64 a,.int .i64 s],.agg #[.int .i64 b,.int .i64 t]] w fun e w'=>e= .returned (.int .i64 (-1))∧Below w.heap.size w w':=by
 have C1:=Lib.hid c1
 have C2:=Lib.hid c2
 have na: ¬a<0:=by omega
 have nb: ¬b<0:=by omega
 clear c1 c2
 go_enter Tryz.func167,Tryz.ntmps167
 go_wp2_with fail
 refine(C1.out _).mono ?_
 rintro e w' ⟨rfl,rfl⟩
 go_wp2_with fail
 refine(C2.out _).mono ?_
 rintro e w' ⟨rfl,rfl⟩
 go_wp2
 go_ret
 exact⟨ret_int (by simp),blw_trans (blw_alloc w _) (blw_alloc _ _)⟩

set_option maxHeartbeats 1000000 in
theorem compared_w2 (a s b t h l k m:Int) (w:World) (a0:0≤a) (b0:0≤b) (h1:h=k) (h2:l<m)
  (c1: ∀w,Calls Tryz.prog 192 #[.int .i64 a,.int .i64 t] w fun e w'=>e= .returned (.tuple #[.int .u64 h,.int .u64 l])∧w=w')
  (c2: ∀w,Calls Tryz.prog 192 #[.int .i64 b,.int .i64 s] w fun e w'=>e= .returned (.tuple #[.int .u64 k,.int .u64 m])∧w=w'):
  Calls Tryz.prog 167 #[.agg #[.int .i64 a,.int .i64 s],.agg #[.int .i64 b,.int .i64 t]] w fun e w'=>e= .returned (.int .i64 (-1))∧Below w.heap.size w w':=by
 subst h1
 have C1:=Lib.hid c1
 have C2:=Lib.hid c2
 have na: ¬a<0:=by omega
 have nb: ¬b<0:=by omega
 clear c1 c2
 go_enter Tryz.func167,Tryz.ntmps167
 go_wp2_with fail
 refine(C1.out _).mono ?_
 rintro e w' ⟨rfl,rfl⟩
 go_wp2_with fail
 refine(C2.out _).mono ?_
 rintro e w' ⟨rfl,rfl⟩
 go_wp2
 go_ret
 exact⟨ret_int (by simp),blw_trans (blw_alloc w _) (blw_alloc _ _)⟩

set_option maxHeartbeats 1000000 in
theorem compared_w3 (a s b t h l k m:Int) (w:World) (a0:0≤a) (b0:0≤b) (h1:h=k) (h2:l=m)
  (c1: ∀w,Calls Tryz.prog 192 #[.int .i64 a,.int .i64 t] w fun e w'=>e= .returned (.tuple #[.int .u64 h,.int .u64 l])∧w=w')
  (c2: ∀w,Calls Tryz.prog 192 #[.int .i64 b,.int .i64 s] w fun e w'=>e= .returned (.tuple #[.int .u64 k,.int .u64 m])∧w=w'):
  Calls Tryz.prog 167 #[.agg #[.int .i64 a,.int .i64 s],.agg #[.int .i64 b,.int .i64 t]] w fun e w'=>e= .returned (.int .i64 (0))∧Below w.heap.size w w':=by
 subst h1 h2
 have C1:=Lib.hid c1
 have C2:=Lib.hid c2
 have na: ¬a<0:=by omega
 have nb: ¬b<0:=by omega
 clear c1 c2
 go_enter Tryz.func167,Tryz.ntmps167
 go_wp2_with fail
 refine(C1.out _).mono ?_
 rintro e w' ⟨rfl,rfl⟩
 go_wp2_with fail
 refine(C2.out _).mono ?_
 rintro e w' ⟨rfl,rfl⟩
 go_wp2
 go_ret
 exact⟨ret_int (by simp),blw_trans (blw_alloc w _) (blw_alloc _ _)⟩

set_option maxHeartbeats 1000000 in
theorem compared_w4 (a s b t h l k m:Int) (w:World) (a0:0≤a) (b0:0≤b) (h1:h=k) (h2:m<l)
  (c1: ∀w,Calls Tryz.prog 192 #[.int .i64 a,.int .i64 t] w fun e w'=>e= .returned (.tuple #[.int .u64 h,.int .u64 l])∧w=w')
  (c2: ∀w,Calls Tryz.prog 192 #[.int .i64 b,.int .i64 s] w fun e w'=>e= .returned (.tuple #[.int .u64 k,.int .u64 m])∧w=w'):
  Calls Tryz.prog 167 #[.agg #[.int .i64 a,.int .i64 s],.agg #[.int .i64 b,.int .i64 t]] w fun e w'=>e= .returned (.int .i64 (1))∧Below w.heap.size w w':=by
 subst h1
 have C1:=Lib.hid c1
 have C2:=Lib.hid c2
 have na: ¬a<0:=by omega
 have nb: ¬b<0:=by omega
 clear c1 c2
 go_enter Tryz.func167,Tryz.ntmps167
 go_wp2_with fail
 refine(C1.out _).mono ?_
 rintro e w' ⟨rfl,rfl⟩
 go_wp2_with fail
 refine(C2.out _).mono ?_
 rintro e w' ⟨rfl,rfl⟩
 go_wp2
 go_ret
 exact⟨ret_int (by simp),blw_trans (blw_alloc w _) (blw_alloc _ _)⟩

set_option maxHeartbeats 1000000 in
theorem compared_w5 (a s b t h l k m:Int) (w:World) (a0:0≤a) (b0:0≤b) (h1:k<h)
  (c1: ∀w,Calls Tryz.prog 192 #[.int .i64 a,.int .i64 t] w fun e w'=>e= .returned (.tuple #[.int .u64 h,.int .u64 l])∧w=w')
  (c2: ∀w,Calls Tryz.prog 192 #[.int .i64 b,.int .i64 s] w fun e w'=>e= .returned (.tuple #[.int .u64 k,.int .u64 m])∧w=w'):
  Calls Tryz.prog 167 #[.agg #[.int .i64 a,.int .i64 s],.agg #[.int .i64 b,.int .i64 t]] w fun e w'=>e= .returned (.int .i64 (1))∧Below w.heap.size w w':=by
 have C1:=Lib.hid c1
 have C2:=Lib.hid c2
 have na: ¬a<0:=by omega
 have nb: ¬b<0:=by omega
 clear c1 c2
 go_enter Tryz.func167,Tryz.ntmps167
 go_wp2_with fail
 refine(C1.out _).mono ?_
 rintro e w' ⟨rfl,rfl⟩
 go_wp2_with fail
 refine(C2.out _).mono ?_
 rintro e w' ⟨rfl,rfl⟩
 go_wp2
 go_ret
 exact⟨ret_int (by simp),blw_trans (blw_alloc w _) (blw_alloc _ _)⟩

theorem compared_pos (a s b t:Int) (w:World) (ha:okD a s) (hb:okD b t) (a0:0≤a) (b0:0≤b):
  Calls Tryz.prog 167 #[.agg #[.int .i64 a,.int .i64 s],.agg #[.int .i64 b,.int .i64 t]] w fun e w'=>e= .returned (.int .i64 (cmpP (a*P10 t) (b*P10 s)))∧Below w.heap.size w w':=by
 have c1:=fun w=>wide_any a t w a0 ha.2.2.2 hb.1 hb.2.1
 have c2:=fun w=>wide_any b s w b0 hb.2.2.2 ha.1 ha.2.1
 have hl:= @Dcm.words_lt (a*P10 t) (b*P10 s)
 have hl':= @Dcm.words_lt (b*P10 s) (a*P10 t)
 have he:= @Dcm.words_eq (a*P10 t) (b*P10 s)
 unfold cmpP
 change _↔hiW _<hiW _∨hiW _=hiW _∧loW _<loW _ at hl
 change _↔hiW _<hiW _∨hiW _=hiW _∧loW _<loW _ at hl'
 change _↔hiW _=hiW _∧loW _=loW _ at he
 by_cases h1:a*P10 t<b*P10 s
 ·rw[if_pos h1]
  rcases hl.1 h1 with g|⟨g,g'⟩
  ·exact compared_w1 a s b t _ _ _ _ w a0 b0 g c1 c2
  ·exact compared_w2 a s b t _ _ _ _ w a0 b0 g g' c1 c2
 ·rw[if_neg h1]
  by_cases h2:a*P10 t=b*P10 s
  ·rw[if_pos h2]
   obtain⟨g,g'⟩:=he.1 h2
   exact compared_w3 a s b t _ _ _ _ w a0 b0 g g' c1 c2
  ·rw[if_neg h2]
   rcases hl'.1 (by omega) with g|⟨g,g'⟩
   ·exact compared_w5 a s b t _ _ _ _ w a0 b0 g c1 c2
   ·exact compared_w4 a s b t _ _ _ _ w a0 b0 g.symm g' c1 c2

set_option maxHeartbeats 1000000 in
theorem compared_any (a s b t:Int) (w:World) (ha:okD a s) (hb:okD b t):
  Calls Tryz.prog 167 #[.agg #[.int .i64 a,.int .i64 s],.agg #[.int .i64 b,.int .i64 t]] w fun e w'=>e= .returned (.int .i64 (cmpN a s b t))∧Below w.heap.size w w':=by
 rw[←cmpP_N ha hb]
 by_cases a0:0≤a
 ·by_cases b0:0≤b
  ·exact compared_pos a s b t w ha hb a0 b0
  ·have e1:cmpP (a*P10 t) (b*P10 s)=1:=by
    have:=Dcm.P10_pos s;have:=Int.mul_neg_of_neg_of_pos (by omega:b<0) this
    have:=Dcm.P10_pos t;have:=Int.mul_nonneg a0 (by omega:0≤P10 t)
    unfold cmpP;rw[if_neg (by omega),if_neg (by omega)]
   rw[e1]
   have na: ¬a<0:=by omega
   have nb:b<0:=by omega
   clear e1 ha hb
   go_enter Tryz.func167,Tryz.ntmps167
   go_wp2
   go_ret
   exact⟨rfl,blw_trans (blw_alloc w _) (blw_alloc _ _)⟩
 ·by_cases b0:0≤b
  ·have e1:cmpP (a*P10 t) (b*P10 s)= -1:=by
    have:=Dcm.P10_pos t;have:=Int.mul_neg_of_neg_of_pos (by omega:a<0) this
    have:=Dcm.P10_pos s;have:=Int.mul_nonneg b0 (by omega:0≤P10 s)
    unfold cmpP;rw[if_pos (by omega)]
   rw[e1]
   have na:a<0:=by omega
   clear e1 ha hb
   go_enter Tryz.func167,Tryz.ntmps167
   go_wp2
   go_ret
   exact⟨rfl,blw_trans (blw_alloc w _) (blw_alloc _ _)⟩
  ·have ha':=ha
   have hb':=hb
   obtain⟨s0,s1,a1,a2⟩:=ha'
   obtain⟨t0,t1,b1,b2⟩:=hb'
   have hc:=fun w=>compared_pos (-b) t (-a) s w ⟨t0,t1,by omega,by omega⟩ ⟨s0,s1,by omega,by omega⟩ (by omega) (by omega)
   have e1:cmpP (-b*P10 s) (-a*P10 t)=cmpP (a*P10 t) (b*P10 s):=by
    rw[Int.neg_mul,Int.neg_mul];unfold cmpP
    by_cases h1:a*P10 t<b*P10 s
    ·rw[if_pos h1,if_pos (by omega)]
    ·rw[if_neg h1,if_neg (by omega)]
     by_cases h2:a*P10 t=b*P10 s
     ·rw[if_pos h2,if_pos (by omega)]
     ·rw[if_neg h2,if_neg (by omega)]
   rw[e1] at hc
   have HC:=Lib.hid hc
   have na:a<0:=by omega
   have nb:b<0:=by omega
   clear e1 ha hb hc
   go_enter Tryz.func167,Tryz.ntmps167
   go_wp2_with fail
   refine(HC.out _).mono ?_
   rintro e w' ⟨rfl,hb⟩
   go_wp2
   go_ret
   exact⟨rfl,blw_trans (blw_trans (blw_alloc w _) (blw_alloc _ _)) hb⟩

set_option maxHeartbeats 1000000 in
theorem right_yes (a s b t:Int) (w:World) (ha:okD a s) (hb:okD b t):
  Calls Tryz.prog 166 #[.agg #[.int .i64 a,.int .i64 s],.agg #[.int .i64 b,.int .i64 t]] w fun e w'=>e= .returned (.bool true)∧Below w.heap.size w w':=by
 have C1:=Lib.hid fun w=>dchk_yes a s w ha
 have C2:=Lib.hid fun w=>dchk_yes b t w hb
 clear ha hb
 go_enter Tryz.func166,Tryz.ntmps166
 go_wp2_with fail
 refine(C1.out _).mono ?_
 rintro e w1 ⟨rfl,hb⟩
 have B:=Boxed.below (Boxed.made _ #[.int .i64 b,.int .i64 t] 31) hb
 have k0:=B.cell 0 _ rfl
 have k1:=B.cell 1 _ rfl
 simp at k0 k1
 have W1:=Lib.hid (blw_trans (blw_trans (blw_alloc w _) (blw_alloc _ _)) hb)
 clear hb B
 go_wp2_with fail
 refine(C2.out _).mono ?_
 rintro e w2 ⟨rfl,hb⟩
 go_wp2
 go_ret
 exact⟨rfl,blw_trans W1.out hb⟩
set_option maxHeartbeats 1000000 in
theorem same_yes (a s b t:Int) (w:World) (ha:okD a s) (hb:okD b t) (h:nrm a s=nrm b t):
  Calls Tryz.prog 130 #[.agg #[.int .i64 a,.int .i64 s],.agg #[.int .i64 b,.int .i64 t]] w fun e w'=>e= .returned (.bool true)∧Below w.heap.size w w':=by
 have C1:=Lib.hid fun w=>right_yes a s b t w ha hb
 have C2:=Lib.hid fun w=>compared_any a s b t w ha hb
 have hv:cmpN a s b t=0:=by unfold cmpN;(repeat' split)<;>omega
 generalize cmpN a s b t=v at*
 clear ha hb h
 go_enter Tryz.func130,Tryz.ntmps130
 go_wp2_with fail
 refine(C1.out _).mono ?_
 rintro e w1 ⟨rfl,hb⟩
 have B0:=Boxed.below (Boxed.alloc (Boxed.made _ #[.int .i64 a,.int .i64 s] 31) _) hb
 have B:=Boxed.below (Boxed.made _ #[.int .i64 b,.int .i64 t] 31) hb
 have j0:=B0.cell 0 _ rfl
 have j1:=B0.cell 1 _ rfl
 have k0:=B.cell 0 _ rfl
 have k1:=B.cell 1 _ rfl
 simp at k0 k1
 have W1:=Lib.hid (blw_trans (blw_trans (blw_alloc w _) (blw_alloc _ _)) hb)
 clear hb B B0
 go_wp2_with fail
 refine(C2.out _).mono ?_
 rintro e w2 ⟨rfl,hb⟩
 go_wp2
 go_ret
 exact⟨ret_bool (by simp;try omega),blw_trans W1.out hb⟩

set_option maxHeartbeats 1000000 in
theorem same_no (a s b t:Int) (w:World) (ha:okD a s) (hb:okD b t) (h: ¬nrm a s=nrm b t):
  Calls Tryz.prog 130 #[.agg #[.int .i64 a,.int .i64 s],.agg #[.int .i64 b,.int .i64 t]] w fun e w'=>e= .returned (.bool false)∧Below w.heap.size w w':=by
 have C1:=Lib.hid fun w=>right_yes a s b t w ha hb
 have C2:=Lib.hid fun w=>compared_any a s b t w ha hb
 have hv:cmpN a s b t≠0:=by unfold cmpN;(repeat' split)<;>omega
 generalize cmpN a s b t=v at*
 clear ha hb h
 go_enter Tryz.func130,Tryz.ntmps130
 go_wp2_with fail
 refine(C1.out _).mono ?_
 rintro e w1 ⟨rfl,hb⟩
 have B0:=Boxed.below (Boxed.alloc (Boxed.made _ #[.int .i64 a,.int .i64 s] 31) _) hb
 have B:=Boxed.below (Boxed.made _ #[.int .i64 b,.int .i64 t] 31) hb
 have j0:=B0.cell 0 _ rfl
 have j1:=B0.cell 1 _ rfl
 have k0:=B.cell 0 _ rfl
 have k1:=B.cell 1 _ rfl
 simp at k0 k1
 have W1:=Lib.hid (blw_trans (blw_trans (blw_alloc w _) (blw_alloc _ _)) hb)
 clear hb B B0
 go_wp2_with fail
 refine(C2.out _).mono ?_
 rintro e w2 ⟨rfl,hb⟩
 go_wp2
 go_ret
 exact⟨ret_bool (by simp;try omega),blw_trans W1.out hb⟩

open Go.RowKit

theorem size_setCell (w:World) (a:Addr) (v:Value):(w.setCell a v).heap.size=w.heap.size:=by simp[World.setCell]
/-- a store into the block -/
theorem Boxed.set {w:World} {p:Nat} {vs:Array Value} (h:Boxed w p vs) (j:Nat) (v:Value) (hj:j<vs.size):Boxed (w.setCell ⟨p,j,none⟩ v) p (vs.setIfInBounds j v):=by
 refine⟨by rw[size_setCell];exact h.lt,fun k u hk=>?_,fun k hk=>?_⟩
 ·rw[Array.getElem?_setIfInBounds] at hk
  by_cases e:j=k
  ·subst e
   rw[if_pos rfl,if_pos hj] at hk
   obtain rfl:=Option.some.inj hk
   exact World.cell?_setCell_same _ _ _ (h.cell j _ (Array.getElem?_eq_getElem hj))
  ·rw[if_neg e] at hk
   rw[World.cell?_setCell_other _ _ _ _ (fun g=>e (by injection g))]
   exact h.cell k u hk
 ·rw[World.frozen?_setCell];exact h.free k (by simpa using hk)
/-- a store into another block -/
theorem Boxed.far {w:World} {p:Nat} {vs:Array Value} (h:Boxed w p vs) {q:Nat} (hq:q≠p) (j:Nat) (v:Value):Boxed (w.setCell ⟨q,j,none⟩ v) p vs:=
 ⟨by rw[size_setCell];exact h.lt,fun k u hk=>by rw[World.cell?_setCell_other _ _ _ _ (fun g=>hq (by injection g))];exact h.cell k u hk,fun k hk=>by rw[World.frozen?_setCell];exact h.free k hk⟩
theorem Boxed.at {w:World} {p q:Nat} {vs:Array Value} (h:Boxed w p vs) (e:p=q):Boxed w q vs:=e▸h
end Go.Proofs.YtldbfkccieipjaaGreatDoor
