/- The walks of linguisterref1.Starts and linguisterref1.NumberOf. Conditions: the texts are short of 4000000000 bytes. -/
import Derived.Test.YtjlchookakbomaaGreatDoorEin
import Derived.Below
import Derived.Lib.ItoaLen
set_option maxHeartbeats 2000000
set_option maxRecDepth 100000
namespace Go.Proofs.YtjlchookakbomaaGreatDoor.Dcm
def P10 (n:Int):Int:=if n≤0 then 1 else if n=1 then 10 else if n=2 then 100 else if n=3 then 1000 else if n=4 then 10000 else if n=5 then 100000 else if n=6 then 1000000 else if n=7 then 10000000 else if n=8 then 100000000 else 1000000000
theorem ten (s:Int) (h0:0≤s) (h1:s≤9):s=0∨s=1∨s=2∨s=3∨s=4∨s=5∨s=6∨s=7∨s=8∨s=9:=by omega
theorem zLB:P10 0=1:=rfl
theorem zB1 (n:Int) (h0:0≤n) (h:n≤8):P10 (n+1)=P10 n*10:=by
 rcases ten n h0 (by omega) with rfl|rfl|rfl|rfl|rfl|rfl|rfl|rfl|rfl|rfl<;>simp[P10] at h⊢
theorem zAj (n:Int):1≤P10 n∧P10 n≤1000000000:=by
 unfold P10
 repeat' split
 all_goals omega
theorem zLL (s t:Int) (h0:0≤s) (h1:0≤t) (h2:s+t≤9):P10 s*P10 t=P10 (s+t):=by
 rcases ten s h0 (by omega) with rfl|rfl|rfl|rfl|rfl|rfl|rfl|rfl|rfl|rfl<;>rcases ten t h1 (by omega) with rfl|rfl|rfl|rfl|rfl|rfl|rfl|rfl|rfl|rfl<;>first|rfl|omega
def okD (c s:Int):Prop:=0≤s∧s≤9∧ -1000000000000000≤c∧c≤1000000000000000
instance (c s:Int):Decidable (okD c s):=by unfold okD;infer_instance
def nrm (c s:Int):Int:=c*P10 (9-s)
theorem zFP (a s b t:Int) (hs0:0≤s) (hs:s≤9) (ht0:0≤t) (ht:t≤9):a*P10 t<b*P10 s↔nrm a s<nrm b t:=by
 unfold nrm
 rcases ten s hs0 hs with rfl|rfl|rfl|rfl|rfl|rfl|rfl|rfl|rfl|rfl<;>rcases ten t ht0 ht with rfl|rfl|rfl|rfl|rfl|rfl|rfl|rfl|rfl|rfl<;>simp[P10]<;>omega
theorem zM7 (a s b t:Int) (hs0:0≤s) (hs:s≤9) (ht0:0≤t) (ht:t≤9):a*P10 t=b*P10 s↔nrm a s=nrm b t:=by
 have h1:=zFP a s b t hs0 hs ht0 ht
 have h2:=zFP b t a s ht0 ht hs0 hs
 omega
theorem zAN (n:Int):0<P10 n:=by have:=zAj n;omega
theorem zFQ {A B:Int}:A<B↔(A/18446744073709551616<B/18446744073709551616∨A/18446744073709551616=B/18446744073709551616∧A%18446744073709551616<B%18446744073709551616):=by omega
theorem zJ7 {A B:Int}:A=B↔(A/18446744073709551616=B/18446744073709551616∧A%18446744073709551616=B%18446744073709551616):=by omega

def sgn (c:Int):Int:=if c<0 then-1 else 1
def mag (c:Int):Int:=if c<0 then-c else c
theorem zB2 (c:Int):0≤mag c:=by unfold mag;split<;>omega
def near (way whole rest unit sign:Int):Bool:=
 if way=2 then decide (0<rest)&&decide (sign<0)
 else if way=3 then decide (0<rest)&&decide (0<sign)
 else if way=4 then decide (unit≤2*rest)
 else if way=5 then decide (unit<2*rest)||(decide (2*rest=unit)&&decide (whole%2=1))
 else false
def rdU (N U way sign:Int):Int:=N/U+if near way (N/U) (N%U) U sign then 1 else 0
def rndC (c s t way:Int):Int:=if s≤t then c*P10 (t-s) else sgn c*rdU (mag c) (P10 (s-t)) way (sgn c)
def rndOk (c s t:Int):Prop:=s≤t→mag c*P10 (t-s)≤1000000000000000
instance (c s t:Int):Decidable (rndOk c s t):=by unfold rndOk;infer_instance
theorem ways (w:Int) (h0:1≤w) (h1:w≤5):w=1∨w=2∨w=3∨w=4∨w=5:=by omega
theorem zD8 (c s t way:Int) (hc: -1000000000000000≤c∧c≤1000000000000000) (s1:s≤9) (t0:0≤t) (ht:t<s) (h0:1≤way) (h1:way≤5):
  -100000000000001≤rndC c s t way∧rndC c s t way≤100000000000001∧
  mag (c-rndC c s t way*P10 (s-t))<P10 (s-t)∧
  ((way=4∨way=5)→2*mag (c-rndC c s t way*P10 (s-t))≤P10 (s-t))∧
  (way=5→2*mag (c-rndC c s t way*P10 (s-t))=P10 (s-t)→(rndC c s t way)%2=0)∧
  (way=2→0≤c-rndC c s t way*P10 (s-t))∧(way=3→c-rndC c s t way*P10 (s-t)≤0)∧
  (way=1→(0≤c∧0≤c-rndC c s t way*P10 (s-t))∨(c≤0∧c-rndC c s t way*P10 (s-t)≤0)):=by
 obtain⟨k,hk⟩: ∃k,k=s-t:=⟨_,rfl⟩
 unfold rndC;rw[if_neg (by omega),←hk]
 have k1:k=1∨k=2∨k=3∨k=4∨k=5∨k=6∨k=7∨k=8∨k=9:=by omega
 clear hk s1 t0 ht
 unfold rdU sgn mag near
 rcases k1 with rfl|rfl|rfl|rfl|rfl|rfl|rfl|rfl|rfl<;>simp only[P10,Int.reduceLE,Int.reduceEq,if_true,if_false]<;>
  rcases ways way h0 h1 with rfl|rfl|rfl|rfl|rfl<;>simp only[Int.reduceEq,if_true,if_false,Bool.and_eq_true,Bool.or_eq_true,decide_eq_true_eq,Bool.false_eq_true,false_implies,true_implies,or_false,false_or,and_true,true_and]<;>
  by_cases hA:c<0<;>(try simp only[hA,if_true,if_false])<;>(repeat' split)<;>omega
def addC (a s b t:Int):Int:=if s≤t then a*P10 (t-s)+b else b*P10 (s-t)+a
def addS (s t:Int):Int:=if s≤t then t else s
theorem zCu (a b U:Int) (_hU:1≤U):(a+b.tdiv U)*U+b.tmod U=a*U+b:=by
 have:=Int.mul_tdiv_add_tmod b U
 rw[Int.mul_comm] at this
 rw[Int.add_mul];omega
theorem zEz (b U:Int) (_hU:1≤U) (hb: -1000000000000000≤b∧b≤1000000000000000): -1000000000000000≤b.tdiv U∧b.tdiv U≤1000000000000000:=by
 have h1:=Int.natAbs_tdiv_le_natAbs b U
 omega
theorem zCv (b U:Int) (hU:1≤U): -U<b.tmod U∧b.tmod U<U:=by
 have h1:=Int.tmod_lt_of_pos b (by omega:0<U)
 have h2:=Int.tmod_lt_of_pos (-b) (by omega:0<U)
 rw[Int.neg_tmod] at h2
 omega
theorem zHf (S r U:Int) (hU:1≤U) (hr: -U<r∧r<U) (hS:2000000000000000/U+1<S∨S< -(2000000000000000/U)-1):1000000000000000<S*U+r∨S*U+r< -1000000000000000:=by
 have h1:2000000000000000/U*U+2000000000000000%U=2000000000000000:=by rw[Int.mul_comm];exact Int.mul_ediv_add_emod _ _
 have h2:=Int.emod_lt_of_pos 2000000000000000 (by omega:0<U)
 rcases hS with h|h
 ·have:(2000000000000000/U+1+1)*U≤S*U:=Int.mul_le_mul_of_nonneg_right (by omega) (by omega)
  rw[Int.add_mul,Int.add_mul] at this;omega
 have:S*U≤(-(2000000000000000/U)-1-1)*U:=Int.mul_le_mul_of_nonneg_right (by omega) (by omega)
 rw[Int.sub_mul,Int.sub_mul,Int.neg_mul] at this;omega
theorem zFR (S U:Int) (hU:1≤U) (hU1:U≤1000000000) (hS: ¬2000000000000000/U+1<S∧ ¬S< -(2000000000000000/U)-1): -2000001000000000≤S*U∧S*U≤2000001000000000:=by
 have h1:2000000000000000/U*U+2000000000000000%U=2000000000000000:=by rw[Int.mul_comm];exact Int.mul_ediv_add_emod _ _
 have h2:=Int.emod_nonneg 2000000000000000 (by omega:U≠0)
 constructor
 ·have:(-(2000000000000000/U)-1)*U≤S*U:=Int.mul_le_mul_of_nonneg_right (by omega) (by omega)
  rw[Int.sub_mul,Int.neg_mul] at this;omega
 have:S*U≤(2000000000000000/U+1)*U:=Int.mul_le_mul_of_nonneg_right (by omega) (by omega)
 rw[Int.add_mul] at this;omega
def strip:Nat→Int→Nat×Int
 |0,t=>(0,t)
 |w+1,t=>if t%10=0 then strip w (t/10) else (w+1,t)
theorem zDQ: ∀(w:Nat) (t:Int),(strip w t).1≤w
 |0,_=>Nat.le_refl _
 |w+1,t=>by unfold strip;split;exact Nat.le_succ_of_le (zDQ w _);exact Nat.le_refl _
theorem zE0: ∀(w:Nat) (t:Int),(strip w t).1=0∨(strip w t).2%10≠0
 |0,_=> .inl rfl
 |w+1,t=>by
  unfold strip;split
  ·exact zE0 w _
  rename_i h;exact .inr h
theorem zE1: ∀(w:Nat) (t:Int),w≤9→(strip w t).2*P10 (w-(strip w t).1)=t
 |0,t,_=>by simp[strip,P10]
 |w+1,t,h=>by
  unfold strip;split
  ·rename_i h0
   have:=zE1 w (t/10) (by omega)
   have hl:=zDQ w (t/10)
   have e:((w+1:Nat):Int)-((strip w (t/10)).1:Int)=((w:Int)-((strip w (t/10)).1:Int))+1:=by omega
   rw[e,zB1 _ (by omega) (by omega),←Int.mul_assoc,this];omega
  simp[P10]
end Go.Proofs.YtjlchookakbomaaGreatDoor.Dcm
namespace Byt
open Go Go.Lib
open Go.Proofs.YtjlchookakbomaaGreatDoor.Dcm (P10 okD mag)

def foldD (acc:Nat):List UInt8→Nat
 | []=>acc
 |c::r=>foldD (10*acc+(c.toNat-48)) r
theorem zE2 (x y:List UInt8): ∀a:Nat,foldD a (x++y)=foldD (foldD a x) y:=by
 induction x with
 |nil=>intro a;rfl
 |cons c r ih=>intro a;exact ih _
theorem zHY (a x P S:Nat):(10*a+x)*P+S=a*(P*10)+(x*P+S):=by
 have e:(10*a+x)*P=a*(P*10)+x*P:=by rw[Nat.add_mul,Nat.mul_comm 10 a,Nat.mul_assoc,Nat.mul_comm 10 P]
 rw[e,Nat.add_assoc]
theorem zC7: ∀(l:List UInt8) (a:Nat),foldD a l=a*10^l.length+foldD 0 l
 | [],a=>(Nat.mul_one a).symm
 |c::r,a=>by
  have h1:=zC7 r (10*a+(c.toNat-48))
  have h2:=zC7 r (10*0+(c.toNat-48))
  have h3:10^(c::r).length=10^r.length*10:=Nat.pow_succ 10 r.length
  rw[h3]
  have e1:foldD a (c::r)=foldD (10*a+(c.toNat-48)) r:=rfl
  have e2:foldD 0 (c::r)=foldD (10*0+(c.toNat-48)) r:=rfl
  rw[e1,e2,h1,h2,Nat.mul_zero,Nat.zero_add]
  exact zHY _ _ _ _
theorem zE3: ∀(k u:Nat),u<k→foldD 0 (decDigits u)=u
 |0,u,h=>by omega
 |k+1,u,h=>by
  by_cases hu:u<10
  ·rw[Dtx.dd1 hu]
   show 10*0+((UInt8.ofNat (48+u)).toNat-48)=u
   rw[zBX hu];omega
  rw[Dtx.dd2 hu,zE2,zE3 k (u/10) (by omega)]
  show 10*(u/10)+((UInt8.ofNat (48+u%10)).toNat-48)=u
  rw[zBX (by omega)];omega
theorem zFS (u:Nat):foldD 0 (decDigits u)=u:=zE3 (u+1) u (by omega)
def isDig (c:UInt8):Bool:=decide (48≤(c.toNat:Int))&&decide ((c.toNat:Int)≤57)
theorem zCc {c:UInt8}:isDig c=true↔48≤c.toNat∧c.toNat≤57:=by
 unfold isDig
 rw[Bool.and_eq_true,decide_eq_true_eq,decide_eq_true_eq];omega
def numP (l:List UInt8):Int:=
 if l.length=0∨16<l.length then-1
 else if l.all isDig=true then (if decDigits (foldD 0 l)=l∧(foldD 0 l:Int)≤1000000000000000 then (foldD 0 l:Int) else-1) else-1
theorem zFT (u:Nat) (h:u≤1000000000000000):numP (decDigits u)=u:=by
 unfold numP
 have h1:=List.length_pos_iff.2 (zA8 u)
 have h2:=zAD 16 u (by omega) (by omega)
 rw[if_neg (by omega),if_pos (List.all_eq_true.2 fun c hc=>zCc.2 (zBO u c hc)),zFS,if_pos ⟨rfl,by omega⟩]
theorem zI0 {l:List UInt8} (h:0≤numP l):decDigits (numP l).toNat=l∧numP l≤1000000000000000:=by
 unfold numP at*
 split at h
 ·omega
 rename_i h1
 rw[if_neg h1]
 split at h
 ·rename_i h2
  rw[if_pos h2]
  split at h
  ·rename_i h3
   rw[if_pos h3]
   exact⟨by rw[Int.toNat_natCast];exact h3.1,h3.2⟩
  omega
 omega
theorem zHg (l:List UInt8): -1≤numP l∧numP l≤1000000000000000:=by
 unfold numP
 split
 ·omega
 split
 ·split
  ·rename_i h;omega
  omega
 omega
theorem zJ8: ∀(l:List UInt8),(∀c∈l,48≤c.toNat∧c.toNat≤57)→foldD 0 l<10^l.length:=by
 intro l
 induction l with
 |nil=>intro _;decide
 |cons c r ih=>
  intro h
  have h1:=ih fun x hx=>h x (List.mem_cons_of_mem _ hx)
  have h2:=h c List.mem_cons_self
  show foldD (10*0+(c.toNat-48)) r<_
  rw[zC7,List.length_cons,Nat.pow_succ]
  generalize 10^r.length=P at*
  have:(10*0+(c.toNat-48))*P≤9*P:=Nat.mul_le_mul_right P (by omega)
  omega

theorem zDR (k u:Nat) (hk:0<k):Dtx.pad (k+1) u=Dtx.pad k (u/10)++ [UInt8.ofNat (48+u%10)]:=by
 unfold Dtx.pad
 by_cases h:u<10
 ·obtain⟨j,rfl⟩: ∃j,k=j+1:=⟨k-1,by omega⟩
  rw[Dtx.dd1 h,show u/10=0 by omega,Dtx.dd1 (show 0<10 by omega),Nat.mod_eq_of_lt h]
  show List.replicate (j+1) 48++_=List.replicate j 48++ [48]++_
  rw[List.replicate_succ']
 rw[Dtx.dd2 h,List.length_append,List.length_singleton,show k+1-((decDigits (u/10)).length+1)=k-(decDigits (u/10)).length by omega,List.append_assoc]
theorem zLM {k u:Nat} (hk:0<k) (h:u<10^k):(Dtx.pad k u).length=k:=by
 have:=zAD k u h hk
 unfold Dtx.pad
 rw[List.length_append,List.length_replicate];omega
theorem zHh (u:Nat):Dtx.pad 1 u=decDigits u:=by
 have:=List.length_pos_iff.2 (zA8 u)
 unfold Dtx.pad
 rw[show 1-(decDigits u).length=0 by omega];rfl
theorem zE4: ∀(s u:Nat),0<s→Dtx.pad (s+1) u=decDigits (u/10^s)++Dtx.pad s (u%10^s)
 |0,u,h=>by omega
 |1,u,_=>by
  rw[zDR 1 u (by omega),zHh,zHh,Nat.pow_one,Dtx.dd1 (show u%10<10 by omega)]
 |s+2,u,_=>by
  rw[zDR (s+2) u (by omega),zE4 (s+1) (u/10) (by omega),zDR (s+1) (u%10^(s+2)) (by omega)]
  have e:10^(s+2)=10^(s+1)*10:=Nat.pow_succ 10 (s+1)
  rw[e,Nat.mod_mul_left_div_self,Nat.mod_mul_left_mod,Nat.div_div_eq_div_mul,Nat.mul_comm 10 (10^(s+1)),List.append_assoc]
theorem zLN (s:Nat) (h:s≤9):P10 (s:Int)=((10^s:Nat):Int):=by
 have:s=0∨s=1∨s=2∨s=3∨s=4∨s=5∨s=6∨s=7∨s=8∨s=9:=by omega
 rcases this with rfl|rfl|rfl|rfl|rfl|rfl|rfl|rfl|rfl|rfl<;>rfl
theorem mag_abs (c:Int):mag c=(c.natAbs:Int):=by unfold mag;split<;>omega
def magT (n s:Int):List UInt8:=if s≤0 then decDigits n.toNat else decDigits (n/P10 s).toNat++46::Dtx.pad s.toNat (n%P10 s).toNat
theorem zDD (c s:Int) (h:okD c s):decText c s=sgn c++magT (mag c) s:=by
 obtain⟨s0,s9,_,_⟩:=h
 unfold decText magT
 by_cases hs:s≤0
 ·rw[if_pos hs,if_pos hs,mag_abs,Int.toNat_natCast]
 rw[if_neg hs,if_neg hs]
 obtain⟨k,rfl⟩: ∃k:Nat,s=(k:Int):=⟨s.toNat,by omega⟩
 have e:zdig (zn c k) c.natAbs=decDigits (c.natAbs/10^k)++Dtx.pad k (c.natAbs%10^k):=zE4 k c.natAbs (by omega)
 have hp:0<10^k:=Nat.pow_pos (by omega)
 have l:=zLM (k:=k) (u:=c.natAbs%10^k) (by omega) (Nat.mod_lt _ hp)
 rw[e,Int.toNat_natCast,mag_abs,zLN k (by omega)]
 rw[←Int.natCast_ediv,←Int.natCast_emod,Int.toNat_natCast,Int.toNat_natCast]
 generalize Dtx.pad k (c.natAbs%10^k)=P at*
 generalize decDigits (c.natAbs/10^k)=D at*
 rw[List.length_append,l,Nat.add_sub_cancel,List.take_left,List.drop_left]
 simp
def bare (t:List UInt8):List UInt8:=if t.take 1= [45] then t.drop 1 else t
end Byt
namespace Go.Proofs.YtjlchookakbomaaGreatDoor
open Go.RowKit Go.Lib

theorem zDE (l:Int) (D:List UInt8) (l0:0≤l) (l1:l≤1000) (hD:D.length≤1000) (k:Nat) (hk:k≤l.toNat-D.length) (h: ¬((k:Int)+D.length<l)):List.replicate k 48++D=List.replicate (l.toNat-D.length) 48++D:=by
 rw[show k=l.toNat-D.length by omega]

theorem zI1 (k:Nat): ∀(n l:Int) (w:World),n.toNat<k→0≤n→n≤9223372036854775807→0≤l→l≤1000→
  Calls Tryz.prog 75 #[.int .i64 n,.int .i64 l] w fun e w'=>e= .returned (.string ⟨(Dtx.pad l.toNat n.toNat).toArray⟩)∧Below w.heap.size w w':=by
 induction k with
 |zero=>intro n l w hk;omega
 |succ k ih=>
  intro n l w hk n0 n1 l0 l1
  have hd20:(decDigits n.toNat).length≤20:=by rw[decDigits_length];exact nDigits_le20 _ (by omega)
  have CV:=zBZ (P:= Tryz.prog) 72 9 5 Tryz.underlying72 Tryz.underlying5 Tryz.underlying9 (48+n%10) w (by omega) (by omega)
  have G:=lH (show Dtx.pad l.toNat n.toNat=List.replicate (l.toNat-(decDigits n.toNat).length) 48++decDigits n.toNat from rfl)
  generalize hg:Dtx.pad l.toNat n.toNat=R at*
  clear hg
  by_cases h10:n<10
  ·have e: [UInt8.ofNat (48+n%10).toNat]=decDigits n.toNat:=by rw[decDigits_one (by omega)];congr 2;omega
   rw[e] at CV
   clear e
   generalize decDigits n.toNat=D at*
   go_enter Tryz.func75,Tryz.ntmps75
   go_wp2_with fail
   clear CV
   have B:=lH (bA w (.cells #[.int .u8 (48+n%10)] 5))
   generalize w.alloc (.cells #[.int .u8 (48+n%10)] 5)=w1 at*
   go_loop [5] (fun s=> ∃k:Nat,k≤l.toNat-D.length∧s= .string ⟨(List.replicate k 48++D).toArray⟩) (fun s=>l.toNat-strLen s)
   case atStart=>exact⟨0,Nat.zero_le _,by simp⟩
   case round=>
    obtain⟨k,hk,rfl⟩:=hrel
    by_cases hlt:(k:Int)+D.length<l
    ·have AD:=fun w=>zAh (P:= Tryz.prog) [48] (List.replicate k 48++D) (by simp;omega) w
     have K1:=lH (show k+1≤l.toNat-D.length∧l.toNat-(k+1+D.length)<l.toNat-(k+D.length) by omega)
     go_wp2_with fail
     go_round
     case rel=>exact⟨k+1,K1.out.1,by simp[List.replicate_succ]⟩
     case measure=>rw[zAS,zAS];have:=K1.out.2;simp;omega
    have E:=lH (zDE l D l0 l1 (by omega) k hk hlt)
    go_wp2_with fail
    go_ret
    exact⟨zBC (by rw[G.out,E.out]),B.out⟩
  have e:decDigits n.toNat=decDigits (n/10).toNat++ [UInt8.ofNat (48+n%10).toNat]:=by
   rw[Dtx.dd2 (by omega)]
   congr 2
   ·congr 1;omega
   congr 2;omega
  have C:Hid (∀w,Calls Tryz.prog 75 #[.int .i64 (n/10),.int .i64 0] w fun e w'=>e= .returned (.string ⟨(decDigits (n/10).toNat).toArray⟩)∧Below w.heap.size w w'):=by
   refine lH fun w=>?_
   have c:=ih (n/10) 0 w (by omega) (by omega) (by omega) (by omega) (by omega)
   have z:Dtx.pad (0:Int).toNat (n/10).toNat=decDigits (n/10).toNat:=by unfold Dtx.pad;simp
   rw[z] at c
   exact c
  have hl:(decDigits (n/10).toNat).length+1=(decDigits n.toNat).length:=by rw[e];simp
  have AD:=fun w=>zAh (P:= Tryz.prog) (decDigits (n/10).toNat) [UInt8.ofNat (48+n%10).toNat] (by simp;omega) w
  rw[←e] at AD
  clear e ih
  generalize decDigits n.toNat=D at*
  generalize decDigits (n/10).toNat=D0 at*
  go_enter Tryz.func75,Tryz.ntmps75
  go_wp2_with fail
  clear CV
  have B:=lH (bA w (.cells #[.int .u8 (48+n%10)] 5))
  refine(C.out _).mono ?_
  rintro e w1 ⟨rfl,hb⟩
  have B1:=lH (bT B.out hb)
  clear hb B
  go_wp2_with fail
  clear AD
  go_loop [5] (fun s=> ∃k:Nat,k≤l.toNat-D.length∧s= .string ⟨(List.replicate k 48++D).toArray⟩) (fun s=>l.toNat-strLen s)
  case atStart=>exact⟨0,Nat.zero_le _,by simp⟩
  case round=>
   obtain⟨k,hk,rfl⟩:=hrel
   by_cases hlt:(k:Int)+D.length<l
   ·have AD:=fun w=>zAh (P:= Tryz.prog) [48] (List.replicate k 48++D) (by simp;omega) w
    have K1:=lH (show k+1≤l.toNat-D.length∧l.toNat-(k+1+D.length)<l.toNat-(k+D.length) by omega)
    go_wp2_with fail
    go_round
    case rel=>exact⟨k+1,K1.out.1,by simp[List.replicate_succ]⟩
    case measure=>rw[zAS,zAS];have:=K1.out.2;simp;omega
   have E:=lH (zDE l D l0 l1 (by omega) k hk hlt)
   go_wp2_with fail
   go_ret
   exact⟨zBC (by rw[G.out,E.out]),B1.out⟩
theorem zD9 (n l:Int) (w:World) (n0:0≤n) (n1:n≤9223372036854775807) (l0:0≤l) (l1:l≤1000):
  Calls Tryz.prog 75 #[.int .i64 n,.int .i64 l] w fun e w'=>e= .returned (.string ⟨(Dtx.pad l.toNat n.toNat).toArray⟩)∧Below w.heap.size w w':=
 zI1 (n.toNat+1) n l w (by omega) n0 n1 l0 l1
theorem zBf (n:Int) (w:World) (n0:0≤n) (n1:n≤9223372036854775807):
  Calls Tryz.prog 75 #[.int .i64 n,.int .i64 0] w fun e w'=>e= .returned (.string ⟨(decDigits n.toNat).toArray⟩)∧Below w.heap.size w w':=by
 have c:=zD9 n 0 w n0 n1 (by omega) (by omega)
 have z:Dtx.pad (0:Int).toNat n.toNat=decDigits n.toNat:=by unfold Dtx.pad;simp
 rw[z] at c
 exact c
open Go.RowKit

theorem zM8 (x:Int) (h0:48≤x) (h1:x≤57):IntKind.u8.wrap (x-48)=x-48:=by
 have:x=48∨x=49∨x=50∨x=51∨x=52∨x=53∨x=54∨x=55∨x=56∨x=57:=by omega
 rcases this with rfl|rfl|rfl|rfl|rfl|rfl|rfl|rfl|rfl|rfl<;>decide
theorem zJ9 {s:List UInt8} {k:Nat} {c:UInt8} (h:s[k]?=some c) (p:UInt8→Bool):(s.take (k+1)).all p=((s.take k).all p&&p c):=by
 rw[List.take_add_one,h,List.all_append];simp
theorem zI2 {s:List UInt8} {k:Nat} {c:UInt8} (h:s[k]?=some c):Byt.foldD 0 (s.take (k+1))=10*Byt.foldD 0 (s.take k)+(c.toNat-48):=by
 rw[List.take_add_one,h,Byt.zE2];rfl
theorem zGS {s:List UInt8} {k:Nat} {c:UInt8} {p:UInt8→Bool} (h:s[k]?=some c) (hp:p c=false):s.all p=false:=
 List.all_eq_false.2 ⟨c,List.mem_of_getElem? h,by rw[hp];decide⟩
theorem zFU {s:List UInt8} {k:Nat} (h:(s.take k).all Byt.isDig=true) (hk:k≤16):Byt.foldD 0 (s.take k)<10000000000000000:=by
 have:=Byt.zJ8 (s.take k) fun c hc=>Byt.zCc.1 (List.all_eq_true.1 h c hc)
 have hl:(s.take k).length≤16:=by rw[List.length_take];omega
 have:10^(s.take k).length≤10^16:=Nat.pow_le_pow_right (by omega) hl
 omega

theorem zCd (s:List UInt8) (w:World) (hs:s.length≤4000000000):
  Calls Tryz.prog 111 #[.string ⟨s.toArray⟩] w fun e w'=>e= .returned (.int .i64 (Byt.numP s))∧Below w.heap.size w w':=by
 have HP:=lH (show Byt.numP s=if s.length=0∨16<s.length then-1 else if s.all Byt.isDig=true then (if Lib.decDigits (Byt.foldD 0 s)=s∧(Byt.foldD 0 s:Int)≤1000000000000000 then (Byt.foldD 0 s:Int) else-1) else-1 from rfl)
 generalize Byt.numP s=V at*
 by_cases h0:s.length=0
 ·have HV:=lH (show V= -1 by rw[HP.out,if_pos (.inl h0)])
  have d0:((s.length:Int)==0)=true:=zAo (by omega)
  clear HP h0
  go_enter Tryz.func111,Tryz.ntmps111
  go_wp2_with fail
  go_ret
  exact⟨zAl (by rw[HV.out]),Below.refl _ _⟩
 have d0:((s.length:Int)==0)=false:=zAe (by omega)
 by_cases h1:16<s.length
 ·have HV:=lH (show V= -1 by rw[HP.out,if_pos (.inr h1)])
  have d1:decide (16<(s.length:Int))=true:=zAd (by omega)
  clear HP h0
  go_enter Tryz.func111,Tryz.ntmps111
  go_wp2_with fail
  go_ret
  exact⟨zAl (by rw[HV.out]),Below.refl _ _⟩
 have HQ:=lH (show V=if s.all Byt.isDig=true then (if Lib.decDigits (Byt.foldD 0 s)=s∧(Byt.foldD 0 s:Int)≤1000000000000000 then (Byt.foldD 0 s:Int) else-1) else-1 by rw[HP.out,if_neg (by omega)])
 have d1:decide (16<(s.length:Int))=false:=zAa (by omega)
 have hl:s.length≤16:=by omega
 clear HP h0 h1
 go_enter Tryz.func111,Tryz.ntmps111
 go_wp2_with fail
 clear d0 d1
 go_loop [3,4] (fun n i=> ∃k:Nat,i= .int .i64 k∧n= .int .i64 (Byt.foldD 0 (s.take k))∧k≤s.length∧Hid ((s.take k).all Byt.isDig=true)) (fun _ i=>s.length-(RowKit.intOf i).toNat)
 case atStart=>exact⟨0,rfl,rfl,Nat.zero_le _,lH rfl⟩
 case round=>
  obtain⟨k,rfl,rfl,hk,HA⟩:=hrel
  have hb:=zFU HA.out (by omega)
  by_cases hlt:k<s.length
  ·obtain⟨c,hx⟩: ∃c,s[k]?=some c:=⟨s[k],List.getElem?_eq_getElem hlt⟩
   have IX:=fun w=>zA9 (P:= Tryz.prog) 9 Tryz.underlying9 s .i64 k c hx w
   have hcb:=c.toNat_lt
   by_cases hd:48≤c.toNat∧c.toNat≤57
   ·have HN:=lH (zI2 hx)
    have HA2:=lH (show(s.take (k+1)).all Byt.isDig=true by rw[zJ9 hx,HA.out,Byt.zCc.2 hd];rfl)
    have us:=zM8 (c.toNat:Int) (by omega) (by omega)
    obtain⟨g0,g1⟩:=hd
    have e0:decide ((c.toNat:Int)<48)=false:=zAa (by omega)
    have e1:decide (57<(c.toNat:Int))=false:=zAa (by omega)
    clear hx HA
    generalize Byt.foldD 0 (s.take k)=N at*
    go_wp2_with fail
    go_round
    case rel=>exact⟨k+1,by go_num,congrArg (Value.int .i64) (by rw[HN.out];omega),by omega,HA2⟩
    case measure=>simp[RowKit.intOf];omega
   have HV:=lH (show V= -1 by
    rw[HQ.out,if_neg]
    rw[zGS hx (show Byt.isDig c=false by
     cases hq:Byt.isDig c with
     |false=>rfl
     |true=>exact absurd (Byt.zCc.1 hq) hd)]
    decide)
   clear hx HA HQ
   generalize Byt.foldD 0 (s.take k)=N at*
   by_cases g0:c.toNat<48
   ·have e0:decide ((c.toNat:Int)<48)=true:=zAd (by omega)
    go_wp2_with fail
    go_ret
    exact⟨zAl (by rw[HV.out]),Below.refl _ _⟩
   have e0:decide ((c.toNat:Int)<48)=false:=zAa (by omega)
   have e1:decide (57<(c.toNat:Int))=true:=zAd (by omega)
   go_wp2_with fail
   go_ret
   exact⟨zAl (by rw[HV.out]),Below.refl _ _⟩
  have ht:s.take k=s:=List.take_of_length_le (by omega)
  rw[ht] at HA hb⊢
  clear ht
  have CD:=lH fun w=>zBf (Byt.foldD 0 s:Int) w (by omega) (by omega)
  rw[Int.toNat_natCast] at CD
  have HQ2:=lH (show V=if Lib.decDigits (Byt.foldD 0 s)=s∧(Byt.foldD 0 s:Int)≤1000000000000000 then (Byt.foldD 0 s:Int) else-1 by rw[HQ.out,if_pos HA.out])
  clear HQ HA
  generalize Byt.foldD 0 s=N at*
  generalize Lib.decDigits N=D at*
  by_cases hq:D=s
  ·have q1:(D==s)=true:=by rw[hq];simp
   have q2:(D !=s)=false:=by rw[bne,q1];rfl
   by_cases hn:(N:Int)≤1000000000000000
   ·have HV:=lH (show V=(N:Int) by rw[HQ2.out,if_pos ⟨hq,hn⟩])
    have e1:decide (1000000000000000<(N:Int))=false:=zAa (by omega)
    clear hq HQ2
    go_wp2_with fail
    refine(CD.out _).mono ?_
    rintro e w1 ⟨rfl,hw⟩
    have HW:=lH hw
    clear hw CD
    go_wp2_with fail
    go_ret
    exact⟨zAl (by rw[HV.out]),HW.out⟩
   have HV:=lH (show V= -1 by rw[HQ2.out,if_neg (fun g=>hn g.2)])
   have e1:decide (1000000000000000<(N:Int))=true:=zAd (by omega)
   clear hq HQ2
   go_wp2_with fail
   refine(CD.out _).mono ?_
   rintro e w1 ⟨rfl,hw⟩
   have HW:=lH hw
   clear hw CD
   go_wp2_with fail
   go_ret
   exact⟨zAl (by rw[HV.out]),HW.out⟩
  have q1:(D==s)=false:=beq_eq_false_iff_ne.2 hq
  have q2:(D !=s)=true:=by rw[bne,q1];rfl
  have HV:=lH (show V= -1 by rw[HQ2.out,if_neg (fun g=>hq g.1)])
  clear hq HQ2
  go_wp2_with fail
  refine(CD.out _).mono ?_
  rintro e w1 ⟨rfl,hw⟩
  have HW:=lH hw
  clear hw CD
  go_wp2_with fail
  go_ret
  exact⟨zAl (by rw[HV.out]),HW.out⟩
open Go.RowKit

theorem zHZ (s p:List UInt8) (w:World):
  Calls Tryz.prog 110 #[.string ⟨s.toArray⟩,.string ⟨p.toArray⟩] w fun e w'=>e= .returned (.bool (s.take p.length==p))∧w'=w:=by
 by_cases h:p.length≤s.length
 ·have SL:=fun w=>zB0 (P:= Tryz.prog) 9 Tryz.underlying9 s .i64 p.length h w
  generalize s.take p.length=T at*
  cases hb:T==p
  ·have hq:T≠p:=beq_eq_false_iff_ne.1 hb
   clear hq
   go_enter Tryz.func110,Tryz.ntmps110
   go_wp2_with fail
   go_ret
   exact⟨rfl,rfl⟩
  go_enter Tryz.func110,Tryz.ntmps110
  go_wp2_with fail
  go_ret
  exact⟨rfl,rfl⟩
 have e:(s.take p.length==p)=false:=beq_eq_false_iff_ne.2 fun g=>by
  have:=congrArg List.length g
  rw[List.length_take] at this;omega
 rw[e]
 clear e
 go_enter Tryz.func110,Tryz.ntmps110
 go_wp2_with fail
 go_ret
 exact⟨rfl,rfl⟩
end Go.Proofs.YtjlchookakbomaaGreatDoor
