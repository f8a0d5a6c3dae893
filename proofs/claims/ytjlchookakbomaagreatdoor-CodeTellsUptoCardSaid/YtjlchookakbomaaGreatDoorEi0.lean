/- Texts cut at one sign: a joined text is cut into what was joined; a sign is struck out. Plain: no program. -/
import Derived.WalkKit
import Derived.WalkSpells
import Derived.WalkLawsBesides
import Derived.IntWalk
import Derived.BigQuiet
import Derived.Deep.QuietTactic
import Derived.Outline
import Derived.Lib.Hide
import Derived.Lib.Split
import Derived.Lib.ItoaNum
import Derived.Lib.AtoiAll
import Derived.Lib.AtoiAllCases
import Derived.Lib.IndexMore
import Derived.Lib.Strings
import Derived.Lib.Repeat
import Derived.Lib.Join
import Derived.Lib.SplitLaws
import Derived.Laws.AppendOwn
import Derived.Maps.AppendAt
import Derived.Laws.OwnMore
import Derived.OwnWalk
import Derived.Shelf.Strings.SlTrimAscii
import Derived.Laws.Strings2
import Derived.Laws.Strings3
import Derived.Laws.Concat
import Derived.Laws.IdiomStrings
import Derived.Test.YtjlchookakbomaaGreatDoorProg
import Derived.LoopTactic
import Derived.Test.YtjlchookakbomaaGreatDoorShelfU
import Derived.Test.YtjlchookakbomaaGreatDoorShelfG
import Derived.Lib.Replace
set_option maxHeartbeats 2000000
set_option maxRecDepth 100000
namespace Go.Proofs.YtjlchookakbomaaGreatDoor
open Go.RowKit

structure Boxed (w:World) (p:Nat) (vs:Array Value):Prop where
 lt:p<w.heap.size
 cell: ∀(j:Nat) (v:Value),vs[j]?=some v→w.cell? ⟨p,j,none⟩=some v
 free: ∀(j:Nat),j<vs.size→w.frozen? ⟨p,j,none⟩=false
theorem Boxed.below {w w':World} {p:Nat} {vs:Array Value} (h:Boxed w p vs) (hb:Below w.heap.size w w'):Boxed w' p vs:=
 ⟨Nat.lt_of_lt_of_le h.lt hb.size,fun j v hj=>(hb.cell (p:=⟨p,j,none⟩) h.lt).trans (h.cell j v hj),fun j hj=>(hb.frozen (p:=⟨p,j,none⟩) h.lt).trans (h.free j hj)⟩
theorem Boxed.made (w:World) (vs:Array Value) (t:TypeId):Boxed (w.alloc (.cells vs t)) w.heap.size vs:=by
 refine⟨by simp,fun j v hj=>?_,fun j hj=>?_⟩
 ·simp[go_sem,hj]
 simp[go_sem]
theorem zES (w:World) (o:Obj):Below w.heap.size w (w.alloc o):=(Below.refl _ _).alloc (Nat.le_refl _) o
theorem zET {a b c:World} (h:Below a.heap.size a b) (k:Below b.heap.size b c):Below a.heap.size a c:=h.trans (k.mono h.size)
theorem zAb {B:Nat} {a w:World} (h:Below B a w) (n:Nat):Below B a (w.drewN n):=⟨h.os,h.tape,h.output,h.size,h.block⟩
theorem Boxed.alloc {w:World} {p:Nat} {vs:Array Value} (h:Boxed w p vs) (o:Obj):Boxed (w.alloc o) p vs:=h.below (zES w o)
theorem Boxed.drew {w:World} {p:Nat} {vs:Array Value} (h:Boxed w p vs):Boxed w.drew p vs:=⟨h.lt,h.cell,h.free⟩
theorem Boxed.drewN {w:World} {p:Nat} {vs:Array Value} (h:Boxed w p vs) (n:Nat):Boxed (w.drewN n) p vs:=⟨h.lt,h.cell,h.free⟩
theorem zAn {w w':World} {a:Addr} {v:Value} (h:w.cell? a=some v) (hb:Below w.heap.size w w'):w'.cell? a=some v:=(hb.cell (World.block_lt_of_cell? w a h)).trans h
theorem zAl {k:IntKind} {a b:Int} (h:a=b):Ending.returned (.int k a)= .returned (.int k b):=by rw[h]
theorem zAg {a b:Bool} (h:a=b):Ending.returned (.bool a)= .returned (.bool b):=by rw[h]
theorem zAt {P:Program} {f:FuncId} {args:Array Value} {w:World} {n:Nat} {v:Value}
  (h:Calls P f args (w.drewN n) fun e w'=>e= .returned v∧w.drewN n=w'):Calls P f args (w.drewN n) fun e w''=>e= .returned v∧ ∃m,w''=w.drewN m:=
 h.mono fun _ _ ⟨he,hm⟩=>⟨he,n,hm.symm⟩
theorem zAa {p:Prop} [Decidable p] (h: ¬p):decide p=false:=decide_eq_false h
theorem zAd {p:Prop} [Decidable p] (h:p):decide p=true:=decide_eq_true h
theorem zAe {a b:Int} (h:a≠b):(a==b)=false:=beq_eq_false_iff_ne.2 h
theorem zAo {a b:Int} (h:a=b):(a==b)=true:=beq_iff_eq.2 h
end Go.Proofs.YtjlchookakbomaaGreatDoor
namespace Spl
open Go Go.Lib

theorem zCa {s sub:List UInt8} {i:Nat} (hsub:sub≠ []) (h:index s sub=i):split s sub=s.take i::split (s.drop (i+sub.length)) sub:=by
 have hne:((i:Int)== -1)=false:=by rw[beq_eq_false_iff_ne];omega
 unfold split
 rw[count_hit hsub h,Nat.add_comm 1]
 simp[splitK,h,hne]
theorem zBz {s sub:List UInt8} (h:index s sub= -1):split s sub= [s]:=by
 unfold split
 rw[count_miss h]
 rfl
theorem zD4 {sub:List UInt8} (hsub:sub≠ []): ∀(k:Nat) (s:List UInt8),count s sub=k→(splitK sub 0 k s).length=k+1
 |0,_,_=>rfl
 |k+1,s,h=>by
  by_cases hi:index s sub= -1
  ·rw[count_miss hi] at h;omega
  have hg:=index_ge s sub
  have he:index s sub=((index s sub).toNat:Int):=by omega
  rw[count_hit hsub he] at h
  have hb:(index s sub== -1)=false:=by rw[beq_eq_false_iff_ne];exact hi
  simp only[splitK,hb,Bool.false_eq_true,if_false,List.length_cons]
  rw[zD4 hsub k _ (by omega)]
theorem zBi {s sub:List UInt8} (hsub:sub≠ []):(split s sub).length=count s sub+1:=zD4 hsub _ s rfl
theorem zDL (s sub:List UInt8) (a j:Nat):occAt (s.drop a) sub j=occAt s sub (a+j):=by
 unfold occAt
 rw[List.drop_drop]

def Inv (s sub:List UInt8) (P:List (List UInt8)) (a b:Nat):Prop:=split s sub=P++split (s.drop a) sub∧ ∀j,a≤j→j<b→occAt s sub j=false
theorem zEU (s sub:List UInt8):Inv s sub [] 0 0:=⟨rfl,fun j _ h=>by omega⟩
theorem zFF {s sub:List UInt8} {P:List (List UInt8)} {a b:Nat} (h:Inv s sub P a b) (hb:b+sub.length≤s.length) (hx: ¬(s.drop b).take sub.length=sub):Inv s sub P a (b+1):=by
 refine⟨h.1,fun j h1 h2=>?_⟩
 by_cases e:j=b
 ·subst e
  rw[occAt_iff_take s sub j hb]
  exact beq_eq_false_iff_ne.2 hx
 exact h.2 j h1 (by omega)
theorem zHb {s sub:List UInt8} {P:List (List UInt8)} {a b:Nat} (h:Inv s sub P a b) (hsub:sub≠ []) (hab:a≤b) (hb:b+sub.length≤s.length) (hx:(s.drop b).take sub.length=sub):
  Inv s sub (P++ [(s.drop a).take (b-a)]) (b+sub.length) (b+sub.length):=by
 refine⟨?_,fun j _ h2=>by omega⟩
 have hi:index (s.drop a) sub=((b-a:Nat):Int):=by
  refine index_first (by rw[List.length_drop];omega) ?_ fun j hj=>?_
  ·rw[zDL,show a+(b-a)=b by omega,occAt_iff_take s sub b hb,hx]
   exact beq_self_eq_true _
  rw[zDL]
  exact h.2 _ (by omega) (by omega)
 rw[h.1,zCa hsub hi,List.drop_drop,show a+(b-a+sub.length)=b+sub.length by omega]
 simp
theorem zHc {s sub:List UInt8} {P:List (List UInt8)} {a b:Nat} (h:Inv s sub P a b) (hsub:sub≠ []) (hb: ¬b+sub.length≤s.length):split s sub=P++ [s.drop a]:=by
 have hi:index (s.drop a) sub= -1:=by
  refine index_none fun j _=>?_
  rw[zDL]
  by_cases hj:a+j<b
  ·exact h.2 _ (by omega) hj
  cases ho:occAt s sub (a+j) with
  |false=>rfl
  |true=>
   rcases occAt_room ho with g|g
   ·omega
   exact absurd g hsub
 rw[h.1,zBz hi]
end Spl
namespace Byt
open Go Go.Lib
theorem zEt {c:UInt8}: ∀{X:List UInt8} (Y:List UInt8),c∉X→index (X++c::Y) [c]=X.length
 | [],Y,_=>by simp[index]
 |b::X,Y,h=>by
  have hb: ¬c=b:=fun e=>h (by simp[e])
  have hx:c∉X:=fun e=>h (by simp[e])
  have ih:=zEt (c:=c) Y hx
  have e: [c].isPrefixOf (b::(X++c::Y))=false:=by simp[List.isPrefixOf,hb]
  rw[List.cons_append,index,if_neg (by rw[e];decide),ih,if_neg (by simp)]
  simp
theorem zDM {c:UInt8}: ∀{X:List UInt8},c∉X→index X [c]= -1
 | [],_=>by simp[index]
 |b::X,h=>by
  have hb: ¬c=b:=fun e=>h (by simp[e])
  have hx:c∉X:=fun e=>h (by simp[e])
  have ih:=zDM (c:=c) hx
  have e: [c].isPrefixOf (b::X)=false:=by simp[List.isPrefixOf,hb]
  rw[index,if_neg (by rw[e];decide),if_pos (by rw[ih];decide)]
theorem zHW {c:UInt8} {X:List UInt8} (k:Nat) (Y:List UInt8) (h:c∉X):splitK [c] 0 (k+1) (X++c::Y)=X::splitK [c] 0 k Y:=by
 rw[splitK,zEt Y h,if_neg (by simp)]
 have e1:(X++c::Y).take ((X.length:Int).toNat+0)=X:=by simp
 have e2:(X++c::Y).drop ((X.length:Int).toNat+ [c].length)=Y:=by
  rw[Int.toNat_natCast,←List.drop_drop,List.drop_left];rfl
 rw[e1,e2]
theorem zGQ {c:UInt8} {X:List UInt8} (k:Nat) (h:c∉X):splitK [c] 0 k X= [X]:=by
 cases k with
 |zero=>rfl
 |succ k=>rw[splitK,zDM h];rfl
end Byt
namespace Dtx
open Go Go.Lib
def pad (k:Nat) (u:Nat):List UInt8:=List.replicate (k-(decDigits u).length) 48++decDigits u
theorem dd1 {u:Nat} (h:u<10):decDigits u= [UInt8.ofNat (48+u)]:=by rw[decDigits,dif_pos h]
theorem dd2 {u:Nat} (h: ¬u<10):decDigits u=decDigits (u/10)++ [UInt8.ofNat (48+u%10)]:=by rw[decDigits,dif_neg h]
end Dtx
namespace Byt
open Go Go.Lib
theorem zBX {u:Nat} (h:u<10):(UInt8.ofNat (48+u)).toNat=48+u:=by rw[UInt8.toNat_ofNat'];omega
theorem zCB {a u:Nat} {l:List UInt8} (ha:a<100000000000000000) (h:u<10):parseUint10 a (UInt8.ofNat (48+u)::l)=parseUint10 (a*10+u) l:=by
 rw[parseUint10,zBX h,if_pos (by omega),if_neg (by omega),if_neg (by omega),show 48+u-48=u by omega]
end Byt
namespace Byt
open Go Go.Lib

def AllDig (l:List UInt8):Prop:= ∀c∈l,48≤c.toNat∧c.toNat≤57
theorem zC1: ∀(k u:Nat),u<k→AllDig (decDigits u)
 |0,u,h=>by omega
 |k+1,u,h=>by
  by_cases hu:u<10
  ·rw[Dtx.dd1 hu]
   intro c hc
   rw[List.mem_singleton.1 hc,zBX hu];omega
  rw[Dtx.dd2 hu]
  intro c hc
  rcases List.mem_append.1 hc with hc|hc
  ·exact zC1 k (u/10) (by omega) c hc
  rw[List.mem_singleton.1 hc,zBX (by omega)];omega
theorem zBO (u:Nat):AllDig (decDigits u):=zC1 (u+1) u (by omega)
theorem zA8 (u:Nat):decDigits u≠ []:=by
 by_cases hu:u<10
 ·rw[Dtx.dd1 hu];simp
 rw[Dtx.dd2 hu];simp
theorem zAD: ∀(k u:Nat),u<10^k→0<k→(decDigits u).length≤k
 |0,u,h,h0=>by omega
 |k+1,u,h,_=>by
  by_cases hu:u<10
  ·rw[Dtx.dd1 hu];simp
  rw[Dtx.dd2 hu,List.length_append,List.length_singleton]
  have hk:0<k:=by
   cases k with
   |zero=>omega
   |succ k=>omega
  have:=zAD k (u/10) (by rw[Nat.pow_succ] at h;omega) hk
  omega
theorem zC4: ∀(k u:Nat) (Y:List UInt8),u<k→u<1000000000000000000→parseUint10 0 (decDigits u++Y)=parseUint10 u Y
 |0,u,Y,h,_=>by omega
 |k+1,u,Y,h,hu=>by
  by_cases h1:u<10
  ·rw[Dtx.dd1 h1]
   show parseUint10 0 (UInt8.ofNat (48+u)::Y)=_
   rw[zCB (by omega) h1]
   congr 1;omega
  rw[Dtx.dd2 h1,List.append_assoc,zC4 k (u/10) _ (by omega) (by omega)]
  show parseUint10 (u/10) (UInt8.ofNat (48+u%10)::Y)=_
  rw[zCB (by omega) (by omega)]
  congr 1;omega
theorem zC2: ∀(z:Nat) (Y:List UInt8),parseUint10 0 (List.replicate z 48++Y)=parseUint10 0 Y
 |0,Y=>rfl
 |z+1,Y=>by
  rw[List.replicate_succ]
  show parseUint10 0 (UInt8.ofNat (48+0)::(List.replicate z 48++Y))=_
  rw[zCB (by omega) (by omega)]
  exact zC2 z Y
def zdig (z u:Nat):List UInt8:=List.replicate z 48++decDigits u
theorem zDN (z u:Nat):AllDig (zdig z u):=fun c hc=>by
 rcases List.mem_append.1 hc with hc|hc
 ·rw[(List.mem_replicate.1 hc).2];decide
 exact zBO u c hc
theorem zFG (z u:Nat) (hu:u<1000000000000000000):parseMag (zdig z u)= .ok u:=by
 unfold parseMag zdig
 rw[if_neg (by intro e;exact zA8 u (List.append_eq_nil_iff.1 e).2),zC2]
 have:=zC4 (u+1) u [] (by omega) hu
 rw[List.append_nil] at this
 rw[this];rfl
def sgn (c:Int):List UInt8:=if c<0 then [45] else []
theorem zEV (z:Nat) (c:Int) (h:c.natAbs<1000000000000000000):atoiAll (sgn c++zdig z c.natAbs)= .ok c:=by
 by_cases hc:c<0
 ·unfold sgn
  rw[if_pos hc]
  show atoiAll (45::zdig z c.natAbs)=_
  rw[atoiAll_minus,zFG z _ h]
  simp only[signed]
  rw[if_neg (by omega)]
  congr 1;omega
 unfold sgn
 rw[if_neg hc,List.nil_append]
 cases e:zdig z c.natAbs with
 |nil=>exact absurd (List.append_eq_nil_iff.1 e).2 (zA8 _)
 |cons x r=>
  have hx:=zDN z c.natAbs x (by rw[e];exact List.mem_cons_self ..)
  rw[atoiAll_plain x r (by omega) (by omega),←e,zFG z _ h]
  simp only[signless]
  rw[if_neg (by omega)]
  congr 1;omega
def zn (c s:Int):Nat:=s.toNat+1-(decDigits c.natAbs).length
def decText (c s:Int):List UInt8:=
 if s≤0 then sgn c++decDigits c.natAbs
 else sgn c++(zdig (zn c s) c.natAbs).take ((zdig (zn c s) c.natAbs).length-s.toNat)++ [46]++(zdig (zn c s) c.natAbs).drop ((zdig (zn c s) c.natAbs).length-s.toNat)
theorem zDO (c s:Int):s.toNat<(zdig (zn c s) c.natAbs).length:=by
 have:=List.length_pos_iff.2 (zA8 c.natAbs)
 unfold zdig zn
 rw[List.length_append,List.length_replicate];omega
theorem zFH {l:List UInt8} (h:AllDig l):(46:UInt8)∉l:=fun e=>by have:=h 46 e;exact absurd this.1 (by decide)
theorem zIV (c:Int):(46:UInt8)∉sgn c:=by unfold sgn;split<;>simp
theorem zLG {X:List UInt8} (Y:List UInt8) (h:(46:UInt8)∉X):cut (X++46::Y) [46]=(X,Y,true):=by
 unfold cut
 rw[zEt Y h,if_pos (by omega)]
 simp
theorem zJ4 {X:List UInt8} (h:(46:UInt8)∉X):cut X [46]=(X,[],false):=by
 unfold cut
 rw[zDM h,if_neg (by omega)]
theorem zBu (c s:Int) (h:0≤s∧s≤9∧ -1000000000000000≤c∧c≤1000000000000000):(decText c s).length≤100:=by
 obtain⟨s0,s9,c0,c1⟩:=h
 have hd:=zAD 16 c.natAbs (by omega) (by omega)
 have hg:(sgn c).length≤1:=by unfold sgn;split<;>simp
 have hz:(zdig (zn c s) c.natAbs).length≤30:=by
  unfold zdig zn
  rw[List.length_append,List.length_replicate];omega
 unfold decText
 split
 ·rw[List.length_append];omega
 simp only[List.length_append,List.length_take,List.length_drop,List.length_singleton];omega
theorem zIW (c:Int):trimPrefix (itoa c) [45]=decDigits c.natAbs:=by
 unfold trimPrefix itoa hasPrefix
 by_cases hc:c<0
 ·rw[if_pos hc]
  simp[List.isPrefixOf]
 rw[if_neg hc]
 have e:c.toNat=c.natAbs:=by omega
 rw[e]
 cases hD:decDigits c.natAbs with
 |nil=>exact absurd hD (zA8 _)
 |cons x r=>
  have hx:=zBO c.natAbs x (by rw[hD];exact List.mem_cons_self ..)
  have hne:((45:UInt8)==x)=false:=by
   rw[beq_eq_false_iff_ne]
   rintro rfl
   exact absurd hx.1 (by decide)
  simp[List.isPrefixOf,hne]
theorem zCt: ∀n,repeatL [48] n=List.replicate n 48
 |0=>rfl
 |n+1=>by rw[repeatL,zCt n,List.replicate_succ];rfl
end Byt
namespace Rul
open Go Go.Lib

theorem zHd {c:UInt8} {sub X:List UInt8} (Y:List UInt8) {k:Nat} (hk:sub[k]?=some c) (hno:c∉sub.take k) (h:c∉X):index (X++sub++Y) sub=X.length:=by
 refine index_first (by simp) ?_ fun j hj=>?_
 ·unfold occAt
  rw[List.append_assoc,List.drop_left]
  exact List.isPrefixOf_iff_prefix.2 (List.prefix_append _ _)
 cases ho:occAt (X++sub++Y) sub j with
 |false=>rfl
 |true=>
  exfalso
  obtain⟨T,hT⟩:=List.isPrefixOf_iff_prefix.1 (show sub.isPrefixOf ((X++sub++Y).drop j)=true from ho)
  have hkl:k<sub.length:=(List.getElem?_eq_some_iff.1 hk).1
  have e1:(X++sub++Y)[j+k]?=some c:=by
   rw[←List.getElem?_drop,←hT,List.getElem?_append_left hkl,hk]
  by_cases hx:j+k<X.length
  ·rw[List.append_assoc,List.getElem?_append_left hx] at e1
   exact h (List.mem_of_getElem? e1)
  rw[List.append_assoc,List.getElem?_append_right (by omega),List.getElem?_append_left (by omega)] at e1
  refine hno (List.mem_of_getElem? (i:=j+k-X.length) ?_)
  rw[List.getElem?_take,if_pos (by omega)];exact e1
theorem idx_none {c:UInt8} {sub X:List UInt8} (hc:c∈sub) (h:c∉X):index X sub= -1:=by
 refine index_none fun j _=>?_
 cases ho:occAt X sub j with
 |false=>rfl
 |true=>
  exfalso
  obtain⟨T,hT⟩:=List.isPrefixOf_iff_prefix.1 (show sub.isPrefixOf (X.drop j)=true from ho)
  exact h (List.mem_of_mem_drop (hT▸List.mem_append_left _ hc))
theorem zM2 {c:UInt8} {sub:List UInt8} {k:Nat} (hk:sub[k]?=some c):sub≠ []:=by
 rintro rfl;simp at hk
theorem zFI {c:UInt8} {sub X:List UInt8} (Y:List UInt8) {k:Nat} (hk:sub[k]?=some c) (hno:c∉sub.take k) (h:c∉X):split (X++sub++Y) sub=X::split Y sub:=by
 rw[Spl.zCa (zM2 hk) (zHd Y hk hno h)]
 congr 1
 ·rw[List.append_assoc,List.take_left]
 congr 1
 rw[←List.length_append,List.drop_left]
theorem split_none {c:UInt8} {sub X:List UInt8} (hc:c∈sub) (h:c∉X):split X sub= [X]:=Spl.zBz (idx_none hc h)
theorem zAY {c:UInt8} {sub:List UInt8} {k:Nat} (hk:sub[k]?=some c) (hno:c∉sub.take k): ∀{l:List (List UInt8)},l≠ []→(∀p∈l,c∉p)→split (join l sub) sub=l
 | [],h,_=>absurd rfl h
 | [x],_,h=>by rw[join_one];exact split_none (List.mem_of_getElem? hk) (h x (by simp))
 |x::y::r,_,h=>by
  have e:join (x::y::r) sub=x++sub++join (y::r) sub:=by
   rw[join_cons,join_cons];unfold joinTail;simp
  rw[e,zFI _ hk hno (h x (by simp)),zAY hk hno (by simp) (fun p hp=>h p (by simp at hp⊢;exact .inr hp))]
theorem zD5 {c:UInt8} {sub X:List UInt8} (Y:List UInt8) {k:Nat} (hk:sub[k]?=some c) (hno:c∉sub.take k) (h:c∉X):cut (X++sub++Y) sub=(X,Y,true):=by
 have e:=zHd Y hk hno h
 unfold cut
 rw[e,if_pos (by omega)]
 congr 1
 ·rw[Int.toNat_natCast,List.append_assoc,List.take_left]
 congr 1
 rw[Int.toNat_natCast,←List.length_append,List.drop_left]
theorem zFJ {c:UInt8} {sub X:List UInt8} (hc:c∈sub) (h:c∉X):cut X sub=(X,[],false):=by
 unfold cut
 rw[idx_none hc h,if_neg (by decide)]

structure Rl where
 op:UInt8
 mod:Int
 no:Bool
 rs:List (Int×Int)
abbrev Rule:=List (List Rl)

def dg (v:Int):List UInt8:=decDigits v.toNat
def rngT (p:Int×Int):List UInt8:=if p.1=p.2 then dg p.1 else dg p.1++ [46,46]++dg p.2
def eqS:List UInt8:= [32,61,32]
def neS:List UInt8:= [32,33,61,32]
def pcS:List UInt8:= [32,37,32]
def andS:List UInt8:= [32,97,110,100,32]
def orS:List UInt8:= [32,111,114,32]
def headT (r:Rl):List UInt8:=if r.mod=0 then [r.op] else [r.op]++pcS++dg r.mod
def relT (r:Rl):List UInt8:=headT r++(if r.no then neS else eqS)++join (r.rs.map rngT) [44]
def partT (l:List Rl):List UInt8:=join (l.map relT) andS
def ruleT (r:Rule):List UInt8:=join (r.map partT) orS

def num (s:List UInt8):Int:=match atoiAll s with| .ok v=>v|_=> -1
def rngP (w:List UInt8):Int×Int:=(num (cut w [46,46]).1,num (if (cut w [46,46]).2.2 then (cut w [46,46]).2.1 else (cut w [46,46]).1))
def hd (w:List UInt8):List UInt8×List UInt8:=if (cut w eqS).2.2 then ((cut w eqS).1,(cut w eqS).2.1) else ((cut w neS).1,(cut w neS).2.1)
def opP (l:List UInt8):UInt8:=match l with| [c]=>c|_=>0
def relP (w:List UInt8):Rl:=
 {op:=opP (cut (hd w).1 pcS).1,mod:=if (cut (hd w).1 pcS).2.2 then num (cut (hd w).1 pcS).2.1 else 0,no:=!(cut w eqS).2.2,rs:=(split (hd w).2 [44]).map rngP}
def partP (s:List UInt8):List Rl:=(split s andS).map relP
def ruleP (s:List UInt8):Rule:=(split s orS).map partP

def rngOk (p:Int×Int):Bool:=decide (0≤p.1)&&decide (p.1≤p.2)&&decide (p.2≤1000000)
def opOk (c:UInt8):Bool:= [110,105,118,119,102,116].contains c
def relOk (r:Rl):Bool:=opOk r.op&&decide (0≤r.mod)&&decide (r.mod≤1000000)&&!r.rs.isEmpty&&r.rs.all rngOk
def partOk (l:List Rl):Bool:=!l.isEmpty&&l.all relOk
def shapeOk (r:Rule):Bool:=!r.isEmpty&&r.all partOk
def count (r:Rule):Nat:=(r.map (·.length)).sum
def ruleE (r:Rule):Int:=if shapeOk r then (if 20<count r then 4 else 0) else 3

theorem zM3 (v:Int):Byt.AllDig (dg v):=Byt.zBO _
theorem zCb {v:Int} {c:UInt8} (h:c.toNat<48∨57<c.toNat):c∉dg v:=fun e=>by
 have:=zM3 v c e;omega
theorem zFK (v:Int) (h0:0≤v) (h1:v≤1000000):num (dg v)=v:=by
 have h:=Byt.zEV 0 v (by omega)
 have e:Byt.sgn v++Byt.zdig 0 v.natAbs=dg v:=by
  unfold Byt.sgn Byt.zdig dg
  rw[if_neg (by omega),show v.natAbs=v.toNat by omega]
  simp
 rw[e] at h
 unfold num
 rw[h]
theorem zEu {p:Int×Int} {c:UInt8} (h:c.toNat<46∨57<c.toNat):c∉rngT p:=by
 have d: ∀v,c∉dg v:=fun v=>zCb (by omega)
 have n:c≠46:=by rintro rfl;revert h;decide
 unfold rngT
 split
 ·exact d _
 simp[d,n]
theorem zM4 (p:Int×Int) (h:rngOk p=true):rngP (rngT p)=p:=by
 obtain⟨a,b⟩:=p
 simp only[rngOk,Bool.and_eq_true,decide_eq_true_eq] at h
 obtain⟨⟨h0,h1⟩,h2⟩:=h
 have na:=zFK a h0 (by omega)
 have nb:=zFK b (by omega) h2
 unfold rngP rngT
 dsimp only
 split
 ·rename_i e
  subst e
  rw[zFJ (c:=46) (by simp) (zCb (by decide))]
  simp[na]
 rw[zD5 (c:=46) (k:=0) _ rfl (by simp) (zCb (by decide))]
 simp[na,nb]
theorem zEv {c:UInt8} {sub:List UInt8} (hs:c∉sub): ∀{l:List (List UInt8)},(∀p∈l,c∉p)→c∉join l sub
 | [],_=>by rw[join_nil];simp
 | [x],h=>by rw[join_one];exact h x (by simp)
 |x::y::r,h=>by
  have e:join (x::y::r) sub=x++sub++join (y::r) sub:=by
   rw[join_cons,join_cons];unfold joinTail;simp
  rw[e]
  have a:=h x (by simp)
  have b:=zEv hs (l:=y::r) (fun p hp=>h p (by simp at hp⊢;exact .inr hp))
  simp only[List.mem_append,not_or]
  exact⟨⟨a,hs⟩,b⟩
theorem zEw {rs:List (Int×Int)} {c:UInt8} (h:c.toNat<44∨57<c.toNat):c∉join (rs.map rngT) [44]:=
 zEv (by simp;rintro rfl;revert h;decide) fun p hp=>by
  obtain⟨x,_,rfl⟩:=List.mem_map.1 hp
  exact zEu (by omega)
theorem zBr {c:UInt8} (h:opOk c=true):c=110∨c=105∨c=118∨c=119∨c=102∨c=116:=by
 simpa[opOk] using h
theorem zEx {r:Rl} (h:opOk r.op=true) {c:UInt8} (hc:c=61∨c=33∨c=97∨c=111∨c=44):c∉headT r:=by
 have n1:c≠r.op:=by
  rcases zBr h with e|e|e|e|e|e<;>rcases hc with rfl|rfl|rfl|rfl|rfl<;>rw[e]<;>decide
 have n2:c∉dg r.mod:=zCb (by rcases hc with rfl|rfl|rfl|rfl|rfl<;>decide)
 have n3:c∉pcS:=by rcases hc with rfl|rfl|rfl|rfl|rfl<;>decide
 unfold headT
 split
 ·simpa using n1
 simp[n1,n2,n3]
theorem zEy {r:Rl} (h:opOk r.op=true) {c:UInt8} (hc:c=97∨c=111):c∉relT r:=by
 have n1:=zEx h (c:=c) (by rcases hc with rfl|rfl<;>simp)
 have n2:c∉join (r.rs.map rngT) [44]:=zEw (by rcases hc with rfl|rfl<;>decide)
 have n3:c∉(if r.no then neS else eqS):=by rcases hc with rfl|rfl<;>split<;>decide
 unfold relT
 simp[n1,n2,n3]
theorem zLH (r:Rl) (h:relOk r=true):opP (cut (headT r) pcS).1=r.op∧(if (cut (headT r) pcS).2.2 then num (cut (headT r) pcS).2.1 else 0)=r.mod:=by
 simp only[relOk,Bool.and_eq_true,decide_eq_true_eq] at h
 obtain⟨⟨⟨⟨h0,h1⟩,h2⟩,_⟩,_⟩:=h
 have n1:(37:UInt8)∉ [r.op]:=by
  rcases zBr h0 with e|e|e|e|e|e<;>rw[e]<;>decide
 unfold headT
 split
 ·rename_i e
  rw[zFJ (c:=37) (by decide) n1]
  simp[opP,e]
 rw[zD5 (c:=37) (k:=1) _ rfl (by decide) n1]
 simp[opP,zFK r.mod h1 h2]
theorem zM5 (r:Rl) (h:relOk r=true):relP (relT r)=r:=by
 obtain⟨e1,e2⟩:=zLH r h
 simp only[relOk,Bool.and_eq_true,decide_eq_true_eq] at h
 obtain⟨⟨⟨⟨h0,_⟩,_⟩,h3⟩,h4⟩:=h
 have e3:(split (join (r.rs.map rngT) [44]) [44]).map rngP=r.rs:=by
  rw[zAY (c:=44) (k:=0) rfl (by simp) (by simpa using h3) (fun p hp=>by obtain⟨x,_,rfl⟩:=List.mem_map.1 hp;exact zEu (by decide)),List.map_map]
  rw[List.map_congr_left (f:=rngP∘rngT) (g:=id) (fun p hp=>zM4 p (List.all_eq_true.1 h4 p hp))]
  simp
 have key:(cut (relT r) eqS).2.2=!r.no∧hd (relT r)=(headT r,join (r.rs.map rngT) [44]):=by
  have nh:=zEx h0 (c:=61) (by simp)
  cases hn:r.no with
  |false=>
   have e:relT r=headT r++eqS++join (r.rs.map rngT) [44]:=by unfold relT;rw[hn];rfl
   have c:=zD5 (c:=61) (k:=1) (sub:=eqS) (join (r.rs.map rngT) [44]) rfl (by decide) nh
   rw[←e] at c
   unfold hd
   rw[c]
   exact⟨rfl,rfl⟩
  |true=>
   have e:relT r=headT r++neS++join (r.rs.map rngT) [44]:=by unfold relT;rw[hn];rfl
   have c:=zD5 (c:=33) (k:=1) (sub:=neS) (join (r.rs.map rngT) [44]) rfl (by decide) (zEx h0 (by simp))
   rw[←e] at c
   have c2:cut (relT r) eqS=(relT r,[],false):=by
    unfold cut
    have i:index (relT r) eqS= -1:=by
     refine index_none fun j _=>?_
     cases ho:occAt (relT r) eqS j with
     |false=>rfl
     |true=>
      exfalso
      obtain⟨T,hT⟩:=List.isPrefixOf_iff_prefix.1 (show eqS.isPrefixOf ((relT r).drop j)=true from ho)
      have g0:(relT r)[j]?=some 32:=by rw[←Nat.add_zero j,←List.getElem?_drop,←hT];rfl
      have g1:(relT r)[j+1]?=some 61:=by rw[←List.getElem?_drop,←hT];rfl
      rw[e,List.append_assoc] at g0 g1
      have hj:(headT r).length≤j+1:=by
       rcases Nat.lt_or_ge (j+1) (headT r).length with hl|hl
       ·rw[List.getElem?_append_left hl] at g1;exact absurd (List.mem_of_getElem? g1) nh
       exact hl
      rw[List.getElem?_append_right hj] at g1
      have hm: ∀m:Nat,(neS++join (r.rs.map rngT) [44])[m]?=some 61→m=2:=fun m hm=>by
       match m with
       |0=>exact absurd (show some (32:UInt8)=some 61 from hm) (by decide)
       |1=>exact absurd (show some (33:UInt8)=some 61 from hm) (by decide)
       |2=>rfl
       |3=>exact absurd (show some (32:UInt8)=some 61 from hm) (by decide)
       |m+4=>
        have:(join (r.rs.map rngT) [44])[m]?=some 61:=hm
        exact absurd (List.mem_of_getElem? this) (zEw (by decide))
      have:=hm _ g1
      rw[List.getElem?_append_right (by omega),show j-(headT r).length=1 by omega] at g0
      exact absurd (show some (33:UInt8)=some 32 from g0) (by decide)
    rw[i,if_neg (by decide)]
   unfold hd
   rw[c2,c]
   exact⟨rfl,rfl⟩
 unfold relP
 rw[key.1,key.2]
 dsimp only
 rw[e1,e2,e3,Bool.not_not]
theorem zAE {l:List Rl} (h:partOk l=true):l≠ []∧ ∀x∈l,relOk x=true:=by
 simp only[partOk,Bool.and_eq_true,Bool.not_eq_true',List.isEmpty_eq_false_iff] at h
 exact⟨h.1,List.all_eq_true.1 h.2⟩
theorem zAC {r:Rule} (h:shapeOk r=true):r≠ []∧ ∀x∈r,partOk x=true:=by
 simp only[shapeOk,Bool.and_eq_true,Bool.not_eq_true',List.isEmpty_eq_false_iff] at h
 exact⟨h.1,List.all_eq_true.1 h.2⟩
theorem zFE {r:Rl} (h:relOk r=true):opOk r.op=true:=by
 simp only[relOk,Bool.and_eq_true,decide_eq_true_eq] at h
 exact h.1.1.1.1
theorem zLI (l:List Rl) (h:partOk l=true):partP (partT l)=l:=by
 obtain⟨h1,h2⟩:=zAE h
 unfold partP partT
 rw[zAY (c:=97) (k:=1) rfl (by decide) (by simpa using h1) (fun p hp=>by obtain⟨x,hx,rfl⟩:=List.mem_map.1 hp;exact zEy (zFE (h2 x hx)) (by simp)),List.map_map]
 rw[List.map_congr_left (f:=relP∘relT) (g:=id) (fun p hp=>zM5 p (h2 p hp))]
 simp
theorem zFL {l:List Rl} (h:partOk l=true):(111:UInt8)∉partT l:=
 zEv (by decide) fun p hp=>by
  obtain⟨x,hx,rfl⟩:=List.mem_map.1 hp
  exact zEy (zFE ((zAE h).2 x hx)) (by simp)
theorem zLJ (r:Rule) (h:shapeOk r=true):ruleP (ruleT r)=r:=by
 obtain⟨h1,h2⟩:=zAC h
 unfold ruleP ruleT
 rw[zAY (c:=111) (k:=1) rfl (by decide) (by simpa using h1) (fun p hp=>by obtain⟨x,hx,rfl⟩:=List.mem_map.1 hp;exact zFL (h2 x hx)),List.map_map]
 rw[List.map_congr_left (f:=partP∘partT) (g:=id) (fun p hp=>zLI p (h2 p hp))]
 simp
theorem ruleE_zero {r:Rule}:ruleE r=0↔shapeOk r=true∧count r≤20:=by
 unfold ruleE
 split
 ·split<;>constructor<;>intro h
  ·omega
  ·omega
  ·exact⟨by assumption,by omega⟩
  rfl
 constructor
 ·intro h;omega
 intro h;exact absurd h.1 (by assumption)
end Rul
namespace Go.Proofs.YtjlchookakbomaaGreatDoor
open Go.RowKit

def SlAt {α:Type} (m:Nat) (C:World→Nat→Nat→α→Prop) (w:World) (v:Value) (l:List α):Prop:=
 (l= []∧ ∃a c,v= .slice a 0 c)∨
 ∃b off cap,v= .slice (some ⟨b,off,none⟩) l.length cap∧0<l.length∧l.length≤cap∧cap≤maxLen∧ ∀(j:Nat) x,l[j]?=some x→C w b (off+j*m) x
theorem SlAt.imp {α:Type} {m:Nat} {C:World→Nat→Nat→α→Prop} {w w':World} {v:Value} {l:List α} (h:SlAt m C w v l) (hC: ∀b k x,x∈l→C w b k x→C w' b k x):SlAt m C w' v l:=by
 rcases h with h|⟨b,off,cap,h1,h2,h3,h4,h5⟩
 ·exact .inl h
 exact .inr ⟨b,off,cap,h1,h2,h3,h4,fun j x hx=>hC _ _ _ (List.mem_of_getElem? hx) (h5 j x hx)⟩
theorem SlAt.spread {α:Type} {m:Nat} {C:World→Nat→Nat→α→Prop} {w:World} {v:Value} {l:List α} (h:SlAt m C w v l):
  ∃A cap,v= .slice A l.length cap∧l.length≤maxLen∧ ∀(j:Nat) x,l[j]?=some x→ ∃b off,A=some ⟨b,off,none⟩∧C w b (off+j*m) x:=by
 rcases h with⟨rfl,a,c,rfl⟩|⟨b,off,cap,rfl,_,h3,h4,h5⟩
 ·exact⟨a,c,rfl,Nat.zero_le _,fun j x hx=>by simp at hx⟩
 exact⟨_,cap,rfl,by omega,fun j x hx=>⟨b,off,rfl,h5 j x hx⟩⟩
theorem SlAt.isSlice {α:Type} {m:Nat} {C:World→Nat→Nat→α→Prop} {w:World} {v:Value} {l:List α} (h:SlAt m C w v l): ∃a n c,v= .slice a n c:=by
 obtain⟨A,cap,e,_⟩:=h.spread
 exact⟨_,_,_,e⟩
def RngC (w:World) (b k:Nat) (p:Int×Int):Prop:=w.cell? ⟨b,k,none⟩=some (.int .i64 p.1)∧w.cell? ⟨b,k+1,none⟩=some (.int .i64 p.2)
def RelC (w:World) (b k:Nat) (r:Rul.Rl):Prop:= ∃a n c,w.cell? ⟨b,k,none⟩=some (.int .u8 (r.op.toNat:Int))∧w.cell? ⟨b,k+1,none⟩=some (.int .i64 r.mod)∧w.cell? ⟨b,k+2,none⟩=some (.bool r.no)∧w.cell? ⟨b,k+3,none⟩=some (.slice a n c)∧SlAt 2 RngC w (.slice a n c) r.rs
def PartC (w:World) (b k:Nat) (l:List Rul.Rl):Prop:= ∃a n c,w.cell? ⟨b,k,none⟩=some (.slice a n c)∧SlAt 4 RelC w (.slice a n c) l
theorem RngC.below {w w':World} {b k:Nat} {p:Int×Int} (h:RngC w b k p) (hb:Below w.heap.size w w'):RngC w' b k p:=⟨zAn h.1 hb,zAn h.2 hb⟩
theorem SlAt.rngs_below {w w':World} {v:Value} {l:List (Int×Int)} (h:SlAt 2 RngC w v l) (hb:Below w.heap.size w w'):SlAt 2 RngC w' v l:=h.imp fun _ _ _ _ g=>g.below hb
theorem RelC.below {w w':World} {b k:Nat} {r:Rul.Rl} (h:RelC w b k r) (hb:Below w.heap.size w w'):RelC w' b k r:=by
 obtain⟨a,n,c,h0,h1,h2,h3,h4⟩:=h
 exact⟨a,n,c,zAn h0 hb,zAn h1 hb,zAn h2 hb,zAn h3 hb,h4.rngs_below hb⟩
theorem SlAt.rels_below {w w':World} {v:Value} {l:List Rul.Rl} (h:SlAt 4 RelC w v l) (hb:Below w.heap.size w w'):SlAt 4 RelC w' v l:=h.imp fun _ _ _ _ g=>g.below hb
theorem PartC.below {w w':World} {b k:Nat} {l:List Rul.Rl} (h:PartC w b k l) (hb:Below w.heap.size w w'):PartC w' b k l:=by
 obtain⟨a,n,c,h0,h1⟩:=h
 exact⟨a,n,c,zAn h0 hb,h1.rels_below hb⟩
theorem SlAt.rule_below {w w':World} {v:Value} {l:Rul.Rule} (h:SlAt 1 PartC w v l) (hb:Below w.heap.size w w'):SlAt 1 PartC w' v l:=h.imp fun _ _ _ _ g=>g.below hb
theorem any_take' {α:Type} {L:List α} {p:α→Bool} {k:Nat} {x:α} (h:L[k]?=some x):(L.take (k+1)).any p=((L.take k).any p||p x):=by
 rw[List.take_add_one,h];simp
open Go.RowKit
namespace Ms
inductive Nd where
 |mk (kind:Int) (text:List UInt8) (off:Int) (cases:List (List UInt8×List Nd))
def Nd.kind:Nd→Int| .mk k _ _ _=>k
def Nd.text:Nd→List UInt8| .mk _ t _ _=>t
def Nd.off:Nd→Int| .mk _ _ o _=>o
def Nd.cases:Nd→List (List UInt8×List Nd)| .mk _ _ _ c=>c
def NdC:Nat→World→Nat→Nat→Nd→Prop
 |0,_,_,_,_=>False
 |f+1,w,b,k,x=> ∃a n c,w.cell? ⟨b,k,none⟩=some (.int .i64 x.kind)∧w.cell? ⟨b,k+1,none⟩=some (.string ⟨x.text.toArray⟩)∧w.cell? ⟨b,k+2,none⟩=some (.int .i64 x.off)∧w.cell? ⟨b,k+3,none⟩=some (.slice a n c)∧
   SlAt 2 (fun w b k y=> ∃a n c,w.cell? ⟨b,k,none⟩=some (.string ⟨y.1.toArray⟩)∧w.cell? ⟨b,k+1,none⟩=some (.slice a n c)∧SlAt 4 (NdC f) w (.slice a n c) y.2∧y.1.length≤2000000∧y.2.length≤2000000) w (.slice a n c) x.cases∧x.text.length≤2000000∧x.cases.length≤2000000
def CsC (f:Nat) (w:World) (b k:Nat) (y:List UInt8×List Nd):Prop:= ∃a n c,w.cell? ⟨b,k,none⟩=some (.string ⟨y.1.toArray⟩)∧w.cell? ⟨b,k+1,none⟩=some (.slice a n c)∧SlAt 4 (NdC f) w (.slice a n c) y.2∧y.1.length≤2000000∧y.2.length≤2000000
abbrev MsgAt (f:Nat):=SlAt 4 (NdC f)
abbrev CassAt (f:Nat):=SlAt 2 (CsC f)
theorem NdC.below: ∀(f:Nat) {w w':World} {b k:Nat} {x:Nd},NdC f w b k x→Below w.heap.size w w'→NdC f w' b k x
 |0,_,_,_,_,_,h,_=>h
 |f+1,w,w',b,k,x,h,hb=>by
  obtain⟨a,n,c,h0,h1,h2,h3,h4,h5,h6⟩:=h
  refine⟨a,n,c,zAn h0 hb,zAn h1 hb,zAn h2 hb,zAn h3 hb,h4.imp fun b k y _ g=>?_,h5,h6⟩
  obtain⟨a',n',c',g0,g1,g2,g3⟩:=g
  exact⟨a',n',c',zAn g0 hb,zAn g1 hb,g2.imp fun _ _ _ _ q=>NdC.below f q hb,g3⟩
theorem zAi {f:Nat} {w w':World} {v:Value} {m:List Nd} (h:MsgAt f w v m) (hb:Below w.heap.size w w'):MsgAt f w' v m:=h.imp fun _ _ _ _ q=>NdC.below f q hb
theorem CsC.below {f:Nat} {w w':World} {b k:Nat} {y:List UInt8×List Nd} (h:CsC f w b k y) (hb:Below w.heap.size w w'):CsC f w' b k y:=by
 obtain⟨a',n',c',g0,g1,g2,g3⟩:=h
 exact⟨a',n',c',zAn g0 hb,zAn g1 hb,zAi g2 hb,g3⟩
theorem zAm {f:Nat} {w w':World} {v:Value} {l:List (List UInt8×List Nd)} (h:CassAt f w v l) (hb:Below w.heap.size w w'):CassAt f w' v l:=h.imp fun _ _ _ _ q=>q.below hb
def casesOf (x:Nd):List (List UInt8×List Nd):=if x.kind=4∨x.kind=5 then x.cases else []
def bodies (m:List Nd):List (List Nd):=(m.map fun x=>(casesOf x).map (·.2)).flatten
def lgo (F:List Nd→Int×Bool):Int→List (List Nd)→Int×Bool
 |n,[]=>(n,decide (60<n))
 |n,b::r=>if (F b).2||decide (60<n+(F b).1) then (n+(F b).1,true) else lgo F (n+(F b).1) r
def lrg:Nat→List Nd→Int×Bool
 |0,m=>(0,!m.isEmpty)
 |d+1,m=>lgo (lrg d) m.length (bodies m)
theorem zBF (x:Nd) (m:List Nd):bodies (x::m)=(casesOf x).map (·.2)++bodies m:=by simp[bodies]
theorem zM6 {F:List Nd→Int×Bool} {K:Int} (L:List (List Nd)) (hF: ∀b∈L,0≤(F b).1∧(F b).1≤K) (hK:0≤K) (B:Int) (hB:60≤B): ∀n:Int,0≤n→n≤B→0≤(lgo F n L).1∧(lgo F n L).1≤B+K:=by
 induction L with
 |nil=>intro n h0 h1;exact⟨h0,by show n≤_;omega⟩
 |cons b r ih=>
  intro n h0 h1
  have hb:=hF b (by simp)
  unfold lgo
  split
  ·exact⟨by show 0≤n+_;omega,by show n+_≤_;omega⟩
  rename_i h
  have: ¬60<n+(F b).1:=by
   intro g;apply h;rw[decide_eq_true g];simp
  exact ih (fun b hb=>hF b (by simp[hb])) _ (by omega) (by omega)
theorem zFM: ∀(d f:Nat) {w:World} {v:Value} {m:List Nd},MsgAt f w v m→m.length≤2000000→0≤(lrg d m).1∧(lrg d m).1≤(d:Int)*3000000
 |0,_,_,_,_,_,_=>⟨Int.le_refl _,by simp[lrg]⟩
 |d+1,f,w,v,m,h,hl=>by
  obtain⟨A,cap,e,_,hx⟩:=h.spread
  have hb: ∀b∈bodies m,0≤(lrg d b).1∧(lrg d b).1≤(d:Int)*3000000:=by
   intro b hb
   unfold bodies at hb
   obtain⟨l,hl1,hl2⟩:=List.mem_flatten.1 hb
   obtain⟨x,hxm,rfl⟩:=List.mem_map.1 hl1
   obtain⟨y,hy,rfl⟩:=List.mem_map.1 hl2
   obtain⟨j,hj,ej⟩:=List.getElem_of_mem hxm
   obtain⟨bb,off,_,hc⟩:=hx j x (by rw[List.getElem?_eq_getElem hj,ej])
   cases f with
   |zero=>exact absurd hc (by simp[NdC])
   |succ f=>
    obtain⟨a,n,c,_,_,_,_,h4,_,_⟩:=hc
    obtain⟨A',cap',_,_,hy'⟩:=h4.spread
    have hyc:y∈x.cases:=by
     unfold casesOf at hy
     split at hy
     ·exact hy
     simp at hy
    obtain⟨i,hi,ei⟩:=List.getElem_of_mem hyc
    obtain⟨b2,off2,_,a',n',c',_,_,g2,_,g4⟩:=hy' i y (by rw[List.getElem?_eq_getElem hi,ei])
    exact zFM d f g2 g4
  have:=zM6 (F:=lrg d) (bodies m) hb (by omega) 2000060 (by omega) m.length (by omega) (by omega)
  exact⟨this.1,by show(lgo (lrg d) _ _).1≤_;omega⟩
theorem zEW (F:List Nd→Int×Bool) {x:Nd} {m:List Nd} {i:Nat} (h:m[i]?=some x) (n:Int):lgo F n (bodies (m.drop i))=lgo F n ((casesOf x).map (·.2)++bodies (m.drop (i+1))):=by
 obtain⟨hi,e⟩:=List.getElem?_eq_some_iff.1 h
 rw[List.drop_eq_getElem_cons hi,e,zBF]
theorem zBP {l:List (List UInt8×List Nd)} {k:Nat} {y:List UInt8×List Nd} (h:l[k]?=some y):(l.drop k).map (·.2)=y.2::(l.drop (k+1)).map (·.2):=by
 obtain⟨hi,e⟩:=List.getElem?_eq_some_iff.1 h
 rw[List.drop_eq_getElem_cons hi,e,List.map_cons]
end Ms
open Go.RowKit

theorem zAF (w:World) (a:Addr) (v:Value):(w.setCell a v).heap.size=w.heap.size:=by simp[World.setCell]
theorem Boxed.set {w:World} {p:Nat} {vs:Array Value} (h:Boxed w p vs) (j:Nat) (v:Value) (hj:j<vs.size):Boxed (w.setCell ⟨p,j,none⟩ v) p (vs.setIfInBounds j v):=by
 refine⟨by rw[zAF];exact h.lt,fun k u hk=>?_,fun k hk=>?_⟩
 ·rw[Array.getElem?_setIfInBounds] at hk
  by_cases e:j=k
  ·subst e
   rw[if_pos rfl,if_pos hj] at hk
   obtain rfl:=Option.some.inj hk
   exact World.cell?_setCell_same _ _ _ (h.cell j _ (Array.getElem?_eq_getElem hj))
  rw[if_neg e] at hk
  rw[World.cell?_setCell_other _ _ _ _ (fun g=>e (by injection g))]
  exact h.cell k u hk
 rw[World.frozen?_setCell];exact h.free k (by simpa using hk)
theorem Boxed.far {w:World} {p:Nat} {vs:Array Value} (h:Boxed w p vs) {q:Nat} (hq:q≠p) (j:Nat) (v:Value):Boxed (w.setCell ⟨q,j,none⟩ v) p vs:=
 ⟨by rw[zAF];exact h.lt,fun k u hk=>by rw[World.cell?_setCell_other _ _ _ _ (fun g=>hq (by injection g))];exact h.cell k u hk,fun k hk=>by rw[World.frozen?_setCell];exact h.free k hk⟩
theorem Boxed.at {w:World} {p q:Nat} {vs:Array Value} (h:Boxed w p vs) (e:p=q):Boxed w q vs:=e▸h
open Go.RowKit

namespace Ms
abbrev Need:=List UInt8×Bool×Bool
def orN (a b:Bool) (n:Need):Need:=(n.1,n.2.1||a,n.2.2||b)
def grownN (l:List Need) (t:List UInt8):List Need:=if l.findIdx (fun n=>n.1==t)<l.length then l else l++ [(t,false,false)]
def addN (l:List Need) (x:Nd):List Need:=
 if x.kind=1∨x.kind=6 then l else (grownN l x.text).modify (l.findIdx (fun n=>n.1==x.text)) (orN (decide (x.kind=3)||decide (x.kind=4)) (decide (x.kind=5)))
def goN (F:List Need→List Nd→List Need) (l:List Need) (bs:List (List Nd)):List Need:=bs.foldl F l
def allN:Nat→List Need→List Nd→List Need
 |0,l,_=>l
 |f+1,l,m=>m.foldl (fun l x=>goN (allN f) (addN l x) ((casesOf x).map (·.2))) l
def cnt:Nat→List Nd→Nat
 |0,_=>0
 |f+1,m=>(m.map fun x=>1+((casesOf x).map fun y=>cnt f y.2).sum).sum
theorem zAB (l:List Need) (i:Nat) (g:Need→Need):(l.modify i g).length=l.length:=by simp
theorem zCC (l:List Need) (t:List UInt8):l.findIdx (fun n=>n.1==t)<(grownN l t).length∧(grownN l t).length≤l.length+1∧ ∃n,(grownN l t)[l.findIdx (fun n=>n.1==t)]?=some n:=by
 unfold grownN
 split
 ·rename_i h
  exact⟨h,by omega,_,List.getElem?_eq_getElem h⟩
 rename_i h
 have e:l.findIdx (fun n=>n.1==t)=l.length:=by have:=List.findIdx_le_length (xs:=l) (p:=fun n=>n.1==t);omega
 rw[e]
 exact⟨by simp,by simp,(t,false,false),by simp⟩
theorem zDP (l:List Need) (x:Nd):(addN l x).length≤l.length+1:=by
 unfold addN
 split
 ·omega
 rw[zAB];exact(zCC l x.text).2.1
theorem zHe {F:List Need→List Nd→List Need} {c:List Nd→Nat} (hF: ∀l b,(F l b).length≤l.length+c b): ∀(bs:List (List Nd)) (l:List Need),(goN F l bs).length≤l.length+(bs.map c).sum
 | [],l=>by simp[goN]
 |b::r,l=>by
  have h:=zHe hF r (F l b)
  have h2:=hF l b
  show(goN F (F l b) r).length≤_
  rw[List.map_cons,List.sum_cons]
  omega
theorem zBB: ∀(f:Nat) (l:List Need) (m:List Nd),(allN f l m).length≤l.length+cnt f m
 |0,l,m=>by simp[allN,cnt]
 |f+1,l,m=>by
  induction m generalizing l with
  |nil=>simp[allN,cnt]
  |cons x r ih=>
   have h:=ih (goN (allN f) (addN l x) ((casesOf x).map (·.2)))
   have h2:=zHe (F:=allN f) (c:=cnt f) (fun l b=>zBB f l b) ((casesOf x).map (·.2)) (addN l x)
   have h3:=zDP l x
   have e:cnt (f+1) (x::r)=(1+((casesOf x).map fun y=>cnt f y.2).sum)+cnt (f+1) r:=by simp[cnt]
   have e2:((casesOf x).map fun y=>cnt f y.2).sum=(((casesOf x).map (·.2)).map (cnt f)).sum:=by rw[List.map_map];rfl
   rw[e,e2]
   show(allN (f+1) (goN (allN f) (addN l x) ((casesOf x).map (·.2))) r).length≤_
   omega
def ncells (n:Need):List Value:= [.string ⟨n.1.toArray⟩,.bool n.2.1,.bool n.2.2]
def nflat (l:List Need):List Value:=l.flatMap ncells
theorem zEX (l:List Need) (n:Need):nflat (l++ [n])=nflat l++ncells n:=by unfold nflat;rw[List.flatMap_append];simp
theorem zFN: ∀{l:List Need} {j:Nat} {n:Need},l[j]?=some n→(nflat l)[j*3]?=some (.string ⟨n.1.toArray⟩)∧(nflat l)[j*3+1]?=some (.bool n.2.1)∧(nflat l)[j*3+2]?=some (.bool n.2.2):=by
 intro l
 induction l with
 |nil=>intro j n h;simp at h
 |cons a l ih=>
  intro j n h
  cases j with
  |zero=>simp at h;subst h;exact⟨rfl,rfl,rfl⟩
  |succ j=>
   have h':=ih (j:=j) (n:=n) (by simpa using h)
   have e:(j+1)*3=j*3+1+1+1:=by omega
   rw[e]
   exact h'
theorem zJ5: ∀{l:List Need} {j:Nat} {n:Need} (a b:Bool),l[j]?=some n→((nflat l).set (j*3+1) (.bool (n.2.1||a))).set (j*3+2) (.bool (n.2.2||b))=nflat (l.modify j (orN a b)):=by
 intro l
 induction l with
 |nil=>intro j n a b h;simp at h
 |cons x l ih=>
  intro j n a b h
  cases j with
  |zero=>simp at h;subst h;rfl
  |succ j=>
   have h':=ih (j:=j) (n:=n) a b (by simpa using h)
   have e:(j+1)*3=j*3+1+1+1:=by omega
   rw[e,List.modify_succ_cons]
   show _=ncells x++nflat (l.modify j (orN a b))
   rw[←h']
   rfl
end Ms
open Ms
def NeedC (w:World) (b k:Nat) (n:Need):Prop:=w.cell? ⟨b,k,none⟩=some (.string ⟨n.1.toArray⟩)∧w.cell? ⟨b,k+1,none⟩=some (.bool n.2.1)∧w.cell? ⟨b,k+2,none⟩=some (.bool n.2.2)
abbrev NeedsAt:=SlAt 3 NeedC
theorem NeedC.below {w w':World} {b k:Nat} {n:Need} (h:NeedC w b k n) (hb:Below w.heap.size w w'):NeedC w' b k n:=⟨zAn h.1 hb,zAn h.2.1 hb,zAn h.2.2 hb⟩
theorem zGR {w w':World} {v:Value} {l:List Need} (h:NeedsAt w v l) (hb:Below w.heap.size w w'):NeedsAt w' v l:=h.imp fun _ _ _ _ q=>q.below hb
theorem zAr {w:World} {base n k:Nat} {e:TypeId} {g cap:Nat} {xs:List Value} (h:w.ownsRow base e k (.slice (some ⟨g,0,none⟩) n cap) n xs) {j:Nat} {u:Value} (hj:xs[j]?=some u):w.cell? ⟨g,j,none⟩=some u:=by
 have:=h.cellAt j (by have:=(List.getElem?_eq_some_iff.1 hj).1;have:=h.1;omega)
 rw[this,hj]
theorem zBY {w:World} {base:Nat} {e:TypeId} {v:Value} {l:List Need} (h:w.ownsRow base e 3 v l.length (nflat l)):NeedsAt w v l:=by
 have h':=h.2
 rcases h' with⟨rfl,h0⟩|⟨g,cap,cur,rfl,_,_,h1,h2,_,_⟩
 ·exact .inl ⟨List.length_eq_zero_iff.1 h0,none,0,rfl⟩
 by_cases h0:l.length=0
 ·exact .inl ⟨List.length_eq_zero_iff.1 h0,_,_,by rw[h0]⟩
 refine .inr ⟨g,0,cap,rfl,by omega,h1,h2,fun j x hx=>?_⟩
 rw[Nat.zero_add]
 have q:=zFN hx
 exact⟨zAr h q.1,zAr h q.2.1,zAr h q.2.2⟩
structure NI (B p:Nat) (v:Value) (xs:List Need) (W:World):Prop where
 box:Boxed W p #[v]
 row:W.ownsRow B 117 3 v xs.length (nflat xs)
 ne:v.ownBlock≠some p
 ge:B≤p
theorem NI.below {B p:Nat} {v:Value} {xs:List Need} {A C:World} (h:NI B p v xs A) (hb:Below A.heap.size A C):NI B p v xs C:=
 ⟨h.box.below hb,h.row.kept (row:=none) ⟨hb.os,hb.tape,hb.output,hb.size,fun k hk _=>hb.block k hk⟩ (by cases v.ownBlock<;>simp),h.ne,h.ge⟩
theorem NI.isSlice {B p:Nat} {v:Value} {xs:List Need} {A:World} (h:NI B p v xs A): ∃a c,v= .slice a xs.length c:=by
 rcases h.row.2 with⟨rfl,h0⟩|⟨g,cap,cur,rfl,_⟩
 ·exact⟨none,0,by rw[h0]⟩
 exact⟨_,_,rfl⟩
theorem zA5 {A C:World} {r:Option Nat} {p:Nat} {vs:Array Value} (h:Boxed A p vs) (g:A.grownBy C r) (hr:some p≠r):Boxed C p vs:=
 ⟨Nat.lt_of_lt_of_le h.lt g.size,fun j v hv=>g.cell (h.cell j v hv) hr,fun j hj=>(World.frozen?_of_block (g.block p h.lt hr)).trans (h.free j hj)⟩
theorem zBj {w:World} {base n k:Nat} {e:TypeId} {v:Value} {xs:List Value} (h:w.ownsRow base e k v n xs) (hn:0<n): ∃g cap,v= .slice (some ⟨g,0,none⟩) n cap:=by
 obtain⟨_,⟨rfl,rfl⟩|⟨g,cap,cur,rfl,_⟩⟩:=h
 ·omega
 exact⟨_,_,rfl⟩
theorem zCD {W:World} {q:Nat} {l:List Value} (h:Boxed W q l.toArray): ∀j u,l[j]?=some u→W.cell? ((⟨q,0,none⟩:Addr).add j)=some u:=by
 intro j u hj
 have c:=h.cell j u (by simpa using hj)
 cases j with
 |zero=>simpa[Addr.add] using c
 |succ j=>simpa[Addr.add] using c
theorem NI.stored {B p:Nat} {v v':Value} {xs ys:List Need} {A C:World} (h:NI B p v xs A) (hg:A.grownBy C v.ownBlock) (hn:v'.ownBlock=v.ownBlock∨v'.ownBlock=some A.heap.size) (ho:C.ownsRow B 117 3 v' ys.length (nflat ys)):
  NI B p v' ys (C.setCell ⟨p,0,none⟩ v')∧Boxed C p #[v]:=by
 have hb:=zA5 h.box hg (fun e=>h.ne e.symm)
 have hne:v'.ownBlock≠some p:=by
  rcases hn with e|e
  ·rw[e];exact h.ne
  rw[e];intro g;injection g with g;have:=h.box.lt;omega
 refine⟨⟨by exact hb.set 0 v' (by simp),ho.kept (row:=some p) ⟨rfl,rfl,rfl,by simp,fun k _ hk=>?_⟩ (.inr hne),hne,h.ge⟩,hb⟩
 exact heap_setCell_other C ⟨p,0,none⟩ k v' (fun e=>hk (by simp[e]))
theorem NI.ored {B p g cap:Nat} {ys:List Need} {A:World} (h:NI B p (.slice (some ⟨g,0,none⟩) ys.length cap) ys A) {j:Nat} {n:Need} (hj:ys[j]?=some n) (a b:Bool):
  NI B p (.slice (some ⟨g,0,none⟩) ys.length cap) (ys.modify j (orN a b)) ((A.setCell ⟨g,j*3+1,none⟩ (.bool (n.2.1||a))).setCell ⟨g,j*3+2,none⟩ (.bool (n.2.2||b))):=by
 have hgp:g≠p:=fun e=>h.ne (by rw[e];rfl)
 have h1:=(h.row.stored (j*3+1) (.bool (n.2.1||a))).1
 have h2:=(h1.stored (j*3+2) (.bool (n.2.2||b))).1
 rw[zJ5 a b hj] at h2
 exact⟨(h.box.far hgp _ _).far hgp _ _,by rw[zAB];exact h2,h.ne,h.ge⟩
section
variable {P:Program} (w:World)
theorem zD6 {o:Oper} {a:Act} {K:Act→World→Prop} {Q:Exit→Act→World→Prop} (s x:Operand) (t:TypeId)
  (ho:o.op= .call {callee:= .builtin .append,args:= #[s,x],argTypes:= #[t,t]})
  (base:Nat) (e:TypeId) (i:TypeInfo) (z:Value) (size bytes:Nat) (ht:P.underlying t=some (.slice e)) (hi:P.info? e=some i) (hz:i.zero=some z)
  (hsize:i.size=size) (hby:i.bytes=bytes) (hzs:z.cells.size=size) (hsz:0<size)
  (v:Value) (n:Nat) (xs:List Value) (hs:a.eval s=v) (hown:w.ownsRow base e size v n xs)
  (ad:Addr) (m c:Nat) (news:List Value) (hx:a.eval x= .slice (some ad) m c) (hl:news.length=m*size) (hnews: ∀j u,news[j]?=some u→w.cell? (ad.add j)=some u) (h1: ∀u∈news,u.oneCell'=true)
  (h63:n+m≤maxLen) (hbytes:(n+m)*bytes≤140737488355328) (hbase:base≤w.heap.size)
  (h: ∀v' w',w'.ownsRow base e size v' (n+m) (xs++news)→w.grownBy w' v.ownBlock→(v'.ownBlock=v.ownBlock∨v'.ownBlock=some w.heap.size)→K (a.put o.dst v') w'):o.wp P a w K Q:=by
 obtain⟨v',w',hr,h2,h3,_,h5⟩:=run_append_own_at (P:=P) w base t o.type e i z size bytes ht hi hz hsize hby hzs hsz v n xs hown ad m c news hl hnews h1 h63 hbytes hbase
 unfold Oper.wp execOp
 simp only[ho,resolve,invoke,builtin,Sem.run_bind,Sem.run_pure,Result.andThen_ok,List.map_toArray,List.map_cons,List.map_nil,hs,hx,hr]
 exact h v' w' h2 h3 h5
end
open Go.RowKit

abbrev errV (n:Int):Value:= .iface 32 (.int .i64 n)
open Go.RowKit
def errN (n:Int):Value:=if n=0 then .nilIface else errV n
theorem zAX {p:UInt8→Bool}: ∀{l:List UInt8},l.dropWhile p= []↔l.all p=true
 | []=>by simp
 |b::l=>by
  by_cases h:p b=true
  ·simp[List.dropWhile,h,zAX]
  simp[List.dropWhile,h]
theorem zEY (s cs:List UInt8):Lib.trimS s cs= []↔s.all (fun c=>cs.contains c)=true:=by
 unfold Lib.trimS Lib.trimLeftS Lib.trimRightS
 rw[zAX,List.all_reverse]
 constructor
 ·intro h
  by_cases hs:s.all (fun c=>cs.contains c)=true
  ·exact hs
  exfalso
  have h2:(s.reverse.dropWhile (cs.contains ·))≠ []:=fun e=>hs (by rw[←List.all_reverse];exact zAX.1 e)
  cases hd:s.reverse.dropWhile (cs.contains ·) with
  |nil=>exact h2 hd
  |cons x r=>
   have hx:cs.contains x=false:=by
    have:=List.head?_dropWhile_not (cs.contains ·) s.reverse
    rw[hd] at this
    simpa using this
   rw[hd] at h
   have:=List.all_eq_true.1 h x (by simp)
   rw[hx] at this
   exact absurd this (by simp)
 intro h
 rw[List.all_eq_true] at h⊢
 intro x hx
 exact h x (List.mem_reverse.1 ((List.dropWhile_sublist _).mem hx))
open Go.RowKit

def strLen:Value→Nat| .string s=>s.size|_=>0

theorem zBC {a b:List UInt8} (h:a=b):Ending.returned (.string ⟨a.toArray⟩)= .returned (.string ⟨b.toArray⟩):=by rw[h]
theorem zAO (l:List UInt8):(ByteArray.mk l.toArray).size=l.length:=by show l.toArray.size=_;simp
theorem zAS (l:List UInt8):strLen (.string ⟨l.toArray⟩)=l.length:=zAO l
theorem zAh {P:Program} (x y:List UInt8) (h:x.length+y.length≤9223372036854775807) (w:World):
  (Op.stringOp .add ⟨x.toArray⟩ ⟨y.toArray⟩).run P w= .ok (.string ⟨(x++y).toArray⟩) w:=by
 rw[run_string_add_sum w _ _ (by rw[zAO,zAO];exact h),ByteArray.mk_append_mk]
theorem zBZ {P:Program} (src dst e:TypeId) (hs:P.underlying src=some (.slice e)) (he:P.underlying e=some (.int .u8)) (hd:P.underlying dst=some .string) (c:Int) (w:World) (h0:0≤c) (h1:c<256):
  (convert src dst (.slice (some ⟨w.heap.size,0,none⟩) 1 1)).run P (w.alloc (.cells #[.int .u8 c] e))= .ok (.string ⟨[UInt8.ofNat c.toNat].toArray⟩) (w.alloc (.cells #[.int .u8 c] e)):=by
 refine run_convert_bytes_back (w.alloc (.cells #[.int .u8 c] e)) src dst e ⟨w.heap.size,0,none⟩ 1 [UInt8.ofNat c.toNat] hs he hd fun j hj=>?_
 obtain rfl:j=0:=by simpa using hj
 have hc:(UInt8.ofNat c.toNat).toNat=c.toNat:=by rw[UInt8.toNat_ofNat'];omega
 have e1:((UInt8.ofNat c.toNat).toNat:Int)=c:=by rw[hc];omega
 simp only[List.getElem_cons_zero,e1]
 simp[Addr.add]
theorem zBv (l:List UInt8):(ByteArray.mk l.toArray).size=l.length:=by show l.toArray.size=_;simp
theorem zA9 {P:Program} (t:TypeId) (h:P.underlying t=some .string) (L:List UInt8) (k:IntKind) (i:Nat) (c:UInt8) (hc:L[i]?=some c) (w:World):
  (Instr.index t (.string ⟨L.toArray⟩) (.int k i)).run P w= .ok (.int .u8 (c.toNat:Int)) w:=by
 have hl:i<L.length:=(List.getElem?_eq_some_iff.1 hc).1
 have hv:L[i]=c:=(List.getElem?_eq_some_iff.1 hc).2
 have hg:(⟨L.toArray⟩:ByteArray)[i]'(by rw[zBv];exact hl)=c:=by rw[←hv];rfl
 rw[run_index_string w t _ k i h,dif_pos ⟨by omega,by rw[zBv];omega⟩]
 simp only[Int.toNat_natCast,hg]
theorem zB0 {P:Program} (t:TypeId) (h:P.underlying t=some .string) (L:List UInt8) (k:IntKind) (j:Nat) (hj:j≤L.length) (w:World):
  (Instr.slice t (.string ⟨L.toArray⟩) none (some (.int k j)) none).run P w= .ok (.string ⟨(L.take j).toArray⟩) w:=by
 rw[run_slice_string_to_if w t _ k j h,if_pos ⟨by omega,by rw[zBv];omega⟩,ByteArray.extract_mk]
 simp
theorem zBd {P:Program} (t:TypeId) (h:P.underlying t=some .string) (L:List UInt8) (k:IntKind) (i:Nat) (hi:i≤L.length) (w:World):
  (Instr.slice t (.string ⟨L.toArray⟩) (some (.int k i)) none none).run P w= .ok (.string ⟨(L.drop i).toArray⟩) w:=by
 rw[run_slice_string_from_if w t _ k i h,if_pos ⟨by omega,by rw[zBv];omega⟩,ByteArray.extract_mk,zBv]
 have e:(L.drop i).take (L.length-i)=L.drop i:=List.take_of_length_le (by simp)
 simp[e]
theorem zIX {P:Program} (t:TypeId) (h:P.underlying t=some .string) (L:List UInt8) (k k':IntKind) (i j:Nat) (hi:i≤j) (hj:j≤L.length) (w:World):
  (Instr.slice t (.string ⟨L.toArray⟩) (some (.int k i)) (some (.int k' j)) none).run P w= .ok (.string ⟨((L.drop i).take (j-i)).toArray⟩) w:=by
 rw[run_slice_string w t _ k k' i j h (by omega) (by omega) (by rw[zBv];omega),ByteArray.extract_mk]
 simp
open Go.RowKit

def Drew (w w':World):Prop:= ∃n,w'=w.drewN n
theorem Drew.refl (w:World):Drew w w:=⟨0,rfl⟩
theorem zDC (w:World) (a b:Nat):(w.drewN a).drewN b=w.drewN (a+b):=by
 induction b with
 |zero=>rfl
 |succ b ih=>show((w.drewN a).drewN b).drew=(w.drewN (a+b)).drew;rw[ih]
theorem Drew.drewN {w w':World} (h:Drew w w') (n:Nat):Drew w (w'.drewN n):=by
 obtain⟨a,rfl⟩:=h
 exact⟨a+n,zDC w a n⟩
theorem Drew.drew {w w':World} (h:Drew w w'):Drew w w'.drew:=h.drewN 1
theorem Drew.below {w w':World} (h:Drew w w'):Below w.heap.size w w':=by
 obtain⟨a,rfl⟩:=h
 exact zAb (Below.refl _ _) a
open Go.RowKit

def onlyB (s of:List UInt8) (f t:Int):Bool:=s.all (fun c=>of.contains c)&&(decide (f≤(s.length:Int))&&decide ((s.length:Int)≤t))
theorem zD7 {P:Program} {f:FuncId} {args:Array Value} {w:World} {n:Nat} {v:Value}
  (h:Calls P f args (w.drewN n) fun e w'=>e= .returned v∧Drew (w.drewN n) w'):Calls P f args (w.drewN n) fun e w''=>e= .returned v∧ ∃m,w''=w.drewN m:=
 h.mono fun _ _ ⟨he,m,hm⟩=>⟨he,n+m,by rw[hm,zDC]⟩
theorem zLK {a b:UInt8}:((a.toNat:Int)==(b.toNat:Int))=(a==b):=by
 by_cases h:a=b
 ·subst h;simp
 rw[beq_eq_false_iff_ne.2 h]
 exact beq_eq_false_iff_ne.2 fun g=>h (UInt8.toNat_inj.1 (by omega))

theorem zFO (s of:List UInt8) (f t:Int) (w:World) (hs:s.length≤4000000000) (ho:of.length≤4000000000):
  Calls Tryz.prog 66 #[.string ⟨s.toArray⟩,.string ⟨of.toArray⟩,.int .i64 f,.int .i64 t] w fun e w'=>e= .returned (.bool (onlyB s of f t))∧Drew w w':=by
 generalize HPOST:onlyB s of f t=POST
 have HP:=Lib.hid HPOST
 clear HPOST
 go_enter Tryz.func66,Tryz.ntmps66
 go_wp2_with fail
 go_loopw [9,10,11] (fun i _ _ wr=> ∃k:Nat,i= .int .i64 k∧k≤s.length∧Hid (Drew w wr)∧Hid ((s.take k).all (fun c=>of.contains c)=true)) (fun i _ _ _=>s.length-(RowKit.intOf i).toNat)
 case atStart=>exact⟨0,rfl,Nat.zero_le _,Drew.refl _,Lib.hid rfl⟩
 case round=>
  obtain⟨k,rfl,hk,HW,HA⟩:=hrel
  by_cases hlt:k<s.length
  ·obtain⟨c,hc⟩: ∃c,s[k]?=some c:=⟨s[k],List.getElem?_eq_getElem hlt⟩
   have IX:=fun w=>zA9 (P:= Tryz.prog) 9 Tryz.underlying9 s .i64 k c hc w
   have HC:=Lib.hid hc
   clear hc
   go_wp2_with fail
   obtain⟨wo,hwo⟩: ∃wo:World,wo=wr:=⟨_,rfl⟩
   subst hwo
   go_loopw [10,11] (fun b j wr=> ∃m:Nat,j= .int .i64 m∧m≤of.length∧Hid (Drew w wr)∧b= .bool ((of.take m).contains c)) (fun _ j _=>of.length-(RowKit.intOf j).toNat)
   case atStart=>exact⟨0,rfl,Nat.zero_le _,HW,rfl⟩
   case round=>
    obtain⟨m,rfl,hm,HW',rfl⟩:=hrel
    clear HW
    by_cases hlm:m<of.length
    ·obtain⟨x,hx⟩: ∃x,of[m]?=some x:=⟨of[m],List.getElem?_eq_getElem hlm⟩
     have IX2:=fun w=>zA9 (P:= Tryz.prog) 9 Tryz.underlying9 of .i64 m x hx w
     have HS:=Lib.hid (show(of.take (m+1)).contains c=((of.take m).contains c||(c==x)) by
      rw[List.take_add_one,hx,Bool.eq_iff_iff];simp[List.contains_eq_mem,List.mem_append])
     have hcx:=zLK (a:=c) (b:=x)
     clear hx
     generalize (of.take m).contains c=b at*
     cases b
     ·go_wp2_with fail
      go_quiet (fail)
      go_wp2_with fail
      go_roundw
      case rel=>exact⟨m+1,by go_num,by omega,HW'.out.drewN _,by rw[HS.out];simp⟩
      case measure=>simp[RowKit.intOf];omega
     go_wp2_with fail
     go_quiet (fail)
     go_wp2_with fail
     go_roundw
     case rel=>exact⟨m+1,by go_num,by omega,HW'.out.drewN _,by rw[HS.out];simp⟩
     case measure=>simp[RowKit.intOf];omega
    have HM:=Lib.hid (show(of.take m).contains c=of.contains c by rw[List.take_of_length_le (by omega)])
    generalize (of.take m).contains c=b at*
    cases b
    ·have HN:=Lib.hid (show onlyB s of f t=false by
      unfold onlyB
      rw[show s.all (fun c=>of.contains c)=false from List.all_eq_false.2 ⟨c,List.mem_of_getElem? HC.out,by rw[←HM.out];decide⟩]
      rfl)
     clear HM
     go_wp2_with fail
     go_ret
     exact⟨zAg (by rw[←HP.out,HN.out]),HW'.out⟩
    have HN:=Lib.hid (show(s.take (k+1)).all (fun c=>of.contains c)=true by
     rw[List.take_add_one,HC.out,List.all_append,HA.out];simpa using HM.out.symm)
    clear HM
    go_wp2_with fail
    first|exact⟨⟨k+1,by go_num,by omega,HW',HN⟩,by simp[RowKit.intOf];omega⟩|(refine⟨?_,?_⟩;exact⟨_,_,_,_,⟨k+1,by go_num,by omega,HW',HN⟩,rfl⟩;simp[RowKit.intOf];omega)
  have HN:=Lib.hid (show onlyB s of f t=(decide (f≤(s.length:Int))&&decide ((s.length:Int)≤t)) by
   have h:=HA.out
   rw[List.take_of_length_le (by omega)] at h
   unfold onlyB;rw[h];rfl)
  by_cases h1:f≤(s.length:Int)
  ·have e1:decide (f≤(s.length:Int))=true:=zAd h1
   go_wp2_with fail
   go_ret
   exact⟨zAg (by rw[←HP.out,HN.out,e1];first|rfl|simp),HW.out⟩
  have e1:decide (f≤(s.length:Int))=false:=zAa h1
  go_wp2_with fail
  go_ret
  exact⟨zAg (by rw[←HP.out,HN.out,e1];first|rfl|simp),HW.out⟩
open Go.RowKit
namespace Ms
def lowL:List UInt8:= [97,98,99,100,101,102,103,104,105,106,107,108,109,110,111,112,113,114,115,116,117,118,119,120,121,122]
def namL:List UInt8:= [97,98,99,100,101,102,103,104,105,106,107,108,109,110,111,112,113,114,115,116,117,118,119,120,121,122,48,49,50,51,52,53,54,55,56,57,95]
def nameB (s:List UInt8):Bool:=(s.all (fun c=>namL.contains c)&&(decide (1≤s.length)&&decide (s.length≤20)))&&lowL.contains (s.headD 0)
theorem zIY: ∀b∈namL,b.toNat<128:=by decide
end Ms
theorem zEZ: ∀(l:List UInt8) (c:UInt8),-1≤Lib.indexByte l c∧(0≤Lib.indexByte l c↔c∈l)
 | [],c=>⟨by simp[Lib.indexByte],by simp[Lib.indexByte]⟩
 |b::l,c=>by
  obtain⟨i1,i2⟩:=zEZ l c
  unfold Lib.indexByte
  by_cases h:b=c
  ·subst h;simp
  have hb:(b==c)=false:=beq_eq_false_iff_ne.2 h
  have hc: ¬c=b:=fun e=>h e.symm
  rw[hb,if_neg (by simp)]
  by_cases h1:Lib.indexByte l c= -1
  ·rw[h1]
   have:c∉l:=fun e=>by have:=i2.2 e;omega
   simp[this,hc]
  have hh:(Lib.indexByte l c== -1)=false:=beq_eq_false_iff_ne.2 h1
  rw[hh,if_neg (by simp)]
  have h0:0≤Lib.indexByte l c:=by omega
  refine⟨by omega,⟨fun _=>List.mem_cons_of_mem _ (i2.1 h0),fun _=>by omega⟩⟩
theorem zIZ (s:List UInt8) (w:World) (hs:s.length≤4000000000):
  Calls Tryz.prog 83 #[.string ⟨s.toArray⟩,.string ⟨#[97,98,99,100,101,102,103,104,105,106,107,108,109,110,111,112,113,114,115,116,117,118,119,120,121,122,48,49,50,51,52,53,54,55,56,57,95]⟩] w fun e w'=>e= .returned (.string ⟨(Lib.trimS s Ms.namL).toArray⟩)∧Below w.heap.size w w':=
 Any.strings_Trim_laid Tryz.lays160 (by kernel_rfl) ⟨s.toArray⟩ ⟨Ms.namL.toArray⟩ w (by rw[zAO];omega) (by decide) (fun j b hb=>Ms.zIY b (List.mem_of_getElem? (i:=j) hb))
theorem zJ6 (x:UInt8) (w:World):Calls Tryz.prog 84 #[.string ⟨#[97,98,99,100,101,102,103,104,105,106,107,108,109,110,111,112,113,114,115,116,117,118,119,120,121,122]⟩,.int .u8 (x.toNat:Int)] w fun e w'=>e= .returned (.int .i64 (Lib.indexByte Ms.lowL x))∧w=w':=by
 have h:= Tryz.strings_IndexByte ⟨#[97,98,99,100,101,102,103,104,105,106,107,108,109,110,111,112,113,114,115,116,117,118,119,120,121,122]⟩ (x.toNat:Int) w
 rw[show((x.toNat:Int).toNat.toUInt8)=x by simp] at h
 exact h.mono fun _ _ g=>⟨g.1,g.2.symm⟩

theorem zC5 (s:List UInt8) (w:World) (hs:s.length≤4000000000):
  Calls Tryz.prog 51 #[.string ⟨s.toArray⟩] w fun e w'=>e= .returned (.bool (Ms.nameB s))∧Below w.heap.size w w':=by
 cases s with
 |nil=>
  go_enter Tryz.func51,Tryz.ntmps51
  go_wp2_with fail
  go_ret
  exact⟨zAg (by decide),Below.refl _ _⟩
 |cons x r=>
  have CT:=Lib.hid fun w=>zIZ (x::r) w hs
  have CB:=Lib.hid fun w=>zJ6 x w
  have HD:Hid ((x::r).all (fun c=>Ms.namL.contains c)=decide (Lib.trimS (x::r) Ms.namL= [])):=Lib.hid (by
   rw[Bool.eq_iff_iff,decide_eq_true_iff,zEY])
  have IX:=fun w=>zA9 (P:= Tryz.prog) 9 Tryz.underlying9 (x::r) .i64 0 x rfl w
  rw[show((0:Nat):Int)=0 from rfl] at IX
  have hx:=zEZ Ms.lowL x
  have e0:Ms.nameB (x::r)=((x::r).all (fun c=>Ms.namL.contains c)&&decide ((x::r).length≤20)&&Ms.lowL.contains x):=by
   unfold Ms.nameB
   rw[decide_eq_true (show 1≤(x::r).length by simp),Bool.true_and];rfl
  rw[e0]
  have hc:Ms.lowL.contains x=decide (0≤Lib.indexByte Ms.lowL x):=by
   rw[Bool.eq_iff_iff,decide_eq_true_iff,hx.2,List.contains_iff_mem]
  rw[hc]
  have hne:(x::r).isEmpty=false:=rfl
  have hn0:((x::r)== [])=false:=rfl
  have l0:(0:Int)<((x::r).length:Int):=by simp only[List.length_cons];omega
  generalize Lib.indexByte Ms.lowL x=I at*
  generalize (x::r).all (fun c=>Ms.namL.contains c)=A at*
  generalize Lib.trimS (x::r) Ms.namL=T at*
  generalize hS:x::r=S at*
  clear hS e0 hc hx hs
  by_cases h5:S.length≤20
  ·have h6:(S.length:Int)≤20:=by omega
   rw[decide_eq_true h5]
   cases T with
   |nil=>
    go_enter Tryz.func51,Tryz.ntmps51
    go_wp2_with fail
    refine(CT.out _).mono ?_
    rintro e w1 ⟨rfl,hb⟩
    have W:=Lib.hid hb
    clear hb
    go_wp2_with fail
    refine(CB.out _).mono ?_
    rintro e w' ⟨rfl,rfl⟩
    go_wp2_with fail
    go_ret
    exact⟨zAg (by rw[HD.out];simp),W.out⟩
   |cons y z=>
    go_enter Tryz.func51,Tryz.ntmps51
    go_wp2_with fail
    refine(CT.out _).mono ?_
    rintro e w1 ⟨rfl,hb⟩
    have W:=Lib.hid hb
    clear hb
    go_wp2_with fail
    go_ret
    exact⟨zAg (by rw[HD.out];simp),W.out⟩
  have h6: ¬(S.length:Int)≤20:=by omega
  rw[decide_eq_false h5]
  go_enter Tryz.func51,Tryz.ntmps51
  go_wp2_with fail
  go_ret
  exact⟨zAg (by simp),Below.refl _ _⟩

theorem zC6 (s:List UInt8) (w:World) (hs:s.length≤4000000000):
  Calls Tryz.prog 36 #[.string ⟨s.toArray⟩] w fun e w'=>e= .returned (.bool (Ms.nameB s))∧Below w.heap.size w w':=by
 have C1:=Lib.hid fun w=>(zFO s Ms.namL 1 20 w hs (by decide)).mono fun e w' (h:e= .returned (.bool (onlyB s Ms.namL 1 20))∧Drew w w')=>(⟨h.1,by obtain⟨n,rfl⟩:=h.2;exact zAb (Below.refl _ _) n⟩:e= .returned (.bool (onlyB s Ms.namL 1 20))∧Below w.heap.size w w')
 have e1:onlyB s Ms.namL 1 20=(s.all (fun c=>Ms.namL.contains c)&&(decide (1≤s.length)&&decide (s.length≤20))):=by
  unfold onlyB
  have a1:decide ((1:Int)≤(s.length:Int))=decide (1≤s.length):=by
   rw[Bool.eq_iff_iff,decide_eq_true_iff,decide_eq_true_iff];omega
  have a2:decide ((s.length:Int)≤20)=decide (s.length≤20):=by
   rw[Bool.eq_iff_iff,decide_eq_true_iff,decide_eq_true_iff];omega
  rw[a1,a2]
 rw[e1] at C1
 unfold Ms.nameB
 cases hA:(s.all (fun c=>Ms.namL.contains c)&&(decide (1≤s.length)&&decide (s.length≤20))) with
 |false=>
  rw[hA] at C1
  clear hA e1
  go_enter Tryz.func36,Tryz.ntmps36
  go_wp2_with fail
  refine(C1.out _).mono ?_
  rintro e w1 ⟨rfl,hb⟩
  have W:=Lib.hid hb
  clear hb
  go_wp2_with fail
  go_ret
  exact⟨zAg (by simp),W.out⟩
 |true=>
  rw[hA] at C1
  have h1:1≤s.length:=by
   rw[Bool.and_eq_true,Bool.and_eq_true,decide_eq_true_iff,decide_eq_true_iff] at hA;exact hA.2.1
  obtain⟨x,r,rfl⟩: ∃x r,s=x::r:=by
   cases s with
   |nil=>simp at h1
   |cons x r=>exact⟨x,r,rfl⟩
  have SL:=fun w=>zB0 (P:= Tryz.prog) 9 Tryz.underlying9 (x::r) .i64 1 (by simp) w
  rw[show((1:Nat):Int)=1 from rfl] at SL
  have C2:=Lib.hid fun w=>(zFO [x] Ms.lowL 1 1 w (by simp) (by decide)).mono fun e w' (h:e= .returned (.bool (onlyB [x] Ms.lowL 1 1))∧Drew w w')=>(⟨h.1,by obtain⟨n,rfl⟩:=h.2;exact zAb (Below.refl _ _) n⟩:e= .returned (.bool (onlyB [x] Ms.lowL 1 1))∧Below w.heap.size w w')
  have e2:onlyB [x] Ms.lowL 1 1=Ms.lowL.contains x:=by unfold onlyB;simp
  rw[e2] at C2
  have e3:((x::r).headD 0)=x:=rfl
  rw[e3]
  have e4:(x::r).take 1= [x]:=rfl
  rw[e4] at SL
  generalize Ms.lowL.contains x=B at*
  generalize x::r=S at*
  clear hA e1 e2 e3 e4 h1
  go_enter Tryz.func36,Tryz.ntmps36
  go_wp2_with fail
  refine(C1.out _).mono ?_
  rintro e w1 ⟨rfl,hb⟩
  have W:=Lib.hid hb
  clear hb
  go_wp2_with fail
  refine(C2.out _).mono ?_
  rintro e w2 ⟨rfl,hb⟩
  have W2:=Lib.hid (zET W.out hb)
  clear hb
  go_wp2_with fail
  go_ret
  exact⟨zAg (by simp),W2.out⟩
end Go.Proofs.YtjlchookakbomaaGreatDoor
namespace Byt
open Go Go.Lib
theorem zHX {c:UInt8} {X:List UInt8} (Y:List UInt8) (h:c∉X):split (X++c::Y) [c]=X::split Y [c]:=by
 unfold split
 have e:count (X++c::Y) [c]=count Y [c]+1:=by
  rw[count_one,count_one,List.count_append,List.count_cons_self,List.count_eq_zero.2 h];omega
 rw[e,zHW _ _ h]
theorem split_none {c:UInt8} {X:List UInt8} (h:c∉X):split X [c]= [X]:=zGQ _ h
end Byt
