/- A region that draws its order within a round of a loop over an iterator: walked as anywhere, where nothing in it is deferred and nothing is outgrown. No program. -/
import Derived.Test.YtjlchookakbomaaGreatDoorEi8
import Derived.RangeFuncNested
import Derived.RangeFuncLeaves
import Derived.RangeFuncBound
import Derived.Test.YtjlchookakbomaaGreatDoorShelfI
import Derived.RangeFuncBox
import Derived.OwnWalkIn
import Derived.TacticsInMore
import Derived.LoopNIn
import Derived.LoopIn
import Derived.OrdersIn
import Derived.TacticsIn
import Derived.RangeFuncCalls
set_option maxHeartbeats 4000000
set_option maxRecDepth 100000
namespace Rul
open Go Go.Lib Go.Proofs.YtjlchookakbomaaGreatDoor

def opsD (c s:Int):Op5:=⟨Dcm.mag c/Dcm.P10 s,s,((Dcm.strip s.toNat (Dcm.mag c%Dcm.P10 s)).1:Int),Dcm.mag c%Dcm.P10 s,(Dcm.strip s.toNat (Dcm.mag c%Dcm.P10 s)).2⟩
def textOk (t:List UInt8):Bool:=t.isEmpty||parseOk t
def setOk (l:List (List UInt8)):Bool:=l.all textOk
def hits (o:Op5) (t:List UInt8):Bool:=!t.isEmpty&&ruleH (ruleP t) o
def kindL:List (List UInt8):= [[122,101,114,111],[111,110,101],[116,119,111],[102,101,119],[109,97,110,121]]
def other:List UInt8:= [111,116,104,101,114]
def kindAt (i:Nat):List UInt8:=(kindL[i]?).getD other
def kindS:List (List UInt8)→Op5→Nat→List UInt8
 | [],_,_=>other
 |t::r,o,i=>if hits o t then kindAt i else kindS r o (i+1)
theorem zDj {o:Op5} {x:List UInt8}: ∀{l:List (List UInt8)} {k i:Nat},l[k]?=some x→(∀y∈l.take k,hits o y=false)→hits o x=true→kindS l o i=kindAt (i+k)
 | [],k,i,h,_,_=>by simp at h
 |t::r,0,i,h,_,hx=>by
  simp at h
  subst h
  unfold kindS
  rw[hx]
  rfl
 |t::r,k+1,i,h,ha,hx=>by
  have h0:=ha t (by simp)
  unfold kindS
  rw[h0]
  have:=zDj (l:=r) (k:=k) (i:=i+1) (by simpa using h) (fun y hy=>ha y (by simp[hy])) hx
  rw[show i+1+k=i+(k+1) by omega] at this
  simpa using this
theorem zCO {o:Op5}: ∀{l:List (List UInt8)} {i:Nat},(∀y∈l,hits o y=false)→kindS l o i=other
 | [],_,_=>rfl
 |t::r,i,h=>by
  unfold kindS
  rw[h t (by simp)]
  simpa using zCO (l:=r) (i:=i+1) (fun y hy=>h y (by simp[hy]))
theorem zCh {o:Op5} {l:List (List UInt8)} {k:Nat} {x:List UInt8} (h:l[k]?=some x) (ha: ∀y∈l.take k,hits o y=false) (hx:hits o x=false): ∀y∈l.take (k+1),hits o y=false:=by
 intro y hy
 rw[List.take_add_one,h] at hy
 rcases List.mem_append.1 hy with hy|hy
 ·exact ha y hy
 simp at hy;subst hy;exact hx
theorem zHC {l:List (List UInt8)} {k:Nat} {x:List UInt8} (h:l[k]?=some x) (ha:(l.take k).all textOk=true) (hx:textOk x=true):(l.take (k+1)).all textOk=true:=by
 rw[List.take_add_one,h,List.all_append,ha]
 simp[hx]
theorem zNv {l:List (List UInt8)} {x:List UInt8} (h:x∈l) (hx:textOk x=false):setOk l=false:=by
 unfold setOk
 rw[List.all_eq_false]
 exact⟨x,h,by rw[hx];decide⟩
theorem zJl {l:List (List UInt8)} {x:List UInt8} (h:setOk l=true) (hx:x∈l):textOk x=true:=List.all_eq_true.1 h x hx
end Rul
namespace Go.Proofs.YtjlchookakbomaaGreatDoor
open Go.RowKit Ms
def evS (L:List (List UInt8)):Ev where
 num:=numM
 dtx:=Byt.decText
 kind c s:=Rul.kindS L (Rul.opsD c s) 0
 less c s o:=if addOk c s (-o) 0 then some (Dcm.addC c s (-o) 0,Dcm.addS s 0) else none
 same c s n:=decide (Dcm.nrm c s=Dcm.nrm n 0)
namespace Ms
def roomE (o:Option (List UInt8)):Int:=if o.isSome then 0 else 1
def argOf (args:List Ag) (t:List UInt8):Ag:=(args.find? fun a=>a.name==t).getD ⟨[],false,0,0,[]⟩
theorem zHD (args:List Ag) (t:List UInt8):valA args t=((argOf args t).num,(argOf args t).co,(argOf args t).sc,(argOf args t).txt):=by
 unfold valA argOf
 cases args.find? fun a=>a.name==t<;>rfl
theorem zJm {args:List Ag} {t:List UInt8} (h:(argOf args t).num=true):argOf args t∈args:=by
 unfold argOf at*
 cases hf:args.find? fun a=>a.name==t with
 |none=>rw[hf] at h;simp at h
 |some a=>exact List.mem_of_find?_eq_some hf
theorem zHE {args:List Ag} {K:Nat} (h: ∀a∈args,a.txt.length≤K) (t:List UInt8):(argOf args t).txt.length≤K:=by
 unfold argOf
 cases hf:args.find? fun a=>a.name==t with
 |none=>exact Nat.zero_le _
 |some a=>exact h a (List.mem_of_find?_eq_some hf)
theorem zKB {F:Nd→Option (List UInt8)} {m:List Nd} {i:Nat} {x:Nd} {p:List UInt8} (h:m[i]?=some x) (hF:F x=none):(catM F (m.drop i)).map (p++ ·)=none:=by
 obtain⟨hi,e⟩:=List.getElem?_eq_some_iff.1 h
 rw[List.drop_eq_getElem_cons hi,e]
 show Option.map _ (match F x with|none=>none|some t=>(catM F (m.drop (i+1))).map (t++ ·))=none
 rw[hF]
 rfl
theorem zKC {F:Nd→Option (List UInt8)} {m:List Nd} {i:Nat} {x:Nd} {p t:List UInt8} (h:m[i]?=some x) (hF:F x=some t):(catM F (m.drop i)).map (p++ ·)=(catM F (m.drop (i+1))).map ((p++t)++ ·):=by
 obtain⟨hi,e⟩:=List.getElem?_eq_some_iff.1 h
 rw[List.drop_eq_getElem_cons hi,e]
 show Option.map _ (match F x with|none=>none|some t=>(catM F (m.drop (i+1))).map (t++ ·))=_
 rw[hF]
 show Option.map _ ((catM F (m.drop (i+1))).map (t++ ·))=_
 rw[Option.map_map]
 congr 1
 funext z
 exact(List.append_assoc p t z).symm
theorem zMd {F:Nd→Option (List UInt8)} {m:List Nd} {i:Nat} {p:List UInt8} (h:m.length≤i):(catM F (m.drop i)).map (p++ ·)=some p:=by
 rw[List.drop_of_length_le h]
 show some (p++ [])=some p
 rw[List.append_nil]
theorem zDZ {L:List (List UInt8)} {c s o:Int} {l:Int×Int} (h:(evS L).less c s o=some l):Dcm.okD l.1 l.2:=by
 have h':(if addOk c s (-o) 0 then some (Dcm.addC c s (-o) 0,Dcm.addS s 0) else none)=some l:=h
 split at h'
 ·rename_i ha
  injection h' with h'
  subst h'
  obtain⟨h1,h2,h3,h4⟩:=ha
  obtain⟨s0,s9,_,_⟩:=h1
  refine⟨?_,?_,h3,h4⟩<;>(show _;unfold Dcm.addS;split<;>omega)
 cases h'
theorem zBD (c s:Int) (h:Dcm.okD c s):(numM c s).length≤700:=by
 unfold numM ftxt
 split
 ·have:=Nt.zJf patM 46 44 c s h (by decide)
  simpa[patM] using this
 simp
theorem zIa {c s:Int} (h:Dcm.okD c s):numM c s=Nt.shown patM 46 44 c s:=by
 unfold numM ftxt
 rw[if_pos]
 unfold Nt.fmtE
 rw[if_neg (by decide)]
 exact if_pos h
theorem zEH (c s:Int) (h:Dcm.okD c s):(Byt.decText c s).length≤100:=Byt.zBu c s h
end Ms
open Go.RowKit
namespace Ms
structure Stp where
 kind:Int
 text:List UInt8
 off:Int
 keys:List (List UInt8)
 beg:List Nat
 fin:Nat
def begs (C:List Nd→Nat):Nat→List (List Nd)→List Nat
 |b,[]=> [b]
 |b,y::r=>b::begs C (b+C y) r
def flatB (G:Nat→List Nd→List Stp) (C:List Nd→Nat):Nat→List (List Nd)→List Stp
 |_,[]=> []
 |b,y::r=>G b y++flatB G C (b+C y) r
def inC (C:List Nd→Nat) (x:Nd):Nat:=(((casesOf x).map (·.2)).map C).sum
def stpOf (C:List Nd→Nat) (b:Nat) (x:Nd):Stp:=⟨x.kind,x.text,x.off,(casesOf x).map (·.1),begs C (b+1) ((casesOf x).map (·.2)),b+1+inC C x⟩
def flatM (G:Nat→List Nd→List Stp) (C:List Nd→Nat):Nat→List Nd→List Stp
 |_,[]=> []
 |b,x::r=>stpOf C b x::(flatB G C (b+1) ((casesOf x).map (·.2))++flatM G C (b+1+inC C x) r)
def flat:Nat→Nat→List Nd→List Stp
 |0,_,_=> []
 |f+1,b,m=>flatM (flat f) (cnt f) b m
theorem zCi {G:Nat→List Nd→List Stp} {C:List Nd→Nat} (h: ∀b y,(G b y).length=C y): ∀(L:List (List Nd)) (b:Nat),(flatB G C b L).length=(L.map C).sum
 | [],_=>rfl
 |y::r,b=>by
  show(G b y++flatB G C (b+C y) r).length=_
  rw[List.length_append,h,zCi h r]
  simp
theorem zCP (f:Nat) (x:Nd) (r:List Nd):cnt (f+1) (x::r)=1+inC (cnt f) x+cnt (f+1) r:=by
 unfold inC
 rw[List.map_map]
 simp[cnt,Function.comp_def]
theorem zBm: ∀(f b:Nat) (m:List Nd),(flat f b m).length=cnt f m
 |0,b,m=>rfl
 |f+1,b,m=>by
  induction m generalizing b with
  |nil=>rfl
  |cons x r ih=>
   show(stpOf (cnt f) b x::(flatB (flat f) (cnt f) (b+1) ((casesOf x).map (·.2))++flat (f+1) (b+1+inC (cnt f) x) r)).length=_
   rw[List.length_cons,List.length_append,zCi (zBm f),ih,zCP]
   show inC (cnt f) x+cnt (f+1) r+1=_
   omega
def On (T:List Stp) (a:Nat) (F:List Stp):Prop:= ∀(j:Nat) (y:Stp),F[j]?=some y→T[a+j]?=some y
theorem On.head {T:List Stp} {a:Nat} {y:Stp} {F:List Stp} (h:On T a (y::F)):T[a]?=some y:=h 0 y rfl
theorem On.tail {T:List Stp} {a:Nat} {y:Stp} {F:List Stp} (h:On T a (y::F)):On T (a+1) F:=fun j z hz=>by
 have:=h (j+1) z (by simpa using hz)
 rwa [show a+1+j=a+(j+1) by omega]
theorem On.left {T:List Stp} {a:Nat} {F H:List Stp} (h:On T a (F++H)):On T a F:=fun j z hz=>h j z (by rw[List.getElem?_append_left (List.getElem?_eq_some_iff.1 hz).1];exact hz)
theorem On.right {T:List Stp} {a:Nat} {F H:List Stp} (h:On T a (F++H)):On T (a+F.length) H:=fun j z hz=>by
 have:=h (F.length+j) z (by rw[List.getElem?_append_right (by omega),Nat.add_sub_cancel_left];exact hz)
 rwa [show a+F.length+j=a+(F.length+j) by omega]
theorem zHF {T:List Stp} {G:Nat→List Nd→List Stp} {C:List Nd→Nat} (hG: ∀b y,(G b y).length=C y): ∀(L:List (List Nd)) (b i:Nat) (y:List Nd),L[i]?=some y→On T b (flatB G C b L)→ ∃p,(begs C b L)[i]?=some p∧(begs C b L)[i+1]?=some (p+C y)∧On T p (G p y)
 | [],_,_,_,h,_=>by simp at h
 |z::r,b,0,y,h,hT=>by
  obtain rfl:z=y:=by simpa using h
  refine⟨b,rfl,?_,On.left hT⟩
  cases r<;>rfl
 |z::r,b,i+1,y,h,hT=>by
  have h2:=On.right (F:=G b z) hT
  rw[hG] at h2
  obtain⟨p,h3,h4,h5⟩:=zHF hG r (b+C z) i y (by simpa using h) h2
  exact⟨p,by simpa[begs] using h3,by simpa[begs] using h4,h5⟩
structure Fr where
 til:Nat
 nxt:Nat
 mc:Int
 ms:Int
def RepS (T:List Stp):Nat→List Fr→List (Nat×List Nd)→Prop
 |_,[],[]=>True
 |a,fr::s,q::qs=>fr.til=a+cnt q.1 q.2∧On T a (flat q.1 a q.2)∧RepS T fr.nxt s qs
 |_,_,_=>False
def restM (E:Ev) (val:List UInt8→Bool×Int×Int×List UInt8):List Fr→List (Nat×List Nd)→Option (List UInt8)
 |fr::s,q::qs=>match saidM E val q.1 fr.mc fr.ms q.2 with
  |none=>none
  |some t=>(restM E val s qs).map (t++ ·)
 |_,_=>some []
def left:List (Nat×List Nd)→Nat
 | []=>0
 |q::qs=>cnt q.1 q.2+left qs
theorem zKD {f:Nat} {m:List Nd} (h:cnt f m=0):f=0∨m= []:=by
 cases f with
 |zero=>exact .inl rfl
 |succ f=>
  cases m with
  |nil=>exact .inr rfl
  |cons x r=>rw[zCP] at h;omega
theorem zKE (E:Ev) (val:List UInt8→Bool×Int×Int×List UInt8) {fr:Fr} {s:List Fr} {q:Nat×List Nd} {qs:List (Nat×List Nd)} (h:cnt q.1 q.2=0):restM E val (fr::s) (q::qs)=restM E val s qs:=by
 have e:saidM E val q.1 fr.mc fr.ms q.2=some []:=by
  obtain⟨f,m⟩:=q
  rcases zKD h with h|h
  ·cases h;rfl
  cases h
  cases f<;>rfl
 show(match saidM E val q.1 fr.mc fr.ms q.2 with|none=>none|some t=>(restM E val s qs).map (t++ ·))=_
 rw[e]
 show Option.map (fun z=> []++z) _=_
 cases restM E val s qs<;>rfl
theorem zDk (E:Ev) (val:List UInt8→Bool×Int×Int×List UInt8) {fr:Fr} {s:List Fr} {f:Nat} {x:Nd} {r:List Nd} {qs:List (Nat×List Nd)}:restM E val (fr::s) ((f+1,x::r)::qs)=match saidX E val (saidM E val f) fr.mc fr.ms x with
  |none=>none
  |some t=>(restM E val (fr::s) ((f+1,r)::qs)).map (t++ ·):=by
 show(match (match saidX E val (saidM E val f) fr.mc fr.ms x with|none=>none|some t=>(saidM E val (f+1) fr.mc fr.ms r).map (t++ ·)) with|none=>none|some t=>(restM E val s qs).map (t++ ·))=match saidX E val (saidM E val f) fr.mc fr.ms x with|none=>none|some t=>Option.map (t++ ·) (match saidM E val (f+1) fr.mc fr.ms r with|none=>none|some t=>(restM E val s qs).map (t++ ·))
 cases saidX E val (saidM E val f) fr.mc fr.ms x with
 |none=>rfl
 |some t=>
  show(match (saidM E val (f+1) fr.mc fr.ms r).map (t++ ·) with|none=>none|some t=>(restM E val s qs).map (t++ ·))=Option.map (t++ ·) (match saidM E val (f+1) fr.mc fr.ms r with|none=>none|some t=>(restM E val s qs).map (t++ ·))
  cases saidM E val (f+1) fr.mc fr.ms r with
  |none=>rfl
  |some u=>
   show(restM E val s qs).map ((t++u)++ ·)=Option.map (t++ ·) ((restM E val s qs).map (u++ ·))
   rw[Option.map_map]
   congr 1
   funext z
   exact List.append_assoc t u z
theorem zD0 {T:List Stp} {a:Nat} {fr:Fr} {s:List Fr} {f:Nat} {x:Nd} {r:List Nd} {qs:List (Nat×List Nd)} (h:RepS T a (fr::s) ((f+1,x::r)::qs)):T[a]?=some (stpOf (cnt f) a x)∧On T (a+1) (flatB (flat f) (cnt f) (a+1) ((casesOf x).map (·.2)))∧RepS T (a+1+inC (cnt f) x) (fr::s) ((f+1,r)::qs):=by
 obtain⟨h1,h2,h3⟩:=h
 have h2':On T a (stpOf (cnt f) a x::(flatB (flat f) (cnt f) (a+1) ((casesOf x).map (·.2))++flat (f+1) (a+1+inC (cnt f) x) r)):=h2
 have h4:=h2'.tail.right
 rw[zCi (zBm f)] at h4
 refine⟨h2'.head,h2'.tail.left,?_,h4,h3⟩
 have:fr.til=a+cnt (f+1) (x::r):=h1
 rw[zCP] at this
 show fr.til=a+1+inC (cnt f) x+cnt (f+1) r
 omega
theorem zKF {T:List Stp} {a:Nat} {fr:Fr} {s:List Fr} {f:Nat} {x:Nd} {r:List Nd} {qs:List (Nat×List Nd)} (h:RepS T a (fr::s) ((f+1,x::r)::qs)) {i:Nat} {y:List UInt8×List Nd} (hy:(casesOf x)[i]?=some y) (mc ms:Int):
  ∃p,(stpOf (cnt f) a x).beg[i]?=some p∧(stpOf (cnt f) a x).beg[i+1]?=some (p+cnt f y.2)∧RepS T p (⟨p+cnt f y.2,(stpOf (cnt f) a x).fin,mc,ms⟩::fr::s) ((f,y.2)::(f+1,r)::qs):=by
 obtain⟨_,h2,h3⟩:=zD0 h
 obtain⟨p,h4,h5,h6⟩:=zHF (zBm f) ((casesOf x).map (·.2)) (a+1) i y.2 (by simp[hy]) h2
 exact⟨p,h4,h5,rfl,h6,h3⟩
theorem zJn (E:Ev) (val:List UInt8→Bool×Int×Int×List UInt8) {fr fr':Fr} {s:List Fr} {f:Nat} {x:Nd} {b r:List Nd} {qs:List (Nat×List Nd)} (h:saidX E val (saidM E val f) fr.mc fr.ms x=saidM E val f fr'.mc fr'.ms b):restM E val (fr::s) ((f+1,x::r)::qs)=restM E val (fr'::fr::s) ((f,b)::(f+1,r)::qs):=by
 rw[zDk,h]
 rfl
theorem zHG: ∀(l:List Nat) (a:Nat),a∈l→a≤l.sum
 |b::r,a,h=>by
  rw[List.sum_cons]
  rcases List.mem_cons.1 h with rfl|h
  ·omega
  have:=zHG r a h;omega
theorem zNQ {C:List Nd→Nat} {x:Nd} {i:Nat} {y:List UInt8×List Nd} (hy:(casesOf x)[i]?=some y):C y.2≤inC C x:=by
 unfold inC
 have hm:C y.2∈((casesOf x).map (·.2)).map C:=by
  rw[List.map_map]
  exact List.mem_map.2 ⟨y,List.mem_of_getElem? hy,rfl⟩
 exact zHG _ _ hm
end Ms
open Go.RowKit
namespace Ms
theorem zCj (cs:Cs) (k:List UInt8):keyI (cs.map fun y=>(y.1,([]:List Nd))) k=keyI cs k:=by
 unfold keyI
 rw[List.findIdx?_map]
 rfl
theorem zJo (E:Ev) (cs:Cs) (c s lc ls:Int):cntI E (cs.map fun y=>(y.1,([]:List Nd))) c s lc ls=cntI E cs c s lc ls:=by
 unfold cntI exI
 rw[zCj,zCj,List.findIdx?_map]
 rfl
theorem zJp (cs:Cs) (t:List UInt8):choI (cs.map fun y=>(y.1,([]:List Nd))) t=choI cs t:=by
 unfold choI
 rw[zCj,zCj]
structure SayI (T:List Stp) (E:Ev) (val:List UInt8→Bool×Int×Int×List UInt8) (SAY:Option (List UInt8)) (acc:List UInt8) (a:Nat) (s:List Fr) (qs:List (Nat×List Nd)):Prop where
 rep:RepS T a s qs
 say:(restM E val s qs).map (acc++ ·)=SAY
 wf: ∀q∈qs,WfM (fun t=>(val t).1) q.1 q.2
 ok: ∀fr∈s,Dcm.okD fr.mc fr.ms
 len:acc.length+left qs*4000000≤240000000
namespace SayI
variable {T:List Stp} {E:Ev} {val:List UInt8→Bool×Int×Int×List UInt8} {SAY:Option (List UInt8)} {acc:List UInt8} {a:Nat} {s:List Fr} {qs:List (Nat×List Nd)} {fr:Fr}
theorem top (h:SayI T E val SAY acc a (fr::s) qs): ∃q qs',qs=q::qs'∧fr.til=a+cnt q.1 q.2:=by
 have:=h.rep
 cases qs with
 |nil=>exact this.elim
 |cons q qs'=>exact⟨q,qs',rfl,this.1⟩
theorem pop (h:SayI T E val SAY acc a (fr::s) qs) (hz:a=fr.til): ∃qs',SayI T E val SAY acc fr.nxt s qs'∧left qs'=left qs:=by
 obtain⟨q,qs',rfl,ht⟩:=h.top
 have hc:cnt q.1 q.2=0:=by omega
 have hl:left (q::qs')=cnt q.1 q.2+left qs':=rfl
 refine⟨qs',⟨h.rep.2.2,by rw[←h.say,zKE E val hc],fun x hx=>h.wf x (List.mem_cons_of_mem _ hx),fun x hx=>h.ok x (List.mem_cons_of_mem _ hx),by have:=h.len;rw[hl,hc,Nat.zero_add] at this;exact this⟩,by omega⟩
theorem last (h:SayI T E val SAY acc a [] qs):SAY=some acc:=by
 have:=h.rep
 cases qs with
 |nil=>
  rw[←h.say]
  show some (acc++ [])=_
  rw[List.append_nil]
 |cons q qs'=>exact this.elim
theorem node (h:SayI T E val SAY acc a (fr::s) qs) (hz:a≠fr.til): ∃f x r qs',qs=(f+1,x::r)::qs'∧T[a]?=some (stpOf (cnt f) a x)∧WfX (fun t=>(val t).1) (WfM (fun t=>(val t).1) f) x:=by
 obtain⟨⟨g,m⟩,qs',rfl,ht⟩:=h.top
 cases g with
 |zero=>
  have:fr.til=a+cnt 0 m:=ht
  have e:cnt 0 m=0:=rfl
  omega
 |succ f=>
  cases m with
  |nil=>
   have:fr.til=a+cnt (f+1) []:=ht
   have e:cnt (f+1) []=0:=rfl
   omega
  |cons x r=>
   refine⟨f,x,r,qs',rfl,(zD0 h.rep).1,?_⟩
   have hw:WfM (fun t=>(val t).1) (f+1) (x::r):=h.wf _ (List.mem_cons_self ..)
   exact hw x (List.mem_cons_self ..)
theorem zHH {nm:List UInt8→Bool} {f:Nat} {x:Nd} {r:List Nd} (h:WfM nm (f+1) (x::r)):WfM nm (f+1) r:=fun y hy=>h y (List.mem_cons_of_mem _ hy)
variable {f:Nat} {x:Nd} {r:List Nd} {qs':List (Nat×List Nd)}
theorem zFi:left ((f+1,x::r)::qs')=1+inC (cnt f) x+left ((f+1,r)::qs'):=by
 show cnt (f+1) (x::r)+left qs'=1+inC (cnt f) x+(cnt (f+1) r+left qs')
 rw[zCP];omega
theorem text (h:SayI T E val SAY acc a (fr::s) ((f+1,x::r)::qs')) (hk: ¬(x.kind=4∨x.kind=5)) {t:List UInt8} (ht:saidX E val (saidM E val f) fr.mc fr.ms x=some t) (hl:t.length≤4000000):SayI T E val SAY (acc++t) (a+1) (fr::s) ((f+1,r)::qs')∧left ((f+1,r)::qs')<left ((f+1,x::r)::qs'):=by
 have hi:inC (cnt f) x=0:=by unfold inC casesOf;rw[if_neg hk];rfl
 have hln:=zFi (f:=f) (x:=x) (r:=r) (qs':=qs')
 rw[hi] at hln
 have h3:=(zD0 h.rep).2.2
 rw[hi,Nat.add_zero] at h3
 refine⟨⟨h3,?_,fun q hq=>?_,h.ok,?_⟩,by omega⟩
 ·have e:=h.say
  rw[zDk,ht] at e
  rw[←e]
  show Option.map _ (restM E val (fr::s) ((f+1,r)::qs'))=Option.map _ (Option.map _ (restM E val (fr::s) ((f+1,r)::qs')))
  rw[Option.map_map]
  congr 1
  funext z
  exact List.append_assoc acc t z
 ·rcases List.mem_cons.1 hq with rfl|hq
  ·exact zHH (h.wf _ (List.mem_cons_self ..))
  exact h.wf q (List.mem_cons_of_mem _ hq)
 have:=h.len
 rw[hln] at this
 rw[List.length_append]
 omega
theorem none' (h:SayI T E val SAY acc a (fr::s) ((f+1,x::r)::qs')) (ht:saidX E val (saidM E val f) fr.mc fr.ms x=none):SAY=none:=by
 have e:=h.say
 rw[zDk,ht] at e
 exact e.symm
theorem case (h:SayI T E val SAY acc a (fr::s) ((f+1,x::r)::qs')) (hk:x.kind=4∨x.kind=5) {i:Nat} {y:List UInt8×List Nd} (hy:x.cases[i]?=some y) {mc ms:Int} (hm:Dcm.okD mc ms) (ht:saidX E val (saidM E val f) fr.mc fr.ms x=saidM E val f mc ms y.2):
  ∃p e,(stpOf (cnt f) a x).beg[i]?=some p∧(stpOf (cnt f) a x).beg[i+1]?=some e∧SayI T E val SAY acc p (⟨e,(stpOf (cnt f) a x).fin,mc,ms⟩::fr::s) ((f,y.2)::(f+1,r)::qs')∧left ((f,y.2)::(f+1,r)::qs')<left ((f+1,x::r)::qs'):=by
 have hc:casesOf x=x.cases:=if_pos hk
 have hy':(casesOf x)[i]?=some y:=by rw[hc];exact hy
 obtain⟨p,h1,h2,h3⟩:=zKF h.rep hy' mc ms
 have hle:=zNQ (C:=cnt f) hy'
 have hln:=zFi (f:=f) (x:=x) (r:=r) (qs':=qs')
 have hl2:left ((f,y.2)::(f+1,r)::qs')=cnt f y.2+left ((f+1,r)::qs'):=rfl
 have hw:WfM (fun t=>(val t).1) (f+1) (x::r):=h.wf _ (List.mem_cons_self ..)
 have hlt:left ((f,y.2)::(f+1,r)::qs')<left ((f+1,x::r)::qs'):=by omega
 refine⟨p,_,h1,h2,⟨h3,?_,fun q hq=>?_,fun z hz=>?_,Nat.le_trans (Nat.add_le_add_left (Nat.mul_le_mul_right _ (Nat.le_of_lt hlt)) _) h.len⟩,hlt⟩
 ·rw[←h.say,zJn E val (fr':=⟨p+cnt f y.2,(stpOf (cnt f) a x).fin,mc,ms⟩) ht]
 ·rcases List.mem_cons.1 hq with rfl|hq
  ·exact(hw x (List.mem_cons_self ..)).body hk y (List.mem_of_getElem? hy)
  rcases List.mem_cons.1 hq with rfl|hq
  ·exact zHH hw
  exact h.wf q (List.mem_cons_of_mem _ hq)
 rcases List.mem_cons.1 hz with rfl|hz
 ·exact hm
 exact h.ok z hz
theorem start {f:Nat} {m:List Nd} (hwf:WfM (fun t=>(val t).1) f m) (hc:cnt f m≤60):SayI (flat f 0 m) E val (saidM E val f 0 0 m) [] 0 [⟨(flat f 0 m).length,0,0,0⟩] [(f,m)]:=by
 refine⟨⟨by rw[zBm];exact(Nat.zero_add _).symm,fun j y hj=>by rw[Nat.zero_add];exact hj,trivial⟩,?_,fun q hq=>by rw[List.mem_singleton.1 hq];exact hwf,fun fr hfr=>by rw[List.mem_singleton.1 hfr];show Dcm.okD 0 0;decide,?_⟩
 ·show Option.map _ (match saidM E val f 0 0 m with|none=>none|some t=>(some []).map (t++ ·))=_
  cases saidM E val f 0 0 m with
  |none=>rfl
  |some t=>show some ([]++(t++ []))=_;rw[List.append_nil];rfl
 show 0+(cnt f m+0)*4000000≤_
 omega
end SayI
end Ms
open Go.RowKit
namespace Ms
def clX (F:List Nd→List Nd) (x:Nd):Nd:= .mk x.kind x.text x.off ((casesOf x).map fun y=>(y.1,F y.2))
def clean:Nat→List Nd→List Nd
 |0,_=> []
 |f+1,m=>m.map (clX (clean f))
theorem zGh (F:List Nd→List Nd) (x:Nd):casesOf (clX F x)=(casesOf x).map fun y=>(y.1,F y.2):=by
 show(if x.kind=4∨x.kind=5 then (casesOf x).map _ else [])=_
 by_cases h:x.kind=4∨x.kind=5
 ·rw[if_pos h]
 rw[if_neg h];unfold casesOf;rw[if_neg h];rfl
theorem zJq (F:List Nd→List Nd) (m:List Nd):bodies (m.map (clX F))=(bodies m).map F:=by
 induction m with
 |nil=>rfl
 |cons x r ih=>
  rw[List.map_cons,zBF,zBF,List.map_append,ih,zGh,List.map_map,List.map_map]
  rfl
theorem zFj {G:Bool→List Nd→Int} {F:List Nd→List Nd} (hG: ∀b m,G b (F m)=G b m) (x:Nd) (mark:Bool): ∀(l:List (List UInt8×List Nd)) (seen:List (List UInt8)),csE G (clX F x) mark seen (l.map fun y=>(y.1,F y.2))=csE G x mark seen l
 | [],seen=>rfl
 |y::r,seen=>by
  have hk:keyB (clX F x) y.1=keyB x y.1:=rfl
  have hx:(clX F x).kind=x.kind:=rfl
  rw[List.map_cons]
  unfold csE
  dsimp only
  rw[hk,hx,hG,zFj hG x mark r]
theorem zJr {G:Bool→List Nd→Int} {F:List Nd→List Nd} (hG: ∀b m,G b (F m)=G b m) (x:Nd) (prev:Option Int) (mark:Bool):ndE G (clX F x) prev mark=ndE G x prev mark:=by
 have hf:fineB (clX F x) prev mark=fineB x prev mark:=rfl
 have hx:(clX F x).kind=x.kind:=rfl
 have ho:(clX F x).off=x.off:=rfl
 unfold ndE
 rw[hf,hx,ho]
 by_cases h:x.kind=4∨x.kind=5
 ·rw[if_pos h,if_pos h]
  have hc:(clX F x).cases=x.cases.map fun y=>(y.1,F y.2):=by
   show(casesOf x).map _=_
   unfold casesOf;rw[if_pos h]
  rw[hc,zFj hG x mark x.cases []]
 rw[if_neg h,if_neg h]
theorem zFk: ∀(f:Nat) (mark:Bool) (m:List Nd),chk f mark (clean f m)=chk f mark m
 |0,_,_=>rfl
 |f+1,mark,m=>by
  have go: ∀(m:List Nd) (prev:Option Int),msE (chk f) mark prev (m.map (clX (clean f)))=msE (chk f) mark prev m:=by
   intro m
   induction m with
   |nil=>exact fun _=>rfl
   |cons x r ih=>
    intro prev
    rw[List.map_cons]
    unfold msE
    rw[zJr (zFk f) x prev mark,show(clX (clean f) x).kind=x.kind from rfl,ih]
  exact go m none
theorem zCQ: ∀(f:Nat) (l:List Need) (m:List Nd),allN f l (clean f m)=allN f l m
 |0,_,_=>rfl
 |f+1,l,m=>by
  show(m.map (clX (clean f))).foldl (fun l x=>goN (allN f) (addN l x) ((casesOf x).map (·.2))) l=m.foldl (fun l x=>goN (allN f) (addN l x) ((casesOf x).map (·.2))) l
  rw[List.foldl_map]
  congr 1
  funext l x
  rw[zGh,List.map_map,show addN l (clX (clean f) x)=addN l x from rfl]
  unfold goN
  rw[show((fun x=>x.2)∘fun y:List UInt8×List Nd=>(y.1,clean f y.2))=(clean f)∘(·.2) from rfl,←List.map_map,List.foldl_map]
  congr 1
  funext l b
  exact zCQ f l b
def Dp:Nat→List Nd→Prop
 |0,m=>m= []
 |f+1,m=> ∀b∈bodies m,Dp f b
theorem zHI {F G:List Nd→Int×Bool} {C:List Nd→List Nd}: ∀(L:List (List Nd)) (n:Int),(∀b∈L,F (C b)=G b)→lgo F n (L.map C)=lgo G n L
 | [],n,_=>rfl
 |b::r,n,h=>by
  rw[List.map_cons]
  unfold lgo
  rw[h b (List.mem_cons_self ..),zHI r _ fun c hc=>h c (List.mem_cons_of_mem _ hc)]
theorem zFl: ∀(d f:Nat) (m:List Nd),Dp f m→lrg d (clean f m)=lrg d m
 |_,0,m,h=>by rw[show m= [] from h];rfl
 |0,f+1,m,_=>by
  show((0:Int),!(m.map _).isEmpty)=(0,!m.isEmpty)
  cases m<;>rfl
 |d+1,f+1,m,h=>by
  show lgo (lrg d) (m.map (clX (clean f))).length (bodies (m.map (clX (clean f))))=lgo (lrg d) m.length (bodies m)
  rw[zJq,List.length_map]
  exact zHI _ _ fun b hb=>zFl d f b (h b hb)
theorem zFm {f:Nat} {m:List Nd} (h:Dp f m) (args:List Ag):fitE f (clean f m) args=fitE f m args:=by
 have h1:msgE f (clean f m)=msgE f m:=by unfold msgE;rw[zFl 6 f m h,zFk]
 have h2:namE f (clean f m)=namE f m:=by unfold namE;rw[h1,zCQ]
 unfold fitE
 rw[h2,zCQ]
theorem zFn {f:Nat} {m:List Nd} (h:Dp f m):(clean f m).length=m.length:=by
 cases f with
 |zero=>rw[show m= [] from h];rfl
 |succ f=>exact List.length_map _
theorem zEh: ∀(f:Nat) {w:World} {v:Value} {m:List Nd},MsgAt f w v m→Dp f m
 |0,w,v,m,h=>by
  rcases h with⟨rfl,_⟩|⟨b,off,cap,_,hpos,_,_,hx⟩
  ·rfl
  exact(hx 0 m[0] (List.getElem?_eq_getElem hpos)).elim
 |f+1,w,v,m,h=>by
  intro b hb
  unfold bodies at hb
  obtain⟨l,hl1,hl2⟩:=List.mem_flatten.1 hb
  obtain⟨x,hxm,rfl⟩:=List.mem_map.1 hl1
  obtain⟨y,hy,rfl⟩:=List.mem_map.1 hl2
  obtain⟨j,hj,ej⟩:=List.getElem_of_mem hxm
  obtain⟨A,cap,e,_,hx⟩:=h.spread
  obtain⟨bb,off,_,hc⟩:=hx j x (by rw[List.getElem?_eq_getElem hj,ej])
  obtain⟨a,n,c,_,_,_,_,h4,_,_⟩:=hc
  obtain⟨A',cap',_,_,hy'⟩:=h4.spread
  have hyc:y∈x.cases:=by
   unfold casesOf at hy
   split at hy
   ·exact hy
   cases hy
  obtain⟨i,hi,ei⟩:=List.getElem_of_mem hyc
  obtain⟨b2,o2,_,a2,n2,c2,_,_,g,_⟩:=hy' i y (by rw[List.getElem?_eq_getElem hi,ei])
  exact zEh f g
end Ms
open Go.RowKit
def Holds (D:List (Nat×Obj)) (w:World):Prop:= ∀p∈D,w.heap[p.1]?=some p.2
def Foot (A:Nat→Prop) (w:World) (Q:World→Prop):Prop:= ∃D,Holds D w∧(∀p∈D,A p.1)∧ ∀w',Holds D w'→Q w'
theorem zAf {w:World} {b:Nat} {o:Obj} (h:w.heap[b]?=some o):b<w.heap.size:=(Array.getElem?_eq_some_iff.1 h).1
namespace Foot
variable {A A':Nat→Prop} {w w':World} {Q R:World→Prop}
theorem out (h:Foot A w Q):Q w:=by
 obtain⟨D,h1,_,h3⟩:=h
 exact h3 w h1
theorem keep (h:Foot A w Q) (hk: ∀b,b<w.heap.size→A b→w'.heap[b]?=w.heap[b]?):Foot A w' Q:=by
 obtain⟨D,h1,h2,h3⟩:=h
 exact⟨D,fun p hp=>(hk _ (zAf (h1 p hp)) (h2 p hp)).trans (h1 p hp),h2,h3⟩
theorem mono (h:Foot A w Q) (hm: ∀b,b<w.heap.size→A b→A' b):Foot A' w Q:=by
 obtain⟨D,h1,h2,h3⟩:=h
 exact⟨D,h1,fun p hp=>hm _ (zAf (h1 p hp)) (h2 p hp),h3⟩
theorem imp (h:Foot A w Q) (hi: ∀w,Q w→R w):Foot A w R:=by
 obtain⟨D,h1,h2,h3⟩:=h
 exact⟨D,h1,h2,fun w' hw=>hi w' (h3 w' hw)⟩
theorem both (h:Foot A w Q) (h':Foot A w R):Foot A w (fun w=>Q w∧R w):=by
 obtain⟨D,h1,h2,h3⟩:=h
 obtain⟨E,g1,g2,g3⟩:=h'
 refine⟨D++E,fun p hp=>?_,fun p hp=>?_,fun w' hw=>⟨h3 w' fun p hp=>hw p (List.mem_append_left _ hp),g3 w' fun p hp=>hw p (List.mem_append_right _ hp)⟩⟩
 ·rcases List.mem_append.1 hp with hp|hp
  ·exact h1 p hp
  exact g1 p hp
 rcases List.mem_append.1 hp with hp|hp
 ·exact h2 p hp
 exact g2 p hp
theorem block {b:Nat} {o:Obj} (hb:w.heap[b]?=some o) (ha:A b):Foot A w (fun w=>w.heap[b]?=some o):=
 ⟨[(b,o)],fun p hp=>by rw[List.mem_singleton.1 hp];exact hb,fun p hp=>by rw[List.mem_singleton.1 hp];exact ha,fun _ hw=>hw (b,o) (List.mem_singleton.2 rfl)⟩
theorem triv (h: ∀w,Q w):Foot A w Q:=⟨[],fun p (hp:p∈ [])=>absurd hp List.not_mem_nil,fun p (hp:p∈ [])=>absurd hp List.not_mem_nil,fun w' _=>h w'⟩
theorem below (h:Foot A w Q) (hb:Below w.heap.size w w'):Foot A w' Q:=h.keep fun b hl _=>hb.block b hl
end Foot
theorem zBc (w:World) (vs:Array Value) (t:TypeId):(w.alloc (.cells vs t)).heap[w.heap.size]?=some (.cells vs t (0,0)):=by
 show(w.heap.push _)[w.heap.size]?=_
 simp
structure Grow {α:Type} (B:Nat) (X:Nat→Prop) (e:TypeId) (k:Nat) (enc:α→List Value) (C:α→World→Prop) (v:Value) (l:List α) (w:World):Prop where
 row:w.ownsRow B e k v l.length (l.flatMap enc)
 hang:Foot (fun b=>B≤b∧X b∧some b≠v.ownBlock) w (fun w=> ∀x∈l,C x w)
namespace Grow
variable {α:Type} {B:Nat} {X:Nat→Prop} {e:TypeId} {k:Nat} {enc:α→List Value} {C:α→World→Prop} {v:Value} {l:List α} {w w':World}
theorem nil:Grow B X e k enc C (.slice none 0 0) [] w:=⟨World.ownsRow_nil _ _ _ _,Foot.triv fun _ x hx=>by cases hx⟩
theorem own (h:Grow B X e k enc C v l w) {g:Nat} (hg:v.ownBlock=some g):B≤g∧ ∃cur,w.heap[g]?=some (.cells cur e (0,0)):=by
 rcases h.row.2 with⟨rfl,_⟩|⟨g',cap,cur,rfl,hB,hg',_⟩
 ·simp[Value.ownBlock] at hg
 simp only[Value.ownBlock,Option.some.injEq] at hg
 subst hg
 exact⟨hB,cur,hg'⟩
theorem keep (h:Grow B X e k enc C v l w) (hk: ∀b,b<w.heap.size→B≤b→X b→w'.heap[b]?=w.heap[b]?) (hX: ∀g,v.ownBlock=some g→X g):Grow B X e k enc C v l w':=by
 refine⟨⟨h.row.1,?_⟩,h.hang.keep fun b hl hb=>hk b hl hb.1 hb.2.1⟩
 rcases h.row.2 with h0|⟨g,cap,cur,rfl,hB,hg,h1⟩
 ·exact .inl h0
 exact .inr ⟨g,cap,cur,rfl,hB,(hk g (zAf hg) hB (hX g rfl)).trans hg,h1⟩
theorem below (h:Grow B X e k enc C v l w) (hb:Below w.heap.size w w'):Grow B X e k enc C v l w':=by
 refine⟨⟨h.row.1,?_⟩,h.hang.below hb⟩
 rcases h.row.2 with h0|⟨g,cap,cur,rfl,hB,hg,h1⟩
 ·exact .inl h0
 exact .inr ⟨g,cap,cur,rfl,hB,(hb.block g (zAf hg)).trans hg,h1⟩
theorem app {v':Value} (h:Grow B X e k enc C v l w) (x:α) (N:Nat) (hN: ∀g,v.ownBlock=some g→g<N) (hn:Foot (fun b=>N≤b∧B≤b∧X b) w (C x)) (hown:w'.ownsRow B e k v' (l.length+1) (l.flatMap enc++enc x)) (hg:w.grownBy w' v.ownBlock) (hat:v'.ownBlock=v.ownBlock∨v'.ownBlock=some w.heap.size):Grow B X e k enc C v' (l++ [x]) w':=by
 have hn2:Foot (fun b=>B≤b∧X b∧some b≠v.ownBlock) w (C x):=hn.mono fun b _ ⟨h1,h2,h3⟩=>⟨h2,h3,fun e=>by have:=hN b e.symm;omega⟩
 have hb:=h.hang.both hn2
 have hk2:Foot (fun b=>B≤b∧X b∧some b≠v'.ownBlock) w' (fun w=>(∀x∈l,C x w)∧C x w):=by
  obtain⟨D,d1,d2,d3⟩:=hb
  refine⟨D,fun p hp=>(hg.block _ (zAf (d1 p hp)) (d2 p hp).2.2).trans (d1 p hp),fun p hp=>⟨(d2 p hp).1,(d2 p hp).2.1,fun e=>?_⟩,d3⟩
  rcases hat with hat|hat
  ·exact(d2 p hp).2.2 (e.trans hat)
  rw[hat] at e;injection e with e;have:=zAf (d1 p hp);omega
 refine⟨by rw[List.length_append,List.flatMap_append];simpa using hown,hk2.imp fun w0 hw y hy=>?_⟩
 rcases List.mem_append.1 hy with hy|hy
 ·exact hw.1 y hy
 rw[List.mem_singleton.1 hy];exact hw.2
end Grow
theorem zDw {α:Type} {k:Nat} {enc:α→List Value} (hk: ∀x,(enc x).length=k): ∀{l:List α} {j:Nat} {x:α},l[j]?=some x→ ∀(i:Nat) (u:Value),(enc x)[i]?=some u→(l.flatMap enc)[j*k+i]?=some u
 | [],j,x,h,_,_,_=>by simp at h
 |y::l,0,x,h,i,u,hu=>by
  obtain rfl:y=x:=by simpa using h
  rw[List.flatMap_cons,Nat.zero_mul,Nat.zero_add,List.getElem?_append_left (List.getElem?_eq_some_iff.1 hu).1]
  exact hu
 |y::l,j+1,x,h,i,u,hu=>by
  rw[List.flatMap_cons,List.getElem?_append_right (by rw[hk,Nat.succ_mul];omega),hk,show(j+1)*k+i-k=j*k+i by rw[Nat.succ_mul];omega]
  exact zDw hk (by simpa using h) i u hu
theorem Grow.read {α:Type} {B:Nat} {X:Nat→Prop} {e:TypeId} {k:Nat} {enc:α→List Value} {C:α→World→Prop} {v:Value} {l:List α} {w:World} {R:World→Nat→Nat→α→Prop} (h:Grow B X e k enc C v l w) (hX: ∀g,v.ownBlock=some g→X g) (hk: ∀x,(enc x).length=k)
  (hR: ∀w b o x,x∈l→(∀i u,(enc x)[i]?=some u→w.cell? ⟨b,o+i,none⟩=some u)→C x w→R w b o x):Foot (fun b=>B≤b∧X b) w (fun w=>SlAt k R w v l):=by
 by_cases h0:l= []
 ·subst h0
  rcases h.row.2 with⟨rfl,_⟩|⟨g,cap,cur,rfl,_⟩
  ·exact Foot.triv fun w=> .inl ⟨rfl,none,0,rfl⟩
  exact Foot.triv fun w=> .inl ⟨rfl,_,_,rfl⟩
 rcases h.row.2 with⟨rfl,hl⟩|⟨g,cap,cur,rfl,hB,hg,h1,h2,h3,h4⟩
 ·exact absurd (List.length_eq_zero_iff.1 hl) h0
 have hh:Foot (fun b=>B≤b∧X b) w (fun w=> ∀x∈l,C x w):=h.hang.mono fun b _ q=>⟨q.1,q.2.1⟩
 refine(hh.both (Foot.block hg ⟨hB,hX g rfl⟩)).imp fun w' hw=>?_
 refine .inr ⟨g,0,cap,rfl,List.length_pos_iff.2 h0,h1,h2,fun j x hx=>?_⟩
 refine hR w' g _ x (List.mem_of_getElem? hx) (fun i u hu=>?_) (hw.1 x (List.mem_of_getElem? hx))
 have hc:=zDw hk hx i u hu
 rw[←h4,List.getElem?_take] at hc
 split at hc
 ·rw[Nat.zero_add]
  simp[World.cell?,hw.2,←hc]
 cases hc
theorem zAG {w:World} {base n k:Nat} {e:TypeId} {v:Value} {xs:List Value} (h:w.ownsRow base e k v n xs): ∃a c,v= .slice a n c:=by
 rcases h.2 with⟨rfl,rfl⟩|⟨g,cap,cur,rfl,_⟩
 ·exact⟨_,_,rfl⟩
 exact⟨_,_,rfl⟩
theorem zAJ {W:World} {q:Nat} {l:List Value} (h:Boxed W q l.toArray): ∀j u,l[j]?=some u→W.cell? ((⟨q,0,none⟩:Addr).add j)=some u:=by
 intro j u hj
 have c:=h.cell j u (by simpa using hj)
 cases j with
 |zero=>simpa[Addr.add] using c
 |succ j=>simpa[Addr.add] using c
section
variable {P:Program} (w:World)
theorem zA6 {o:Oper} {a:Act} {K:Act→World→Prop} {Q:Exit→Act→World→Prop} (s x:Operand) (t:TypeId)
  (ho:o.op= .call {callee:= .builtin .append,args:= #[s,x],argTypes:= #[t,t]})
  (base:Nat) (e:TypeId) (i:TypeInfo) (z:Value) (size bytes:Nat) (ht:P.underlying t=some (.slice e)) (hi:P.info? e=some i) (hz:i.zero=some z)
  (hsize:i.size=size) (hby:i.bytes=bytes) (hzs:z.cells.size=size) (hsz:0<size)
  (v:Value) (n:Nat) (xs:List Value) (hs:a.eval s=v) (hown:w.ownsRow base e size v n xs)
  (ad:Addr) (m c:Nat) (news:List Value) (hx:a.eval x= .slice (some ad) m c) (hl:news.length=m*size) (hnews: ∀j u,news[j]?=some u→w.cell? (ad.add j)=some u) (h1: ∀u∈news,u.oneCell'=true)
  (h63:n+m≤maxLen) (hbytes:(n+m)*bytes≤140737488355328) (hbase:base≤w.heap.size)
  (h: ∀v' w',w'.ownsRow base e size v' (n+m) (xs++news)→w.grownBy w' v.ownBlock→(v'.ownBlock=v.ownBlock∨v'.ownBlock=some w.heap.size)→K (a.put o.dst v') w'):o.wp P a w K Q:=by
 obtain⟨v',w',hr,h2,h3,_,h5⟩:=run_append_own_at (P:=P) w base t o.type e i z size bytes ht hi hz hsize hby hzs hsz v n xs hown ad m c news hl hnews h1 h63 hbytes hbase
 unfold Oper.wp execOp
 simp only[ho,resolve,invoke,builtin,Sem.run_bind,Sem.run_pure,Result.andThen_ok,List.map_toArray,List.map_cons,List.map_nil,hs,hx,hr]
 exact h v' w' h2 h3 h5
end
open Go.RowKit

theorem zIb {f:Nat} (x:Ms.Nd) {a:Option Addr} {n c:Nat} (w:World) (h:Ms.CassAt f w (.slice a n c) x.cases):
  Calls Tryz.prog 31 #[.agg #[.int .i64 x.kind,.string ⟨x.text.toArray⟩,.int .i64 x.off,.slice a n c]] w fun e w'=> ∃A C,e= .returned (.slice A (Ms.casesOf x).length C)∧Ms.CassAt f w (.slice A (Ms.casesOf x).length C) (Ms.casesOf x)∧Below w.heap.size w w':=by
 obtain⟨A0,C0,e0,_,_⟩:=h.spread
 have en:n=x.cases.length:=by injection e0
 subst en
 unfold Ms.casesOf
 generalize x.kind=K at*
 generalize x.text=T at*
 generalize x.off=O at*
 have W0:=lH (bA w (.cells #[.int .i64 K,.string ⟨T.toArray⟩,.int .i64 O,.slice a x.cases.length c] 51))
 generalize hcs:x.cases=cs at*
 have HH:=lH h
 clear h hcs e0
 by_cases h4:K=4
 ·subst h4
  rw[if_pos (.inl rfl)]
  generalize hl:cs.length=l at*
  go_enter Tryz.func31,Tryz.ntmps31
  go_wp2_with fail
  go_ret
  exact⟨a,c,rfl,HH.out,W0.out⟩
 have b4:(K==4)=false:=zAe h4
 by_cases h5:K=5
 ·subst h5
  rw[if_pos (.inr rfl)]
  clear b4
  generalize hl:cs.length=l at*
  go_enter Tryz.func31,Tryz.ntmps31
  go_wp2_with fail
  go_ret
  exact⟨a,c,rfl,HH.out,W0.out⟩
 have b5:(K==5)=false:=zAe h5
 rw[if_neg (by rintro(h|h);exact h4 h;exact h5 h)]
 clear h4 h5
 generalize hl:cs.length=l at*
 go_enter Tryz.func31,Tryz.ntmps31
 go_wp2_with fail
 go_ret
 exact⟨none,0,rfl,.inl ⟨rfl,none,0,rfl⟩,W0.out⟩

theorem zIc {f:Nat} (x:Ms.Nd) {a:Option Addr} {n c:Nat} (w:World) (h:Ms.CassAt f w (.slice a n c) x.cases):
  Calls Tryz.prog 35 #[.agg #[.int .i64 x.kind,.string ⟨x.text.toArray⟩,.int .i64 x.off,.slice a n c]] w fun e w'=> ∃A C,e= .returned (.slice A (Ms.casesOf x).length C)∧Ms.CassAt f w (.slice A (Ms.casesOf x).length C) (Ms.casesOf x)∧Below w.heap.size w w':=by
 obtain⟨A0,C0,e0,_,_⟩:=h.spread
 have en:n=x.cases.length:=by injection e0
 subst en
 unfold Ms.casesOf
 generalize x.kind=K at*
 generalize x.text=T at*
 generalize x.off=O at*
 have W0:=lH (bA w (.cells #[.int .i64 K,.string ⟨T.toArray⟩,.int .i64 O,.slice a x.cases.length c] 51))
 generalize hcs:x.cases=cs at*
 have HH:=lH h
 clear h hcs e0
 by_cases h4:K=4
 ·subst h4
  rw[if_pos (.inl rfl)]
  generalize hl:cs.length=l at*
  go_enter Tryz.func35,Tryz.ntmps35
  go_wp2_with fail
  go_ret
  exact⟨a,c,rfl,HH.out,W0.out⟩
 have b4:(K==4)=false:=zAe h4
 by_cases h5:K=5
 ·subst h5
  rw[if_pos (.inr rfl)]
  clear b4
  generalize hl:cs.length=l at*
  go_enter Tryz.func35,Tryz.ntmps35
  go_wp2_with fail
  go_ret
  exact⟨a,c,rfl,HH.out,W0.out⟩
 have b5:(K==5)=false:=zAe h5
 rw[if_neg (by rintro(h|h);exact h4 h;exact h5 h)]
 clear h4 h5
 generalize hl:cs.length=l at*
 go_enter Tryz.func35,Tryz.ntmps35
 go_wp2_with fail
 go_ret
 exact⟨none,0,rfl,.inl ⟨rfl,none,0,rfl⟩,W0.out⟩
open Go.RowKit

theorem zFo {f:Nat} (x:Ms.Nd) {a:Option Addr} {n c:Nat} (w:World) (h:Ms.CassAt f w (.slice a n c) x.cases):
  Calls Tryz.prog 31 #[.agg #[.int .i64 x.kind,.string ⟨x.text.toArray⟩,.int .i64 x.off,.slice a n c]] w fun e w'=> ∃A C,e= .returned (.slice A (Ms.casesOf x).length C)∧(∀W,Ms.CassAt f W (.slice a n c) x.cases→Ms.CassAt f W (.slice A (Ms.casesOf x).length C) (Ms.casesOf x))∧Below w.heap.size w w':=by
 obtain⟨A0,C0,e0,_,_⟩:=h.spread
 have en:n=x.cases.length:=by injection e0
 subst en
 unfold Ms.casesOf
 generalize x.kind=K at*
 generalize x.text=T at*
 generalize x.off=O at*
 have W0:=lH (bA w (.cells #[.int .i64 K,.string ⟨T.toArray⟩,.int .i64 O,.slice a x.cases.length c] 51))
 generalize hcs:x.cases=cs at*
 clear h hcs e0
 by_cases h4:K=4
 ·subst h4
  rw[if_pos (.inl rfl)]
  generalize hl:cs.length=l at*
  go_enter Tryz.func31,Tryz.ntmps31
  go_wp2_with fail
  go_ret
  exact⟨a,c,rfl,fun _ h=>h,W0.out⟩
 have b4:(K==4)=false:=zAe h4
 by_cases h5:K=5
 ·subst h5
  rw[if_pos (.inr rfl)]
  clear b4
  generalize hl:cs.length=l at*
  go_enter Tryz.func31,Tryz.ntmps31
  go_wp2_with fail
  go_ret
  exact⟨a,c,rfl,fun _ h=>h,W0.out⟩
 have b5:(K==5)=false:=zAe h5
 rw[if_neg (by rintro(h|h);exact h4 h;exact h5 h)]
 clear h4 h5
 generalize hl:cs.length=l at*
 go_enter Tryz.func31,Tryz.ntmps31
 go_wp2_with fail
 go_ret
 exact⟨none,0,rfl,fun _ _=> .inl ⟨rfl,none,0,rfl⟩,W0.out⟩

theorem zDl {f:Nat} (x:Ms.Nd) {a:Option Addr} {n c:Nat} (w:World) (h:Ms.CassAt f w (.slice a n c) x.cases):
  Calls Tryz.prog 35 #[.agg #[.int .i64 x.kind,.string ⟨x.text.toArray⟩,.int .i64 x.off,.slice a n c]] w fun e w'=> ∃A C,e= .returned (.slice A (Ms.casesOf x).length C)∧(∀W,Ms.CassAt f W (.slice a n c) x.cases→Ms.CassAt f W (.slice A (Ms.casesOf x).length C) (Ms.casesOf x))∧Below w.heap.size w w':=by
 obtain⟨A0,C0,e0,_,_⟩:=h.spread
 have en:n=x.cases.length:=by injection e0
 subst en
 unfold Ms.casesOf
 generalize x.kind=K at*
 generalize x.text=T at*
 generalize x.off=O at*
 have W0:=lH (bA w (.cells #[.int .i64 K,.string ⟨T.toArray⟩,.int .i64 O,.slice a x.cases.length c] 51))
 generalize hcs:x.cases=cs at*
 clear h hcs e0
 by_cases h4:K=4
 ·subst h4
  rw[if_pos (.inl rfl)]
  generalize hl:cs.length=l at*
  go_enter Tryz.func35,Tryz.ntmps35
  go_wp2_with fail
  go_ret
  exact⟨a,c,rfl,fun _ h=>h,W0.out⟩
 have b4:(K==4)=false:=zAe h4
 by_cases h5:K=5
 ·subst h5
  rw[if_pos (.inr rfl)]
  clear b4
  generalize hl:cs.length=l at*
  go_enter Tryz.func35,Tryz.ntmps35
  go_wp2_with fail
  go_ret
  exact⟨a,c,rfl,fun _ h=>h,W0.out⟩
 have b5:(K==5)=false:=zAe h5
 rw[if_neg (by rintro(h|h);exact h4 h;exact h5 h)]
 clear h4 h5
 generalize hl:cs.length=l at*
 go_enter Tryz.func35,Tryz.ntmps35
 go_wp2_with fail
 go_ret
 exact⟨none,0,rfl,fun _ _=> .inl ⟨rfl,none,0,rfl⟩,W0.out⟩
open Go.RowKit

theorem zCR (x:List UInt8) (w:World) (hN:NumW w) (hx:x.length≤4000000000):
  Calls Tryz.prog 177 #[.string ⟨x.toArray⟩] w fun e w'=>e= .returned (.int .i64 (Rul.num x))∧Below w.heap.size w w':=by
 by_cases h: ∃v,Lib.atoiAll x= .ok v
 ·obtain⟨v,h⟩:=h
  have e:Rul.num x=v:=by unfold Rul.num;rw[h]
  have CA:=lH fun w=>zFV x v w hx h
  rw[e]
  clear h e
  go_enter Tryz.func177,Tryz.ntmps177
  go_wp2_with fail
  refine(CA.out _).mono ?_
  rintro e w1 ⟨rfl,hb⟩
  go_wp2_with fail
  go_ret
  exact⟨rfl,hb⟩
 have e:Rul.num x= -1:=by
  unfold Rul.num
  split
  ·rename_i v h';exact absurd ⟨v,h'⟩ h
  rfl
 have CA:=lH fun w hW=>zHi x w hW hx (fun v g=>h ⟨v,g⟩)
 rw[e]
 clear h e
 go_enter Tryz.func177,Tryz.ntmps177
 go_wp2_with fail
 refine(CA.out _ hN).mono ?_
 rintro e w1 ⟨u,N,rfl,hb⟩
 go_wp2_with fail
 go_ret
 exact⟨rfl,hb⟩
open Go.RowKit

variable {F:Fence} {n:Nat} {P:Program}

def Turns {β:Type} (b:Nat) (J:β→World→Prop):Prop:= ∀s A B,J s A→A.grownBy B (some b)→J s B
def ListAt {α:Type} (F:Fence) (n:Nat) (P:Program) (g:Nat) (lb:Array Value) (encs:α→Array Value) (Kp:World→World→Prop) (b:Nat) (L:List α) (w:World):Prop:=
 ∀(l:Nat) (J:List α→World→Prop) (W:World),Below w.heap.size w W→Turns b J→
  (∀pre x W1,J pre W1→pre++ [x]<+:L→YieldAt F (n-1) P l (encs x) W1 fun e W'=>e= .returned (.bool true)∧J (pre++ [x]) W'∧Kp W1 W')→
  J [] W→
  CallsIn F n P g (#[.func (.yield l) #[] #[]]++lb) W fun e W'=>(∃v,e= .returned v)∧J L W'
def onPost {α:Type} (B:Nat) (Kp:World→World→Prop) (I:List α→World→Prop) (xs:List α) (W:World):Exit→Act→World→Prop
 | .normal,_,W'=>KeepsFrom B W W'∧Kp W W'∧I xs W'
 |_,_,_=>False
theorem ListAt.inRound {α:Type} {g:Nat} {lb:Array Value} {encs:α→Array Value} {Kp:World→World→Prop} {b:Nat} {L:List α} {w:World} (l:Nat)
  (h:ListAt F n P g lb encs Kp b L w):ListAt (F.inRound l) n P g lb encs Kp b L w:=h
theorem zD1 {A B:World} {b k:Nat} {o:Obj} (hg:A.grownBy B (some b)) (h:A.heap[k]?=some o) (hne:k≠b):B.heap[k]?=some o:=
 (hg.block k (Array.getElem?_eq_some_iff.1 h).1 (fun e=>hne (Option.some.inj e))).trans h

theorem zEI {α:Type} {g:Operand} {ps:Array Tmp} {assign body:Code} {Q:Exit→Act→World→Prop} {a:Act} {w:World}
  (hro:F.round=none) (h1:1≤n) {gf:Nat} {lb:Array Value} (hg:a.eval g= .func (.func gf) #[] lb) (hFg:F.fn gf) (eg: ∀args w,(callFunc gf args).run P w= .ok (.enter gf args) w)
  {encs:α→Array Value} {Kp:World→World→Prop} {b:Nat} {L:List α} (hseq:ListAt F (n-1) P gf lb encs Kp b L w) (hbw:b<w.heap.size)
  (hKt: ∀{A B C:World},Kp A B→Kp B C→Kp A C) (hKb: ∀(W:World) (l:Nat) (o o':Obj),w.heap.size≤l→W.heap[l]?=some o→o.isCells=false→o.isWalk=false→Kp W (W.putObj l o')) (hps: ∀x,(encs x).size=ps.size)
  (I:List α→World→Prop) (hI:OwnFrom w.heap.size I) (hIb:Turns b I) (h0:I [] w) (Ax:α→Act→World→Prop) (hAx: ∀x a',OwnFrom w.heap.size (fun (_:Unit) W=>Ax x a' W))
  (hassign: ∀(l:Nat) (pre:List α) (x:α) (W:World) (K:Act→World→Prop),I pre W→(∀a' W',KeepsFrom w.heap.size W W'→Kp W W'→I pre W'→Ax x a' W'→K a' W')→
   assign.wpIn (F.inRound l) (n-1-1) P (Exit.then K (fun _ _ _=>False)) {tmps:=(ps.zip (encs x)).foldl (fun t (p,v)=>t.setIfInBounds p v) a.tmps,defers:= []} W)
  (hbody: ∀(l:Nat) (pre:List α) (x:α) (a':Act) (W:World),w.heap.size≤l→(∃r,W.heap[l]?=some (.loop r))→I pre W→Ax x a' W→pre++ [x]<+:L→body.wpIn (F.inRound l) (n-1-1) P (onPost w.heap.size Kp I (pre++ [x]) W) a' W)
  (hdone: ∀(D:Nat) (W:World),w.heap.size≤D→I L W→W.heap[D]?=some (.deferred (some []))→Q .normal {a with defers:={target:= .collected D,args:= #[]}::a.defers} W):
  (Code.rangeFunc g ps assign body).wpIn F n P Q a w:=by
 refine wpIn_rangeFunc ?_
 intro fn hfn
 rw[hro]
 obtain⟨rec,hrec⟩: ∃rec:LoopState→Loop,rec=fun st=>{state:=st,pending:=none,fn,tmps:=a.tmps,params:=ps,assign,body,defers:=w.heap.size}:=⟨_,rfl⟩
 obtain⟨W1,hW1⟩: ∃W1,(w.alloc (.deferred (some []))).alloc (.loop (rec .ready))=W1:=⟨_,rfl⟩
 have hL1:W1.heap[w.heap.size+1]?=some (.loop (rec .ready)):=by
  rw[←hW1];have:=World.alloc_heap_new (w.alloc (.deferred (some []))) (.loop (rec .ready));rwa [World.size_alloc] at this
 have hK1:W1.heap[w.heap.size]?=some (.deferred (some [])):=by
  rw[←hW1];exact(Below.heap_alloc _ _ _ (by simp)).trans (World.alloc_heap_new w _)
 have hI1:I [] W1:=by rw[←hW1];exact hI.alloc _ (hI.alloc _ h0)
 have hb1:Below w.heap.size w W1:=by
  rw[←hW1];exact((Below.refl _ w).alloc (Nat.le_refl _) _).alloc (by simp) _
 refine⟨w.heap.size+1,[{target:= .collected w.heap.size,args:= #[]}],W1,{target:= .fn (.func gf) lb,args:= #[.func (.yield (w.heap.size+1)) #[] #[]]},W1,gf,
  #[.func (.yield (w.heap.size+1)) #[] #[]]++lb,W1,?_,?_,?_,?_,fun _=>h1,?_⟩
 ·rw[←hW1,hrec];exact run_enterLoop_outer _ _ _ _ _
 ·simp only[resolve,hg]
  simp[go_sem]
 ·intro f' hf';simp[Target.leads] at hf';subst hf';exact hFg
 ·simp[invoke,go_sem,eg]
 refine(hseq (w.heap.size+1)
  (fun pre W=>I pre W∧W.heap[w.heap.size+1]?=some (.loop (rec .ready))∧W.heap[w.heap.size]?=some (.deferred (some [])))
  W1 hb1 (fun s A B hs hg'=>⟨hIb s A B hs.1 hg',zD1 hg' hs.2.1 (by omega),zD1 hg' hs.2.2 (by omega)⟩) ?_ ⟨hI1,hL1,hK1⟩).mono ?_
 ·rintro pre x W ⟨hi,hl,hk⟩ hlen
  have hy:=run_yield (P:=P) (args:=encs x) hl (by rw[hrec];exact hps x)
  rw[hrec] at hy
  refine⟨fn,_,assign,body,hy,roundIn_of_wpIn hfn (hassign _ pre x W _ hi ?_)⟩
  clear hy
  intro a' Wa hkfa hkpa hia hax
  have hla:=hkfa.same _ _ (by omega) hl rfl
  have hka:=hkfa.same _ _ (Nat.le_refl _) hk rfl
  have hlt:=(Array.getElem?_eq_some_iff.1 hla).1
  refine⟨_,run_beginRound hla (by rw[hrec]),?_⟩
  obtain⟨W2,hW2⟩: ∃W2,Wa.putObj (w.heap.size+1) (.loop {rec .ready with state:= .busy})=W2:=⟨_,rfl⟩
  have hl2:W2.heap[w.heap.size+1]?=some (.loop {rec .ready with state:= .busy}):=by rw[←hW2];exact World.putObj_heap_same hlt
  have hk2:W2.heap[w.heap.size]?=some (.deferred (some [])):=by rw[←hW2];exact(World.putObj_heap_other (by omega)).trans hka
  have hw2:Kp Wa W2:=by rw[←hW2];exact hKb _ _ _ _ (by omega) hla rfl rfl
  have hi2:I pre W2:=by rw[←hW2];exact hI.putObj _ hia (by omega) hla rfl
  have ha2:Ax x a' W2:=by rw[←hW2];exact(hAx x a').putObj (s:=()) _ hax (by omega) hla rfl
  rw[hW2]
  refine wpIn_mono (hbody _ pre x a' W2 (by omega) ⟨_,hl2⟩ hi2 ha2 hlen) ?_
  rintro e a3 W3 hp
  cases e with
  |normal=>
   obtain⟨hk3,hkp3,hi3⟩:=hp
   have hl3:=hk3.same _ _ (by omega) hl2 rfl
   have hd3:=hk3.same _ _ (Nat.le_refl _) hk2 rfl
   have hr:=run_endRound (P:=P) none hl3
   exact⟨_,_,hr,rfl,⟨hI.putObj _ hi3 (by omega) hl3 rfl,by
    rw[World.putObj_heap_same (Array.getElem?_eq_some_iff.1 hl3).1];rw[hrec];rfl,(World.putObj_heap_other (by omega)).trans hd3⟩,hKt hkpa (hKt (hKt hw2 hkp3) (hKb _ _ _ _ (by omega) hl3 rfl rfl))⟩
  |ret=>exact hp.elim
  |exit id=>exact hp.elim
  |goto t=>exact hp.elim
  |panic ch=>exact hp.elim
  |outgrown=>exact hp.elim
 rintro e W2 ⟨⟨v,rfl⟩,hi,hl,hk⟩
 exact⟨none,_,by have:=run_endLoop (P:=P) hl (by rw[hrec];simp);rw[hrec] at this;exact this,hdone _ _ (Nat.le_refl _) (hI.putObj _ hi (by omega) hl rfl) ((World.putObj_heap_other (by omega)).trans hk)⟩

theorem zFz {α:Type} {g:Operand} {ps:Array Tmp} {assign body:Code} {Q:Exit→Act→World→Prop} {a:Act} {w:World}
  {l₀:Nat} {r₀:Loop} (hro:F.round=some l₀) (hl₀:w.heap[l₀]?=some (.loop r₀)) (h1:1≤n) {gf:Nat} {lb:Array Value} (hg:a.eval g= .func (.func gf) #[] lb) (hFg:F.fn gf) (eg: ∀args w,(callFunc gf args).run P w= .ok (.enter gf args) w)
  {encs:α→Array Value} {Kp:World→World→Prop} {b:Nat} {L:List α} (hseq:ListAt F (n-1) P gf lb encs Kp b L w) (hbw:b<w.heap.size)
  (hKt: ∀{A B C:World},Kp A B→Kp B C→Kp A C) (hKb: ∀(W:World) (l:Nat) (o o':Obj),w.heap.size≤l→W.heap[l]?=some o→o.isCells=false→o.isWalk=false→Kp W (W.putObj l o')) (hps: ∀x,(encs x).size=ps.size)
  (I:List α→World→Prop) (hI:OwnFrom w.heap.size I) (hIb:Turns b I) (h0:I [] w) (Ax:α→Act→World→Prop) (hAx: ∀x a',OwnFrom w.heap.size (fun (_:Unit) W=>Ax x a' W))
  (hassign: ∀(l:Nat) (pre:List α) (x:α) (W:World) (K:Act→World→Prop),I pre W→(∀a' W',KeepsFrom w.heap.size W W'→Kp W W'→I pre W'→Ax x a' W'→K a' W')→
   assign.wpIn (F.inRound l) (n-1-1) P (Exit.then K (fun _ _ _=>False)) {tmps:=(ps.zip (encs x)).foldl (fun t (p,v)=>t.setIfInBounds p v) a.tmps,defers:= []} W)
  (hbody: ∀(l:Nat) (pre:List α) (x:α) (a':Act) (W:World),w.heap.size≤l→(∃r,W.heap[l]?=some (.loop r))→I pre W→Ax x a' W→pre++ [x]<+:L→body.wpIn (F.inRound l) (n-1-1) P (onPost w.heap.size Kp I (pre++ [x]) W) a' W)
  (hdone: ∀(W:World),I L W→Q .normal a W):
  (Code.rangeFunc g ps assign body).wpIn F n P Q a w:=by
 refine wpIn_rangeFunc ?_
 intro fn hfn
 rw[hro]
 obtain⟨rec,hrec⟩: ∃rec:LoopState→Loop,rec=fun st=>{state:=st,pending:=none,fn,tmps:=a.tmps,params:=ps,assign,body,defers:=r₀.defers}:=⟨_,rfl⟩
 obtain⟨W1,hW1⟩: ∃W1,w.alloc (.loop (rec .ready))=W1:=⟨_,rfl⟩
 have hL1:W1.heap[w.heap.size]?=some (.loop (rec .ready)):=by rw[←hW1];exact World.alloc_heap_new w _
 have hI1:I [] W1:=by rw[←hW1];exact hI.alloc _ h0
 have hb1:Below w.heap.size w W1:=by rw[←hW1];exact(Below.refl _ w).alloc (Nat.le_refl _) _
 refine⟨w.heap.size,[],W1,{target:= .fn (.func gf) lb,args:= #[.func (.yield w.heap.size) #[] #[]]},W1,gf,
  #[.func (.yield w.heap.size) #[] #[]]++lb,W1,?_,?_,?_,?_,fun _=>h1,?_⟩
 ·rw[←hW1,hrec];exact run_enterLoop_inner hl₀ _ _ _ _ _
 ·simp only[resolve,hg]
  simp[go_sem]
 ·intro f' hf';simp[Target.leads] at hf';subst hf';exact hFg
 ·simp[invoke,go_sem,eg]
 refine(hseq w.heap.size (fun pre W=>I pre W∧W.heap[w.heap.size]?=some (.loop (rec .ready)))
  W1 hb1 (fun s A B hs hg'=>⟨hIb s A B hs.1 hg',zD1 hg' hs.2 (by omega)⟩) ?_ ⟨hI1,hL1⟩).mono ?_
 ·rintro pre x W ⟨hi,hl⟩ hlen
  have hy:=run_yield (P:=P) (args:=encs x) hl (by rw[hrec];exact hps x)
  rw[hrec] at hy
  refine⟨fn,_,assign,body,hy,roundIn_of_wpIn hfn (hassign _ pre x W _ hi ?_)⟩
  clear hy
  intro a' Wa hkfa hkpa hia hax
  have hla:=hkfa.same _ _ (Nat.le_refl _) hl rfl
  have hlt:=(Array.getElem?_eq_some_iff.1 hla).1
  refine⟨_,run_beginRound hla (by rw[hrec]),?_⟩
  obtain⟨W2,hW2⟩: ∃W2,Wa.putObj w.heap.size (.loop {rec .ready with state:= .busy})=W2:=⟨_,rfl⟩
  have hl2:W2.heap[w.heap.size]?=some (.loop {rec .ready with state:= .busy}):=by rw[←hW2];exact World.putObj_heap_same hlt
  have hw2:Kp Wa W2:=by rw[←hW2];exact hKb _ _ _ _ (Nat.le_refl _) hla rfl rfl
  have hi2:I pre W2:=by rw[←hW2];exact hI.putObj _ hia (Nat.le_refl _) hla rfl
  have ha2:Ax x a' W2:=by rw[←hW2];exact(hAx x a').putObj (s:=()) _ hax (Nat.le_refl _) hla rfl
  rw[hW2]
  refine wpIn_mono (hbody _ pre x a' W2 (Nat.le_refl _) ⟨_,hl2⟩ hi2 ha2 hlen) ?_
  rintro e a3 W3 hp
  cases e with
  |normal=>
   obtain⟨hk3,hkp3,hi3⟩:=hp
   have hl3:=hk3.same _ _ (Nat.le_refl _) hl2 rfl
   have hr:=run_endRound (P:=P) none hl3
   exact⟨_,_,hr,rfl,⟨hI.putObj _ hi3 (Nat.le_refl _) hl3 rfl,by
    rw[World.putObj_heap_same (Array.getElem?_eq_some_iff.1 hl3).1];rw[hrec];rfl⟩,hKt hkpa (hKt (hKt hw2 hkp3) (hKb _ _ _ _ (Nat.le_refl _) hl3 rfl rfl))⟩
  |ret=>exact hp.elim
  |exit id=>exact hp.elim
  |goto t=>exact hp.elim
  |panic ch=>exact hp.elim
  |outgrown=>exact hp.elim
 rintro e W2 ⟨⟨v,rfl⟩,hi,hl⟩
 exact⟨none,_,by have:=run_endLoop (P:=P) hl (by rw[hrec];simp);rw[hrec] at this;exact this,hdone _ (hI.putObj _ hi (Nat.le_refl _) hl rfl)⟩
theorem zCk {α:Type} {g:Operand} {q d:Nat} {assign body:Code} {Q:Exit→Act→World→Prop} {a:Act} {w:World}
  (hro:F.round=none) (h1:1≤n) {gf:Nat} {lb:Array Value} (hg:a.eval g= .func (.func gf) #[] lb) (hFg:F.fn gf) (eg: ∀args w,(callFunc gf args).run P w= .ok (.enter gf args) w)
  {val:α→Value} {Kp:World→World→Prop} {b:Nat} {L:List α} (hseq:ListAt F (n-1) P gf lb (fun x=> #[val x]) Kp b L w) (hbw:b<w.heap.size)
  (hKt: ∀{A B C:World},Kp A B→Kp B C→Kp A C) (hKb: ∀(W:World) (l:Nat) (o o':Obj),w.heap.size≤l→W.heap[l]?=some o→o.isCells=false→o.isWalk=false→Kp W (W.putObj l o'))
  (I:List α→World→Prop) (hI:OwnFrom w.heap.size I) (hIb:Turns b I) (h0:I [] w)
  (hassign: ∀(l:Nat) (pre:List α) (x:α) (W:World) (K:Act→World→Prop),I pre W→(∀W',KeepsFrom w.heap.size W W'→Kp W W'→I pre W'→K {tmps:=(a.tmps.setIfInBounds q (val x)).setIfInBounds d (val x),defers:= []} W')→
   assign.wpIn (F.inRound l) (n-1-1) P (Exit.then K (fun _ _ _=>False)) {tmps:=a.tmps.setIfInBounds q (val x),defers:= []} W)
  (hbody: ∀(l:Nat) (pre:List α) (x:α) (W:World),w.heap.size≤l→(∃r,W.heap[l]?=some (.loop r))→I pre W→pre++ [x]<+:L→body.wpIn (F.inRound l) (n-1-1) P (onPost w.heap.size Kp I (pre++ [x]) W) {tmps:=(a.tmps.setIfInBounds q (val x)).setIfInBounds d (val x),defers:= []} W)
  (hdone: ∀(D:Nat) (W:World),w.heap.size≤D→I L W→W.heap[D]?=some (.deferred (some []))→Q .normal {a with defers:={target:= .collected D,args:= #[]}::a.defers} W):
  (Code.rangeFunc g #[q] assign body).wpIn F n P Q a w:=
 zEI hro h1 hg hFg eg hseq hbw hKt hKb (fun _=>rfl) I hI hIb h0 (fun x a' _=>a'={tmps:=(a.tmps.setIfInBounds q (val x)).setIfInBounds d (val x),defers:= []}) (fun _ _=>ownFrom_pure _ _)
  (fun l pre x W K hi hK=>by
   have h:=hassign l pre x W K hi (fun W' k1 k2 k3=>hK _ W' k1 k2 k3 rfl)
   simpa using h)
  (fun l pre x a' W h1 h2 h3 h4 h5=>by subst h4;exact hbody l pre x W h1 h2 h3 h5) hdone
theorem zEJ {α:Type} {g:Operand} {q d:Nat} {assign body:Code} {Q:Exit→Act→World→Prop} {a:Act} {w:World}
  {l₀:Nat} {r₀:Loop} (hro:F.round=some l₀) (hl₀:w.heap[l₀]?=some (.loop r₀)) (h1:1≤n) {gf:Nat} {lb:Array Value} (hg:a.eval g= .func (.func gf) #[] lb) (hFg:F.fn gf) (eg: ∀args w,(callFunc gf args).run P w= .ok (.enter gf args) w)
  {val:α→Value} {Kp:World→World→Prop} {b:Nat} {L:List α} (hseq:ListAt F (n-1) P gf lb (fun x=> #[val x]) Kp b L w) (hbw:b<w.heap.size)
  (hKt: ∀{A B C:World},Kp A B→Kp B C→Kp A C) (hKb: ∀(W:World) (l:Nat) (o o':Obj),w.heap.size≤l→W.heap[l]?=some o→o.isCells=false→o.isWalk=false→Kp W (W.putObj l o'))
  (I:List α→World→Prop) (hI:OwnFrom w.heap.size I) (hIb:Turns b I) (h0:I [] w)
  (hassign: ∀(l:Nat) (pre:List α) (x:α) (W:World) (K:Act→World→Prop),I pre W→(∀W',KeepsFrom w.heap.size W W'→Kp W W'→I pre W'→K {tmps:=(a.tmps.setIfInBounds q (val x)).setIfInBounds d (val x),defers:= []} W')→
   assign.wpIn (F.inRound l) (n-1-1) P (Exit.then K (fun _ _ _=>False)) {tmps:=a.tmps.setIfInBounds q (val x),defers:= []} W)
  (hbody: ∀(l:Nat) (pre:List α) (x:α) (W:World),w.heap.size≤l→(∃r,W.heap[l]?=some (.loop r))→I pre W→pre++ [x]<+:L→body.wpIn (F.inRound l) (n-1-1) P (onPost w.heap.size Kp I (pre++ [x]) W) {tmps:=(a.tmps.setIfInBounds q (val x)).setIfInBounds d (val x),defers:= []} W)
  (hdone: ∀(W:World),I L W→Q .normal a W):
  (Code.rangeFunc g #[q] assign body).wpIn F n P Q a w:=
 zFz hro hl₀ h1 hg hFg eg hseq hbw hKt hKb (fun _=>rfl) I hI hIb h0 (fun x a' _=>a'={tmps:=(a.tmps.setIfInBounds q (val x)).setIfInBounds d (val x),defers:= []}) (fun _ _=>ownFrom_pure _ _)
  (fun l pre x W K hi hK=>by
   have h:=hassign l pre x W K hi (fun W' k1 k2 k3=>hK _ W' k1 k2 k3 rfl)
   simpa using h)
  (fun l pre x a' W h1 h2 h3 h4 h5=>by subst h4;exact hbody l pre x W h1 h2 h3 h5) hdone
open Go.RowKit Go.Shelf

attribute [local go_sem] Oper.semAt_some

structure KpS (n₀ bp bs bv:Nat) (W W':World):Prop where
 low:Below n₀ W W'
 p:W'.heap[bp]?=W.heap[bp]?
 s:W'.heap[bs]?=W.heap[bs]?
 v:W'.heap[bv]?=W.heap[bv]?
theorem KpS.trans {n₀ bp bs bv:Nat} {A B C:World} (h:KpS n₀ bp bs bv A B) (k:KpS n₀ bp bs bv B C):KpS n₀ bp bs bv A C:=
 ⟨h.low.trans k.low,k.p.trans h.p,k.s.trans h.s,k.v.trans h.v⟩
theorem KpS.put {n₀ bp bs bv:Nat} {w:World} (hn:n₀≤w.heap.size) (hp:bp<w.heap.size) (hs:bs<w.heap.size) (hv:bv<w.heap.size) (W:World) (l:Nat) (o o':Obj) (hl:w.heap.size≤l) (h:W.heap[l]?=some o) (ho:o.isCells=false) (hw:o.isWalk=false):KpS n₀ bp bs bv W (W.putObj l o'):=
 ⟨belowK_b hn W l o o' hl h ho hw,World.putObj_heap_other (by omega),World.putObj_heap_other (by omega),World.putObj_heap_other (by omega)⟩
theorem zMe {n₀:Nat} {W W':World} (hg: 5<n₀) (h:MaxW W) (hb:Below n₀ W W'):MaxW W':=by
 obtain⟨m,hm⟩:=h
 exact⟨m,(hb.cell (p:=⟨5,0,none⟩) hg).trans hm⟩
def leftS (b:Nat) (w:World):Nat:=match w.cell? ⟨b,0,none⟩ with|some (.string x)=>x.size|_=>0
theorem zGi {b:Nat} {w:World} {x:List UInt8} (h:w.cell? ⟨b,0,none⟩=some (.string ⟨x.toArray⟩)):leftS b w=x.length:=by
 unfold leftS;rw[h];exact zAO x

theorem zCS (s sep:List UInt8) (bp bs bv n₀ n:Nat) (w:World) (hn:1≤n) (hsep:sep≠ []) (hs:s.length≤4000000000) (hl:sep.length≤1000)
  (hg: 5<n₀) (h0:n₀≤bs) (hm:MaxW w) (hps:bp≠bs) (hvs:bv≠bs) (hbp:bp<w.heap.size) (hbs:bs<w.heap.size) (hbv:bv<w.heap.size)
  (cp:w.cell? ⟨bp,0,none⟩=some (.string ⟨sep.toArray⟩)) (cs:w.cell? ⟨bs,0,none⟩=some (.string ⟨s.toArray⟩)) (cv:w.cell? ⟨bv,0,none⟩=some (.int .i64 0)) (fs:w.frozen? ⟨bs,0,none⟩=false):
  ListAt Fence.wide n Tryz.prog 203 #[.pointer (some ⟨bp,0,none⟩),.pointer (some ⟨bs,0,none⟩),.pointer (some ⟨bv,0,none⟩)] (fun x:List UInt8=> #[.string ⟨x.toArray⟩]) (KpS n₀ bp bs bv) bs (Lib.split s sep) w:=by
 intro l J W hW hJ hY hJ0
 have HY:=lH hY
 have HJ:=lH hJ
 have kp:W.cell? ⟨bp,0,none⟩=some (.string ⟨sep.toArray⟩):=(hW.cell (p:=⟨bp,0,none⟩) hbp).trans cp
 have ks:W.cell? ⟨bs,0,none⟩=some (.string ⟨s.toArray⟩):=(hW.cell (p:=⟨bs,0,none⟩) hbs).trans cs
 have kv:W.cell? ⟨bv,0,none⟩=some (.int .i64 0):=(hW.cell (p:=⟨bv,0,none⟩) hbv).trans cv
 have gs:W.frozen? ⟨bs,0,none⟩=false:=(hW.frozen (p:=⟨bs,0,none⟩) hbs).trans fs
 have hM:=lH (hm.below hW)
 have dl:((sep.length:Int)==0)=false:=zAe (by have:=List.length_pos_iff.2 hsep;omega)
 clear hY hJ cp cs cv fs hW hm
 refine callsIn_of_wp Tryz.func203 rfl trivial ?_ rfl
 simp only[Tryz.ntmps203,List.size_toArray,List.length_cons,List.length_nil,Nat.reduceAdd,Nat.reduceSub,Array.replicate_succ,Array.replicate_zero,List.push_toArray,List.append_toArray,List.nil_append,List.cons_append]
 have KS:=lH ks
 gi_wp2
 gi_loopw [7,8] (fun _ _ wr=> ∃(pre:List (List UInt8)) (rest:List UInt8),Hid (Lib.split s sep=pre++Lib.split rest sep)∧rest.length≤s.length∧Hid (J pre wr)∧Hid (MaxW wr)∧Hid (wr.cell? ⟨bp,0,none⟩=some (.string ⟨sep.toArray⟩))∧Hid (wr.cell? ⟨bs,0,none⟩=some (.string ⟨rest.toArray⟩))∧Hid (wr.cell? ⟨bv,0,none⟩=some (.int .i64 0))∧Hid (wr.frozen? ⟨bs,0,none⟩=false)) (fun _ _ wr=>leftS bs wr)
 case atStart=>exact⟨[],s,lH rfl,Nat.le_refl _,lH hJ0,hM,lH kp,KS,lH kv,lH gs⟩
 case round=>
  obtain⟨pre,rest,HL,hrl,HJ0,HM,HP,HS,HV,HF⟩:=hrel
  clear kp ks kv gs hM KS hJ0
  have kp:=HP.out
  have ks:=HS.out
  have kv:=HV.out
  have gs:=HF.out
  obtain⟨m,hm⟩:=HM.out
  have CI:=lH fun wx hm=> Tryz.strings_Index ⟨rest.toArray⟩ ⟨sep.toArray⟩ m wx (by rw[zAO];omega) hm
  have HLf:=lH (zGi ks)
  by_cases hi:Lib.index rest sep<0
  ·have HE:=lH (show Lib.split s sep=pre++ [rest] by rw[HL.out,Spl.zBz (by have:=Lib.index_ge rest sep;omega)])
   obtain⟨fn,tmps,assign,body,hy,hR⟩:=HY.out pre rest wr HJ0.out (by rw[HE.out];exact List.prefix_refl _)
   have HX:=lH (show Lib.index (⟨rest.toArray⟩:ByteArray).data.toList (⟨sep.toArray⟩:ByteArray).data.toList= -1 from by have:=Lib.index_ge rest sep;show Lib.index rest sep= -1;omega)
   rw[HX.out] at CI
   have HJE:=lH (show pre++ [rest]=Lib.split s sep from HE.out.symm)
   clear hi HL HLf
   gi_wp2_with (refine⟨trivial,?_⟩;gi_at_call 204;refine(callsIn_wide.2 (CI.out _ hm)).mono ?_;rintro e w' ⟨rfl,rfl⟩)
   refine hR.mono ?_
   rintro e W3 ⟨rfl,hJ3,hk3⟩
   gi_wp2
   go_end0
   exact⟨⟨_,rfl⟩,by rw[←HJE.out];exact hJ3⟩
  obtain⟨i,hi'⟩: ∃i:Nat,Lib.index rest sep=i:=⟨(Lib.index rest sep).toNat,by omega⟩
  have room:=Lib.index_room rest sep (by omega)
  have HE:=lH (show Lib.split s sep=(pre++ [rest.take i])++Lib.split (rest.drop (i+sep.length)) sep by rw[HL.out,Spl.zCa hsep hi'];simp)
  have HX:=lH (show Lib.index (⟨rest.toArray⟩:ByteArray).data.toList (⟨sep.toArray⟩:ByteArray).data.toList=(i:Int) from hi')
  rw[HX.out] at CI
  obtain⟨fn,tmps,assign,body,hy,hR⟩:=HY.out pre (rest.take i) wr HJ0.out (by rw[HE.out];exact List.prefix_append _ _)
  have hsl:1≤sep.length:=List.length_pos_iff.2 hsep
  have S1:=fun w=>zB0 (P:= Tryz.prog) 9 Tryz.underlying9 rest .i64 i (by omega) w
  have S2: ∀w,(Instr.slice 9 (.string ⟨rest.toArray⟩) (some (.int .i64 ((i:Int)+(sep.length:Int)))) none none).run Tryz.prog w= .ok (.string ⟨(rest.drop (i+sep.length)).toArray⟩) w:=fun w=>zBd (P:= Tryz.prog) 9 Tryz.underlying9 rest .i64 (i+sep.length) (by omega) w
  have room':(i:Int)+(sep.length:Int)≤(rest.length:Int):=by omega
  have hlen:(rest.drop (i+sep.length)).length<rest.length:=by rw[List.length_drop];omega
  clear hi hi' HL room
  generalize rest.drop (i+sep.length)=R2 at*
  generalize rest.take i=R1 at*
  gi_wp2_with (refine⟨trivial,?_⟩;gi_at_call 204;refine(callsIn_wide.2 (CI.out _ hm)).mono ?_;rintro e w' ⟨rfl,rfl⟩)
  refine hR.mono ?_
  rintro e W3 ⟨rfl,hJ3,hk3⟩
  have kp3:W3.cell? ⟨bp,0,none⟩=some (.string ⟨sep.toArray⟩):=(World.cell?_of_block hk3.p).trans kp
  have ks3:W3.cell? ⟨bs,0,none⟩=some (.string ⟨rest.toArray⟩):=(World.cell?_of_block hk3.s).trans ks
  have kv3:W3.cell? ⟨bv,0,none⟩=some (.int .i64 0):=(World.cell?_of_block hk3.v).trans kv
  have gs3:W3.frozen? ⟨bs,0,none⟩=false:=(World.frozen?_of_block hk3.s).trans gs
  have HM3:=lH (zMe hg HM.out hk3.low)
  have HJ3:=lH hJ3
  clear kp ks kv gs hm hJ3 HJ0 HM HP HS HV HF CI hk3
  gi_wp2
  go_roundw
  case rel=>
   refine⟨pre++ [R1],R2,HE,by omega,lH (HJ.out _ _ _ HJ3.out (grownBy_setCell' W3 bs _)),lH ?_,lH ?_,lH (World.cell?_setCell_same _ _ _ ks3),lH ?_,lH (by rw[World.frozen?_setCell];exact gs3)⟩
   ·obtain⟨m,hm⟩:=HM3.out
    exact⟨m,by rw[World.cell?_setCell_other _ _ _ _ (fun e=>by injection e with e;omega)];exact hm⟩
   ·rw[World.cell?_setCell_other _ _ _ _ (fun e=>hps (by injection e with e;exact e.symm))];exact kp3
   rw[World.cell?_setCell_other _ _ _ _ (fun e=>hvs (by injection e with e;exact e.symm))];exact kv3
  case measure=>
   rw[HLf.out,zGi (x:=R2) (World.cell?_setCell_same _ _ _ ks3)]
   exact hlen

theorem zB7 (s sep:List UInt8) (w:World):
  Calls Tryz.prog 148 #[.string ⟨s.toArray⟩,.string ⟨sep.toArray⟩] w fun e w'=>e= .returned (.func (.func 203) #[] #[.pointer (some ⟨w.heap.size+1,0,none⟩),.pointer (some ⟨w.heap.size,0,none⟩),.pointer (some ⟨w.heap.size+2,0,none⟩)])∧
   w'=((w.alloc (.cells #[.string ⟨s.toArray⟩] 9)).alloc (.cells #[.string ⟨sep.toArray⟩] 9)).alloc (.cells #[.int .i64 0] 3):=by
 go_enter Tryz.func148,Tryz.ntmps148
 go_wp2
 go_ret
 exact⟨rfl,rfl⟩
open Go

variable {P:Program} {ops:Array Oper} {Q:Exit→Act→World→Prop} {md:Region.Mode}

theorem zId {l n:Nat} {o:Oper} {a:Act} {K:Act→World→Prop} (r:Result Next) (h:o.upon P a K Q r):o.uponIn (Fence.wide.inRound l) n P a K Q r:=by
 match r,h with
 | .ok (.value _) _,h=>exact h
 | .ok .skip _,h=>exact h
 | .ok (.defer _) _,h=>exact h
 | .ok (.enter _ _) _,h=>
  refine⟨(fun g=>by cases g),CallsIn.inRound l (callsIn_wide.2 ?_)⟩
  exact h
 | .ok (.row _ _) _,h=>
  refine⟨(fun g=>by cases g),fun c cs _=>?_⟩
  obtain⟨v,w',hv,hs⟩:=h c cs
  exact⟨v,w',hv,stepsIn_wide.2 hs⟩
 | .halt (.panic _) _,h=>exact h
theorem zIe {l n:Nat} {o:Oper} {a:Act} {w:World} {K:Act→World→Prop} (hd: ∀c,o.op≠ .defer c) (h:o.wp P a w K Q):o.wpIn (Fence.wide.inRound l) n P a w K Q:=by
 refine⟨fun _ _=>trivial,?_⟩
 show o.uponIn _ n P a K Q ((Oper.semAt (some l) a.eval o).run P w)
 rw[Oper.semAt_some l _ o hd]
 exact zId _ h
theorem zCl {l n:Nat} (hQ: ∀a w,¬Q .outgrown a w) (hd: ∀(i:Nat) (o:Oper),ops[i]?=some o→ ∀c,o.op≠ .defer c): ∀(fuel:Nat) (listed:Array Bool) (a:Act) (w:World),wpAny P md ops Q fuel listed a w→wpAnyIn (Fence.wide.inRound l) n P md ops Q fuel listed a w
 |0,_,_,_,h=>h
 |fuel+1,listed,a,w,h=>⟨h.1,fun i hi=>by
   have g:=h.2 i hi
   unfold wpOp at g
   unfold wpOpIn
   split
   ·rename_i ho
    simp only[ho] at g
    exact zCl hQ hd fuel _ _ _ g
   rename_i o ho
   simp only[ho] at g
   split
   ·rename_i hw
    simp only[hw,if_true] at g
    rcases g with g|⟨_,a',w',g⟩
    ·exact Oper.wpIn_mono (fun a w h=>zCl hQ hd fuel _ a w h) (zIe (hd i o ho) g)
    exact absurd g (hQ a' w')
   rename_i hw
   simp only[hw] at g
   exact⟨fun _ _=>trivial,zCl hQ hd fuel _ _ _ g⟩⟩
def calm (l:List Oper):Bool:=l.all fun o=>match o.op with| .defer _=>false|_=>true
theorem zJs {l:List Oper} (h:calm l=true): ∀(i:Nat) (o:Oper),l.toArray[i]?=some o→ ∀c,o.op≠ .defer c:=fun i o ho c e=>by
 have:=List.all_eq_true.1 h o (List.mem_of_getElem? (by simpa using ho))
 rw[e] at this
 simp at this
theorem zDm {S:World→Prop} {l:List Oper} {l₀ n id:Nat} {a:Act} {w:World} (hm:P.follows .mixedOrders=true) (hc:calm l=true) (hQ: ∀a w,¬Q .outgrown a w) (hS:S w.drew)
  (h:S w.drew→wpAnyH P .any l.toArray Q S l.toArray.size (Array.replicate l.toArray.size false) a w.drew):(Code.region id l.toArray true).wpIn (Fence.wide.inRound l₀) n P Q a w:=
 wpIn_region_any hm (zCl hQ (zJs hc) _ _ _ _ (wpAny_of_held _ _ _ _ (h hS)))
end Go.Proofs.YtjlchookakbomaaGreatDoor
