/- What lasts while the reference reads a rule: the rows of its parts and of their relations, in blocks of the call's own; how great what is read may be. No walk. -/
import Derived.Test.YtjlchookakbomaaGreatDoorEi25
namespace Rul
open Go Go.Lib
theorem zMN (s:List UInt8):(ruleQ s).length≤s.length+1∧count (ruleQ s)≤2*s.length+2:=by
 have h:=zEG s
 have e:(ruleQ s).map List.length=(ruleP s).map List.length:=by
  unfold ruleQ ruleP
  rw[List.map_map,List.map_map]
  exact List.map_congr_left fun x _=>by simp[partQ,partP]
 have el:(ruleQ s).length=(ruleP s).length:=by simpa using congrArg List.length e
 refine⟨by rw[el];exact h.1,?_⟩
 have h2:=h.2
 unfold count at h2⊢
 rw[e];exact h2
theorem zLh: ∀(L:List (List UInt8)) (n:Nat),(∀x∈L,x.length≤n)→(wordsQ L).rs.length≤n+1:=by
 intro L n h
 rcases L with _|⟨a,_|⟨u,_|⟨v,r⟩⟩⟩
 ·simp[wordsQ]
 ·rcases a with _|⟨x,_|⟨y,t⟩⟩<;>simp[wordsQ]
 ·rcases a with _|⟨x,_|⟨y,t⟩⟩<;>simp[wordsQ]
 rcases a with _|⟨x,_|⟨y,t⟩⟩
 ·simp[wordsQ]
 ·have key: ∀y∈ [x]::u::v::r,((split y [44]).map rngQ).length≤n+1:=fun y hy=>by
   have h4:=zAA (s:=y) (sub:= [44]) (by decide)
   have:=h y hy
   rw[List.length_map];omega
  show(if u= [37]∧r.length=2 then _ else _:Rl).rs.length≤_
  split
  ·rename_i hc
   obtain⟨X,Y,rfl⟩: ∃X Y,r= [X,Y]:=by
    rcases r with _|⟨a,_|⟨b,_|⟨c,t⟩⟩⟩
    ·simp at hc
    ·simp at hc
    ·exact⟨_,_,rfl⟩
    simp at hc
   exact key Y (by simp)
  exact key v (by simp)
 simp[wordsQ]
theorem rs_Q (s:List UInt8): ∀l∈ruleQ s,∀x∈l,x.rs.length≤s.length+1:=by
 intro l hl x hx
 obtain⟨p,hp,rfl⟩:=List.mem_map.1 hl
 obtain⟨q,hq,rfl⟩:=List.mem_map.1 hx
 have h1:=zBL hp
 have h2:=zBL hq
 exact zLh _ _ fun y hy=>Nat.le_trans (zBL hy) (Nat.le_trans h2 h1)
end Rul
namespace Go.Proofs.YtjlchookakbomaaGreatDoor
open Go.RowKit Go.Shelf

structure QI (B:Nat) (vr:Value) (qs:List (Rul.Rl×Value)) (S:Nat→Prop) (pre:List (List UInt8)) (W:World):Prop where
 row:W.ownsRow B 240 4 vr qs.length (qflat qs)
 fst:qs.map (·.1)=pre.map Rul.relQ
 it: ∀q∈qs,∃a n c,q.2= .slice a n c∧SlAt 2 (RngI S) W (.slice a n c) q.1.rs
 own:Own B S vr W
 sz:B≤W.heap.size
theorem QI.grown {B:Nat} {vr:Value} {qs:List (Rul.Rl×Value)} {S:Nat→Prop} {pre:List (List UInt8)} {A C:World} {r:Option Nat} (h:QI B vr qs S pre A) (g:A.grownBy C r)
  (hr: ∀k,r=some k→vr.ownBlock≠some k∧ ¬S k):QI B vr qs S pre C:=by
 have hS: ∀b,S b→some b≠r:=fun b hb e=>(hr b e.symm).2 hb
 refine⟨h.row.kept g ?_,h.fst,fun q hq=>?_,h.own.grown g hS,Nat.le_trans h.sz g.size⟩
 ·cases hv:vr.ownBlock with
  |none=>exact .inl rfl
  |some k=>exact .inr fun e=>(hr k e.symm).1 hv
 obtain⟨a,n,c,e,hs⟩:=h.it q hq
 exact⟨a,n,c,e,zA1 hs (zAK h.own g hS) (fun _ hb=>hb)⟩
theorem QI.len {B:Nat} {vr:Value} {qs:List (Rul.Rl×Value)} {S:Nat→Prop} {pre:List (List UInt8)} {W:World} (h:QI B vr qs S pre W):qs.length=pre.length:=by
 have:=congrArg List.length h.fst
 simpa using this
theorem QI.append {B:Nat} {vr v':Value} {qs:List (Rul.Rl×Value)} {S:Nat→Prop} {pre:List (List UInt8)} {x:List UInt8} {a:Option Addr} {n c:Nat} {A C:World} (h:QI B vr qs S pre A)
  (hown:C.ownsRow B 240 4 v' (qs.length+1) (qflat qs++ [.int .u8 ((Rul.relQ x).op.toNat:Int),.int .i64 (Rul.relQ x).mod,.bool (Rul.relQ x).no,.slice a n c])) (g:A.grownBy C vr.ownBlock)
  (hat:v'.ownBlock=vr.ownBlock∨v'.ownBlock=some A.heap.size)
  (hs:SlAt 2 RngC A (.slice a n c) (Rul.relQ x).rs) (hb: ∀b,(Value.slice a n c).ownBlock=some b→B≤b∧vr.ownBlock≠some b):
  QI B v' (qs++ [(Rul.relQ x,.slice a n c)]) (fun b=>S b∨((Rul.relQ x).rs≠ []∧(Value.slice a n c).ownBlock=some b)) (pre++ [x]) C:=by
 have hB: ∀k,vr.ownBlock=some k→B≤k:=fun k hk=>(h.row.lt k hk).1
 have hS: ∀b,S b→some b≠vr.ownBlock:=fun b hb e=>h.own.ne b hb e.symm
 have hT: ∀b,(Rul.relQ x).rs≠ []→(Value.slice a n c).ownBlock=some b→IsC A b:=by
  intro b hn hb
  rcases hs with⟨e,_⟩|⟨b',off,cap,e1,e2,_,_,e3⟩
  ·exact absurd e hn
  injection e1 with e1 _ _
  subst e1
  injection hb with hb
  subst hb
  have hq:=e3 0 _ (List.getElem?_eq_getElem e2)
  exact IsC.of_cell hq.1
 have hs':SlAt 2 (RngI (fun b=>S b∨((Rul.relQ x).rs≠ []∧(Value.slice a n c).ownBlock=some b))) C (.slice a n c) (Rul.relQ x).rs:=by
  rcases hs with⟨e,z⟩|⟨b',off,cap,e1,e2,e4,e5,e3⟩
  ·exact .inl ⟨e,z⟩
  have hne:(Rul.relQ x).rs≠ []:=by rintro e;rw[e] at e2;simp at e2
  have ho:(Value.slice a n c).ownBlock=some b':=by rw[e1];rfl
  have hC:=g.block b' (hT b' hne ho).lt (fun e=>(hb b' ho).2 e.symm)
  refine .inr ⟨b',off,cap,e1,e2,e4,e5,fun j y hy=>⟨.inr ⟨hne,ho⟩,?_,?_⟩⟩
  ·exact(World.cell?_of_block (a:=⟨b',off+j*2,none⟩) hC).trans (e3 j y hy).1
  exact(World.cell?_of_block (a:=⟨b',off+j*2+1,none⟩) hC).trans (e3 j y hy).2
 refine⟨?_,?_,?_,⟨?_,?_,?_⟩,Nat.le_trans h.sz g.size⟩
 ·rw[zFr,List.length_append];exact hown
 ·rw[List.map_append,List.map_append,h.fst];rfl
 ·intro q hq
  rcases List.mem_append.1 hq with hq|hq
  ·obtain⟨a',n',c',e,z⟩:=h.it q hq
   exact⟨a',n',c',e,zA1 z (zAK h.own g hS) (fun _ hb=> .inl hb)⟩
  rw[List.mem_singleton.1 hq]
  exact⟨a,n,c,rfl,hs'⟩
 ·rintro b (hb'|hb')
  ·exact h.own.ge b hb'
  exact(hb b hb'.2).1
 ·rintro b (hb'|hb') e
  ·rcases hat with e'|e'
   ·exact h.own.ne b hb' (e'.symm.trans e)
   have:=(h.own.is b hb').lt
   rw[e'] at e;injection e with e;omega
  rcases hat with e'|e'
  ·exact(hb b hb'.2).2 (e'.symm.trans e)
  have:=(hT b hb'.1 hb'.2).lt
  rw[e'] at e;injection e with e;omega
 rintro b (hb'|hb')
 ·exact(h.own.is b hb').grown g (hS b hb')
 exact(hT b hb'.1 hb'.2).grown g (fun e=>(hb b hb'.2).2 e.symm)
theorem QI.lies {B:Nat} {a:Option Addr} {n c:Nat} {qs:List (Rul.Rl×Value)} {S:Nat→Prop} {pre:List (List UInt8)} {A:World} (h:QI B (.slice a n c) qs S pre A):
  SlAt 4 (RelI (fun b=>S b∨(Value.slice a n c).ownBlock=some b)) A (.slice a n c) (pre.map Rul.relQ)∧ ∀b,(S b∨(Value.slice a n c).ownBlock=some b)→B≤b∧IsC A b:=by
 refine⟨?_,?_⟩
 ·rw[←h.fst]
  have hr:=h.row
  rcases hr.2 with⟨e,hn⟩|⟨g,cap,cur,e,hB,hg,hc,hm,_⟩
  ·have:qs= []:=List.eq_nil_of_length_eq_zero hn
   subst this
   injection e with e1 e2 e3
   subst e1 e2 e3
   exact .inl ⟨rfl,_,_,rfl⟩
  injection e with e1 e2 e3
  subst e1 e2 e3
  by_cases h0:qs.length=0
  ·have:qs= []:=List.eq_nil_of_length_eq_zero h0
   subst this
   exact .inl ⟨rfl,_,_,rfl⟩
  refine .inr ⟨g,0,_,by rw[List.length_map],by rw[List.length_map];omega,by rw[List.length_map];exact hc,hm,fun j x hx=>?_⟩
  rw[List.getElem?_map] at hx
  obtain⟨q,hq,rfl⟩:=Option.map_eq_some_iff.1 hx
  obtain⟨e0,e1,e2,e3⟩:=zGw hq
  have hj:j<qs.length:=(List.getElem?_eq_some_iff.1 hq).1
  have c0:=hr.cellAt (g:=g) (j*4) (by omega)
  have c1:=hr.cellAt (g:=g) (j*4+1) (by omega)
  have c2:=hr.cellAt (g:=g) (j*4+2) (by omega)
  have c3:=hr.cellAt (g:=g) (j*4+3) (by omega)
  rw[e0] at c0
  rw[e1] at c1
  rw[e2] at c2
  rw[e3] at c3
  rw[Nat.zero_add]
  obtain⟨a',n',c',e,z⟩:=h.it q (List.mem_of_getElem? hq)
  rw[e] at c3
  exact⟨.inr rfl,a',n',c',c0,c1,c2,c3,zA1 z (fun _ _=>rfl) (fun _ hb=> .inl hb)⟩
 rintro b (hb|hb)
 ·exact⟨h.own.ge b hb,h.own.is b hb⟩
 exact⟨(h.row.lt b hb).1,IsC.row h.row hb⟩

structure QO (w:World) (B:Nat) (vr:Value) (ps:List (List Rul.Rl×Value)) (S:Nat→Prop) (pre:List (List UInt8)) (W:World):Prop where
 row:W.ownsRow B 237 1 vr ps.length (ps.map (·.2))
 fst:ps.map (·.1)=pre.map Rul.partQ
 it: ∀q∈ps,∃a n c,q.2= .slice a n c∧SlAt 4 (RelI S) W (.slice a n c) q.1
 own:Own B S vr W
 low:Below w.heap.size w W
 sz:B≤W.heap.size
theorem QO.grown {w:World} {B:Nat} {vr:Value} {ps:List (List Rul.Rl×Value)} {S:Nat→Prop} {pre:List (List UInt8)} {A C:World} {r:Option Nat} (h:QO w B vr ps S pre A) (g:A.grownBy C r)
  (hr: ∀k,r=some k→w.heap.size≤k∧vr.ownBlock≠some k∧ ¬S k):QO w B vr ps S pre C:=by
 have hS: ∀b,S b→some b≠r:=fun b hb e=>(hr b e.symm).2.2 hb
 refine⟨h.row.kept g ?_,h.fst,fun q hq=>?_,h.own.grown g hS,h.low.grown g h.low.size (fun k hk=>(hr k hk).1),Nat.le_trans h.sz g.size⟩
 ·cases hv:vr.ownBlock with
  |none=>exact .inl rfl
  |some k=>exact .inr fun e=>(hr k e.symm).2.1 hv
 obtain⟨a,n,c,e,hs⟩:=h.it q hq
 exact⟨a,n,c,e,zA2 hs (zAK h.own g hS) (fun _ hb=>hb)⟩
theorem QO.len {w:World} {B:Nat} {vr:Value} {ps:List (List Rul.Rl×Value)} {S:Nat→Prop} {pre:List (List UInt8)} {W:World} (h:QO w B vr ps S pre W):ps.length=pre.length:=by
 have:=congrArg List.length h.fst
 simpa using this
theorem QO.append {w:World} {B:Nat} {vr v':Value} {ps:List (List Rul.Rl×Value)} {S S2:Nat→Prop} {pre:List (List UInt8)} {x:List UInt8} {a:Option Addr} {n c:Nat} {A C:World} (h:QO w B vr ps S pre A)
  (hown:C.ownsRow B 237 1 v' (ps.length+1) (ps.map (·.2)++ [.slice a n c])) (g:A.grownBy C vr.ownBlock)
  (hat:v'.ownBlock=vr.ownBlock∨v'.ownBlock=some A.heap.size) (hw:w.heap.size≤B)
  (hs:SlAt 4 (RelI S2) A (.slice a n c) (Rul.partQ x)) (hb: ∀b,S2 b→B≤b∧vr.ownBlock≠some b∧IsC A b):
  QO w B v' (ps++ [(Rul.partQ x,.slice a n c)]) (fun b=>S b∨S2 b) (pre++ [x]) C:=by
 have hB: ∀k,vr.ownBlock=some k→B≤k:=fun k hk=>(h.row.lt k hk).1
 have hS: ∀b,S b→some b≠vr.ownBlock:=fun b hb e=>h.own.ne b hb e.symm
 have hS2: ∀b,S2 b→some b≠vr.ownBlock:=fun b hb' e=>(hb b hb').2.1 e.symm
 have sm2:SameOn S2 A C:=fun b hb'=>g.block b (hb b hb').2.2.lt (hS2 b hb')
 refine⟨?_,?_,?_,⟨?_,?_,?_⟩,h.low.grown g h.low.size (fun k hk=>by have:=hB k hk;omega),Nat.le_trans h.sz g.size⟩
 ·rw[List.length_append,List.map_append];exact hown
 ·rw[List.map_append,List.map_append,h.fst];rfl
 ·intro q hq
  rcases List.mem_append.1 hq with hq|hq
  ·obtain⟨a',n',c',e,z⟩:=h.it q hq
   exact⟨a',n',c',e,zA2 z (zAK h.own g hS) (fun _ hb=> .inl hb)⟩
  rw[List.mem_singleton.1 hq]
  exact⟨a,n,c,rfl,zA2 hs sm2 (fun _ hb=> .inr hb)⟩
 ·rintro b (hb'|hb')
  ·exact h.own.ge b hb'
  exact(hb b hb').1
 ·rintro b (hb'|hb') e
  ·rcases hat with e'|e'
   ·exact h.own.ne b hb' (e'.symm.trans e)
   have:=(h.own.is b hb').lt
   rw[e'] at e;injection e with e;omega
  rcases hat with e'|e'
  ·exact(hb b hb').2.1 (e'.symm.trans e)
  have:=(hb b hb').2.2.lt
  rw[e'] at e;injection e with e;omega
 rintro b (hb'|hb')
 ·exact(h.own.is b hb').grown g (hS b hb')
 exact(hb b hb').2.2.grown g (hS2 b hb')
theorem QO.lies {w:World} {B:Nat} {a:Option Addr} {n c:Nat} {ps:List (List Rul.Rl×Value)} {S:Nat→Prop} {pre:List (List UInt8)} {A:World} (h:QO w B (.slice a n c) ps S pre A):
  SlAt 1 PartC A (.slice a n c) (pre.map Rul.partQ):=by
 rw[←h.fst]
 have hr:=h.row
 rcases hr.2 with⟨e,hn⟩|⟨g,cap,cur,e,hB,hg,hc,hm,_⟩
 ·have:ps= []:=List.eq_nil_of_length_eq_zero hn
  subst this
  injection e with e1 e2 e3
  subst e1 e2 e3
  exact .inl ⟨rfl,_,_,rfl⟩
 injection e with e1 e2 e3
 subst e1 e2 e3
 by_cases h0:ps.length=0
 ·have:ps= []:=List.eq_nil_of_length_eq_zero h0
  subst this
  exact .inl ⟨rfl,_,_,rfl⟩
 refine .inr ⟨g,0,_,by rw[List.length_map],by rw[List.length_map];omega,by rw[List.length_map];exact hc,hm,fun j x hx=>?_⟩
 rw[List.getElem?_map] at hx
 obtain⟨q,hq,rfl⟩:=Option.map_eq_some_iff.1 hx
 have hj:j<ps.length:=(List.getElem?_eq_some_iff.1 hq).1
 have c0:=hr.cellAt (g:=g) (j*1) (by omega)
 rw[Nat.mul_one,List.getElem?_map,hq] at c0
 rw[Nat.zero_add,Nat.mul_one]
 obtain⟨a',n',c',e,z⟩:=h.it q (List.mem_of_getElem? hq)
 exact⟨a',n',c',c0.trans (by rw[←e];rfl),zDJ z⟩

theorem QI.below {B:Nat} {vr:Value} {qs:List (Rul.Rl×Value)} {S:Nat→Prop} {pre:List (List UInt8)} {A C:World} (h:QI B vr qs S pre A) (hb:Below A.heap.size A C):QI B vr qs S pre C:=
 h.grown (zAU hb) (fun k e=>by cases e)
theorem QO.below {w:World} {B:Nat} {vr:Value} {ps:List (List Rul.Rl×Value)} {S:Nat→Prop} {pre:List (List UInt8)} {A C:World} (h:QO w B vr ps S pre A) (hb:Below A.heap.size A C):QO w B vr ps S pre C:=
 h.grown (zAU hb) (fun k e=>by cases e)
end Go.Proofs.YtjlchookakbomaaGreatDoor
