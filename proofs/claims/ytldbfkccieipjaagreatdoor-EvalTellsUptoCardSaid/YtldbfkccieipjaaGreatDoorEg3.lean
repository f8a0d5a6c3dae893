/- The walk of linguisterref1.Joined. -/
import Derived.Test.YtldbfkccieipjaaGreatDoorEh
import Derived.Test.YtldbfkccieipjaaGreatDoorEg1
import Derived.Test.YtldbfkccieipjaaGreatDoorEf10
import Derived.Test.YtldbfkccieipjaaGreatDoorEf8
import Derived.Test.YtldbfkccieipjaaGreatDoorEf5
import Derived.Test.YtldbfkccieipjaaGreatDoorEf4
import Derived.OwnWalk
import Derived.Test.YtldbfkccieipjaaGreatDoorEf7
import Derived.Deep.DeepCutAuto
import Derived.Deep.CutRange
import Derived.Test.YtldbfkccieipjaaGreatDoorProg
import Derived.Test.YtldbfkccieipjaaGreatDoorEf6
namespace Rul
open Go Go.Lib
theorem count_Q (s:List UInt8):(ruleQ s).length≤s.length+1∧count (ruleQ s)≤2*s.length+2:=by
 have h:=count_P s
 have e:(ruleQ s).map List.length=(ruleP s).map List.length:=by
  unfold ruleQ ruleP
  rw[List.map_map,List.map_map]
  exact List.map_congr_left fun x _=>by simp[partQ,partP]
 have el:(ruleQ s).length=(ruleP s).length:=by simpa using congrArg List.length e
 refine⟨by rw[el];exact h.1,?_⟩
 have h2:=h.2
 unfold count at h2⊢
 rw[e];exact h2
theorem rs_words: ∀(L:List (List UInt8)) (n:Nat),(∀x∈L,x.length≤n)→(wordsQ L).rs.length≤n+1:=by
 intro L n h
 rcases L with _|⟨a,_|⟨u,_|⟨v,r⟩⟩⟩
 ·simp[wordsQ]
 ·rcases a with _|⟨x,_|⟨y,t⟩⟩<;>simp[wordsQ]
 ·rcases a with _|⟨x,_|⟨y,t⟩⟩<;>simp[wordsQ]
 ·rcases a with _|⟨x,_|⟨y,t⟩⟩
  ·simp[wordsQ]
  ·have key: ∀y∈ [x]::u::v::r,((split y [44]).map rngQ).length≤n+1:=fun y hy=>by
    have h4:=split_short (s:=y) (sub:= [44]) (by decide)
    have:=h y hy
    rw[List.length_map];omega
   show(if u= [37]∧r.length=2 then _ else _:Rl).rs.length≤_
   split
   ·rename_i hc
    obtain⟨X,Y,rfl⟩: ∃X Y,r= [X,Y]:=by
     rcases r with _|⟨a,_|⟨b,_|⟨c,t⟩⟩⟩
     ·simp at hc
     ·simp at hc
     ·exact⟨_,_,rfl⟩
     ·simp at hc
    exact key Y (by simp)
   ·exact key v (by simp)
  ·simp[wordsQ]
theorem rs_Q (s:List UInt8): ∀l∈ruleQ s,∀x∈l,x.rs.length≤s.length+1:=by
 intro l hl x hx
 obtain⟨p,hp,rfl⟩:=List.mem_map.1 hl
 obtain⟨q,hq,rfl⟩:=List.mem_map.1 hx
 have h1:=mem_split hp
 have h2:=mem_split hq
 exact rs_words _ _ fun y hy=>Nat.le_trans (mem_split hy) (Nat.le_trans h2 h1)
end Rul
namespace Go.Proofs.YtldbfkccieipjaaGreatDoor
set_option maxRecDepth 100000
open Go.RowKit Go.Shelf

structure QI (B:Nat) (vr:Value) (qs:List (Rul.Rl×Value)) (S:Nat→Prop) (pre:List (List UInt8)) (W:World):Prop where
 row:W.ownsRow B 143 4 vr qs.length (qflat qs)
 fst:qs.map (·.1)=pre.map Rul.relQ
 it: ∀q∈qs,∃a n c,q.2= .slice a n c∧SlAt 2 (RngI S) W (.slice a n c) q.1.rs
 own:Own B S vr W
 sz:B≤W.heap.size
theorem QI.grown {B:Nat} {vr:Value} {qs:List (Rul.Rl×Value)} {S:Nat→Prop} {pre:List (List UInt8)} {A C:World} {r:Option Nat} (h:QI B vr qs S pre A) (g:A.grownBy C r)
  (hr: ∀k,r=some k→vr.ownBlock≠some k∧ ¬S k):QI B vr qs S pre C:=by
 have hS: ∀b,S b→some b≠r:=fun b hb e=>(hr b e.symm).2 hb
 refine⟨h.row.kept g ?_,h.fst,fun q hq=>?_,h.own.grown g hS,Nat.le_trans h.sz g.size⟩
 ·cases hv:vr.ownBlock with
  |none=>exact .inl rfl
  |some k=>exact .inr fun e=>(hr k e.symm).1 hv
 ·obtain⟨a,n,c,e,hs⟩:=h.it q hq
  exact⟨a,n,c,e,rngsI_kept hs (same_grown h.own g hS) (fun _ hb=>hb)⟩
theorem QI.len {B:Nat} {vr:Value} {qs:List (Rul.Rl×Value)} {S:Nat→Prop} {pre:List (List UInt8)} {W:World} (h:QI B vr qs S pre W):qs.length=pre.length:=by
 have:=congrArg List.length h.fst
 simpa using this
theorem QI.append {B:Nat} {vr v':Value} {qs:List (Rul.Rl×Value)} {S:Nat→Prop} {pre:List (List UInt8)} {x:List UInt8} {a:Option Addr} {n c:Nat} {A C:World} (h:QI B vr qs S pre A)
  (hown:C.ownsRow B 143 4 v' (qs.length+1) (qflat qs++ [.int .u8 ((Rul.relQ x).op.toNat:Int),.int .i64 (Rul.relQ x).mod,.bool (Rul.relQ x).no,.slice a n c])) (g:A.grownBy C vr.ownBlock)
  (hat:v'.ownBlock=vr.ownBlock∨v'.ownBlock=some A.heap.size)
  (hs:SlAt 2 RngC A (.slice a n c) (Rul.relQ x).rs) (hb: ∀b,(Value.slice a n c).ownBlock=some b→B≤b∧vr.ownBlock≠some b):
  QI B v' (qs++ [(Rul.relQ x,.slice a n c)]) (fun b=>S b∨((Rul.relQ x).rs≠ []∧(Value.slice a n c).ownBlock=some b)) (pre++ [x]) C:=by
 have hB: ∀k,vr.ownBlock=some k→B≤k:=fun k hk=>(h.row.lt k hk).1
 have hS: ∀b,S b→some b≠vr.ownBlock:=fun b hb e=>h.own.ne b hb e.symm
 have hT: ∀b,(Rul.relQ x).rs≠ []→(Value.slice a n c).ownBlock=some b→IsC A b:=by
  intro b hn hb
  rcases hs with⟨e,_⟩|⟨b',off,cap,e1,e2,_,_,e3⟩
  ·exact absurd e hn
  ·injection e1 with e1 _ _
   subst e1
   injection hb with hb
   subst hb
   have hq:=e3 0 _ (List.getElem?_eq_getElem e2)
   exact IsC.of_cell hq.1
 have hs':SlAt 2 (RngI (fun b=>S b∨((Rul.relQ x).rs≠ []∧(Value.slice a n c).ownBlock=some b))) C (.slice a n c) (Rul.relQ x).rs:=by
  rcases hs with⟨e,z⟩|⟨b',off,cap,e1,e2,e4,e5,e3⟩
  ·exact .inl ⟨e,z⟩
  ·have hne:(Rul.relQ x).rs≠ []:=by rintro e;rw[e] at e2;simp at e2
   have ho:(Value.slice a n c).ownBlock=some b':=by rw[e1];rfl
   have hC:=g.block b' (hT b' hne ho).lt (fun e=>(hb b' ho).2 e.symm)
   refine .inr ⟨b',off,cap,e1,e2,e4,e5,fun j y hy=>⟨.inr ⟨hne,ho⟩,?_,?_⟩⟩
   ·exact(World.cell?_of_block (a:=⟨b',off+j*2,none⟩) hC).trans (e3 j y hy).1
   ·exact(World.cell?_of_block (a:=⟨b',off+j*2+1,none⟩) hC).trans (e3 j y hy).2
 refine⟨?_,?_,?_,⟨?_,?_,?_⟩,Nat.le_trans h.sz g.size⟩
 ·rw[qflat_add,List.length_append];exact hown
 ·rw[List.map_append,List.map_append,h.fst];rfl
 ·intro q hq
  rcases List.mem_append.1 hq with hq|hq
  ·obtain⟨a',n',c',e,z⟩:=h.it q hq
   exact⟨a',n',c',e,rngsI_kept z (same_grown h.own g hS) (fun _ hb=> .inl hb)⟩
  ·rw[List.mem_singleton.1 hq]
   exact⟨a,n,c,rfl,hs'⟩
 ·rintro b (hb'|hb')
  ·exact h.own.ge b hb'
  ·exact(hb b hb'.2).1
 ·rintro b (hb'|hb') e
  ·rcases hat with e'|e'
   ·exact h.own.ne b hb' (e'.symm.trans e)
   ·have:=(h.own.is b hb').lt
    rw[e'] at e;injection e with e;omega
  ·rcases hat with e'|e'
   ·exact(hb b hb'.2).2 (e'.symm.trans e)
   ·have:=(hT b hb'.1 hb'.2).lt
    rw[e'] at e;injection e with e;omega
 ·rintro b (hb'|hb')
  ·exact(h.own.is b hb').grown g (hS b hb')
  ·exact(hT b hb'.1 hb'.2).grown g (fun e=>(hb b hb'.2).2 e.symm)
theorem QI.lies {B:Nat} {a:Option Addr} {n c:Nat} {qs:List (Rul.Rl×Value)} {S:Nat→Prop} {pre:List (List UInt8)} {A:World} (h:QI B (.slice a n c) qs S pre A):
  SlAt 4 (RelI (fun b=>S b∨(Value.slice a n c).ownBlock=some b)) A (.slice a n c) (pre.map Rul.relQ)∧ ∀b,(S b∨(Value.slice a n c).ownBlock=some b)→B≤b∧IsC A b:=by
 refine⟨?_,?_⟩
 ·rw[←h.fst]
  have hr:=h.row
  rcases hr.2 with⟨e,hn⟩|⟨g,cap,cur,e,hB,hg,hc,hm,_⟩
  ·have:qs= []:=List.eq_nil_of_length_eq_zero hn
   subst this
   injection e with e1 e2 e3
   subst e1 e2 e3
   exact .inl ⟨rfl,_,_,rfl⟩
  ·injection e with e1 e2 e3
   subst e1 e2 e3
   by_cases h0:qs.length=0
   ·have:qs= []:=List.eq_nil_of_length_eq_zero h0
    subst this
    exact .inl ⟨rfl,_,_,rfl⟩
   ·refine .inr ⟨g,0,_,by rw[List.length_map],by rw[List.length_map];omega,by rw[List.length_map];exact hc,hm,fun j x hx=>?_⟩
    rw[List.getElem?_map] at hx
    obtain⟨q,hq,rfl⟩:=Option.map_eq_some_iff.1 hx
    obtain⟨e0,e1,e2,e3⟩:=qflat_at hq
    have hj:j<qs.length:=(List.getElem?_eq_some_iff.1 hq).1
    have c0:=hr.cellAt (g:=g) (j*4) (by omega)
    have c1:=hr.cellAt (g:=g) (j*4+1) (by omega)
    have c2:=hr.cellAt (g:=g) (j*4+2) (by omega)
    have c3:=hr.cellAt (g:=g) (j*4+3) (by omega)
    rw[e0] at c0
    rw[e1] at c1
    rw[e2] at c2
    rw[e3] at c3
    rw[Nat.zero_add]
    obtain⟨a',n',c',e,z⟩:=h.it q (List.mem_of_getElem? hq)
    rw[e] at c3
    exact⟨.inr rfl,a',n',c',c0,c1,c2,c3,rngsI_kept z (fun _ _=>rfl) (fun _ hb=> .inl hb)⟩
 ·rintro b (hb|hb)
  ·exact⟨h.own.ge b hb,h.own.is b hb⟩
  ·exact⟨(h.row.lt b hb).1,IsC.row h.row hb⟩

structure QO (w:World) (B:Nat) (vr:Value) (ps:List (List Rul.Rl×Value)) (S:Nat→Prop) (pre:List (List UInt8)) (W:World):Prop where
 row:W.ownsRow B 140 1 vr ps.length (ps.map (·.2))
 fst:ps.map (·.1)=pre.map Rul.partQ
 it: ∀q∈ps,∃a n c,q.2= .slice a n c∧SlAt 4 (RelI S) W (.slice a n c) q.1
 own:Own B S vr W
 low:Below w.heap.size w W
 sz:B≤W.heap.size
theorem QO.grown {w:World} {B:Nat} {vr:Value} {ps:List (List Rul.Rl×Value)} {S:Nat→Prop} {pre:List (List UInt8)} {A C:World} {r:Option Nat} (h:QO w B vr ps S pre A) (g:A.grownBy C r)
  (hr: ∀k,r=some k→w.heap.size≤k∧vr.ownBlock≠some k∧ ¬S k):QO w B vr ps S pre C:=by
 have hS: ∀b,S b→some b≠r:=fun b hb e=>(hr b e.symm).2.2 hb
 refine⟨h.row.kept g ?_,h.fst,fun q hq=>?_,h.own.grown g hS,h.low.grown g h.low.size (fun k hk=>(hr k hk).1),Nat.le_trans h.sz g.size⟩
 ·cases hv:vr.ownBlock with
  |none=>exact .inl rfl
  |some k=>exact .inr fun e=>(hr k e.symm).2.1 hv
 ·obtain⟨a,n,c,e,hs⟩:=h.it q hq
  exact⟨a,n,c,e,relsI_kept hs (same_grown h.own g hS) (fun _ hb=>hb)⟩
theorem QO.len {w:World} {B:Nat} {vr:Value} {ps:List (List Rul.Rl×Value)} {S:Nat→Prop} {pre:List (List UInt8)} {W:World} (h:QO w B vr ps S pre W):ps.length=pre.length:=by
 have:=congrArg List.length h.fst
 simpa using this
theorem QO.append {w:World} {B:Nat} {vr v':Value} {ps:List (List Rul.Rl×Value)} {S S2:Nat→Prop} {pre:List (List UInt8)} {x:List UInt8} {a:Option Addr} {n c:Nat} {A C:World} (h:QO w B vr ps S pre A)
  (hown:C.ownsRow B 140 1 v' (ps.length+1) (ps.map (·.2)++ [.slice a n c])) (g:A.grownBy C vr.ownBlock)
  (hat:v'.ownBlock=vr.ownBlock∨v'.ownBlock=some A.heap.size) (hw:w.heap.size≤B)
  (hs:SlAt 4 (RelI S2) A (.slice a n c) (Rul.partQ x)) (hb: ∀b,S2 b→B≤b∧vr.ownBlock≠some b∧IsC A b):
  QO w B v' (ps++ [(Rul.partQ x,.slice a n c)]) (fun b=>S b∨S2 b) (pre++ [x]) C:=by
 have hB: ∀k,vr.ownBlock=some k→B≤k:=fun k hk=>(h.row.lt k hk).1
 have hS: ∀b,S b→some b≠vr.ownBlock:=fun b hb e=>h.own.ne b hb e.symm
 have hS2: ∀b,S2 b→some b≠vr.ownBlock:=fun b hb' e=>(hb b hb').2.1 e.symm
 have sm2:SameOn S2 A C:=fun b hb'=>g.block b (hb b hb').2.2.lt (hS2 b hb')
 refine⟨?_,?_,?_,⟨?_,?_,?_⟩,h.low.grown g h.low.size (fun k hk=>by have:=hB k hk;omega),Nat.le_trans h.sz g.size⟩
 ·rw[List.length_append,List.map_append];exact hown
 ·rw[List.map_append,List.map_append,h.fst];rfl
 ·intro q hq
  rcases List.mem_append.1 hq with hq|hq
  ·obtain⟨a',n',c',e,z⟩:=h.it q hq
   exact⟨a',n',c',e,relsI_kept z (same_grown h.own g hS) (fun _ hb=> .inl hb)⟩
  ·rw[List.mem_singleton.1 hq]
   exact⟨a,n,c,rfl,relsI_kept hs sm2 (fun _ hb=> .inr hb)⟩
 ·rintro b (hb'|hb')
  ·exact h.own.ge b hb'
  ·exact(hb b hb').1
 ·rintro b (hb'|hb') e
  ·rcases hat with e'|e'
   ·exact h.own.ne b hb' (e'.symm.trans e)
   ·have:=(h.own.is b hb').lt
    rw[e'] at e;injection e with e;omega
  ·rcases hat with e'|e'
   ·exact(hb b hb').2.1 (e'.symm.trans e)
   ·have:=(hb b hb').2.2.lt
    rw[e'] at e;injection e with e;omega
 ·rintro b (hb'|hb')
  ·exact(h.own.is b hb').grown g (hS b hb')
  ·exact(hb b hb').2.2.grown g (hS2 b hb')
theorem QO.lies {w:World} {B:Nat} {a:Option Addr} {n c:Nat} {ps:List (List Rul.Rl×Value)} {S:Nat→Prop} {pre:List (List UInt8)} {A:World} (h:QO w B (.slice a n c) ps S pre A):
  SlAt 1 PartC A (.slice a n c) (pre.map Rul.partQ):=by
 rw[←h.fst]
 have hr:=h.row
 rcases hr.2 with⟨e,hn⟩|⟨g,cap,cur,e,hB,hg,hc,hm,_⟩
 ·have:ps= []:=List.eq_nil_of_length_eq_zero hn
  subst this
  injection e with e1 e2 e3
  subst e1 e2 e3
  exact .inl ⟨rfl,_,_,rfl⟩
 ·injection e with e1 e2 e3
  subst e1 e2 e3
  by_cases h0:ps.length=0
  ·have:ps= []:=List.eq_nil_of_length_eq_zero h0
   subst this
   exact .inl ⟨rfl,_,_,rfl⟩
  ·refine .inr ⟨g,0,_,by rw[List.length_map],by rw[List.length_map];omega,by rw[List.length_map];exact hc,hm,fun j x hx=>?_⟩
   rw[List.getElem?_map] at hx
   obtain⟨q,hq,rfl⟩:=Option.map_eq_some_iff.1 hx
   have hj:j<ps.length:=(List.getElem?_eq_some_iff.1 hq).1
   have c0:=hr.cellAt (g:=g) (j*1) (by omega)
   rw[Nat.mul_one,List.getElem?_map,hq] at c0
   rw[Nat.zero_add,Nat.mul_one]
   obtain⟨a',n',c',e,z⟩:=h.it q (List.mem_of_getElem? hq)
   exact⟨a',n',c',c0.trans (by rw[←e];rfl),relsI_plain z⟩

theorem QI.below {B:Nat} {vr:Value} {qs:List (Rul.Rl×Value)} {S:Nat→Prop} {pre:List (List UInt8)} {A C:World} (h:QI B vr qs S pre A) (hb:Below A.heap.size A C):QI B vr qs S pre C:=
 h.grown (grown_below hb) (fun k e=>by cases e)
theorem QO.below {w:World} {B:Nat} {vr:Value} {ps:List (List Rul.Rl×Value)} {S:Nat→Prop} {pre:List (List UInt8)} {A C:World} (h:QO w B vr ps S pre A) (hb:Below A.heap.size A C):QO w B vr ps S pre C:=
 h.grown (grown_below hb) (fun k e=>by cases e)
open Go.RowKit

def relR (mod:Int) (rs:List (Int×Int)):Bool:=decide (0≤mod)&&decide (mod≤1000000)&&!rs.isEmpty&&rs.all Rul.rngOk

set_option maxHeartbeats 4000000 in
theorem relfault_at (opI mod:Int) (no:Bool) (rs:List (Int×Int)) (a:Option Addr) (n c:Nat) (w:World) (hs:SlAt 2 RngC w (.slice a n c) rs)
  (hop:opI=110∨opI=105∨opI=118∨opI=119∨opI=102∨opI=116):
  Calls Tryz.prog 208 #[.agg #[.int .u8 opI,.int .i64 mod,.bool no,.slice a n c]] w fun e w'=>e= .returned (.bool (!relR mod rs))∧Below w.heap.size w w':=by
 have HR:=lH (show relR mod rs=(decide (0≤mod)&&decide (mod≤1000000)&&!rs.isEmpty&&rs.all Rul.rngOk) from rfl)
 generalize relR mod rs=R at*
 obtain⟨A,cap,e,hm,hcell⟩:=hs.spread
 injection e with e1 e2 e3
 subst e1 e2 e3
 have HC:=lH hcell
 have hE:rs.isEmpty=decide ((rs.length:Int)=0):=by cases rs<;>simp<;>omega
 rw[hE] at HR
 obtain⟨n,hn⟩: ∃n,rs.length=n:=⟨_,rfl⟩
 rw[hn] at hm HR⊢
 have HN:=lH hn
 unfold maxLen at hm
 have W1:=lH (bA w (.cells #[.int .u8 opI,.int .i64 mod,.bool no,.slice a n c] 143))
 have B1:=lH (Boxed.made w #[.int .u8 opI,.int .i64 mod,.bool no,.slice a n c] 143)
 clear hs hcell hn hE
 obtain⟨v,hv⟩: ∃v,w.alloc (.cells #[.int .u8 opI,.int .i64 mod,.bool no,.slice a n c] 143)=v:=⟨_,rfl⟩
 rw[hv] at W1 B1
 have HV:=lH hv
 clear hv
 rcases hop with rfl|rfl|rfl|rfl|rfl|rfl
 all_goals
  by_cases h0:mod<0
  ·obtain rfl:R=false:=by rw[HR.out,dec_no (show ¬0≤mod by omega)];rfl
   have d0:decide (mod<0)=true:=dec_yes h0
   go_enter Tryz.func208,Tryz.ntmps208
   go_wp2_with fail
   go_ret
   exact⟨rfl,by rw[HV.out];exact W1.out⟩
  ·have d0:decide (mod<0)=false:=dec_no h0
   by_cases h1:1000000<mod
   ·obtain rfl:R=false:=by rw[HR.out,dec_yes (show 0≤mod by omega),dec_no (show ¬mod≤1000000 by omega)];rfl
    have d1:decide (1000000<mod)=true:=dec_yes h1
    go_enter Tryz.func208,Tryz.ntmps208
    go_wp2_with fail
    go_ret
    exact⟨rfl,by rw[HV.out];exact W1.out⟩
   ·have d1:decide (1000000<mod)=false:=dec_no h1
    by_cases h2:(n:Int)=0
    ·obtain rfl:R=false:=by rw[HR.out,dec_yes (show 0≤mod by omega),dec_yes (show mod≤1000000 by omega),dec_yes h2];rfl
     have e2:((n:Int)==0)=true:=beq_yes h2
     go_enter Tryz.func208,Tryz.ntmps208
     go_wp2_with fail
     go_ret
     exact⟨rfl,by rw[HV.out];exact W1.out⟩
    ·obtain rfl:R=rs.all Rul.rngOk:=by rw[HR.out,dec_yes (show 0≤mod by omega),dec_yes (show mod≤1000000 by omega),dec_no h2];simp
     have e2:((n:Int)==0)=false:=beq_no h2
     clear HR
     go_enter Tryz.func208,Tryz.ntmps208
     go_wp2_with fail
     rw[HV.out]
     clear HV
     clear h0 h1 h2 d0 d1 e2
     go_loopw [3] (fun i wr=> ∃k:Nat,i= .int .i64 k∧k≤n∧Hid (Drew v wr)∧Hid ((rs.take k).all Rul.rngOk=true)) (fun i _=>n-(intOf i).toNat)
     case atStart=>exact⟨0,rfl,Nat.zero_le _,Drew.refl _,lH (by simp)⟩
     case round=>
      obtain⟨k,rfl,hk,HD,HA⟩:=hrel
      have K3:=(B1.out.below HD.out.below).cell 3 _ rfl
      by_cases hlt:k<n
      ·obtain⟨x,hx⟩: ∃x,rs[k]?=some x:=⟨rs[k]'(by have:=HN.out;omega),List.getElem?_eq_getElem (by have:=HN.out;omega)⟩
       obtain⟨b,off,rfl,hx0,hx1⟩:=HC.out k x hx
       have x0:=cK (cK hx0 W1.out) HD.out.below
       have x1:=cK (cK hx1 W1.out) HD.out.below
       have HT:=lH (all_take (p:=Rul.rngOk) hx HA.out)
       have HF:Hid (Rul.rngOk x=false→rs.all Rul.rngOk=false):=lH fun h=>by
        rw[List.all_eq_false]
        exact⟨x,List.mem_of_getElem? hx,by rw[h];decide⟩
       have HO:=lH (show Rul.rngOk x=(decide (0≤x.1)&&decide (x.1≤x.2)&&decide (x.2≤1000000)) from rfl)
       clear hx hx0 hx1
       obtain⟨p,q⟩:=x
       dsimp only at*
       have k0:(0:Int)≤(k:Int):=by omega
       have k1:(k:Int)<(n:Int):=by omega
       by_cases g0:p<0
       ·have gd:decide (p<0)=true:=dec_yes g0
        have hf:=HF.out (by rw[HO.out,dec_no (show ¬0≤p by omega)];rfl)
        go_wp2_with fail
        go_region
        go_wp2_with fail
        go_ret
        exact⟨ret_bool (by rw[hf];rfl),W1.out.trans (Below.mono (Below.drew HD.out.below) W1.out.size)⟩
       ·have gd:decide (p<0)=false:=dec_no g0
        by_cases g1:q<p
        ·have gd1:decide (q<p)=true:=dec_yes g1
         have hf:=HF.out (by rw[HO.out,dec_no (show ¬p≤q by omega)];simp)
         go_wp2_with fail
         go_region
         go_wp2_with fail
         go_ret
         exact⟨ret_bool (by rw[hf];rfl),W1.out.trans (Below.mono (Below.drew HD.out.below) W1.out.size)⟩
        ·have gd1:decide (q<p)=false:=dec_no g1
         by_cases g2:1000000<q
         ·have gd2:decide (1000000<q)=true:=dec_yes g2
          have hf:=HF.out (by rw[HO.out,dec_no (show ¬q≤1000000 by omega)];simp)
          go_wp2_with fail
          go_region
          go_wp2_with fail
          go_ret
          exact⟨ret_bool (by rw[hf];rfl),W1.out.trans (Below.mono (Below.drew HD.out.below) W1.out.size)⟩
         ·have gd2:decide (1000000<q)=false:=dec_no g2
          have ht:=lH (HT.out (by rw[HO.out,dec_yes (show 0≤p by omega),dec_yes (show p≤q by omega),dec_yes (show q≤1000000 by omega)];rfl))
          go_wp2_with fail
          go_region
          go_wp2_with fail
          go_roundw
          case rel=>exact⟨k+1,by go_num,by omega,lH (HD.out.drewN 1),ht⟩
          case measure=>simp[intOf];omega
      ·have e:k=n:=by omega
       subst e
       have hf:rs.all Rul.rngOk=true:=by have:=HA.out;rwa [List.take_of_length_le (by have:=HN.out;omega)] at this
       go_wp2_with fail
       go_ret
       exact⟨ret_bool (by rw[hf];rfl),W1.out.trans (Below.mono HD.out.below W1.out.size)⟩
set_option maxHeartbeats 1000000 in
theorem relfault_bad (opI mod:Int) (no:Bool) (a:Option Addr) (n c:Nat) (w:World) (h0:opI≠110) (h1:opI≠105) (h2:opI≠118) (h3:opI≠119) (h4:opI≠102) (h5:opI≠116):
  Calls Tryz.prog 208 #[.agg #[.int .u8 opI,.int .i64 mod,.bool no,.slice a n c]] w fun e w'=>e= .returned (.bool true)∧Below w.heap.size w w':=by
 have e0:(opI==110)=false:=beq_no h0
 have e1:(opI==105)=false:=beq_no h1
 have e2:(opI==118)=false:=beq_no h2
 have e3:(opI==119)=false:=beq_no h3
 have e4:(opI==102)=false:=beq_no h4
 have e5:(opI==116)=false:=beq_no h5
 have f0:(opI !=110)=true:=by rw[bne,e0];rfl
 have f1:(opI !=105)=true:=by rw[bne,e1];rfl
 have f2:(opI !=118)=true:=by rw[bne,e2];rfl
 have f3:(opI !=119)=true:=by rw[bne,e3];rfl
 have f4:(opI !=102)=true:=by rw[bne,e4];rfl
 have f5:(opI !=116)=true:=by rw[bne,e5];rfl
 go_enter Tryz.func208,Tryz.ntmps208
 go_wp2_with fail
 go_ret
 exact⟨rfl,bA _ _⟩
theorem op_num {c:UInt8} {k:Nat} (hk:k<256) (h:c≠UInt8.ofNat k):(c.toNat:Int)≠(k:Int):=fun e=>h (by
 apply UInt8.toNat_inj.1
 rw[UInt8.toNat_ofNat']
 omega)
theorem relfault_any (x:Rul.Rl) (a:Option Addr) (n c:Nat) (w:World) (hs:SlAt 2 RngC w (.slice a n c) x.rs):
  Calls Tryz.prog 208 #[.agg #[.int .u8 (x.op.toNat:Int),.int .i64 x.mod,.bool x.no,.slice a n c]] w fun e w'=>e= .returned (.bool (!Rul.relOk x))∧Below w.heap.size w w':=by
 by_cases h:Rul.opOk x.op=true
 ·have e:Rul.relOk x=relR x.mod x.rs:=by unfold Rul.relOk relR;rw[h];simp
  rw[e]
  refine relfault_at _ x.mod x.no x.rs a n c w hs ?_
  rcases Rul.op_cases h with e|e|e|e|e|e<;>rw[e]<;>decide
 ·have e:Rul.relOk x=false:=by
   unfold Rul.relOk
   rw[show Rul.opOk x.op=false by simpa using h];rfl
  rw[e]
  have hh: ∀k:UInt8,k∈([110,105,118,119,102,116]:List UInt8)→x.op≠k:=fun k hk e'=>h (by unfold Rul.opOk;rw[e'];simpa using hk)
  exact relfault_bad _ x.mod x.no a n c w (op_num (k:=110) (by omega) (hh 110 (by simp))) (op_num (k:=105) (by omega) (hh 105 (by simp))) (op_num (k:=118) (by omega) (hh 118 (by simp))) (op_num (k:=119) (by omega) (hh 119 (by simp))) (op_num (k:=102) (by omega) (hh 102 (by simp))) (op_num (k:=116) (by omega) (hh 116 (by simp)))
open Go.RowKit

set_option maxHeartbeats 4000000 in
theorem rulefault_some (r:Rul.Rule) (b off cap n:Nat) (w:World) (hn:r.length=n) (h0:0<n) (hm:n≤1000000000) (hcn:Rul.count r≤1000000000) (hc: ∀(j:Nat) x,r[j]?=some x→PartC w b (off+j*1) x):
  Calls Tryz.prog 183 #[.slice (some ⟨b,off,none⟩) n cap] w fun e w'=>e= .returned (.int .i64 (Rul.ruleE r))∧Below w.heap.size w w':=by
 have HC:=lH hc
 have HN:=lH hn
 have HCN:=lH hcn
 have n0:((n:Int)==0)=false:=beq_no (by omega)
 have HBP:=lH fun k l (h:r[k]?=some l) (hb:Rul.partOk l=false)=>bad_part h hb
 have HOK:=lH fun (h:r.all Rul.partOk=true)=>ruleE_ok (by omega) h
 generalize hE:Rul.ruleE r=E at*
 clear hc hn hcn hE
 go_enter Tryz.func183,Tryz.ntmps183
 go_wp2_with fail
 go_loopw [3,4] (fun s i wr=> ∃k:Nat,i= .int .i64 k∧k≤n∧s= .int .i64 (Rul.count (r.take k):Nat)∧Hid ((r.take k).all Rul.partOk=true)∧Hid (Below w.heap.size w wr)) (fun _ i _=>n-(intOf i).toNat)
 case atStart=>exact⟨0,rfl,Nat.zero_le _,rfl,lH (by simp),lH (Below.refl _ _)⟩
 case round=>
  obtain⟨k,rfl,hk,rfl,HA,HD⟩:=hrel
  by_cases hlt:k<n
  ·obtain⟨l,hl⟩: ∃x,r[k]?=some x:=⟨r[k]'(by have:=HN.out;omega),List.getElem?_eq_getElem (by have:=HN.out;omega)⟩
   have HLK:=lH hl
   have hct:=count_take hl
   have hcl:=count_le hl
   have hcb:=HCN.out
   obtain⟨pa,pn,pc,p0,ps⟩:=HC.out k l hl
   rw[Nat.mul_one] at p0
   have x0:=cK p0 HD.out
   obtain⟨A1,cap1,e1,hm1,hcell1⟩:=ps.spread
   injection e1 with e1 e1' e1''
   subst e1 e1' e1''
   have P0:=lH p0
   have HC1:=lH hcell1
   obtain⟨m,hmm⟩: ∃m,l.length=m:=⟨_,rfl⟩
   rw[hmm] at x0 P0 hct hcl
   have HX:=lH hmm
   generalize hcc:Rul.count (r.take k)=cc at*
   generalize hc2:Rul.count (r.take (k+1))=c2 at*
   have HC2:=lH hc2
   clear hl ps p0 hcell1 hm1 hmm hcc hc2
   have k0:(0:Int)≤(k:Int):=by omega
   have k1:(k:Int)<(n:Int):=by omega
   by_cases hm0:m=0
   ·subst hm0
    obtain rfl:E=3:=HBP.out k l HLK.out (by
     have:l= []:=List.eq_nil_of_length_eq_zero HX.out
     rw[this];rfl)
    go_wp2_with fail
    go_ret
    exact⟨rfl,HD.out⟩
   ·have m0:((m:Int)==0)=false:=beq_no (by omega)
    go_wp2_with fail
    go_loopw [3,5] (fun s i wr=> ∃j:Nat,i= .int .i64 j∧j≤m∧s= .int .i64 ((cc+j:Nat):Int)∧Hid ((l.take j).all Rul.relOk=true)∧Hid (Below w.heap.size w wr)) (fun _ i _=>m-(intOf i).toNat)
    case atStart=>exact⟨0,rfl,Nat.zero_le _,rfl,lH (by simp),HD⟩
    case round=>
     obtain⟨j,rfl,hj,rfl,HA2,HI⟩:=hrel
     have x1:=cK P0.out HI.out
     by_cases hjm:j<m
     ·obtain⟨y,hy⟩: ∃y,l[j]?=some y:=⟨l[j]'(by have:=HX.out;omega),List.getElem?_eq_getElem (by have:=HX.out;omega)⟩
      obtain⟨b1,o1,rfl,ra,rn,rc,r0,r1,r2,r3,rs⟩:=HC1.out j y hy
      have z0:=cK r0 HI.out
      have z1:=cK r1 HI.out
      have z2:=cK r2 HI.out
      have z3:=cK r3 HI.out
      have CS:=lH (relfault_any y ra rn rc wr (rs.rngs_below HI.out))
      have HY:=lH hy
      clear hy r0 r1 r2 r3 rs HC1
      have j0:(0:Int)≤(j:Int):=by omega
      have j1:(j:Int)<(m:Int):=by omega
      cases ho:Rul.relOk y with
      |true=>
       rw[ho] at CS
       have HA3:=lH (all_take HY.out HA2.out ho)
       clear ho
       go_wp2_with fail
       refine CS.out.mono ?_
       rintro e w5 ⟨rfl,hb⟩
       have W5:=lH (bT HI.out hb)
       clear hb CS z0 z1 z2 z3 x1
       go_wp2_with fail
       go_roundw
       case rel=>exact⟨j+1,by go_num,by omega,by rw[show((cc+(j+1):Nat):Int)=((cc+j:Nat):Int)+1 by omega];first|rfl|go_num,HA3,W5⟩
       case measure=>simp[intOf];omega
      |false=>
       rw[ho] at CS
       obtain rfl:E=3:=HBP.out k l HLK.out (bad_rel HY.out ho)
       clear ho
       go_wp2_with fail
       refine CS.out.mono ?_
       rintro e w5 ⟨rfl,hb⟩
       have W5:=lH (bT HI.out hb)
       clear hb CS z0 z1 z2 z3 x1
       go_wp2_with fail
       go_ret
       exact⟨rfl,W5.out⟩
     ·have e:j=m:=by omega
      subst e
      have hp:Rul.partOk l=true:=by
       have h2:=HA2.out
       rw[List.take_of_length_le (by have:=HX.out;omega)] at h2
       unfold Rul.partOk
       rw[h2]
       have:l≠ []:=fun e=>by have h3:=HX.out;rw[e] at h3;simp at h3;omega
       cases l with
       |nil=>exact absurd rfl this
       |cons=>rfl
      have HA4:=lH (all_take HLK.out HA.out hp)
      clear hp
      go_wp2_with fail
      go_roundw
      case rel=>exact⟨k+1,by go_num,by omega,by rw[HC2.out,hct],HA4,HI⟩
      case measure=>simp[intOf];omega
  ·have e:k=n:=by omega
   subst e
   have hall:r.all Rul.partOk=true:=by have:=HA.out;rwa [List.take_of_length_le (by have:=HN.out;omega)] at this
   have he:=HOK.out hall
   have htk:Rul.count (r.take k)=Rul.count r:=by rw[List.take_of_length_le (by have:=HN.out;omega)]
   rw[htk]
   have hcb:=HCN.out
   generalize Rul.count r=cr at*
   clear htk hall
   by_cases h20:20<cr
   ·have d:decide (20<(cr:Int))=true:=dec_yes (by omega)
    rw[if_pos h20] at he
    subst he
    go_wp2_with fail
    go_ret
    exact⟨rfl,HD.out⟩
   ·have d:decide (20<(cr:Int))=false:=dec_no (by omega)
    rw[if_neg h20] at he
    subst he
    go_wp2_with fail
    go_ret
    exact⟨rfl,HD.out⟩
set_option maxHeartbeats 400000 in
theorem rulefault_none (A:Option Addr) (c:Nat) (w:World):Calls Tryz.prog 183 #[.slice A 0 c] w fun e w'=>e= .returned (.int .i64 3)∧Below w.heap.size w w':=by
 go_enter Tryz.func183,Tryz.ntmps183
 go_wp2_with fail
 go_ret
 exact⟨rfl,Below.refl _ _⟩
theorem rulefault_any (r:Rul.Rule) (A:Option Addr) (n c:Nat) (w:World) (hr:SlAt 1 PartC w (.slice A n c) r) (hl:r.length≤1000000000) (hc:Rul.count r≤1000000000):
  Calls Tryz.prog 183 #[.slice A n c] w fun e w'=>e= .returned (.int .i64 (Rul.ruleE r))∧Below w.heap.size w w':=by
 rcases hr with⟨rfl,a,c',e⟩|⟨b,off,cap,e,h0,_,_,h3⟩
 ·injection e with e1 e2 e3
  subst e2
  exact rulefault_none _ _ w
 ·injection e with e1 e2 e3
  subst e1 e2 e3
  exact rulefault_some r b off _ _ w rfl h0 (by omega) hc h3
open Go.RowKit

def headQ (r:Rul.Rl):List UInt8:=Rul.headT r++(if r.no then [32,33,61] else [32,61])
def txtQ (r:Rul.Rl) (k:Nat):List UInt8:=if k=0 then headQ r else headQ r++ [32]++Lst.upto (r.rs.map Rul.rngT) [44] k
theorem txtQ_step (r:Rul.Rl) (k:Nat) (x:Int×Int) (h:r.rs[k]?=some x):txtQ r (k+1)=txtQ r k++(if k=0 then [32] else [44])++Rul.rngT x:=by
 have hx:(r.rs.map Rul.rngT)[k]?=some (Rul.rngT x):=by rw[List.getElem?_map,h];rfl
 unfold txtQ
 by_cases hk:k=0
 ·subst hk
  rw[if_neg (by omega),if_pos rfl,if_pos rfl,Lst.upto_one _ _ _ hx]
 ·rw[if_neg (by omega),if_neg hk,if_neg hk,Lst.upto_succ _ _ _ _ (by omega) hx]
  simp[List.append_assoc]
theorem txtQ_all (r:Rul.Rl) (h:r.rs≠ []):txtQ r r.rs.length=Rul.relT r:=by
 unfold txtQ
 rw[if_neg (by have:=List.length_pos_iff.2 h;omega),Lst.upto_all _ _ _ (by simp)]
 unfold headQ Rul.relT
 cases r.no<;>simp[Rul.neS,Rul.eqS,List.append_assoc]
theorem txtQ_len (r:Rul.Rl) (hok:Rul.relOk r=true) (k:Nat):(txtQ r k).length≤20+r.rs.length*17:=by
 obtain⟨_,_,h2,_,h4⟩:=Rul.relOk_parts hok
 have hd:=Rul.dg_len h2
 have t:=Rul.total_le (l:=r.rs.map Rul.rngT) (sep:= [44]) (k:=16) (fun x hx=>by
  obtain⟨p,hp,rfl⟩:=List.mem_map.1 hx
  exact Rul.rngT_len (h4 p hp))
 rw[List.length_map] at t
 have u:=Lst.upto_le (r.rs.map Rul.rngT) [44] k
 have hh:(headQ r).length≤14:=by
  unfold headQ Rul.headT
  split<;>split<;>simp only[List.length_append,List.length_cons,List.length_nil,Rul.pcS]<;>omega
 simp only[List.length_cons,List.length_nil] at t
 unfold txtQ
 split
 ·omega
 ·simp only[List.length_append,List.length_cons,List.length_nil];omega

set_option maxHeartbeats 8000000 in
theorem rrt_any (r:Rul.Rl) (a:Option Addr) (n c:Nat) (w:World) (hs:SlAt 2 RngC w (.slice a n c) r.rs) (hok:Rul.relOk r=true) (hl:r.rs.length≤100000001):
  Calls Tryz.prog 209 #[.agg #[.int .u8 (r.op.toNat:Int),.int .i64 r.mod,.bool r.no,.slice a n c]] w fun e w'=>e= .returned (.string ⟨(Rul.relT r).toArray⟩)∧Below w.heap.size w w':=by
 obtain⟨hop,hm0,hm1,hne,hrk⟩:=Rul.relOk_parts hok
 have HALL:=lH (txtQ_all r hne)
 have HSTEP:=lH fun k x h=>txtQ_step r k x h
 have HLEN:=lH fun k=>txtQ_len r hok k
 have HHD:=lH (show txtQ r 0=Rul.headT r++(if r.no then [32,33,61] else [32,61]) from rfl)
 have HHT:=lH (show Rul.headT r=if r.mod=0 then [r.op] else [r.op]++ [32,37,32]++Rul.dg r.mod from rfl)
 have HRK:=lH hrk
 have hml:=Rul.dg_len hm1
 generalize Rul.relT r=RT at*
 generalize txtQ r=TX at*
 generalize Rul.headT r=HT at*
 obtain⟨op,mod,no,rs⟩:=r
 dsimp only at*
 obtain⟨A,cap,e,hm,hcell⟩:=hs.spread
 injection e with e1 e2 e3
 subst e1 e2 e3
 have HC:=lH hcell
 obtain⟨n,hn⟩: ∃n,rs.length=n:=⟨_,rfl⟩
 rw[hn] at hm hl HALL HLEN⊢
 have HN:=lH hn
 unfold maxLen at hm
 have W1:=lH (bA w (.cells #[.int .u8 (op.toNat:Int),.int .i64 mod,.bool no,.slice a n c] 143))
 have B1:=lH (Boxed.made w #[.int .u8 (op.toNat:Int),.int .i64 mod,.bool no,.slice a n c] 143)
 have CD:=lH fun (w:World)=>digits_none mod w hm0 (by omega)
 clear hs hcell hn hrk hne hok hop
 have CV:=conv_one (P:= Tryz.prog) 72 9 5 Tryz.underlying72 Tryz.underlying5 Tryz.underlying9 (op.toNat:Int) (w.alloc (.cells #[.int .u8 (op.toNat:Int),.int .i64 mod,.bool no,.slice a n c] 143)) (by omega) (by have:=op.toNat_lt;omega)
 rw[show UInt8.ofNat (op.toNat:Int).toNat=op by simp,World.size_alloc] at CV
 have hw2: ∃w2,(w.alloc (.cells #[.int .u8 (op.toNat:Int),.int .i64 mod,.bool no,.slice a n c] 143)).alloc (.cells #[.int .u8 (op.toNat:Int)] 5)=w2:=⟨_,rfl⟩
 obtain⟨w2,hw2⟩:=hw2
 rw[hw2] at CV
 have W2:=lH (show Below w.heap.size w w2 by rw[←hw2];exact W1.out.alloc W1.out.size _)
 have B2:=lH (show Boxed w2 w.heap.size _ by rw[←hw2];exact B1.out.alloc _)
 clear W1 B1
 have x1:=B2.out.cell 1 _ rfl
 have x2:=B2.out.cell 2 _ rfl
 have xl:=B2.out.lt
 go_enter Tryz.func209,Tryz.ntmps209
 obtain⟨TT,hTT⟩: ∃TT,TX 0=TT:=⟨_,rfl⟩
 have HTT:=lH hTT
 go_upto_if 11 with fail
 clear CV hw2
 go_cut [3] from 11 (fun s wx=>s= .string ⟨HT.toArray⟩∧Hid (Boxed wx w.heap.size #[.int .u8 (op.toNat:Int),.int .i64 mod,.bool no,.slice a n c])∧Hid (Below w.heap.size w wx))
 case first=>
  by_cases hz:mod=0
  ·have d0:decide (0<mod)=false:=dec_no (by omega)
   have hh:=HHT.out
   rw[if_pos hz] at hh
   subst hh
   go_wp2_with fail
   go_meet
   exact⟨rfl,B2,W2⟩
  ·have hmp:0<mod:=by omega
   have d0:decide (0<mod)=true:=dec_yes hmp
   have hh:=HHT.out
   rw[if_neg hz] at hh
   have ml:(Rul.dg mod).length≤7:=hml
   obtain⟨Y1,hY1⟩: ∃Y1,Y1= [op]++ [32,37,32]:=⟨_,rfl⟩
   obtain⟨DG,hDG⟩: ∃DG,Rul.dg mod=DG:=⟨_,rfl⟩
   have CD2:Hid (∀w:World,Calls Tryz.prog 25 #[.int .i64 mod,.int .i64 0] w fun e w'=>e= .returned (.string ⟨DG.toArray⟩)∧Below w.heap.size w w'):=lH fun w=>hDG▸CD.out w
   rw[hDG] at hh ml
   have A1: ∀w,(Op.stringOp .add ⟨[op].toArray⟩ ⟨#[32,37,32]⟩).run Tryz.prog w= .ok (.string ⟨Y1.toArray⟩) w:=fun w=>by rw[hY1];exact add_str (P:= Tryz.prog) [op] [32,37,32] (by simp) w
   have A2: ∀w,(Op.stringOp .add ⟨Y1.toArray⟩ ⟨DG.toArray⟩).run Tryz.prog w= .ok (.string ⟨HT.toArray⟩) w:=fun w=>by rw[hh,←hY1];exact add_str (P:= Tryz.prog) Y1 DG (by rw[hY1];simp;omega) w
   clear hY1 hh hDG hz CD
   go_wp2_with fail
   refine(CD2.out _).mono ?_
   rintro e w3 ⟨rfl,hb⟩
   have W3:=lH (bT W2.out hb)
   have B3:=lH (B2.out.below hb)
   clear hb CD2
   go_wp2_with fail
   go_meet
   exact⟨rfl,B3,W3⟩
 case rest=>
  obtain⟨rfl,B4,W4⟩:=hcut
  clear CD B2 W2 x1 x2 xl
  have x2:=B4.out.cell 2 _ rfl
  have xl:=B4.out.lt
  have hlen0:=HLEN.out 0
  have hhd:=HHD.out
  go_upto_if 19 with fail
  go_cut [3] from 19 (fun s wx=>s= .string ⟨TT.toArray⟩∧wx=wc)
  case first=>
   have hHTl:HT.length≤100000001*18:=by
    have h:=hlen0
    rw[hhd,List.length_append] at h
    omega
   cases no with
   |true=>
    have A3: ∀w,(Op.stringOp .add ⟨HT.toArray⟩ ⟨#[32,33,61]⟩).run Tryz.prog w= .ok (.string ⟨TT.toArray⟩) w:=fun w=>by rw[←HTT.out,hhd];exact add_str (P:= Tryz.prog) HT [32,33,61] (by first|omega|(simp;omega)) w
    go_wp2_with fail
    go_meet
    exact⟨rfl,rfl⟩
   |false=>
    have A3: ∀w,(Op.stringOp .add ⟨HT.toArray⟩ ⟨#[32,61]⟩).run Tryz.prog w= .ok (.string ⟨TT.toArray⟩) w:=fun w=>by rw[←HTT.out,hhd];exact add_str (P:= Tryz.prog) HT [32,61] (by first|omega|(simp;omega)) w
    go_wp2_with fail
    go_meet
    exact⟨rfl,rfl⟩
  case rest=>
   obtain⟨rfl,rfl⟩:=hcut
   clear hlen0 hhd HHD HHT x2 xl
   go_wp2_with fail
   go_loopw [3,4] (fun s i wr=> ∃k:Nat,i= .int .i64 k∧k≤n∧s= .string ⟨(TX k).toArray⟩∧Hid (Below w.heap.size w wr)∧Hid (Boxed wr w.heap.size #[.int .u8 (op.toNat:Int),.int .i64 mod,.bool no,.slice a n c])) (fun _ i _=>n-(intOf i).toNat)
   case atStart=>exact⟨0,rfl,Nat.zero_le _,by rw[HTT.out],W4,B4⟩
   case round=>
    obtain⟨k,rfl,hk,rfl,HD,HB⟩:=hrel
    have b3o:=HB.out.cell 3 _ rfl
    have blo:=HB.out.lt
    by_cases hlt:k<n
    ·obtain⟨x,hx⟩: ∃x,rs[k]?=some x:=⟨rs[k]'(by have:=HN.out;omega),List.getElem?_eq_getElem (by have:=HN.out;omega)⟩
     obtain⟨b,off,rfl,hx0,hx1⟩:=HC.out k x hx
     have HX:=lH (show ∀wx,Below w.heap.size w wx→wx.cell? ⟨b,off+k*2,none⟩=some (.int .i64 x.1)∧wx.cell? ⟨b,off+k*2+1,none⟩=some (.int .i64 x.2) from fun wx hb=>⟨cK hx0 hb,cK hx1 hb⟩)
     have x0o:=(HX.out wr HD.out).1
     have x1o:=(HX.out wr HD.out).2
     have HST:=lH (HSTEP.out k x hx)
     have hrg:=HRK.out x (List.mem_of_getElem? hx)
     have lp:=HLEN.out k
     have hrg':=hrg
     simp only[Rul.rngOk,Bool.and_eq_true,decide_eq_true_eq] at hrg'
     have HRT:=lH (show Rul.rngT x=if x.1=x.2 then Rul.dg x.1 else Rul.dg x.1++ [46,46]++Rul.dg x.2 from rfl)
     have la:=Rul.dg_len (v:=x.1) (by omega)
     have lb:=Rul.dg_len (v:=x.2) (by omega)
     have CA:Hid (∀w:World,Calls Tryz.prog 25 #[.int .i64 x.1,.int .i64 0] w fun e w'=>e= .returned (.string ⟨(Rul.dg x.1).toArray⟩)∧Below w.heap.size w w'):=lH fun w=>digits_none x.1 w (by omega) (by omega)
     have CB:Hid (∀w:World,Calls Tryz.prog 25 #[.int .i64 x.2,.int .i64 0] w fun e w'=>e= .returned (.string ⟨(Rul.dg x.2).toArray⟩)∧Below w.heap.size w w'):=lH fun w=>digits_none x.2 w (by omega) (by omega)
     generalize Rul.rngT x=RX at*
     obtain⟨p,q⟩:=x
     dsimp only at*
     generalize Rul.dg p=DA at*
     generalize Rul.dg q=DB at*
     obtain⟨TN,hTN⟩: ∃TN,TX (k+1)=TN:=⟨_,rfl⟩
     have HTN:=lH hTN
     obtain⟨P0,hP0⟩: ∃P0,TX k=P0:=⟨_,rfl⟩
     rw[hP0] at HST lp⊢
     clear hx hx0 hx1 hrg hTN hP0
     have k0:(0:Int)≤(k:Int):=by omega
     have k1:(k:Int)<(n:Int):=by omega
     have hpq':p≤q:=by omega
     clear hrg'
     by_cases hk0:k=0
     ·have HX2:=lH (show ∀wx,Below w.heap.size w wx→wx.cell? ⟨b,off,none⟩=some (.int .i64 p)∧wx.cell? ⟨b,off+1,none⟩=some (.int .i64 q) from fun wx hb=>by have h:=HX.out wx hb;rw[hk0] at h;simpa using h)
      rw[if_pos hk0] at HST
      subst hk0
      replace HX:=HX2
      clear HX2
      replace x0o:=(HX.out wr HD.out).1
      replace x1o:=(HX.out wr HD.out).2
      have kz:(((0:Nat):Int)==0)=true:=rfl
      obtain⟨Y1,hY1⟩: ∃Y1,Y1=P0++ [32]:=⟨_,rfl⟩
      have l1:Y1.length=P0.length+1:=by rw[hY1];simp
      have A1: ∀w,(Op.stringOp .add ⟨P0.toArray⟩ ⟨#[32]⟩).run Tryz.prog w= .ok (.string ⟨Y1.toArray⟩) w:=fun w=>by rw[hY1];exact add_str (P:= Tryz.prog) P0 [32] (by first|omega|(simp;omega)) w
      obtain⟨Y2,hY2⟩: ∃Y2,Y2=Y1++DA:=⟨_,rfl⟩
      have l2:Y2.length=Y1.length+DA.length:=by rw[hY2];simp
      have A2: ∀w,(Op.stringOp .add ⟨Y1.toArray⟩ ⟨DA.toArray⟩).run Tryz.prog w= .ok (.string ⟨Y2.toArray⟩) w:=fun w=>by rw[hY2];exact add_str (P:= Tryz.prog) Y1 DA (by first|omega|(simp;omega)) w
      have HY:Hid (Y2=P0++ [32]++DA):=lH (by rw[hY2,hY1])
      have hst:=HST.out
      have HS2:=lH hst
      clear hY1 hY2 hst
      go_wp2_with fail
      refine(CA.out _).mono ?_
      rintro e w5 ⟨rfl,hb⟩
      have W5:=lH (bT HD.out hb)
      have B5:=lH (HB.out.below hb)
      have b3:=B5.out.cell 3 _ rfl
      have bl:=B5.out.lt
      have x0:=(HX.out w5 W5.out).1
      have x1:=(HX.out w5 W5.out).2
      clear hb CA A1 b3o blo x0o x1o
      by_cases hpq:p=q
      ·subst hpq
       have dpq:decide (p<p)=false:=dec_no (by omega)
       obtain rfl:TN=Y2:=by rw[←HTN.out,HS2.out,HY.out,HRT.out,if_pos rfl]
       go_wp2_with fail
       go_region
       go_wp2_with fail
       go_roundw
       case rel=>exact⟨0+1,by go_num,by omega,by rw[HTN.out],lH (Below.drew W5.out),lH B5.out.drew⟩
       case measure=>simp[intOf];omega
      ·have dpq:decide (p<q)=true:=dec_yes (by omega)
       obtain⟨Y3,hY3⟩: ∃Y3,Y3=Y2++ [46,46]:=⟨_,rfl⟩
       have l3:Y3.length=Y2.length+2:=by rw[hY3];simp
       have A3: ∀w,(Op.stringOp .add ⟨Y2.toArray⟩ ⟨#[46,46]⟩).run Tryz.prog w= .ok (.string ⟨Y3.toArray⟩) w:=fun w=>by rw[hY3];exact add_str (P:= Tryz.prog) Y2 [46,46] (by first|omega|(simp;omega)) w
       have hTN:TN=Y3++DB:=by rw[←HTN.out,HS2.out,hY3,HY.out,HRT.out,if_neg hpq];simp only[List.append_assoc]
       have A4: ∀w,(Op.stringOp .add ⟨Y3.toArray⟩ ⟨DB.toArray⟩).run Tryz.prog w= .ok (.string ⟨TN.toArray⟩) w:=fun w=>by rw[hTN];exact add_str (P:= Tryz.prog) Y3 DB (by first|omega|(simp;omega)) w
       have HTN2:=lH HTN.out
       clear hY3 hTN
       go_wp2_with fail
       go_region
       go_wp2_with fail
       refine(CB.out _).mono ?_
       rintro e w6 ⟨rfl,hb⟩
       have W6:=lH (bT (Below.drew W5.out) hb)
       have B6:=lH (B5.out.drew.below hb)
       clear hb CB A3
       go_wp2_with fail
       go_roundw
       case rel=>exact⟨0+1,by go_num,by omega,by rw[HTN2.out],W6,B6⟩
       case measure=>simp[intOf];omega
     ·have kz:((k:Int)==0)=false:=beq_no (by omega)
      obtain⟨Y1,hY1⟩: ∃Y1,Y1=P0++ [44]:=⟨_,rfl⟩
      have l1:Y1.length=P0.length+1:=by rw[hY1];simp
      have A1: ∀w,(Op.stringOp .add ⟨P0.toArray⟩ ⟨#[44]⟩).run Tryz.prog w= .ok (.string ⟨Y1.toArray⟩) w:=fun w=>by rw[hY1];exact add_str (P:= Tryz.prog) P0 [44] (by first|omega|(simp;omega)) w
      obtain⟨Y2,hY2⟩: ∃Y2,Y2=Y1++DA:=⟨_,rfl⟩
      have l2:Y2.length=Y1.length+DA.length:=by rw[hY2];simp
      have A2: ∀w,(Op.stringOp .add ⟨Y1.toArray⟩ ⟨DA.toArray⟩).run Tryz.prog w= .ok (.string ⟨Y2.toArray⟩) w:=fun w=>by rw[hY2];exact add_str (P:= Tryz.prog) Y1 DA (by first|omega|(simp;omega)) w
      have HY:Hid (Y2=P0++ [44]++DA):=lH (by rw[hY2,hY1])
      have hst:=HST.out
      rw[if_neg hk0] at hst
      have HS2:=lH hst
      clear hY1 hY2 hst
      go_wp2_with fail
      refine(CA.out _).mono ?_
      rintro e w5 ⟨rfl,hb⟩
      have W5:=lH (bT HD.out hb)
      have B5:=lH (HB.out.below hb)
      have b3:=B5.out.cell 3 _ rfl
      have bl:=B5.out.lt
      have x0:=(HX.out w5 W5.out).1
      have x1:=(HX.out w5 W5.out).2
      clear hb CA A1 b3o blo x0o x1o
      by_cases hpq:p=q
      ·subst hpq
       have dpq:decide (p<p)=false:=dec_no (by omega)
       obtain rfl:TN=Y2:=by rw[←HTN.out,HS2.out,HY.out,HRT.out,if_pos rfl]
       go_wp2_with fail
       go_region
       go_wp2_with fail
       go_roundw
       case rel=>exact⟨k+1,by go_num,by omega,by rw[HTN.out],lH (Below.drew W5.out),lH B5.out.drew⟩
       case measure=>simp[intOf];omega
      ·have dpq:decide (p<q)=true:=dec_yes (by omega)
       obtain⟨Y3,hY3⟩: ∃Y3,Y3=Y2++ [46,46]:=⟨_,rfl⟩
       have l3:Y3.length=Y2.length+2:=by rw[hY3];simp
       have A3: ∀w,(Op.stringOp .add ⟨Y2.toArray⟩ ⟨#[46,46]⟩).run Tryz.prog w= .ok (.string ⟨Y3.toArray⟩) w:=fun w=>by rw[hY3];exact add_str (P:= Tryz.prog) Y2 [46,46] (by first|omega|(simp;omega)) w
       have hTN:TN=Y3++DB:=by rw[←HTN.out,HS2.out,hY3,HY.out,HRT.out,if_neg hpq];simp only[List.append_assoc]
       have A4: ∀w,(Op.stringOp .add ⟨Y3.toArray⟩ ⟨DB.toArray⟩).run Tryz.prog w= .ok (.string ⟨TN.toArray⟩) w:=fun w=>by rw[hTN];exact add_str (P:= Tryz.prog) Y3 DB (by first|omega|(simp;omega)) w
       have HTN2:=lH HTN.out
       clear hY3 hTN
       go_wp2_with fail
       go_region
       go_wp2_with fail
       refine(CB.out _).mono ?_
       rintro e w6 ⟨rfl,hb⟩
       have W6:=lH (bT (Below.drew W5.out) hb)
       have B6:=lH (B5.out.drew.below hb)
       clear hb CB A3
       go_wp2_with fail
       go_roundw
       case rel=>exact⟨k+1,by go_num,by omega,by rw[HTN2.out],W6,B6⟩
       case measure=>simp[intOf];omega
    ·have e:k=n:=by omega
     subst e
     rw[HALL.out]
     go_wp2_with fail
     go_ret
     exact⟨rfl,HD.out⟩
open Go.RowKit

set_option maxHeartbeats 1000000 in
theorem joined_any (l:List (List UInt8)) (v:Value) (sep:List UInt8) (w:World) (h:StrsAt w v l) (hn:l.length≤2000000000000) (ht:Lst.total l sep≤2000000000000) (hs:sep.length≤2000000000000):
  Calls Tryz.prog 210 #[v,.string ⟨sep.toArray⟩] w fun e w'=>e= .returned (.string ⟨(Lib.join l sep).toArray⟩)∧w=w':=by
 rcases h with⟨rfl,a,cap,rfl⟩|⟨b,off,cap,rfl,h0,hc,hm,hcell⟩
 ·go_enter Tryz.func210,Tryz.ntmps210
  go_wp2_with fail
  refine wp_loop_rounds 1 ?_
  rw[rounds_succ]
  go_wp2_with fail
  go_ret
  exact⟨rfl,rfl⟩
 ·have HC:=lH hcell
  have UL:=lH (Lst.upto_le l sep)
  have Z:=lH (Lst.upto_zero l sep)
  have E:=lH (Lst.upto_all l sep)
  clear hcell
  unfold maxLen at hm
  go_enter Tryz.func210,Tryz.ntmps210
  go_wp2_with fail
  go_loop [5,6] (fun s i=> ∃k:Nat,k≤l.length∧i= .int .i64 k∧s= .string ⟨(Lst.upto l sep k).toArray⟩) (fun _ i=>l.length-(intOf i).toNat)
  case atStart=>exact⟨0,Nat.zero_le _,rfl,by rw[Z.out]⟩
  case round=>
   obtain⟨k,hk,rfl,rfl⟩:=hrel
   have hu:=UL.out k
   by_cases hlt:k<l.length
   ·obtain⟨x,hx⟩: ∃x,l[k]?=some x:=⟨_,List.getElem?_eq_getElem hlt⟩
    have hxl:=Nat.le_trans (Lst.lens_at l k x hx) (show Lib.lens l≤2000000000000 by unfold Lst.total at ht;omega)
    have hcell:=HC.out k x hx
    have U2:=UL.out (k+1)
    by_cases hk0:0<k
    ·have US:=lH (Lst.upto_succ l sep x k hk0 hx)
     have A1:=fun w=>add_str (P:= Tryz.prog) (Lst.upto l sep k) sep (by omega) w
     have A2:=fun w=>add_str (P:= Tryz.prog) (Lst.upto l sep k++sep) x (by rw[List.length_append];omega) w
     clear hx U2
     go_wp2_with fail
     go_round
     case rel=>exact⟨k+1,by omega,by go_num,by rw[US.out,List.append_assoc]⟩
     case measure=>simp[intOf];omega
    ·have hk1:k=0:=by omega
     subst hk1
     have US:=lH (Lst.upto_one l sep x hx)
     have Z':=Z.out
     simp only[Nat.add_zero] at hcell
     have A1:=fun w=>add_str (P:= Tryz.prog) [] x (by simp;omega) w
     clear hx U2
     rw[Z']
     go_wp2_with fail
     go_round
     case rel=>exact⟨1,by omega,by go_num,by rw[US.out]⟩
     case measure=>simp[intOf]<;>omega
   ·have e:l.length≤k:=by omega
    have EE:=lH (E.out k e)
    go_wp2_with fail
    go_ret
    exact⟨ret_str (by rw[EE.out]),rfl⟩

end Go.Proofs.YtldbfkccieipjaaGreatDoor
