/- The walk of rule.related: a relation's text. Conditions: the relation is sound and lies in memory as it says; the library's table of powers is laid. -/
import Derived.Test.YtldbfkccieipjaaGreatDoorEf8
import Derived.Test.YtldbfkccieipjaaGreatDoorEf4
import Derived.Test.YtldbfkccieipjaaGreatDoorEf0
import Derived.Test.YtldbfkccieipjaaGreatDoorShelfC
import Derived.Deep.DeepCutAuto
import Derived.Deep.CutRange
import Derived.Sort.CutIn
import Derived.Maps.AppendAt
import Derived.Test.YtldbfkccieipjaaGreatDoorEf7
import Derived.Test.YtldbfkccieipjaaGreatDoorEf5
import Derived.Test.YtldbfkccieipjaaGreatDoorShelfG
import Derived.Test.YtldbfkccieipjaaGreatDoorEf6
import Derived.Test.YtldbfkccieipjaaGreatDoorProg
import Derived.OwnWalk
import Derived.LoopTactic
import Derived.Lib.Walk
import Derived.WalkKit
import Derived.Shelf.Abstract
import Derived.Deep.LoopGhost
import Derived.Deep.Draws
namespace Go.Proofs.YtldbfkccieipjaaGreatDoor
set_option maxRecDepth 100000
open Go.RowKit Go.Shelf

theorem scut_any (t s:List UInt8) (w:World) (hM:MaxW w) (ht:t.length≤4000000000):
  Calls Tryz.prog 97 #[.string ⟨t.toArray⟩,.string ⟨s.toArray⟩] w fun e w'=>e= .returned (.tuple #[.string ⟨(Lib.cut t s).1.toArray⟩,.string ⟨(Lib.cut t s).2.1.toArray⟩,.bool (Lib.cut t s).2.2])∧Below w.heap.size w w':=by
 obtain⟨m,hm⟩:=hM
 refine(Tryz.strings_Cut ⟨t.toArray⟩ ⟨s.toArray⟩ m w (by rw[size_mkl];omega) hm).mono ?_
 rintro e w' ⟨rfl,n,rfl⟩
 exact⟨rfl,blw_drewN (Below.refl _ _) n⟩
theorem cut_lens (t s:List UInt8):(Lib.cut t s).1.length≤t.length∧(Lib.cut t s).2.1.length≤t.length:=by
 unfold Lib.cut
 split
 ·simp only[List.length_take,List.length_drop];omega
 ·simp

attribute [local go_sem] Oper.semAt_some

theorem infoRng:(Tryz.prog.info? 176).map (fun i=>(i.zero,i.size,i.bytes))=some (some (.agg #[.int .i64 0,.int .i64 0]),2,16):=by kernel_rfl
theorem piece_len (sub:List UInt8): ∀(k:Nat) (s x:List UInt8),x∈Lib.splitK sub 0 k s→x.length≤s.length:=by
 intro k
 induction k with
 |zero=>intro s x hx;simp[Lib.splitK] at hx;rw[hx];omega
 |succ k ih=>
  intro s x hx
  unfold Lib.splitK at hx
  split at hx
  ·simp at hx;rw[hx];omega
  ·rcases List.mem_cons.1 hx with rfl|hx
   ·simp;omega
   ·have:=ih _ x hx
    simp at this;omega
theorem piece_le {s sub x:List UInt8} (hx:x∈Lib.split s sub):x.length≤s.length:=piece_len sub _ s x hx
theorem set_else {w:World} {a:Addr} {v:Value} {k:Nat} (h:a.block≠k):(w.setCell a v).heap[k]?=w.heap[k]?:=
 Below.heap_setCell _ _ _ k (by first|exact h|exact h.symm)
/-- the cells of ranges -/
def rflat (l:List (List UInt8)):List Value:=l.flatMap fun x=> [.int .i64 (Rul.rngP x).1,.int .i64 (Rul.rngP x).2]
theorem rflat_at {l:List (List UInt8)}: ∀{j:Nat} {x:List UInt8},l[j]?=some x→(rflat l)[j*2]?=some (.int .i64 (Rul.rngP x).1)∧(rflat l)[j*2+1]?=some (.int .i64 (Rul.rngP x).2):=by
 induction l with
 |nil=>intro j x h;simp at h
 |cons a l ih=>
  intro j x h
  cases j with
  |zero=>simp at h;subst h;exact⟨rfl,rfl⟩
  |succ j=>
   have h':=ih (by simpa using h)
   have e:(j+1)*2=j*2+1+1:=by omega
   rw[e]
   exact h'
/-- the round's world: the box of the relation, the row of its ranges -/
structure PX (w:World) (B p:Nat) (o m b vb vr:Value) (pre:List (List UInt8)) (W:World):Prop where
 box:Boxed W p #[o,m,b,vb]
 row:W.ownsRow B 176 2 vr pre.length (rflat pre)
 res:Boxed W w.heap.size #[.int .u8 0,.int .i64 0,.bool false,.slice none 0 0]
 low:Below w.heap.size w W
 sz:B≤W.heap.size
theorem boxed_grown {A C:World} {r:Option Nat} {p:Nat} {vs:Array Value} (h:Boxed A p vs) (g:A.grownBy C r) (hr:some p≠r):Boxed C p vs:=
 ⟨Nat.lt_of_lt_of_le h.lt g.size,fun j v hv=>g.cell (h.cell j v hv) hr,fun j hj=>(World.frozen?_of_block (g.block p h.lt hr)).trans (h.free j hj)⟩
theorem PX.grown {w:World} {B p:Nat} {o m b vb vr:Value} {pre:List (List UInt8)} {A C:World} {r:Option Nat} (h:PX w B p o m b vb vr pre A) (g:A.grownBy C r)
  (hr: ∀k,r=some k→w.heap.size<k∧k≠p∧vr.ownBlock≠some k):PX w B p o m b vb vr pre C:=
 ⟨boxed_grown h.box g (fun e=>(hr _ e.symm).2.1 rfl),h.row.kept g (by
   cases hv:vr.ownBlock with
   |none=>exact .inl rfl
   |some k=>exact .inr fun e=>(hr k e.symm).2.2 hv),boxed_grown h.res g (fun e=>by have:=(hr _ e.symm).1;omega),
  h.low.grown g h.low.size (fun k hk=>by have:=(hr k hk).1;omega),Nat.le_trans h.sz g.size⟩

theorem PX.lies {w:World} {B p:Nat} {o m b vb vr:Value} {pre:List (List UInt8)} {A C:World} (h:PX w B p o m b vb vr pre A)
  (hC: ∀(g:Nat) cur e,B≤g→A.heap[g]?=some (.cells cur e (0,0))→C.heap[g]?=A.heap[g]?):SlAt 2 RngC C vr (pre.map Rul.rngP):=by
 rcases hv:h.row.2 with⟨rfl,hn⟩|⟨g,cap,cur,rfl,hB,hg,hc,hm,_⟩
 ·exact .inl ⟨by rw[List.length_eq_zero_iff.1 hn];rfl,_,_,rfl⟩
 ·by_cases h0:pre.length=0
  ·exact .inl ⟨by rw[List.length_eq_zero_iff.1 h0];rfl,some ⟨g,0,none⟩,cap,by rw[h0]⟩
  ·have hgC:=hC g cur _ hB hg
   refine .inr ⟨g,0,cap,by rw[List.length_map],by rw[List.length_map];omega,by rw[List.length_map];exact hc,hm,fun j x hx=>?_⟩
   rw[List.getElem?_map] at hx
   obtain⟨y,hy,rfl⟩:=Option.map_eq_some_iff.1 hx
   have hj:j<pre.length:=(List.getElem?_eq_some_iff.1 hy).1
   obtain⟨e0,e1⟩:=rflat_at hy
   have c0:=h.row.cellAt (g:=g) (j*2) (by omega)
   have c1:=h.row.cellAt (g:=g) (j*2+1) (by omega)
   rw[e0] at c0
   rw[e1] at c1
   rw[Nat.zero_add]
   exact⟨(World.cell?_of_block (a:=⟨g,j*2,none⟩) hgC).trans c0,(World.cell?_of_block (a:=⟨g,j*2+1,none⟩) hgC).trans c1⟩

theorem row_some {w:World} {base n k:Nat} {e:TypeId} {v:Value} {xs:List Value} (h:w.ownsRow base e k v n xs) (hn:0<n): ∃g cap,v= .slice (some ⟨g,0,none⟩) n cap:=by
 obtain⟨_,⟨rfl,rfl⟩|⟨g,cap,cur,rfl,_⟩⟩:=h
 ·omega
 ·exact⟨_,_,rfl⟩
theorem boxed_add {W:World} {q:Nat} {l:List Value} (h:Boxed W q l.toArray): ∀j u,l[j]?=some u→W.cell? ((⟨q,0,none⟩:Addr).add j)=some u:=by
 intro j u hj
 have c:=h.cell j u (by simpa using hj)
 cases j with
 |zero=>simpa[Addr.add] using c
 |succ j=>simpa[Addr.add] using c
/-- number i or number j may come up -/
theorem take_two {P:Program} {l:List Oper} {Q:Exit→Act→World→Prop} {md:Region.Mode} {S:World→Prop} {oi oj:Oper} {fuel:Nat} {listed:Array Bool} {a:Act} {w:World} (i j:Nat) (hi:l[i]?=some oi) (hj:l[j]?=some oj) (hr:Region.ready md l.toArray listed= [i,j])
  (hwi:Region.wanted oi (yielded l.toArray a.tmps)=true) (hwj:Region.wanted oj (yielded l.toArray a.tmps)=true)
  (h1: ∀K':Act→World→Prop,Shut (∀a w,S w→(S w→wpAnyH P md l.toArray Q S fuel (listed.setIfInBounds i true) a w)→K' a w)→Oper.wp P oi a w K' Q)
  (h2: ∀K':Act→World→Prop,Shut (∀a w,S w→(S w→wpAnyH P md l.toArray Q S fuel (listed.setIfInBounds j true) a w)→K' a w)→Oper.wp P oj a w K' Q):wpAnyH P md l.toArray Q S (fuel+1) listed a w:=
 wpAnyH_ready hr (by simp) (AllReadyH.cons (by simpa using hi) (fun K' hK=>by rw[if_pos hwi];exact h1 K' hK) (AllReadyH.cons (by simpa using hj) (fun K' hK=>by rw[if_pos hwj];exact h2 K' hK) AllReadyH.nil))
/-- the round's world, and what the round keeps of its start -/
structure PL (w:World) (B p bp bs bv:Nat) (o m b vb vr:Value) (pre:List (List UInt8)) (W0 W:World):Prop where
 px:PX w B p o m b vb vr pre W
 kf:KeepsFrom B W0 W
 kp:KpS w.heap.size bp bs bv W0 W
theorem PL.start {w:World} {B p bp bs bv:Nat} {o m b vb vr:Value} {pre:List (List UInt8)} {W:World} (h:PX w B p o m b vb vr pre W):PL w B p bp bs bv o m b vb vr pre W W:=
 ⟨h,KeepsFrom.refl _ _,⟨Below.refl _ _,rfl,rfl,rfl⟩⟩
theorem PL.below {w:World} {B p bp bs bv:Nat} {o m b vb vr:Value} {pre:List (List UInt8)} {W0 A C:World} (h:PL w B p bp bs bv o m b vb vr pre W0 A) (hb:Below A.heap.size A C)
  (h1:bp<B∧bs<B∧bv<B):PL w B p bp bs bv o m b vb vr pre W0 C:=
 have s:=h.px.sz
 have g:A.grownBy C none:=⟨hb.os,hb.tape,hb.output,hb.size,fun k hk _=>hb.block k hk⟩
 ⟨h.px.grown g (fun k e=>by cases e),h.kf.trans (KeepsFrom.of_grownBy g (fun j e=>by cases e)),
  h.kp.trans ⟨hb.mono h.px.low.size,hb.block _ (by omega),hb.block _ (by omega),hb.block _ (by omega)⟩⟩
theorem PL.append {w:World} {B p bp bs bv:Nat} {o m b vb vr v':Value} {pre:List (List UInt8)} {x:List UInt8} {W0 A C:World} (h:PL w B p bp bs bv o m b vb vr pre W0 A)
  (hown:C.ownsRow B 176 2 v' (pre.length+1) (rflat pre++ [.int .i64 (Rul.rngP x).1,.int .i64 (Rul.rngP x).2])) (g:A.grownBy C vr.ownBlock) (hw:w.heap.size<B) (hp:p<B)
  (h1:bp<B∧bs<B∧bv<B):PL w B p bp bs bv o m b vb v' (pre++ [x]) W0 C:=by
 have hB: ∀k,vr.ownBlock=some k→B≤k:=fun k hk=>(h.px.row.lt k hk).1
 have s:=h.px.sz
 have keep: ∀k,k<B→C.heap[k]?=A.heap[k]?:=fun k hk=>g.block k (by omega) (fun e=>by have:=hB k e.symm;omega)
 refine⟨⟨boxed_grown h.px.box g (fun e=>by have:=hB _ e.symm;omega),?_,boxed_grown h.px.res g (fun e=>by have:=hB _ e.symm;omega),
  h.px.low.grown g h.px.low.size (fun k hk=>by have:=hB _ hk;omega),Nat.le_trans h.px.sz g.size⟩,h.kf.trans ⟨g.size,fun k ob hk hA hc=>?_⟩,
  h.kp.trans ⟨⟨g.os,g.tape,g.output,g.size,fun k hk=>keep k (by omega)⟩,keep _ h1.1,keep _ h1.2.1,keep _ h1.2.2⟩⟩
 ·have e:rflat (pre++ [x])=rflat pre++ [.int .i64 (Rul.rngP x).1,.int .i64 (Rul.rngP x).2]:=by unfold rflat;rw[List.flatMap_append];rfl
  rw[e,List.length_append]
  exact hown
 ·refine(g.block k (Array.getElem?_eq_some_iff.1 hA).1 (fun e=>?_)).trans hA
  rcases h.px.row.2 with⟨rfl,_⟩|⟨g',cap,cur,rfl,_,hg',_⟩
  ·cases e
  ·injection e with e
   subst e
   rw[hA] at hg'
   injection hg' with hg'
   subst hg'
   cases hc
theorem PL.stored {w:World} {B p bp bs bv:Nat} {o m b vb vr:Value} {pre:List (List UInt8)} {W0 A:World} (h:PL w B p bp bs bv o m b vb vr pre W0 A) (hw:w.heap.size<p) (hp:p<B)
  (hne:p≠bp∧p≠bs∧p≠bv):PL w B p bp bs bv o m b vr vr pre W0 (A.setCell ⟨p,3,none⟩ vr):=by
 have g:A.grownBy (A.setCell ⟨p,3,none⟩ vr) (some p):=⟨rfl,rfl,rfl,by rw[size_setCell];exact Nat.le_refl _,fun k _ hk=>set_else (fun e=>hk (by rw[←e]))⟩
 have keep: ∀k,p≠k→(A.setCell ⟨p,3,none⟩ vr).heap[k]?=A.heap[k]?:=fun k hk=>set_else hk
 refine⟨⟨h.px.box.set 3 vr (by show 3<4;omega),h.px.row.kept g ?_,h.px.res.far (by omega) 3 vr,h.px.low.setCell (p:=⟨p,3,none⟩) (show w.heap.size≤p by omega) vr,by rw[size_setCell];exact h.px.sz⟩,
  h.kf.trans (KeepsFrom.of_grownBy g (fun j e=>by injection e with e;omega)),
  h.kp.trans ⟨(Below.refl _ _).setCell (p:=⟨p,3,none⟩) (show w.heap.size≤p by omega) vr,keep _ hne.1,keep _ hne.2.1,keep _ hne.2.2⟩⟩
 cases hv:vr.ownBlock with
 |none=>exact .inl rfl
 |some k=>exact .inr fun e=>by have:=h.px.row.lt k hv;injection e with e;omega

set_option maxHeartbeats 8000000 in
theorem parsed_any (t:List UInt8) (w:World) (hM:MaxW w) (hN:NumW w) (ht:t.length≤4000000000):
  Calls Tryz.prog 69 #[.string ⟨t.toArray⟩] w fun e w'=> ∃v,e= .returned (.agg #[.int .u8 ((Rul.relP t).op.toNat:Int),.int .i64 (Rul.relP t).mod,.bool (Rul.relP t).no,v])∧SlAt 2 RngC w' v (Rul.relP t).rs∧(∀b,v.ownBlock=some b→w.heap.size≤b)∧Below w.heap.size w w':=by
 have C1:=Lib.hid fun w hM=>scut_any t [32,61,32] w hM ht
 have C2:=Lib.hid fun w hM=>scut_any t [32,33,61,32] w hM ht
 have l1:=cut_lens t Rul.eqS
 have l2:=cut_lens t Rul.neS
 obtain⟨hh,hhh⟩: ∃hh,hh=(Rul.hd t).1:=⟨_,rfl⟩
 obtain⟨tl,htl⟩: ∃tl,tl=(Rul.hd t).2:=⟨_,rfl⟩
 have eop:(Rul.relP t).op=Rul.opP (Lib.cut hh Rul.pcS).1:=by rw[hhh];rfl
 have emd:(Rul.relP t).mod=if (Lib.cut hh Rul.pcS).2.2 then Rul.num (Lib.cut hh Rul.pcS).2.1 else 0:=by rw[hhh];rfl
 have eno:(Rul.relP t).no=!(Lib.cut t Rul.eqS).2.2:=rfl
 have ers:(Rul.relP t).rs=(Lib.split tl [44]).map Rul.rngP:=by rw[htl];rfl
 have lh:hh.length≤t.length∧tl.length≤t.length:=by
  rw[hhh,htl];unfold Rul.hd;split
  ·exact l1
  ·exact l2
 unfold Rul.hd at hhh htl
 have C3:=Lib.hid fun w hM=>scut_any hh [32,37,32] w hM (by omega)
 have l3:=cut_lens hh Rul.pcS
 rw[eop,emd,eno,ers]
 clear eop emd eno ers
 generalize hR:(Lib.split tl [44]).map Rul.rngP=RS
 change Hid (∀w,MaxW w→Calls Tryz.prog 97 #[.string ⟨hh.toArray⟩,.string ⟨#[32,37,32]⟩] w fun e w'=>e= .returned (.tuple #[.string ⟨(Lib.cut hh Rul.pcS).1.toArray⟩,.string ⟨(Lib.cut hh Rul.pcS).2.1.toArray⟩,.bool (Lib.cut hh Rul.pcS).2.2])∧Below w.heap.size w w') at C3
 change Hid (∀w,MaxW w→Calls Tryz.prog 97 #[.string ⟨t.toArray⟩,.string ⟨#[32,61,32]⟩] w fun e w'=>e= .returned (.tuple #[.string ⟨(Lib.cut t Rul.eqS).1.toArray⟩,.string ⟨(Lib.cut t Rul.eqS).2.1.toArray⟩,.bool (Lib.cut t Rul.eqS).2.2])∧Below w.heap.size w w') at C1
 change Hid (∀w,MaxW w→Calls Tryz.prog 97 #[.string ⟨t.toArray⟩,.string ⟨#[32,33,61,32]⟩] w fun e w'=>e= .returned (.tuple #[.string ⟨(Lib.cut t Rul.neS).1.toArray⟩,.string ⟨(Lib.cut t Rul.neS).2.1.toArray⟩,.bool (Lib.cut t Rul.neS).2.2])∧Below w.heap.size w w') at C2
 generalize Lib.cut t Rul.eqS=c1 at*
 generalize Lib.cut t Rul.neS=c2 at*
 generalize Lib.cut hh Rul.pcS=c3 at*
 obtain⟨a1,b1,f1⟩:=c1
 obtain⟨a2,b2,f2⟩:=c2
 obtain⟨nm,md,f3⟩:=c3
 dsimp only at*
 have CN:=Lib.hid fun w hN=>number_any md w hN (by omega)
 generalize Rul.num md=MD at*
 obtain⟨MO,hMO⟩: ∃MO,(if f3=true then MD else 0)=MO:=⟨_,rfl⟩
 obtain⟨OP,hOP⟩: ∃OP,((Rul.opP nm).toNat:Int)=OP:=⟨_,rfl⟩
 obtain⟨NO,hNO⟩: ∃NO,(!f1)=NO:=⟨_,rfl⟩
 rw[hMO,hOP,hNO]
 have HMO:=Lib.hid hMO
 have HOP:=Lib.hid hOP
 have HNO:=Lib.hid hNO
 clear hMO hOP hNO
 have HT:=Lib.hid (show(if f1=true then (a1,b1) else (a2,b2))=(hh,tl) by rw[hhh,htl])
 clear hhh htl
 refine(callsIn_wide (n:=10)).1 ?_
 refine callsIn_of_wp_marks Tryz.func69 rfl trivial ?_ rfl
 refine wpIn_wide.2 ?_
 simp only[Tryz.ntmps69,List.size_toArray,List.length_cons,List.length_nil,Nat.reduceAdd,Nat.reduceSub,Array.replicate_succ,Array.replicate_zero,List.push_toArray,List.append_toArray,List.nil_append,List.cons_append]
 go_wp2_with fail
 refine(C1.out _ (hM.alloc _)).mono ?_
 rintro e w1 ⟨rfl,hb⟩
 have M1:=(hM.alloc _).below hb
 have W1:=Lib.hid (blw_trans (blw_alloc w _) hb)
 have B1:=Lib.hid ((Boxed.made w _ _).below hb)
 have hwl:=W1.out.size
 have hMw:=Lib.hid hM
 have hNw:=Lib.hid hN
 clear hb hM hN C1
 have ne:w1.heap.size≠w.heap.size:=by have:=B1.out.lt;omega
 go_upto_if 21 with fail
 go_cut [3,4] from 14 to 46 (fun v3 v4 wx=>v3= .string ⟨hh.toArray⟩∧v4= .string ⟨tl.toArray⟩∧Hid (Boxed wx w1.heap.size #[.int .u8 0,.int .i64 0,.bool NO,.slice none 0 0])∧Hid (Boxed wx w.heap.size #[.int .u8 0,.int .i64 0,.bool false,.slice none 0 0])∧Hid (Below w.heap.size w wx))
 case first=>
  have M2:=M1.alloc (.cells #[.int .u8 0,.int .i64 0,.bool false,.slice none 0 0] 143)
  have W2:=Lib.hid (blw_trans W1.out (blw_alloc w1 (.cells #[.int .u8 0,.int .i64 0,.bool false,.slice none 0 0] 143)))
  have B2:=Lib.hid (B1.out.alloc (.cells #[.int .u8 0,.int .i64 0,.bool false,.slice none 0 0] 143))
  have A2:=Lib.hid (Boxed.made w1 #[.int .u8 0,.int .i64 0,.bool false,.slice none 0 0] 143)
  cases f1 with
  |true=>
   obtain rfl:NO=false:=HNO.out.symm
   obtain⟨rfl,rfl⟩:=Prod.mk.inj ((if_pos rfl).symm.trans HT.out)
   go_wp2_with fail
   go_meet
   exact⟨rfl,rfl,A2,B2,W2⟩
  |false=>
   obtain rfl:NO=true:=HNO.out.symm
   obtain⟨rfl,rfl⟩:=Prod.mk.inj ((if_neg (by decide)).symm.trans HT.out)
   go_wp2_with fail
   refine(C2.out _ M2).mono ?_
   rintro e w2 ⟨rfl,hb⟩
   have W3:=Lib.hid (blw_trans W2.out hb)
   have A3:=Lib.hid (A2.out.below hb)
   have B3:=Lib.hid (B2.out.below hb)
   have k2:=A3.out.cell 2 _ rfl
   have fz:=A3.out.free
   have sz:=A3.out.lt
   clear hb A2 B2 W2 B1 W1 C2 C3 CN
   go_wp2_with fail
   go_meet
   exact⟨rfl,rfl,Lib.hid (A3.out.set 2 (.bool true) (by decide)),Lib.hid (B3.out.far ne 2 _),Lib.hid (W3.out.setCell (show w.heap.size≤w1.heap.size from hwl) _)⟩
 case rest=>
  obtain⟨rfl,rfl,A4,B4,W4⟩:=hcut
  clear HT C2 M1 B1
  go_wp2_with fail
  refine(C3.out _ (hMw.out.below W4.out)).mono ?_
  rintro e w2 ⟨rfl,hb⟩
  have W5:=Lib.hid (blw_trans W4.out hb)
  have A5:=Lib.hid (A4.out.below hb)
  have B5:=Lib.hid (B4.out.below hb)
  clear hb C3 A4 B4 W4 W1
  have k0:=A5.out.cell 0 _ rfl
  have f0:=A5.out.free 0 (by show 0<4;omega)
  have hlt:=A5.out.lt
  go_upto_if 37 with fail
  go_cut [] from 14 to 46 (fun wx=>Hid (Boxed wx w1.heap.size #[.int .u8 OP,.int .i64 0,.bool NO,.slice none 0 0])∧Hid (Boxed wx w.heap.size #[.int .u8 0,.int .i64 0,.bool false,.slice none 0 0])∧Hid (Below w.heap.size w wx))
  case first=>
   by_cases hn:nm.length=1
   ·obtain⟨c,rfl⟩:=List.length_eq_one_iff.1 hn
    have IX: ∀w,(Instr.index 9 (.string ⟨[c].toArray⟩) (.int .i64 0)).run Tryz.prog w= .ok (.int .u8 (c.toNat:Int)) w:=fun w=>index_str (P:= Tryz.prog) 9 Tryz.underlying9 [c] .i64 0 c rfl w
    have e1:((([c]:List UInt8).length:Int)==1)=true:=rfl
    have eo:Rul.opP [c]=c:=rfl
    clear hn
    generalize [c]=nm at*
    go_wp2_with fail
    go_meet
    obtain rfl:OP=(c.toNat:Int):=by rw[←HOP.out,eo]
    exact⟨Lib.hid (by exact A5.out.set 0 (.int .u8 (c.toNat:Int)) (by show 0<4;omega)),Lib.hid (B5.out.far ne 0 _),Lib.hid (W5.out.setCell (show w.heap.size≤w1.heap.size from hwl) _)⟩
   ·have e1:((nm.length:Int)==1)=false:=beq_no (by omega)
    have eo:Rul.opP nm=0:=by
     unfold Rul.opP
     split
     ·simp at hn
     ·rfl
    go_wp2_with fail
    go_meet
    obtain rfl:OP=0:=by rw[←HOP.out,eo];rfl
    exact⟨A5,B5,W5⟩
  case rest=>
   obtain⟨A6,B6,W6⟩:=hcut
   clear A5 B5 W5 k0 f0 hlt
   go_upto_if 41 with fail
   go_cut [] from 14 to 46 (fun wx=>Hid (Boxed wx w1.heap.size #[.int .u8 OP,.int .i64 MO,.bool NO,.slice none 0 0])∧Hid (Boxed wx w.heap.size #[.int .u8 0,.int .i64 0,.bool false,.slice none 0 0])∧Hid (Below w.heap.size w wx))
   case first=>
    cases f3 with
    |false=>
     obtain rfl:MO=0:=by simpa using HMO.out.symm
     go_wp2_with fail
     go_meet
     exact⟨A6,B6,W6⟩
    |true=>
     obtain rfl:MO=MD:=by simpa using HMO.out.symm
     go_wp2_with fail
     refine(CN.out _ (hNw.out.below W6.out)).mono ?_
     rintro e w3 ⟨rfl,hb⟩
     have W7:=Lib.hid (blw_trans W6.out hb)
     have A7:=Lib.hid (A6.out.below hb)
     have B7:=Lib.hid (B6.out.below hb)
     have k1:=A7.out.cell 1 _ rfl
     have f1:=A7.out.free 1 (by show 1<4;omega)
     have hlt:=A7.out.lt
     clear hb A6 B6 W6 CN
     go_wp2_with fail
     go_meet
     exact⟨Lib.hid (A7.out.set 1 (.int .i64 MO) (by show 1<4;omega)),Lib.hid (B7.out.far ne 1 _),Lib.hid (W7.out.setCell (show w.heap.size≤w1.heap.size from hwl) _)⟩
   case rest=>
    obtain⟨A8,B8,W8⟩:=hcut
    clear A6 B6 W6 CN
    go_wp2_with fail
    refine(splitseq_any tl [44] _).mono ?_
    rintro e w2 ⟨rfl,rfl⟩
    go_wp2_with fail
    have hgM: 4<w.heap.size:=by
     obtain⟨m,hm⟩:=hMw.out
     exact World.block_lt_of_cell? w _ hm
    obtain⟨V,hV⟩: ∃V,((wc.alloc (.cells #[.string ⟨tl.toArray⟩] 9)).alloc (.cells #[.string ⟨#[44]⟩] 9)).alloc (.cells #[.int .i64 0] 3)=V:=⟨_,rfl⟩
    have bS:=Lib.hid (((Boxed.made wc #[.string ⟨tl.toArray⟩] 9).alloc (.cells #[.string ⟨#[44]⟩] 9)).alloc (.cells #[.int .i64 0] 3))
    have bP:=Lib.hid ((Boxed.made (wc.alloc (.cells #[.string ⟨tl.toArray⟩] 9)) #[.string ⟨#[44]⟩] 9).alloc (.cells #[.int .i64 0] 3))
    have bV:=Lib.hid (Boxed.made ((wc.alloc (.cells #[.string ⟨tl.toArray⟩] 9)).alloc (.cells #[.string ⟨#[44]⟩] 9)) #[.int .i64 0] 3)
    simp only[World.size_alloc] at bP bV
    have wV:=Lib.hid (((blw_alloc wc (.cells #[.string ⟨tl.toArray⟩] 9)).alloc (by simp) (.cells #[.string ⟨#[44]⟩] 9)).alloc (by simp;omega) (.cells #[.int .i64 0] 3))
    have zV:V.heap.size=wc.heap.size+3:=by rw[←hV];simp
    rw[hV] at bS bP bV wV⊢
    clear hV
    have W9:=Lib.hid (blw_trans W8.out wV.out)
    have A9:=Lib.hid (A8.out.below wV.out)
    have B9:=Lib.hid (B8.out.below wV.out)
    have l8:=W8.out.size
    have la:=A8.out.lt
    have lb:=B8.out.lt
    clear W8 A8 B8 wV
    refine(wpIn_wide (n:=10)).1 ?_
    refine wpIn_range_out1 (F:=Fence.wide) (d:=10) (val:=fun x:List UInt8=>Value.string ⟨x.toArray⟩) (n:=10) rfl (by omega) (gf:= 136) (lb:= #[.pointer (some ⟨wc.heap.size+1,0,none⟩),.pointer (some ⟨wc.heap.size,0,none⟩),.pointer (some ⟨wc.heap.size+2,0,none⟩)]) rfl trivial (enters_of Tryz.func136 (by kernel_rfl) rfl)
     (split_iter tl [44] (wc.heap.size+1) wc.heap.size (wc.heap.size+2) w.heap.size 9 V (by omega) (by simp) (by omega) (by simp) hgM (by omega) (hMw.out.below W9.out) (by omega) (by omega) (by omega) (by omega) (by omega)
      (bP.out.cell 0 _ rfl) (bS.out.cell 0 _ rfl) (bV.out.cell 0 _ rfl) (bS.out.free 0 (by show 0<1;omega)))
     (by omega) KpS.trans (KpS.put (by omega) (by omega) (by omega) (by omega))
     (fun pre W=> ∃v,PX w V.heap.size w1.heap.size (.int .u8 OP) (.int .i64 MO) (.bool NO) v v pre W)
     (fun pre A C r hs g hr=>by
      obtain⟨v,hs⟩:=hs
      exact⟨v,hs.grown g fun k hk=>by
       obtain⟨h1,o,h2,h3⟩:=hr k hk
       refine⟨by omega,by omega,fun e=>?_⟩
       rcases hs.row.2 with⟨rfl,_⟩|⟨g',cap,cur,rfl,_,hg',_⟩
       ·cases e
       ·injection e with e
        subst e
        rw[hg'] at h2
        injection h2 with h2
        subst h2
        cases h3⟩)
     (fun pre A C hs g=>by
      obtain⟨v,hs⟩:=hs
      exact⟨v,hs.grown g fun k hk=>by
       injection hk with hk
       subst hk
       refine⟨by omega,by omega,fun e=>?_⟩
       have:=hs.row.lt _ e
       omega⟩)
     ⟨.slice none 0 0,A9.out,⟨rfl,.inl ⟨rfl,rfl⟩⟩,B9.out,W9.out,Nat.le_refl _⟩
     ?assign ?body ?done
    case assign=>
     intro l pre x W K hi hK
     gi_wp2
     exact hK _ (KeepsFrom.refl _ _) ⟨Below.refl _ _,rfl,rfl,rfl⟩ hi
    case done=>
     rintro D W hD ⟨v,hs⟩ hK
     obtain⟨a,n,c,rfl⟩: ∃a n c,v= .slice a n c:=by
      rcases hs.row.2 with⟨rfl,_⟩|⟨g',cap,cur,rfl,_⟩
      ·exact⟨_,_,_,rfl⟩
      ·exact⟨_,_,_,rfl⟩
     have k0:=hs.box.cell 0 _ rfl
     have k1:=hs.box.cell 1 _ rfl
     have k2:=hs.box.cell 2 _ rfl
     have k3:=hs.box.cell 3 _ rfl
     have q0:=hs.res.free 0 (by show 0<4;omega)
     have q1:=hs.res.free 1 (by show 1<4;omega)
     have q2:=hs.res.free 2 (by show 2<4;omega)
     have q3:=hs.res.free 3 (by show 3<4;omega)
     have c0:=hs.res.cell 0 _ rfl
     have c1:=hs.res.cell 1 _ rfl
     have c2:=hs.res.cell 2 _ rfl
     have c3:=hs.res.cell 3 _ rfl
     have s0:=hs.res.lt
     have s1:=hs.box.lt
     have HS:=Lib.hid hs
     clear hs
     go_wp2_with fail
     have HD:=Lib.hid (show((((W.setCell ⟨w.heap.size,0,none⟩ (.int .u8 OP)).setCell ⟨w.heap.size,1,none⟩ (.int .i64 MO)).setCell ⟨w.heap.size,2,none⟩ (.bool NO)).setCell ⟨w.heap.size,3,none⟩ (.slice a n c)).heap[D]?=some (.deferred (some [])) by
      rw[set_else (by show w.heap.size≠D;omega),set_else (by show w.heap.size≠D;omega),set_else (by show w.heap.size≠D;omega),set_else (by show w.heap.size≠D;omega)]
      exact hK)
     have BD:=Lib.hid (boxed_grown ((((HS.out.res.set 0 (.int .u8 OP) (by show 0<4;omega)).set 1 (.int .i64 MO) (by show 1<4;omega)).set 2 (.bool NO) (by show 2<4;omega)).set 3 (.slice a n c) (by show 3<4;omega)) (grownBy_putObj' _ D (.deferred none)) (fun e=>by injection e with e;omega))
     have WD:=Lib.hid ((((HS.out.low.setCell (p:=⟨w.heap.size,0,none⟩) (Nat.le_refl _) (.int .u8 OP)).setCell (p:=⟨w.heap.size,1,none⟩) (Nat.le_refl _) (.int .i64 MO)).setCell (p:=⟨w.heap.size,2,none⟩) (Nat.le_refl _) (.bool NO)).setCell (p:=⟨w.heap.size,3,none⟩) (Nat.le_refl _) (.slice a n c))
     have SD:=Lib.hid (PX.lies HS.out (C:=((((W.setCell ⟨w.heap.size,0,none⟩ (.int .u8 OP)).setCell ⟨w.heap.size,1,none⟩ (.int .i64 MO)).setCell ⟨w.heap.size,2,none⟩ (.bool NO)).setCell ⟨w.heap.size,3,none⟩ (.slice a n c)).putObj D (.deferred none)) (fun g cur e hg h=>by
      have hgD:g≠D:=fun e=>by subst e;rw[hK] at h;cases h
      rw[World.putObj_heap_other hgD,set_else (by show w.heap.size≠g;omega),set_else (by show w.heap.size≠g;omega),set_else (by show w.heap.size≠g;omega),set_else (by show w.heap.size≠g;omega)]))
     refine⟨by simp,.inl ⟨_,_,rfl,run_takeDeferred HD.out,?_⟩⟩
     have y0:=BD.out.cell 0 _ rfl
     have y1:=BD.out.cell 1 _ rfl
     have y2:=BD.out.cell 2 _ rfl
     have y3:=BD.out.cell 3 _ rfl
     have WE:=Lib.hid (WD.out.trans (belowK_b (w:=w) (Nat.le_refl _) _ D _ (.deferred none) (by omega) HD.out rfl rfl))
     have FR: ∀b,(Value.slice a n c).ownBlock=some b→w.heap.size≤b:=fun b hb=>by have:=(HS.out.row.lt b hb).1;omega
     clear HD BD WD HS k0 k1 k2 k3 q0 q1 q2 q3 c0 c1 c2 c3
     generalize ((((W.setCell ⟨w.heap.size,0,none⟩ (.int .u8 OP)).setCell ⟨w.heap.size,1,none⟩ (.int .i64 MO)).setCell ⟨w.heap.size,2,none⟩ (.bool NO)).setCell ⟨w.heap.size,3,none⟩ (.slice a n c)).putObj D (.deferred none)=Z at*
     refine⟨.agg #[.int .u8 OP,.int .i64 MO,.bool NO,.slice a n c],?res,.slice a n c,rfl,?_,FR,WE.out⟩
     case res=>simp[results,Tryz.results69,go_sem,y0,y1,y2,y3]
     ·rw[←hR];exact SD.out
    case body=>
     rintro l pre x W hl ⟨r,hr⟩ ⟨v,hs⟩ hpre
     have hxl:x.length≤4000000000:=by have:=piece_le (hpre.subset (by simp):x∈Lib.split tl [44]);omega
     have hpl:pre.length+1≤4000000001:=by
      have h1:=hpre.length_le
      rw[Spl.split_len (by simp),Lib.count_one] at h1
      have h2:=List.count_le_length (a:=(44:UInt8)) (l:=tl)
      simp at h1
      omega
     have CC:=Lib.hid fun w hM=>scut_any x [46,46] w hM hxl
     have lc:=cut_lens x [46,46]
     have er:Rul.rngP x=(Rul.num (Lib.cut x [46,46]).1,Rul.num (if (Lib.cut x [46,46]).2.2 then (Lib.cut x [46,46]).2.1 else (Lib.cut x [46,46]).1)):=rfl
     generalize Lib.cut x [46,46]=c at*
     obtain⟨a,b,f⟩:=c
     dsimp only at*
     have HER:=Lib.hid er
     have P0:=Lib.hid (PL.start (bp:=wc.heap.size+1) (bs:=wc.heap.size) (bv:=wc.heap.size+2) hs)
     have hBs:wc.heap.size+1<V.heap.size∧wc.heap.size<V.heap.size∧wc.heap.size+2<V.heap.size:=by omega
     clear er hs hpre A9 B9 W9 bS bP bV
     gi_upto_if 55 with(refine⟨trivial,?_⟩;gi_at_call 97;refine(CallsIn.inRound l (callsIn_wide.2 (CC.out _ (hMw.out.below P0.out.px.low)))).mono ?_;rintro e w2 ⟨rfl,hb⟩)
     have P1:=Lib.hid (P0.out.below hb hBs)
     clear hb CC P0
     have CN1:=Lib.hid fun w hN=>number_any a w hN (by omega)
     have lz:(if f=true then b else a).length≤4000000000:=by split<;>omega
     have CN2:=Lib.hid fun w hN=>number_any (if f=true then b else a) w hN lz
     obtain⟨z,hz⟩: ∃z,(if f=true then b else a)=z:=⟨_,rfl⟩
     rw[hz] at CN2
     replace HER:=Lib.hid (show Rul.rngP x=(Rul.num a,Rul.num z) by rw[HER.out,hz])
     have HZ:=Lib.hid hz
     generalize Rul.num z=N2 at CN2 HER
     generalize Rul.num a=N1 at CN1 HER
     clear hz lz
     have hwB:w.heap.size<V.heap.size:=by omega
     have hpB:w1.heap.size<V.heap.size:=by omega
     have hwp:w.heap.size<w1.heap.size:=by omega
     have hne:w1.heap.size≠wc.heap.size+1∧w1.heap.size≠wc.heap.size∧w1.heap.size≠wc.heap.size+2:=by omega
     gi_cut [12] from 48 (fun v wx=>v= .string ⟨z.toArray⟩∧wx=w2)
     case first=>
      cases f with
      |false=>
       obtain rfl:a=z:=HZ.out
       gi_wp2
       gi_meet
       exact⟨rfl,rfl⟩
      |true=>
       obtain rfl:b=z:=HZ.out
       gi_wp2
       gi_meet
       exact⟨rfl,rfl⟩
     case rest=>
      obtain⟨rfl,rfl⟩:=hcut
      gi_wp2
      obtain⟨iR,hiR,hR0,hR1,hR2⟩:=info_parts infoRng
      refine region_round (S:=fun _=>True) (by kernel_rfl) (by kernel_rfl) (fun _ _ h=>h) trivial (fun hHeld=>?_)
      have P:=Lib.hid (P1.out.below (Below.drew (Below.refl _ _)) hBs)
      clear P1
      generalize World.drew _=w3 at*
      refine tkr (d:=some 57) (v:=?v11) 0 rfl rfl hHeld ?hy11 ?rs11
      case hy11=>(intro w hSw;(try dsimp only at hSw);go_simp)<;>(try with_reducible rfl)
      (try simp only[Act.put,List.setIfInBounds_toArray,List.set_cons_zero,List.set_cons_succ])
      refine tkr (d:=some 59) (v:=?v12) 2 rfl rfl hHeld ?hy12 ?rs12
      case hy12=>(intro w hSw;(try dsimp only at hSw);go_simp)<;>(try with_reducible rfl)
      (try simp only[Act.put,List.setIfInBounds_toArray,List.set_cons_zero,List.set_cons_succ])
      refine tkr (d:=some 61) (v:=?v13) 4 rfl rfl hHeld ?hy13 ?rs13
      case hy13=>(intro w hSw;(try dsimp only at hSw);go_simp)<;>(try with_reducible rfl)
      (try simp only[Act.put,List.setIfInBounds_toArray,List.set_cons_zero,List.set_cons_succ])
      refine take_two 1 3 rfl rfl (by kernel_rfl) (by rfl) (by rfl) (fun K hK=>?_) (fun K hK=>?_)
      ·have k3:=P.out.px.box.cell 3 _ rfl
       go_simp
       clear k3
       refine hK.out _ _ trivial (fun hHeld=>?_)
       clear hK K
       (try simp only[Act.put,List.setIfInBounds_toArray,List.set_cons_zero,List.set_cons_succ])
       refine take_call 3 rfl (by kernel_rfl) (by rfl) (fun K hK=>?_)
       go_simp
       refine(CN1.out _ (hNw.out.below P.out.px.low)).mono ?_
       rintro e w' ⟨rfl,hb⟩
       replace P:=Lib.hid (P.out.below hb hBs)
       refine hK.out _ _ trivial (fun hHeld=>?_)
       clear hK K
       (try simp only[Act.put,List.setIfInBounds_toArray,List.set_cons_zero,List.set_cons_succ])
       clear hb
       refine take_call 5 rfl (by kernel_rfl) (by rfl) (fun K hK=>?_)
       go_simp
       refine(CN2.out _ (hNw.out.below P.out.px.low)).mono ?_
       rintro e w' ⟨rfl,hb⟩
       replace P:=Lib.hid (P.out.below hb hBs)
       refine hK.out _ _ trivial (fun hHeld=>?_)
       clear hK K
       (try simp only[Act.put,List.setIfInBounds_toArray,List.set_cons_zero,List.set_cons_succ])
       clear hb
       refine tkr (d:=some 63) (v:=?v14) 6 rfl rfl hHeld ?hy14 ?rs14
       case hy14=>(intro w hSw;(try dsimp only at hSw);go_simp)<;>(try with_reducible rfl)
       (try simp only[Act.put,List.setIfInBounds_toArray,List.set_cons_zero,List.set_cons_succ])
       refine take_call 7 rfl (by kernel_rfl) (by rfl) (fun K hK=>?_)
       go_simp
       refine hK.out _ _ trivial (fun hHeld=>?_)
       clear hK K
       (try simp only[Act.put,List.setIfInBounds_toArray,List.set_cons_zero,List.set_cons_succ])
       replace P:=Lib.hid (P.out.below (blw_alloc _ (.cells #[.int .i64 N1,.int .i64 N2] 176)) hBs)
       have BN:=Lib.hid (Boxed.made _ #[.int .i64 N1,.int .i64 N2] 176:Boxed (World.alloc w' (.cells #[.int .i64 N1,.int .i64 N2] 176)) w'.heap.size _)
       generalize hq:w'.heap.size=q at*
       generalize World.alloc w' (.cells #[.int .i64 N1,.int .i64 N2] 176)=w5 at*
       clear hq
       refine take_call 8 rfl (by kernel_rfl) (by rfl) (fun K hK=>?_)
       refine wp_append_own _ _ _ 141 rfl V.heap.size 176 iR _ 2 16 Tryz.underlying141 hiR hR0 hR1 hR2 rfl (by decide) v pre.length (rflat pre) (by simp[go_sem]) P.out.px.row ⟨q,0,none⟩ 1 1 [.int .i64 N1,.int .i64 N2] (by simp[go_sem]) rfl (boxed_add BN.out) (fun u hu=>by simp at hu;rcases hu with rfl|rfl<;>rfl) (by unfold maxLen;omega) (by omega) P.out.px.sz ?_
       intro v' w6 hown hgrow hnil
       clear hnil
       obtain⟨g',cap',rfl⟩:=row_some hown (by omega)
       replace P:=Lib.hid (P.out.append (x:=x) (by rw[HER.out];exact hown) hgrow hwB hpB hBs)
       clear hown hgrow
       refine hK.out _ _ trivial (fun hHeld=>?_)
       clear hK K
       (try simp only[Act.put,List.setIfInBounds_toArray,List.set_cons_zero,List.set_cons_succ])
       refine tkr (d:=some 66) (v:=?v15) 9 rfl rfl hHeld ?hy15 ?rs15
       case hy15=>(intro w hSw;(try dsimp only at hSw);go_simp)<;>(try with_reducible rfl)
       (try simp only[Act.put,List.setIfInBounds_toArray,List.set_cons_zero,List.set_cons_succ])
       refine take_call 10 rfl (by kernel_rfl) (by rfl) (fun K hK=>?_)
       have k3:=P.out.px.box.cell 3 _ rfl
       have z3:=P.out.px.box.free 3 (by show 3<4;omega)
       have hlt:=P.out.px.box.lt
       go_simp
       clear k3 z3 hlt
       refine hK.out _ _ trivial (fun hHeld=>?_)
       clear hK K
       (try simp only[Act.put,List.setIfInBounds_toArray,List.set_cons_zero,List.set_cons_succ])
       replace P:=Lib.hid (P.out.stored hwp hpB hne)
       refine wpAnyH_done (by kernel_rfl) ?_ _
       exact⟨P.out.kf,P.out.kp,_,P.out.px⟩
      ·go_simp
       refine(CN1.out _ (hNw.out.below P.out.px.low)).mono ?_
       rintro e w' ⟨rfl,hb⟩
       replace P:=Lib.hid (P.out.below hb hBs)
       refine hK.out _ _ trivial (fun hHeld=>?_)
       clear hK K
       (try simp only[Act.put,List.setIfInBounds_toArray,List.set_cons_zero,List.set_cons_succ])
       clear hb
       refine take_two 1 5 rfl rfl (by kernel_rfl) (by rfl) (by rfl) (fun K hK=>?_) (fun K hK=>?_)
       ·have k3:=P.out.px.box.cell 3 _ rfl
        go_simp
        clear k3
        refine hK.out _ _ trivial (fun hHeld=>?_)
        clear hK K
        (try simp only[Act.put,List.setIfInBounds_toArray,List.set_cons_zero,List.set_cons_succ])
        refine take_call 5 rfl (by kernel_rfl) (by rfl) (fun K hK=>?_)
        go_simp
        refine(CN2.out _ (hNw.out.below P.out.px.low)).mono ?_
        rintro e w' ⟨rfl,hb⟩
        replace P:=Lib.hid (P.out.below hb hBs)
        refine hK.out _ _ trivial (fun hHeld=>?_)
        clear hK K
        (try simp only[Act.put,List.setIfInBounds_toArray,List.set_cons_zero,List.set_cons_succ])
        clear hb
        refine tkr (d:=some 63) (v:=?v19) 6 rfl rfl hHeld ?hy19 ?rs19
        case hy19=>(intro w hSw;(try dsimp only at hSw);go_simp)<;>(try with_reducible rfl)
        (try simp only[Act.put,List.setIfInBounds_toArray,List.set_cons_zero,List.set_cons_succ])
        refine take_call 7 rfl (by kernel_rfl) (by rfl) (fun K hK=>?_)
        go_simp
        refine hK.out _ _ trivial (fun hHeld=>?_)
        clear hK K
        (try simp only[Act.put,List.setIfInBounds_toArray,List.set_cons_zero,List.set_cons_succ])
        replace P:=Lib.hid (P.out.below (blw_alloc _ (.cells #[.int .i64 N1,.int .i64 N2] 176)) hBs)
        have BN:=Lib.hid (Boxed.made _ #[.int .i64 N1,.int .i64 N2] 176:Boxed (World.alloc w' (.cells #[.int .i64 N1,.int .i64 N2] 176)) w'.heap.size _)
        generalize hq:w'.heap.size=q at*
        generalize World.alloc w' (.cells #[.int .i64 N1,.int .i64 N2] 176)=w5 at*
        clear hq
        refine take_call 8 rfl (by kernel_rfl) (by rfl) (fun K hK=>?_)
        refine wp_append_own _ _ _ 141 rfl V.heap.size 176 iR _ 2 16 Tryz.underlying141 hiR hR0 hR1 hR2 rfl (by decide) v pre.length (rflat pre) (by simp[go_sem]) P.out.px.row ⟨q,0,none⟩ 1 1 [.int .i64 N1,.int .i64 N2] (by simp[go_sem]) rfl (boxed_add BN.out) (fun u hu=>by simp at hu;rcases hu with rfl|rfl<;>rfl) (by unfold maxLen;omega) (by omega) P.out.px.sz ?_
        intro v' w6 hown hgrow hnil
        clear hnil
        obtain⟨g',cap',rfl⟩:=row_some hown (by omega)
        replace P:=Lib.hid (P.out.append (x:=x) (by rw[HER.out];exact hown) hgrow hwB hpB hBs)
        clear hown hgrow
        refine hK.out _ _ trivial (fun hHeld=>?_)
        clear hK K
        (try simp only[Act.put,List.setIfInBounds_toArray,List.set_cons_zero,List.set_cons_succ])
        refine tkr (d:=some 66) (v:=?v20) 9 rfl rfl hHeld ?hy20 ?rs20
        case hy20=>(intro w hSw;(try dsimp only at hSw);go_simp)<;>(try with_reducible rfl)
        (try simp only[Act.put,List.setIfInBounds_toArray,List.set_cons_zero,List.set_cons_succ])
        refine take_call 10 rfl (by kernel_rfl) (by rfl) (fun K hK=>?_)
        have k3:=P.out.px.box.cell 3 _ rfl
        have z3:=P.out.px.box.free 3 (by show 3<4;omega)
        have hlt:=P.out.px.box.lt
        go_simp
        clear k3 z3 hlt
        refine hK.out _ _ trivial (fun hHeld=>?_)
        clear hK K
        (try simp only[Act.put,List.setIfInBounds_toArray,List.set_cons_zero,List.set_cons_succ])
        replace P:=Lib.hid (P.out.stored hwp hpB hne)
        refine wpAnyH_done (by kernel_rfl) ?_ _
        exact⟨P.out.kf,P.out.kp,_,P.out.px⟩
       ·go_simp
        refine(CN2.out _ (hNw.out.below P.out.px.low)).mono ?_
        rintro e w' ⟨rfl,hb⟩
        replace P:=Lib.hid (P.out.below hb hBs)
        refine hK.out _ _ trivial (fun hHeld=>?_)
        clear hK K
        (try simp only[Act.put,List.setIfInBounds_toArray,List.set_cons_zero,List.set_cons_succ])
        clear hb
        refine tkr (d:=some 63) (v:=?v16) 6 rfl rfl hHeld ?hy16 ?rs16
        case hy16=>(intro w hSw;(try dsimp only at hSw);go_simp)<;>(try with_reducible rfl)
        (try simp only[Act.put,List.setIfInBounds_toArray,List.set_cons_zero,List.set_cons_succ])
        refine take_two 1 7 rfl rfl (by kernel_rfl) (by rfl) (by rfl) (fun K hK=>?_) (fun K hK=>?_)
        ·have k3:=P.out.px.box.cell 3 _ rfl
         go_simp
         clear k3
         refine hK.out _ _ trivial (fun hHeld=>?_)
         clear hK K
         (try simp only[Act.put,List.setIfInBounds_toArray,List.set_cons_zero,List.set_cons_succ])
         refine take_call 7 rfl (by kernel_rfl) (by rfl) (fun K hK=>?_)
         go_simp
         refine hK.out _ _ trivial (fun hHeld=>?_)
         clear hK K
         (try simp only[Act.put,List.setIfInBounds_toArray,List.set_cons_zero,List.set_cons_succ])
         replace P:=Lib.hid (P.out.below (blw_alloc _ (.cells #[.int .i64 N1,.int .i64 N2] 176)) hBs)
         have BN:=Lib.hid (Boxed.made _ #[.int .i64 N1,.int .i64 N2] 176:Boxed (World.alloc w' (.cells #[.int .i64 N1,.int .i64 N2] 176)) w'.heap.size _)
         generalize hq:w'.heap.size=q at*
         generalize World.alloc w' (.cells #[.int .i64 N1,.int .i64 N2] 176)=w5 at*
         clear hq
         refine take_call 8 rfl (by kernel_rfl) (by rfl) (fun K hK=>?_)
         refine wp_append_own _ _ _ 141 rfl V.heap.size 176 iR _ 2 16 Tryz.underlying141 hiR hR0 hR1 hR2 rfl (by decide) v pre.length (rflat pre) (by simp[go_sem]) P.out.px.row ⟨q,0,none⟩ 1 1 [.int .i64 N1,.int .i64 N2] (by simp[go_sem]) rfl (boxed_add BN.out) (fun u hu=>by simp at hu;rcases hu with rfl|rfl<;>rfl) (by unfold maxLen;omega) (by omega) P.out.px.sz ?_
         intro v' w6 hown hgrow hnil
         clear hnil
         obtain⟨g',cap',rfl⟩:=row_some hown (by omega)
         replace P:=Lib.hid (P.out.append (x:=x) (by rw[HER.out];exact hown) hgrow hwB hpB hBs)
         clear hown hgrow
         refine hK.out _ _ trivial (fun hHeld=>?_)
         clear hK K
         (try simp only[Act.put,List.setIfInBounds_toArray,List.set_cons_zero,List.set_cons_succ])
         refine tkr (d:=some 66) (v:=?v17) 9 rfl rfl hHeld ?hy17 ?rs17
         case hy17=>(intro w hSw;(try dsimp only at hSw);go_simp)<;>(try with_reducible rfl)
         (try simp only[Act.put,List.setIfInBounds_toArray,List.set_cons_zero,List.set_cons_succ])
         refine take_call 10 rfl (by kernel_rfl) (by rfl) (fun K hK=>?_)
         have k3:=P.out.px.box.cell 3 _ rfl
         have z3:=P.out.px.box.free 3 (by show 3<4;omega)
         have hlt:=P.out.px.box.lt
         go_simp
         clear k3 z3 hlt
         refine hK.out _ _ trivial (fun hHeld=>?_)
         clear hK K
         (try simp only[Act.put,List.setIfInBounds_toArray,List.set_cons_zero,List.set_cons_succ])
         replace P:=Lib.hid (P.out.stored hwp hpB hne)
         refine wpAnyH_done (by kernel_rfl) ?_ _
         exact⟨P.out.kf,P.out.kp,_,P.out.px⟩
        ·go_simp
         refine hK.out _ _ trivial (fun hHeld=>?_)
         clear hK K
         (try simp only[Act.put,List.setIfInBounds_toArray,List.set_cons_zero,List.set_cons_succ])
         replace P:=Lib.hid (P.out.below (blw_alloc _ (.cells #[.int .i64 N1,.int .i64 N2] 176)) hBs)
         have BN:=Lib.hid (Boxed.made _ #[.int .i64 N1,.int .i64 N2] 176:Boxed (World.alloc w' (.cells #[.int .i64 N1,.int .i64 N2] 176)) w'.heap.size _)
         generalize hq:w'.heap.size=q at*
         generalize World.alloc w' (.cells #[.int .i64 N1,.int .i64 N2] 176)=w5 at*
         clear hq
         refine take_call 1 rfl (by kernel_rfl) (by rfl) (fun K hK=>?_)
         have k3:=P.out.px.box.cell 3 _ rfl
         go_simp
         clear k3
         refine hK.out _ _ trivial (fun hHeld=>?_)
         clear hK K
         (try simp only[Act.put,List.setIfInBounds_toArray,List.set_cons_zero,List.set_cons_succ])
         refine take_call 8 rfl (by kernel_rfl) (by rfl) (fun K hK=>?_)
         refine wp_append_own _ _ _ 141 rfl V.heap.size 176 iR _ 2 16 Tryz.underlying141 hiR hR0 hR1 hR2 rfl (by decide) v pre.length (rflat pre) (by simp[go_sem]) P.out.px.row ⟨q,0,none⟩ 1 1 [.int .i64 N1,.int .i64 N2] (by simp[go_sem]) rfl (boxed_add BN.out) (fun u hu=>by simp at hu;rcases hu with rfl|rfl<;>rfl) (by unfold maxLen;omega) (by omega) P.out.px.sz ?_
         intro v' w6 hown hgrow hnil
         clear hnil
         obtain⟨g',cap',rfl⟩:=row_some hown (by omega)
         replace P:=Lib.hid (P.out.append (x:=x) (by rw[HER.out];exact hown) hgrow hwB hpB hBs)
         clear hown hgrow
         refine hK.out _ _ trivial (fun hHeld=>?_)
         clear hK K
         (try simp only[Act.put,List.setIfInBounds_toArray,List.set_cons_zero,List.set_cons_succ])
         refine tkr (d:=some 66) (v:=?v18) 9 rfl rfl hHeld ?hy18 ?rs18
         case hy18=>(intro w hSw;(try dsimp only at hSw);go_simp)<;>(try with_reducible rfl)
         (try simp only[Act.put,List.setIfInBounds_toArray,List.set_cons_zero,List.set_cons_succ])
         refine take_call 10 rfl (by kernel_rfl) (by rfl) (fun K hK=>?_)
         have k3:=P.out.px.box.cell 3 _ rfl
         have z3:=P.out.px.box.free 3 (by show 3<4;omega)
         have hlt:=P.out.px.box.lt
         go_simp
         clear k3 z3 hlt
         refine hK.out _ _ trivial (fun hHeld=>?_)
         clear hK K
         (try simp only[Act.put,List.setIfInBounds_toArray,List.set_cons_zero,List.set_cons_succ])
         replace P:=Lib.hid (P.out.stored hwp hpB hne)
         refine wpAnyH_done (by kernel_rfl) ?_ _
         exact⟨P.out.kf,P.out.kp,_,P.out.px⟩
open Go.RowKit

def RngI (S:Nat→Prop) (w:World) (b k:Nat) (p:Int×Int):Prop:=S b∧RngC w b k p
def RelI (S:Nat→Prop) (w:World) (b k:Nat) (r:Rul.Rl):Prop:=S b∧ ∃a n c,w.cell? ⟨b,k,none⟩=some (.int .u8 (r.op.toNat:Int))∧w.cell? ⟨b,k+1,none⟩=some (.int .i64 r.mod)∧w.cell? ⟨b,k+2,none⟩=some (.bool r.no)∧w.cell? ⟨b,k+3,none⟩=some (.slice a n c)∧SlAt 2 (RngI S) w (.slice a n c) r.rs
theorem SlAt.into {α:Type} {m:Nat} {C D:World→Nat→Nat→α→Prop} {w w':World} {v:Value} {l:List α} (h:SlAt m C w v l) (hC: ∀b k x,C w b k x→D w' b k x):SlAt m D w' v l:=by
 rcases h with h|⟨b,off,cap,h1,h2,h3,h4,h5⟩
 ·exact .inl h
 ·exact .inr ⟨b,off,cap,h1,h2,h3,h4,fun j x hx=>hC _ _ _ (h5 j x hx)⟩
/-- the blocks of S lie in the second world as in the first -/
def SameOn (S:Nat→Prop) (A C:World):Prop:= ∀b,S b→C.heap[b]?=A.heap[b]?
theorem SameOn.cell {S:Nat→Prop} {A C:World} (h:SameOn S A C) {b k:Nat} {v:Value} (hb:S b) (hc:A.cell? ⟨b,k,none⟩=some v):C.cell? ⟨b,k,none⟩=some v:=
 (World.cell?_of_block (a:=⟨b,k,none⟩) (h b hb)).trans hc
theorem rngsI_kept {S T:Nat→Prop} {A C:World} {v:Value} {l:List (Int×Int)} (hs:SlAt 2 (RngI S) A v l) (h:SameOn S A C) (hT: ∀b,S b→T b):SlAt 2 (RngI T) C v l:=
 hs.into fun _ _ _ g=>⟨hT _ g.1,h.cell g.1 g.2.1,h.cell g.1 g.2.2⟩
theorem relsI_kept {S T:Nat→Prop} {A C:World} {v:Value} {l:List Rul.Rl} (hs:SlAt 4 (RelI S) A v l) (h:SameOn S A C) (hT: ∀b,S b→T b):SlAt 4 (RelI T) C v l:=
 hs.into fun _ _ _ g=>by
  obtain⟨g,a,n,c,x0,x1,x2,x3,xs⟩:=g
  exact⟨hT _ g,a,n,c,h.cell g x0,h.cell g x1,h.cell g x2,h.cell g x3,rngsI_kept xs h hT⟩
theorem relsI_plain {S:Nat→Prop} {A:World} {v:Value} {l:List Rul.Rl} (hs:SlAt 4 (RelI S) A v l):SlAt 4 RelC A v l:=
 hs.into fun _ _ _ g=>by
  obtain⟨_,a,n,c,x0,x1,x2,x3,xs⟩:=g
  exact⟨a,n,c,x0,x1,x2,x3,xs.into fun _ _ _ k=>k.2⟩
open Go.RowKit Go.Shelf

/-- block b holds cells -/
def IsC (W:World) (b:Nat):Prop:= ∃o,W.heap[b]?=some o∧o.isCells=true
theorem IsC.lt {W:World} {b:Nat} (h:IsC W b):b<W.heap.size:=by
 obtain⟨o,h,_⟩:=h
 exact(Array.getElem?_eq_some_iff.1 h).1
theorem IsC.grown {A C:World} {r:Option Nat} {b:Nat} (h:IsC A b) (g:A.grownBy C r) (hr:some b≠r):IsC C b:=by
 have hl:=h.lt
 obtain⟨o,h,k⟩:=h
 exact⟨o,(g.block b hl hr).trans h,k⟩
theorem IsC.of_cell {W:World} {b k:Nat} {v:Value} (h:W.cell? ⟨b,k,none⟩=some v):IsC W b:=by
 unfold World.cell? at h
 split at h
 ·rename_i c x y hc
  exact⟨_,hc,rfl⟩
 ·cases h
theorem IsC.row {W:World} {base n k:Nat} {e:TypeId} {v:Value} {xs:List Value} (h:W.ownsRow base e k v n xs) {b:Nat} (hb:v.ownBlock=some b):IsC W b:=by
 rcases h.2 with⟨rfl,_⟩|⟨g,cap,cur,rfl,_,hg,_⟩
 ·cases hb
 ·injection hb with hb
  subst hb
  exact⟨_,hg,rfl⟩
theorem IsC.not {W:World} {b:Nat} {o:Obj} (h:IsC W b) (ho:W.heap[b]?=some o) (hc:o.isCells=false):False:=by
 obtain⟨o',h,k⟩:=h
 rw[ho] at h
 injection h with h
 subst h
 rw[hc] at k
 cases k

/-- a set of blocks of cells from base on, none of which is the slice's own -/
structure Own (base:Nat) (S:Nat→Prop) (v:Value) (W:World):Prop where
 ge: ∀b,S b→base≤b
 ne: ∀b,S b→v.ownBlock≠some b
 is: ∀b,S b→IsC W b
theorem Own.grown {base:Nat} {S:Nat→Prop} {v:Value} {A C:World} {r:Option Nat} (h:Own base S v A) (g:A.grownBy C r) (hr: ∀b,S b→some b≠r):Own base S v C:=
 ⟨h.ge,h.ne,fun b hb=>(h.is b hb).grown g (hr b hb)⟩
theorem same_grown {base:Nat} {S:Nat→Prop} {v:Value} {A C:World} {r:Option Nat} (h:Own base S v A) (g:A.grownBy C r) (hr: ∀b,S b→some b≠r):SameOn S A C:=
 fun b hb=>g.block b (h.is b hb).lt (hr b hb)

theorem keeps_grown {B:Nat} {W0 A C:World} {r:Option Nat} (h:KeepsFrom B W0 A) (g:A.grownBy C r) (hr: ∀k,r=some k→W0.heap.size≤k∨IsC A k∨k<B):KeepsFrom B W0 C:=
 ⟨Nat.le_trans h.size g.size,fun k o hk hA hc=>by
  have e:=h.same k o hk hA hc
  refine(g.block k (Array.getElem?_eq_some_iff.1 e).1 (fun e'=>?_)).trans e
  rcases hr k e'.symm with h1|h1|h1
  ·have:=(Array.getElem?_eq_some_iff.1 hA).1;omega
  ·exact h1.not e hc
  ·omega⟩
theorem kps_grown {n₀ bp bs bv:Nat} {W0 A C:World} {r:Option Nat} (h:KpS n₀ bp bs bv W0 A) (g:A.grownBy C r) (h0:n₀≤A.heap.size) (h1:bp<A.heap.size∧bs<A.heap.size∧bv<A.heap.size)
  (hr: ∀k,r=some k→n₀≤k∧k≠bp∧k≠bs∧k≠bv):KpS n₀ bp bs bv W0 C:=
 ⟨h.low.grown g h0 (fun k hk=>(hr k hk).1),(g.block bp h1.1 (fun e=>(hr _ e.symm).2.1 rfl)).trans h.p,(g.block bs h1.2.1 (fun e=>(hr _ e.symm).2.2.1 rfl)).trans h.s,(g.block bv h1.2.2 (fun e=>(hr _ e.symm).2.2.2 rfl)).trans h.v⟩
theorem grown_below {A C:World} (hb:Below A.heap.size A C):A.grownBy C none:=⟨hb.os,hb.tape,hb.output,hb.size,fun k hk _=>hb.block k hk⟩
theorem grown_store (A:World) (p k:Nat) (v:Value):A.grownBy (A.setCell ⟨p,k,none⟩ v) (some p):=
 ⟨rfl,rfl,rfl,by rw[size_setCell];exact Nat.le_refl _,fun j _ hj=>set_else (fun e=>hj (by rw[←e]))⟩

/-- the cells of relations -/
def qflat (l:List (Rul.Rl×Value)):List Value:=l.flatMap fun q=> [.int .u8 (q.1.op.toNat:Int),.int .i64 q.1.mod,.bool q.1.no,q.2]
theorem qflat_at: ∀{l:List (Rul.Rl×Value)} {j:Nat} {q:Rul.Rl×Value},l[j]?=some q→
  (qflat l)[j*4]?=some (.int .u8 (q.1.op.toNat:Int))∧(qflat l)[j*4+1]?=some (.int .i64 q.1.mod)∧(qflat l)[j*4+2]?=some (.bool q.1.no)∧(qflat l)[j*4+3]?=some q.2:=by
 intro l
 induction l with
 |nil=>intro j q h;simp at h
 |cons a l ih=>
  intro j q h
  cases j with
  |zero=>simp at h;subst h;exact⟨rfl,rfl,rfl,rfl⟩
  |succ j=>
   have h':=ih (j:=j) (q:=q) (by simpa using h)
   have e:(j+1)*4=j*4+1+1+1+1:=by omega
   rw[e]
   exact h'
theorem qflat_add (l:List (Rul.Rl×Value)) (r:Rul.Rl) (v:Value):qflat (l++ [(r,v)])=qflat l++ [.int .u8 (r.op.toNat:Int),.int .i64 r.mod,.bool r.no,v]:=by
 unfold qflat;rw[List.flatMap_append];rfl

/-- the row of relations that grows -/
structure PI (B p:Nat) (vb vr:Value) (qs:List (Rul.Rl×Value)) (S:Nat→Prop) (pre:List (List UInt8)) (W:World):Prop where
 box:Boxed W p #[vb]
 row:W.ownsRow B 143 4 vr qs.length (qflat qs)
 fst:qs.map (·.1)=pre.map Rul.relP
 it: ∀q∈qs,∃a n c,q.2= .slice a n c∧SlAt 2 (RngI S) W (.slice a n c) q.1.rs
 own:Own B S vr W
 sz:B≤W.heap.size
theorem PI.grown {B p:Nat} {vb vr:Value} {qs:List (Rul.Rl×Value)} {S:Nat→Prop} {pre:List (List UInt8)} {A C:World} {r:Option Nat} (h:PI B p vb vr qs S pre A) (g:A.grownBy C r)
  (hr: ∀k,r=some k→k≠p∧vr.ownBlock≠some k∧ ¬S k):PI B p vb vr qs S pre C:=by
 have hS: ∀b,S b→some b≠r:=fun b hb e=>(hr b e.symm).2.2 hb
 refine⟨boxed_grown h.box g (fun e=>(hr _ e.symm).1 rfl),h.row.kept g ?_,h.fst,fun q hq=>?_,h.own.grown g hS,Nat.le_trans h.sz g.size⟩
 ·cases hv:vr.ownBlock with
  |none=>exact .inl rfl
  |some k=>exact .inr fun e=>(hr k e.symm).2.1 hv
 ·obtain⟨a,n,c,e,hs⟩:=h.it q hq
  exact⟨a,n,c,e,rngsI_kept hs (same_grown h.own g hS) (fun _ hb=>hb)⟩
theorem PI.len {B p:Nat} {vb vr:Value} {qs:List (Rul.Rl×Value)} {S:Nat→Prop} {pre:List (List UInt8)} {W:World} (h:PI B p vb vr qs S pre W):qs.length=pre.length:=by
 have:=congrArg List.length h.fst
 simpa using this
/-- the relation that was read is added -/
theorem PI.append {B p:Nat} {vb vr v':Value} {qs:List (Rul.Rl×Value)} {S:Nat→Prop} {pre:List (List UInt8)} {x:List UInt8} {a:Option Addr} {n c:Nat} {A C:World} (h:PI B p vb vr qs S pre A)
  (hown:C.ownsRow B 143 4 v' (qs.length+1) (qflat qs++ [.int .u8 ((Rul.relP x).op.toNat:Int),.int .i64 (Rul.relP x).mod,.bool (Rul.relP x).no,.slice a n c])) (g:A.grownBy C vr.ownBlock)
  (hat:v'.ownBlock=vr.ownBlock∨v'.ownBlock=some A.heap.size) (hp:p<B)
  (hs:SlAt 2 RngC A (.slice a n c) (Rul.relP x).rs) (hb: ∀b,(Value.slice a n c).ownBlock=some b→B≤b∧vr.ownBlock≠some b):
  PI B p vb v' (qs++ [(Rul.relP x,.slice a n c)]) (fun b=>S b∨((Rul.relP x).rs≠ []∧(Value.slice a n c).ownBlock=some b)) (pre++ [x]) C:=by
 have hB: ∀k,vr.ownBlock=some k→B≤k:=fun k hk=>(h.row.lt k hk).1
 have hS: ∀b,S b→some b≠vr.ownBlock:=fun b hb e=>h.own.ne b hb e.symm
 have hT: ∀b,(Rul.relP x).rs≠ []→(Value.slice a n c).ownBlock=some b→IsC A b:=by
  intro b hn hb
  rcases hs with⟨e,_⟩|⟨b',off,cap,e1,e2,_,_,e3⟩
  ·exact absurd e hn
  ·injection e1 with e1 _ _
   subst e1
   injection hb with hb
   subst hb
   have hq:=e3 0 _ (List.getElem?_eq_getElem e2)
   exact IsC.of_cell hq.1
 have hs':SlAt 2 (RngI (fun b=>S b∨((Rul.relP x).rs≠ []∧(Value.slice a n c).ownBlock=some b))) C (.slice a n c) (Rul.relP x).rs:=by
  rcases hs with⟨e,z⟩|⟨b',off,cap,e1,e2,e4,e5,e3⟩
  ·exact .inl ⟨e,z⟩
  ·have hne:(Rul.relP x).rs≠ []:=by rintro e;rw[e] at e2;simp at e2
   have ho:(Value.slice a n c).ownBlock=some b':=by rw[e1];rfl
   have hC:=g.block b' (hT b' hne ho).lt (fun e=>(hb b' ho).2 e.symm)
   refine .inr ⟨b',off,cap,e1,e2,e4,e5,fun j y hy=>⟨.inr ⟨hne,ho⟩,?_,?_⟩⟩
   ·exact(World.cell?_of_block (a:=⟨b',off+j*2,none⟩) hC).trans (e3 j y hy).1
   ·exact(World.cell?_of_block (a:=⟨b',off+j*2+1,none⟩) hC).trans (e3 j y hy).2
 refine⟨boxed_grown h.box g (fun e=>by have:=hB _ e.symm;omega),?_,?_,?_,⟨?_,?_,?_⟩,Nat.le_trans h.sz g.size⟩
 ·rw[qflat_add,List.length_append];exact hown
 ·rw[List.map_append,List.map_append,h.fst];rfl
 ·intro q hq
  rcases List.mem_append.1 hq with hq|hq
  ·obtain⟨a',n',c',e,z⟩:=h.it q hq
   exact⟨a',n',c',e,rngsI_kept z (same_grown h.own g hS) (fun _ hb=> .inl hb)⟩
  ·rw[List.mem_singleton.1 hq]
   exact⟨a,n,c,rfl,hs'⟩
 ·rintro b (hb'|hb')
  ·exact h.own.ge b hb'
  ·exact(hb b hb'.2).1
 ·rintro b (hb'|hb') e
  ·rcases hat with e'|e'
   ·exact h.own.ne b hb' (e'.symm.trans e)
   ·have:=(h.own.is b hb').lt
    rw[e'] at e;injection e with e;omega
  ·rcases hat with e'|e'
   ·exact(hb b hb'.2).2 (e'.symm.trans e)
   ·have:=(hT b hb'.1 hb'.2).lt
    rw[e'] at e;injection e with e;omega
 ·rintro b (hb'|hb')
  ·exact(h.own.is b hb').grown g (hS b hb')
  ·exact(hT b hb'.1 hb'.2).grown g (fun e=>(hb b hb'.2).2 e.symm)
theorem PI.stored {B p:Nat} {vb vr:Value} {qs:List (Rul.Rl×Value)} {S:Nat→Prop} {pre:List (List UInt8)} {A:World} (h:PI B p vb vr qs S pre A) (hp:p<B):PI B p vr vr qs S pre (A.setCell ⟨p,0,none⟩ vr):=by
 have g:=grown_store A p 0 vr
 have hS: ∀b,S b→some b≠some p:=fun b hb e=>by have:=h.own.ge b hb;injection e with e;omega
 refine⟨h.box.set 0 vr (by show 0<1;omega),h.row.kept g ?_,h.fst,fun q hq=>?_,h.own.grown g hS,Nat.le_trans h.sz g.size⟩
 ·cases hv:vr.ownBlock with
  |none=>exact .inl rfl
  |some k=>exact .inr fun e=>by have:=h.row.lt k hv;injection e with e;omega
 ·obtain⟨a,n,c,e,hs⟩:=h.it q hq
  exact⟨a,n,c,e,rngsI_kept hs (same_grown h.own g hS) (fun _ hb=>hb)⟩
/-- the row as it lies -/
theorem PI.lies {B p:Nat} {vb:Value} {a:Option Addr} {n c:Nat} {qs:List (Rul.Rl×Value)} {S:Nat→Prop} {pre:List (List UInt8)} {A:World} (h:PI B p vb (.slice a n c) qs S pre A):
  SlAt 4 (RelI (fun b=>S b∨(Value.slice a n c).ownBlock=some b)) A (.slice a n c) (pre.map Rul.relP)∧ ∀b,(S b∨(Value.slice a n c).ownBlock=some b)→B≤b∧IsC A b:=by
 refine⟨?_,?_⟩
 ·rw[←h.fst]
  have hr:=h.row
  rcases hr.2 with⟨e,hn⟩|⟨g,cap,cur,e,hB,hg,hc,hm,_⟩
  ·have:qs= []:=List.eq_nil_of_length_eq_zero hn
   subst this
   injection e with e1 e2 e3
   subst e1 e2 e3
   exact .inl ⟨rfl,_,_,rfl⟩
  ·injection e with e1 e2 e3
   subst e1 e2 e3
   by_cases h0:qs.length=0
   ·have:qs= []:=List.eq_nil_of_length_eq_zero h0
    subst this
    exact .inl ⟨rfl,_,_,rfl⟩
   ·refine .inr ⟨g,0,_,by rw[List.length_map],by rw[List.length_map];omega,by rw[List.length_map];exact hc,hm,fun j x hx=>?_⟩
    rw[List.getElem?_map] at hx
    obtain⟨q,hq,rfl⟩:=Option.map_eq_some_iff.1 hx
    obtain⟨e0,e1,e2,e3⟩:=qflat_at hq
    have hj:j<qs.length:=(List.getElem?_eq_some_iff.1 hq).1
    have c0:=hr.cellAt (g:=g) (j*4) (by omega)
    have c1:=hr.cellAt (g:=g) (j*4+1) (by omega)
    have c2:=hr.cellAt (g:=g) (j*4+2) (by omega)
    have c3:=hr.cellAt (g:=g) (j*4+3) (by omega)
    rw[e0] at c0
    rw[e1] at c1
    rw[e2] at c2
    rw[e3] at c3
    rw[Nat.zero_add]
    obtain⟨a',n',c',e,z⟩:=h.it q (List.mem_of_getElem? hq)
    rw[e] at c3
    exact⟨.inr rfl,a',n',c',c0,c1,c2,c3,rngsI_kept z (fun _ _=>rfl) (fun _ hb=> .inl hb)⟩
 ·rintro b (hb|hb)
  ·exact⟨h.own.ge b hb,h.own.is b hb⟩
  ·exact⟨(h.row.lt b hb).1,IsC.row h.row hb⟩

/-- the row of parts that grows -/
structure PO (w:World) (B p:Nat) (vb vr:Value) (ps:List (List Rul.Rl×Value)) (S:Nat→Prop) (pre:List (List UInt8)) (W:World):Prop where
 box:Boxed W p #[vb]
 row:W.ownsRow B 140 1 vr ps.length (ps.map (·.2))
 fst:ps.map (·.1)=pre.map Rul.partP
 it: ∀q∈ps,∃a n c,q.2= .slice a n c∧SlAt 4 (RelI S) W (.slice a n c) q.1
 own:Own B S vr W
 low:Below w.heap.size w W
 sz:B≤W.heap.size
theorem PO.grown {w:World} {B p:Nat} {vb vr:Value} {ps:List (List Rul.Rl×Value)} {S:Nat→Prop} {pre:List (List UInt8)} {A C:World} {r:Option Nat} (h:PO w B p vb vr ps S pre A) (g:A.grownBy C r)
  (hr: ∀k,r=some k→w.heap.size≤k∧k≠p∧vr.ownBlock≠some k∧ ¬S k):PO w B p vb vr ps S pre C:=by
 have hS: ∀b,S b→some b≠r:=fun b hb e=>(hr b e.symm).2.2.2 hb
 refine⟨boxed_grown h.box g (fun e=>(hr _ e.symm).2.1 rfl),h.row.kept g ?_,h.fst,fun q hq=>?_,h.own.grown g hS,h.low.grown g h.low.size (fun k hk=>(hr k hk).1),Nat.le_trans h.sz g.size⟩
 ·cases hv:vr.ownBlock with
  |none=>exact .inl rfl
  |some k=>exact .inr fun e=>(hr k e.symm).2.2.1 hv
 ·obtain⟨a,n,c,e,hs⟩:=h.it q hq
  exact⟨a,n,c,e,relsI_kept hs (same_grown h.own g hS) (fun _ hb=>hb)⟩
theorem PO.len {w:World} {B p:Nat} {vb vr:Value} {ps:List (List Rul.Rl×Value)} {S:Nat→Prop} {pre:List (List UInt8)} {W:World} (h:PO w B p vb vr ps S pre W):ps.length=pre.length:=by
 have:=congrArg List.length h.fst
 simpa using this
theorem PO.append {w:World} {B p:Nat} {vb vr v':Value} {ps:List (List Rul.Rl×Value)} {S S2:Nat→Prop} {pre:List (List UInt8)} {x:List UInt8} {a:Option Addr} {n c:Nat} {A C:World} (h:PO w B p vb vr ps S pre A)
  (hown:C.ownsRow B 140 1 v' (ps.length+1) (ps.map (·.2)++ [.slice a n c])) (g:A.grownBy C vr.ownBlock)
  (hat:v'.ownBlock=vr.ownBlock∨v'.ownBlock=some A.heap.size) (hp:p<B) (hw:w.heap.size≤B)
  (hs:SlAt 4 (RelI S2) A (.slice a n c) (Rul.partP x)) (hb: ∀b,S2 b→B≤b∧vr.ownBlock≠some b∧IsC A b):
  PO w B p vb v' (ps++ [(Rul.partP x,.slice a n c)]) (fun b=>S b∨S2 b) (pre++ [x]) C:=by
 have hB: ∀k,vr.ownBlock=some k→B≤k:=fun k hk=>(h.row.lt k hk).1
 have hS: ∀b,S b→some b≠vr.ownBlock:=fun b hb e=>h.own.ne b hb e.symm
 have hS2: ∀b,S2 b→some b≠vr.ownBlock:=fun b hb' e=>(hb b hb').2.1 e.symm
 have sm2:SameOn S2 A C:=fun b hb'=>g.block b (hb b hb').2.2.lt (hS2 b hb')
 refine⟨boxed_grown h.box g (fun e=>by have:=hB _ e.symm;omega),?_,?_,?_,⟨?_,?_,?_⟩,h.low.grown g h.low.size (fun k hk=>by have:=hB k hk;omega),Nat.le_trans h.sz g.size⟩
 ·rw[List.length_append,List.map_append];exact hown
 ·rw[List.map_append,List.map_append,h.fst];rfl
 ·intro q hq
  rcases List.mem_append.1 hq with hq|hq
  ·obtain⟨a',n',c',e,z⟩:=h.it q hq
   exact⟨a',n',c',e,relsI_kept z (same_grown h.own g hS) (fun _ hb=> .inl hb)⟩
  ·rw[List.mem_singleton.1 hq]
   exact⟨a,n,c,rfl,relsI_kept hs sm2 (fun _ hb=> .inr hb)⟩
 ·rintro b (hb'|hb')
  ·exact h.own.ge b hb'
  ·exact(hb b hb').1
 ·rintro b (hb'|hb') e
  ·rcases hat with e'|e'
   ·exact h.own.ne b hb' (e'.symm.trans e)
   ·have:=(h.own.is b hb').lt
    rw[e'] at e;injection e with e;omega
  ·rcases hat with e'|e'
   ·exact(hb b hb').2.1 (e'.symm.trans e)
   ·have:=(hb b hb').2.2.lt
    rw[e'] at e;injection e with e;omega
 ·rintro b (hb'|hb')
  ·exact(h.own.is b hb').grown g (hS b hb')
  ·exact(hb b hb').2.2.grown g (hS2 b hb')
theorem PO.stored {w:World} {B p:Nat} {vb vr:Value} {ps:List (List Rul.Rl×Value)} {S:Nat→Prop} {pre:List (List UInt8)} {A:World} (h:PO w B p vb vr ps S pre A) (hp:p<B) (hw:w.heap.size≤p):PO w B p vr vr ps S pre (A.setCell ⟨p,0,none⟩ vr):=by
 have g:=grown_store A p 0 vr
 have hS: ∀b,S b→some b≠some p:=fun b hb e=>by have:=h.own.ge b hb;injection e with e;omega
 refine⟨h.box.set 0 vr (by show 0<1;omega),h.row.kept g ?_,h.fst,fun q hq=>?_,h.own.grown g hS,h.low.grown g h.low.size (fun k hk=>by injection hk with hk;omega),Nat.le_trans h.sz g.size⟩
 ·cases hv:vr.ownBlock with
  |none=>exact .inl rfl
  |some k=>exact .inr fun e=>by have:=h.row.lt k hv;injection e with e;omega
 ·obtain⟨a,n,c,e,hs⟩:=h.it q hq
  exact⟨a,n,c,e,relsI_kept hs (same_grown h.own g hS) (fun _ hb=>hb)⟩
theorem PO.lies {w:World} {B p:Nat} {vb:Value} {a:Option Addr} {n c:Nat} {ps:List (List Rul.Rl×Value)} {S:Nat→Prop} {pre:List (List UInt8)} {A:World} (h:PO w B p vb (.slice a n c) ps S pre A):
  SlAt 1 PartC A (.slice a n c) (pre.map Rul.partP):=by
 rw[←h.fst]
 have hr:=h.row
 rcases hr.2 with⟨e,hn⟩|⟨g,cap,cur,e,hB,hg,hc,hm,_⟩
 ·have:ps= []:=List.eq_nil_of_length_eq_zero hn
  subst this
  injection e with e1 e2 e3
  subst e1 e2 e3
  exact .inl ⟨rfl,_,_,rfl⟩
 ·injection e with e1 e2 e3
  subst e1 e2 e3
  by_cases h0:ps.length=0
  ·have:ps= []:=List.eq_nil_of_length_eq_zero h0
   subst this
   exact .inl ⟨rfl,_,_,rfl⟩
  ·refine .inr ⟨g,0,_,by rw[List.length_map],by rw[List.length_map];omega,by rw[List.length_map];exact hc,hm,fun j x hx=>?_⟩
   rw[List.getElem?_map] at hx
   obtain⟨q,hq,rfl⟩:=Option.map_eq_some_iff.1 hx
   have hj:j<ps.length:=(List.getElem?_eq_some_iff.1 hq).1
   have c0:=hr.cellAt (g:=g) (j*1) (by omega)
   rw[Nat.mul_one,List.getElem?_map,hq] at c0
   rw[Nat.zero_add,Nat.mul_one]
   obtain⟨a',n',c',e,z⟩:=h.it q (List.mem_of_getElem? hq)
   exact⟨a',n',c',c0.trans (by rw[←e];rfl),relsI_plain z⟩

/-- the outer round's world, and what the round keeps of its start -/
structure PT (w:World) (B p bp bs bv:Nat) (v:Value) (ps:List (List Rul.Rl×Value)) (S:Nat→Prop) (pre:List (List UInt8)) (W0 W:World):Prop where
 po:PO w B p v v ps S pre W
 kf:KeepsFrom B W0 W
 kp:KpS w.heap.size bp bs bv W0 W
theorem PT.start {w:World} {B p bp bs bv:Nat} {v:Value} {ps:List (List Rul.Rl×Value)} {S:Nat→Prop} {pre:List (List UInt8)} {W:World} (h:PO w B p v v ps S pre W):PT w B p bp bs bv v ps S pre W W:=
 ⟨h,KeepsFrom.refl _ _,⟨Below.refl _ _,rfl,rfl,rfl⟩⟩
/-- what lies ahead of the round's start stays -/
structure Olds (B p bp bs bv:Nat) (v:Value) (S:Nat→Prop) (n:Nat):Prop where
 o: ∀b,S b→b<n
 v: ∀b,v.ownBlock=some b→b<n
 b:p<B∧bp<B∧bs<B∧bv<B∧B≤n
theorem PO.olds {w:World} {B p bp bs bv:Nat} {vb v:Value} {ps:List (List Rul.Rl×Value)} {S:Nat→Prop} {pre:List (List UInt8)} {W:World} (h:PO w B p vb v ps S pre W) (hb:p<B∧bp<B∧bs<B∧bv<B):Olds B p bp bs bv v S W.heap.size:=
 ⟨fun b hb=>(h.own.is b hb).lt,fun b hb=>(h.row.lt b hb).2,hb.1,hb.2.1,hb.2.2.1,hb.2.2.2,h.sz⟩
theorem PT.grown {w:World} {B p bp bs bv:Nat} {v:Value} {ps:List (List Rul.Rl×Value)} {S:Nat→Prop} {pre:List (List UInt8)} {W0 A C:World} {r:Option Nat} (h:PT w B p bp bs bv v ps S pre W0 A) (g:A.grownBy C r)
  (ho:Olds B p bp bs bv v S W0.heap.size) (hw:w.heap.size≤B) (hr: ∀k,r=some k→W0.heap.size≤k):PT w B p bp bs bv v ps S pre W0 C:=by
 have hb:=ho.b
 have hz:=h.kf.size
 refine⟨h.po.grown g fun k hk=>?_,keeps_grown h.kf g (fun k hk=> .inl (hr k hk)),kps_grown h.kp g (by omega) (by omega) fun k hk=>?_⟩
 ·have:=hr k hk
  exact⟨by omega,by omega,fun e=>by have:=ho.v _ e;omega,fun e=>by have:=ho.o _ e;omega⟩
 ·have:=hr k hk
  exact⟨by omega,by omega,by omega,by omega⟩
theorem PT.below {w:World} {B p bp bs bv:Nat} {v:Value} {ps:List (List Rul.Rl×Value)} {S:Nat→Prop} {pre:List (List UInt8)} {W0 A C:World} (h:PT w B p bp bs bv v ps S pre W0 A) (hb:Below A.heap.size A C)
  (ho:Olds B p bp bs bv v S W0.heap.size) (hw:w.heap.size≤B):PT w B p bp bs bv v ps S pre W0 C:=
 h.grown (grown_below hb) ho hw (fun k e=>by cases e)

/-- the inner round's world -/
structure PQ (w:World) (B p bp bs bv:Nat) (v:Value) (ps:List (List Rul.Rl×Value)) (S:Nat→Prop) (pre:List (List UInt8)) (W0:World) (B2 p2 bp2 bs2 bv2:Nat) (vb vr:Value) (qs:List (Rul.Rl×Value)) (S2:Nat→Prop) (pre2:List (List UInt8)) (W1 W:World):Prop where
 pt:PT w B p bp bs bv v ps S pre W0 W
 pi:PI B2 p2 vb vr qs S2 pre2 W
 kf:KeepsFrom B2 W1 W
 kp:KpS w.heap.size bp2 bs2 bv2 W1 W
theorem PQ.start {w:World} {B p bp bs bv:Nat} {v:Value} {ps:List (List Rul.Rl×Value)} {S:Nat→Prop} {pre:List (List UInt8)} {W0:World} {B2 p2 bp2 bs2 bv2:Nat} {vb vr:Value} {qs:List (Rul.Rl×Value)} {S2:Nat→Prop} {pre2:List (List UInt8)} {W:World}
  (h:PT w B p bp bs bv v ps S pre W0 W) (k:PI B2 p2 vb vr qs S2 pre2 W):PQ w B p bp bs bv v ps S pre W0 B2 p2 bp2 bs2 bv2 vb vr qs S2 pre2 W W:=
 ⟨h,k,KeepsFrom.refl _ _,⟨Below.refl _ _,rfl,rfl,rfl⟩⟩
/-- what is fixed of both rounds -/
structure Fix (w:World) (B p bp bs bv:Nat) (v:Value) (S:Nat→Prop) (W0:World) (B2 p2 bp2 bs2 bv2:Nat):Prop where
 ho:Olds B p bp bs bv v S W0.heap.size
 hw:w.heap.size≤B
 h2:W0.heap.size≤p2∧p2<B2∧bp2<B2∧bs2<B2∧bv2<B2
 ne:p2≠bp2∧p2≠bs2∧p2≠bv2
theorem PQ.below {w:World} {B p bp bs bv:Nat} {v:Value} {ps:List (List Rul.Rl×Value)} {S:Nat→Prop} {pre:List (List UInt8)} {W0:World} {B2 p2 bp2 bs2 bv2:Nat} {vb vr:Value} {qs:List (Rul.Rl×Value)} {S2:Nat→Prop} {pre2:List (List UInt8)} {W1 A C:World}
  (h:PQ w B p bp bs bv v ps S pre W0 B2 p2 bp2 bs2 bv2 vb vr qs S2 pre2 W1 A) (hb:Below A.heap.size A C) (f:Fix w B p bp bs bv v S W0 B2 p2 bp2 bs2 bv2):PQ w B p bp bs bv v ps S pre W0 B2 p2 bp2 bs2 bv2 vb vr qs S2 pre2 W1 C:=by
 have g:=grown_below hb
 have:=f.h2
 have:=f.ho.b
 have:=f.hw
 have:=h.pi.sz
 exact⟨h.pt.below hb f.ho f.hw,h.pi.grown g (fun k e=>by cases e),keeps_grown h.kf g (fun k e=>by cases e),kps_grown h.kp g (by omega) (by omega) (fun k e=>by cases e)⟩
theorem PQ.append {w:World} {B p bp bs bv:Nat} {v:Value} {ps:List (List Rul.Rl×Value)} {S:Nat→Prop} {pre:List (List UInt8)} {W0:World} {B2 p2 bp2 bs2 bv2:Nat} {vb vr v':Value} {qs:List (Rul.Rl×Value)} {S2:Nat→Prop} {pre2:List (List UInt8)} {W1 A C:World}
  {x:List UInt8} {a:Option Addr} {n c:Nat} (h:PQ w B p bp bs bv v ps S pre W0 B2 p2 bp2 bs2 bv2 vb vr qs S2 pre2 W1 A) (f:Fix w B p bp bs bv v S W0 B2 p2 bp2 bs2 bv2)
  (hown:C.ownsRow B2 143 4 v' (qs.length+1) (qflat qs++ [.int .u8 ((Rul.relP x).op.toNat:Int),.int .i64 (Rul.relP x).mod,.bool (Rul.relP x).no,.slice a n c])) (g:A.grownBy C vr.ownBlock)
  (hat:v'.ownBlock=vr.ownBlock∨v'.ownBlock=some A.heap.size)
  (hs:SlAt 2 RngC A (.slice a n c) (Rul.relP x).rs) (hb: ∀b,(Value.slice a n c).ownBlock=some b→B2≤b∧vr.ownBlock≠some b):
  PQ w B p bp bs bv v ps S pre W0 B2 p2 bp2 bs2 bv2 vb v' (qs++ [(Rul.relP x,.slice a n c)]) (fun b=>S2 b∨((Rul.relP x).rs≠ []∧(Value.slice a n c).ownBlock=some b)) (pre2++ [x]) W1 C:=by
 have h2:=f.h2
 have:=f.ho.b
 have:=f.hw
 have:=h.pi.sz
 have hB: ∀k,vr.ownBlock=some k→B2≤k:=fun k hk=>(h.pi.row.lt k hk).1
 exact⟨h.pt.grown g f.ho f.hw (fun k hk=>by have:=hB k hk;omega),h.pi.append hown g hat h2.2.1 hs hb,keeps_grown h.kf g (fun k hk=> .inr (.inl (IsC.row h.pi.row hk))),
  kps_grown h.kp g (by omega) (by omega) (fun k hk=>by have:=hB k hk;omega)⟩
theorem PQ.stored {w:World} {B p bp bs bv:Nat} {v:Value} {ps:List (List Rul.Rl×Value)} {S:Nat→Prop} {pre:List (List UInt8)} {W0:World} {B2 p2 bp2 bs2 bv2:Nat} {vb vr:Value} {qs:List (Rul.Rl×Value)} {S2:Nat→Prop} {pre2:List (List UInt8)} {W1 A:World}
  (h:PQ w B p bp bs bv v ps S pre W0 B2 p2 bp2 bs2 bv2 vb vr qs S2 pre2 W1 A) (f:Fix w B p bp bs bv v S W0 B2 p2 bp2 bs2 bv2):PQ w B p bp bs bv v ps S pre W0 B2 p2 bp2 bs2 bv2 vr vr qs S2 pre2 W1 (A.setCell ⟨p2,0,none⟩ vr):=by
 have g:=grown_store A p2 0 vr
 have h2:=f.h2
 have hn:=f.ne
 have:=f.ho.b
 have:=f.hw
 have:=h.pi.sz
 exact⟨h.pt.grown g f.ho f.hw (fun k hk=>by injection hk with hk;omega),h.pi.stored h2.2.1,keeps_grown h.kf g (fun k hk=> .inr (.inr (by injection hk with hk;omega))),
  kps_grown h.kp g (by omega) (by omega) (fun k hk=>by injection hk with hk;subst hk;exact⟨by omega,hn⟩)⟩

/-- the end of the outer round: the part is added -/
structure PU (w:World) (B p bp bs bv:Nat) (vb vr:Value) (ps:List (List Rul.Rl×Value)) (S:Nat→Prop) (pre:List (List UInt8)) (W0 W:World):Prop where
 po:PO w B p vb vr ps S pre W
 kf:KeepsFrom B W0 W
 kp:KpS w.heap.size bp bs bv W0 W
theorem PQ.close {w:World} {B p bp bs bv:Nat} {v v':Value} {ps:List (List Rul.Rl×Value)} {S:Nat→Prop} {pre:List (List UInt8)} {W0:World} {B2 p2 bp2 bs2 bv2:Nat} {vb:Value} {a:Option Addr} {n c:Nat} {qs:List (Rul.Rl×Value)} {S2:Nat→Prop} {pre2:List (List UInt8)} {W1 A C:World}
  {x:List UInt8} (h:PQ w B p bp bs bv v ps S pre W0 B2 p2 bp2 bs2 bv2 vb (.slice a n c) qs S2 pre2 W1 A) (f:Fix w B p bp bs bv v S W0 B2 p2 bp2 bs2 bv2) (hx:Rul.partP x=pre2.map Rul.relP)
  (hown:C.ownsRow B 140 1 v' (ps.length+1) (ps.map (·.2)++ [.slice a n c])) (g:A.grownBy C v.ownBlock) (hat:v'.ownBlock=v.ownBlock∨v'.ownBlock=some A.heap.size):
  PU w B p bp bs bv v v' (ps++ [(Rul.partP x,.slice a n c)]) (fun b=>S b∨(S2 b∨(Value.slice a n c).ownBlock=some b)) (pre++ [x]) W0 C:=by
 obtain⟨hl,hl2⟩:=h.pi.lies
 have h2:=f.h2
 have hb:=f.ho.b
 have hw:=f.hw
 have hB: ∀k,v.ownBlock=some k→B≤k:=fun k hk=>(h.pt.po.row.lt k hk).1
 have hz:=h.pi.sz
 refine⟨h.pt.po.append hown g hat hb.1 hw (by rw[hx];exact hl) (fun b h'=>?_),keeps_grown h.pt.kf g (fun k hk=> .inr (.inl (IsC.row h.pt.po.row hk))),kps_grown h.pt.kp g (by omega) (by omega) (fun k hk=>by have:=hB k hk;omega)⟩
 have:=hl2 b h'
 exact⟨by omega,fun e=>by have:=f.ho.v b e;omega,this.2⟩
theorem PU.stored {w:World} {B p bp bs bv:Nat} {vb vr:Value} {ps:List (List Rul.Rl×Value)} {S:Nat→Prop} {pre:List (List UInt8)} {W0 A:World} (h:PU w B p bp bs bv vb vr ps S pre W0 A) (hp:p<B) (hw:w.heap.size≤p) (hb:bp<B∧bs<B∧bv<B) (hne:p≠bp∧p≠bs∧p≠bv):
  PU w B p bp bs bv vr vr ps S pre W0 (A.setCell ⟨p,0,none⟩ vr):=by
 have g:=grown_store A p 0 vr
 have hz:=h.po.sz
 exact⟨h.po.stored hp hw,keeps_grown h.kf g (fun k hk=> .inr (.inr (by injection hk with hk;omega))),kps_grown h.kp g (by omega) (by omega) (fun k hk=>by injection hk with hk;subst hk;exact⟨hw,hne⟩)⟩

section
variable {P:Program} (w:World)
theorem wp_append_own_at {o:Oper} {a:Act} {K:Act→World→Prop} {Q:Exit→Act→World→Prop} (s x:Operand) (t:TypeId)
  (ho:o.op= .call {callee:= .builtin .append,args:= #[s,x],argTypes:= #[t,t]})
  (base:Nat) (e:TypeId) (i:TypeInfo) (z:Value) (size bytes:Nat) (ht:P.underlying t=some (.slice e)) (hi:P.info? e=some i) (hz:i.zero=some z)
  (hsize:i.size=size) (hby:i.bytes=bytes) (hzs:z.cells.size=size) (hsz:0<size)
  (v:Value) (n:Nat) (xs:List Value) (hs:a.eval s=v) (hown:w.ownsRow base e size v n xs)
  (ad:Addr) (m c:Nat) (news:List Value) (hx:a.eval x= .slice (some ad) m c) (hl:news.length=m*size) (hnews: ∀j u,news[j]?=some u→w.cell? (ad.add j)=some u) (h1: ∀u∈news,u.oneCell'=true)
  (h63:n+m≤maxLen) (hbytes:(n+m)*bytes≤140737488355328) (hbase:base≤w.heap.size)
  (h: ∀v' w',w'.ownsRow base e size v' (n+m) (xs++news)→w.grownBy w' v.ownBlock→(v'.ownBlock=v.ownBlock∨v'.ownBlock=some w.heap.size)→K (a.put o.dst v') w'):o.wp P a w K Q:=by
 obtain⟨v',w',hr,h2,h3,_,h5⟩:=run_append_own_at (P:=P) w base t o.type e i z size bytes ht hi hz hsize hby hzs hsz v n xs hown ad m c news hl hnews h1 h63 hbytes hbase
 unfold Oper.wp execOp
 simp only[ho,resolve,invoke,builtin,Sem.run_bind,Sem.run_pure,Result.andThen_ok,List.map_toArray,List.map_cons,List.map_nil,hs,hx,hr]
 exact h v' w' h2 h3 h5
end
open Go.RowKit

set_option maxHeartbeats 2000000 in
theorem ranged_any (p:Int×Int) (w:World) (hp:PowW w) (hk:Rul.rngOk p=true):
  Calls Tryz.prog 143 #[.agg #[.int .i64 p.1,.int .i64 p.2]] w fun e w'=>e= .returned (.string ⟨(Rul.rngT p).toArray⟩)∧Below w.heap.size w w':=by
 obtain⟨a,b⟩:=p
 simp only[Rul.rngOk,Bool.and_eq_true,decide_eq_true_eq] at hk
 obtain⟨⟨h0,h1⟩,h2⟩:=hk
 dsimp only
 have CA:=Lib.hid fun w hp=>itoa_pos a w hp h0 (by omega)
 have CB:=Lib.hid fun w hp=>itoa_pos b w hp (by omega) (by omega)
 have hE:Rul.rngT (a,b)=if a=b then Lib.decDigits a.toNat else Lib.decDigits a.toNat++ [46,46]++Lib.decDigits b.toNat:=rfl
 have la:(Lib.decDigits a.toNat).length≤100:=by have:=Byt.digits_short 7 a.toNat (by omega) (by omega);omega
 have lb:(Lib.decDigits b.toNat).length≤100:=by have:=Byt.digits_short 7 b.toNat (by omega) (by omega);omega
 rw[hE]
 generalize Lib.decDigits a.toNat=DA at*
 generalize Lib.decDigits b.toNat=DB at*
 clear hE
 by_cases he:a=b
 ·have e1:(a==b)=true:=beq_yes he
  rw[if_pos he]
  clear he
  go_enter Tryz.func143,Tryz.ntmps143
  go_wp2_with fail
  refine(CA.out _ (hp.alloc _)).mono ?_
  rintro e w1 ⟨rfl,hb⟩
  go_wp2_with fail
  go_ret
  exact⟨rfl,blw_trans (blw_alloc w (.cells #[.int .i64 a,.int .i64 b] 176)) hb⟩
 ·have e1:(a==b)=false:=beq_no he
  rw[if_neg he]
  clear he
  obtain⟨X1,hX1⟩: ∃X1,X1=DA++ [46,46]:=⟨_,rfl⟩
  obtain⟨X2,hX2⟩: ∃X2,X2=X1++DB:=⟨_,rfl⟩
  have A1: ∀w,(Op.stringOp .add ⟨DA.toArray⟩ ⟨#[46,46]⟩).run Tryz.prog w= .ok (.string ⟨X1.toArray⟩) w:=fun w=>by rw[hX1];exact add_str (P:= Tryz.prog) DA [46,46] (by simp;omega) w
  have l1:X1.length≤102:=by rw[hX1,List.length_append];simp;omega
  have A2: ∀w,(Op.stringOp .add ⟨X1.toArray⟩ ⟨DB.toArray⟩).run Tryz.prog w= .ok (.string ⟨X2.toArray⟩) w:=fun w=>by rw[hX2];exact add_str (P:= Tryz.prog) X1 DB (by omega) w
  rw[←hX1,←hX2]
  have B0:=Lib.hid (Boxed.made w #[.int .i64 a,.int .i64 b] 176)
  have k0:=B0.out.cell 0 _ rfl
  have k1:=B0.out.cell 1 _ rfl
  have P0:=Lib.hid (hp.alloc (.cells #[.int .i64 a,.int .i64 b] 176))
  have W0:=Lib.hid (blw_alloc w (.cells #[.int .i64 a,.int .i64 b] 176))
  clear hX1 hX2 la lb l1 h0 h1 h2 B0
  go_enter Tryz.func143,Tryz.ntmps143
  go_wp2_with fail
  refine wp_region_held_drew (S:=fun w'=>w'.cell? ⟨w.heap.size,0,none⟩=some (.int .i64 a)∧w'.cell? ⟨w.heap.size,1,none⟩=some (.int .i64 b)∧Hid (PowW w')∧Hid (Below w.heap.size w w')) (by kernel_rfl) (by exact⟨k0,k1,Lib.hid (P0.out.drewN 1),Lib.hid (Below.drew W0.out)⟩) (fun hHeld=>?_)
  refine tkr (d:=(some 11)) (v:=?v1) 0 rfl rfl hHeld ?hy1 ?rs1
  case hy1=>(intro w hSw;(try dsimp only at hSw);go_simp)<;>(try with_reducible rfl)
  (try simp only[Act.put,List.setIfInBounds_toArray,List.set_cons_zero,List.set_cons_succ])
  refine tkr (d:=(some 12)) (v:=?v2) 1 rfl rfl hHeld ?hy2 ?rs2
  case hy2=>(intro w hSw;(try dsimp only at hSw);go_simp)<;>(try with_reducible rfl)
  (try simp only[Act.put,List.setIfInBounds_toArray,List.set_cons_zero,List.set_cons_succ])
  refine tkr (d:=(some 15)) (v:=?v3) 4 rfl rfl hHeld ?hy3 ?rs3
  case hy3=>(intro w hSw;(try dsimp only at hSw);go_simp)<;>(try with_reducible rfl)
  (try simp only[Act.put,List.setIfInBounds_toArray,List.set_cons_zero,List.set_cons_succ])
  refine tkr (d:=(some 16)) (v:=?v4) 5 rfl rfl hHeld ?hy4 ?rs4
  case hy4=>(intro w hSw;(try dsimp only at hSw);go_simp)<;>(try with_reducible rfl)
  (try simp only[Act.put,List.setIfInBounds_toArray,List.set_cons_zero,List.set_cons_succ])
  refine take_call 2 rfl (by kernel_rfl) (by rfl) (fun K hK=>?_)
  go_simp
  refine(CA.out _ (by obtain⟨_,_,h2,_⟩:=hHeld;exact h2.out)).mono ?_
  rintro e w' ⟨rfl,hb⟩
  refine hK.out _ _ (by obtain⟨h0,h1,h2,hw⟩:=hHeld;exact⟨cell_keep h0 hb,cell_keep h1 hb,Lib.hid (h2.out.below hb),Lib.hid (blw_trans hw.out hb)⟩) (fun hHeld=>?_)
  clear hK K
  (try simp only[Act.put,List.setIfInBounds_toArray,List.set_cons_zero,List.set_cons_succ])
  refine tkr (d:=(some 14)) (v:=?v6) 3 rfl rfl hHeld ?hy6 ?rs6
  case hy6=>(intro w hSw;(try dsimp only at hSw);go_simp)<;>(try with_reducible rfl)
  (try simp only[Act.put,List.setIfInBounds_toArray,List.set_cons_zero,List.set_cons_succ])
  refine take_call 6 rfl (by kernel_rfl) (by rfl) (fun K hK=>?_)
  go_simp
  refine(CB.out _ (by obtain⟨_,_,h2,_⟩:=hHeld;exact h2.out)).mono ?_
  rintro e w' ⟨rfl,hb⟩
  refine hK.out _ _ (by obtain⟨h0,h1,h2,hw⟩:=hHeld;exact⟨cell_keep h0 hb,cell_keep h1 hb,Lib.hid (h2.out.below hb),Lib.hid (blw_trans hw.out hb)⟩) (fun hHeld=>?_)
  clear hK K
  (try simp only[Act.put,List.setIfInBounds_toArray,List.set_cons_zero,List.set_cons_succ])
  refine tkr (d:=(some 18)) (v:=?v8) 7 rfl rfl hHeld ?hy8 ?rs8
  case hy8=>(intro w hSw;(try dsimp only at hSw);go_simp)<;>(try with_reducible rfl)
  (try simp only[Act.put,List.setIfInBounds_toArray,List.set_cons_zero,List.set_cons_succ])
  refine tkr (d:=(some 2)) (v:=?v9) 8 rfl rfl hHeld ?hy9 ?rs9
  case hy9=>(intro w hSw;(try dsimp only at hSw);go_simp)<;>(try with_reducible rfl)
  (try simp only[Act.put,List.setIfInBounds_toArray,List.set_cons_zero,List.set_cons_succ])
  refine wpAnyH_done (by kernel_rfl) ?_ _
  obtain⟨z0,z1,z2,zW⟩:=hHeld
  go_wp2_with fail
  go_ret
  exact⟨rfl,zW.out⟩
open Go.RowKit

/-- strings.Join over StrsAt -/
theorem sjoin_any (l:List (List UInt8)) (v:Value) (sep:List UInt8) (w:World) (h:StrsAt w v l) (hn:l.length≤2000000000000) (ht:Lst.total l sep≤2000000000000):
  Calls Tryz.prog 141 #[v,.string ⟨sep.toArray⟩] w fun e w'=>e= .returned (.string ⟨(Lib.join l sep).toArray⟩)∧Below w.heap.size w w':=by
 rcases h with⟨rfl,a,cap,rfl⟩|⟨b,off,cap,rfl,h0,hc,hm,hcell⟩
 ·exact(Tryz.strings_Join_none a cap ⟨sep.toArray⟩ w).mono fun _ _ ⟨he,hw⟩=>⟨he,hw▸Below.refl _ _⟩
 ·have hl:=Lst.join_le l sep
  have e:(l.map fun x=>(⟨x.toArray⟩:ByteArray)).map (·.data.toList)=l:=by simp[Function.comp_def]
  have c:= Tryz.strings_Join b off cap (l.map fun x=>⟨x.toArray⟩) ⟨sep.toArray⟩ w (fun j x hx=>by
   rw[List.getElem?_map] at hx
   obtain⟨y,hy,rfl⟩:=Option.map_eq_some_iff.1 hx
   exact hcell j y hy) (World.block_lt_of_cell? w _ (hcell 0 _ (List.getElem?_eq_getElem h0))) (by rw[List.length_map];omega) (by rw[List.length_map];exact hc) (by rw[e];show(Lib.join l sep).length≤_;omega)
  rw[e,List.length_map] at c
  exact c
theorem lens_le_join (l:List (List UInt8)) (sep:List UInt8):Lib.lens l≤(Lib.join l sep).length:=by
 cases l with
 |nil=>simp[Lib.lens]
 |cons x r=>rw[Lib.join_length];omega
open Go.RowKit Go.Lib

set_option maxHeartbeats 1000000 in
theorem idx_rng (l:List (Int×Int)) (p:Int×Int→Bool) (g:Nat) (lb:Array Value) (eg: ∀args w,(callFunc g args).run Tryz.prog w= .ok (.enter g args) w) (v:Value) (w:World) (hl:SlAt 2 RngC w v l)
  (CP:Hid (∀x∈l,∀wx,Below w.heap.size w wx→Calls Tryz.prog g (#[.agg #[.int .i64 x.1,.int .i64 x.2]]++lb) wx fun e w'=>e= .returned (.bool (p x))∧Below wx.heap.size wx w')):
  Calls Tryz.prog 146 #[v,.func (.func g) #[] lb] w fun e w'=> ∃i:Int,e= .returned (.int .i64 i)∧decide (0≤i)=l.any p∧Below w.heap.size w w':=by
 have HLB:=Lib.hid (show ∀wx,Below w.heap.size w wx→SlAt 2 RngC wx v l from fun wx hb=>hl.rngs_below hb)
 obtain⟨A,cap,rfl,hm,_⟩:=hl.spread
 unfold maxLen at hm
 clear hl
 go_enter Tryz.func146,Tryz.ntmps146
 go_wp2_with fail
 go_loopw [5,8] (fun _ i wr=> ∃k:Nat,i= .int .i64 k∧k≤l.length∧Hid ((l.take k).any p=false)∧Hid (Below w.heap.size w wr)) (fun _ i _=>l.length-(RowKit.intOf i).toNat)
 case atStart=>exact⟨0,rfl,Nat.zero_le _,Lib.hid rfl,Lib.hid (Below.refl _ _)⟩
 case round=>
  obtain⟨k,rfl,hk,HA,HB⟩:=hrel
  by_cases hlt:k<l.length
  ·obtain⟨x,hx⟩: ∃x,l[k]?=some x:=⟨l[k],List.getElem?_eq_getElem hlt⟩
   have HX:=Lib.hid (any_take' (p:=p) hx)
   have hxm:=List.mem_of_getElem? hx
   obtain⟨A',cap',eA,_,hsp⟩:=(HLB.out wr HB.out).spread
   injection eA with e1 e2 e3
   subst e1
   obtain⟨b,off,rfl,hxc⟩:=hsp k x hx
   clear hsp e2 e3
   obtain⟨x0,x1⟩:=hxc
   have CX:=Lib.hid (CP.out x hxm _ HB.out)
   clear hx hxm
   cases hq:p x with
   |true=>
    rw[hq] at CX
    have HT:=Lib.hid (show l.any p=true by
     have h1:(l.take (k+1)).any p=true:=by rw[HX.out,hq];simp
     obtain⟨y,hy,e⟩:=List.any_eq_true.1 h1
     exact List.any_eq_true.2 ⟨y,List.mem_of_mem_take hy,e⟩)
    clear hq
    go_wp2_with (go_at_fn g;refine CX.out.mono ?_;rintro e w' ⟨rfl,hb⟩;have HB2:=Lib.hid (blw_trans HB.out hb);clear hb)
    go_ret
    exact⟨_,rfl,by rw[HT.out];exact decide_eq_true (by omega),HB2.out⟩
   |false=>
    rw[hq] at CX
    have HT:=Lib.hid (show(l.take (k+1)).any p=false by rw[HX.out,hq,HA.out];rfl)
    clear hq
    go_wp2_with (go_at_fn g;refine CX.out.mono ?_;rintro e w' ⟨rfl,hb⟩;have HB2:=Lib.hid (blw_trans HB.out hb);clear hb)
    go_roundw
    case rel=>exact⟨k+1,by go_num,by omega,HT,HB2⟩
    case measure=>simp[RowKit.intOf];omega
  ·have HT:=Lib.hid (show l.any p=false by rw[←List.take_of_length_le (l:=l) (i:=k) (by omega)];exact HA.out)
   go_wp2_with fail
   go_ret
   exact⟨_,rfl,by rw[HT.out];rfl,HB.out⟩

set_option maxHeartbeats 1000000 in
theorem has_rng (l:List (Int×Int)) (p:Int×Int→Bool) (g:Nat) (lb:Array Value) (eg: ∀args w,(callFunc g args).run Tryz.prog w= .ok (.enter g args) w) (v:Value) (w:World) (hl:SlAt 2 RngC w v l)
  (CP:Hid (∀x∈l,∀wx,Below w.heap.size w wx→Calls Tryz.prog g (#[.agg #[.int .i64 x.1,.int .i64 x.2]]++lb) wx fun e w'=>e= .returned (.bool (p x))∧Below wx.heap.size wx w')):
  Calls Tryz.prog 106 #[v,.func (.func g) #[] lb] w fun e w'=>e= .returned (.bool (l.any p))∧Below w.heap.size w w':=by
 have CI:=Lib.hid (idx_rng l p g lb eg v w hl CP)
 obtain⟨za,zn,zc,rfl⟩:=hl.isSlice
 clear hl CP eg
 go_enter Tryz.func106,Tryz.ntmps106
 go_wp2_with fail
 refine CI.out.mono ?_
 rintro e w1 ⟨i,rfl,hi,hb⟩
 have HI:=Lib.hid hi
 clear hi
 go_wp2_with fail
 go_ret
 exact⟨ret_bool HI.out,hb⟩
open Go.RowKit

theorem infoStrJ:(Tryz.prog.info? 9).map (fun i=>(i.zero,i.size,i.bytes))=some (some (.string ByteArray.empty),1,16):=by kernel_rfl

set_option maxHeartbeats 1000000 in
theorem joined_rng (l:List (Int×Int)) (f:Int×Int→List UInt8) (g:Nat) (eg: ∀args w,(callFunc g args).run Tryz.prog w= .ok (.enter g args) w) (v:Value) (sep:List UInt8) (w:World) (hl:SlAt 2 RngC w v l) (hm:l.length≤4000000001)
  (ht:Lst.total (l.map f) sep≤2000000000000)
  (CP:Hid (∀x∈l,∀wx,Below w.heap.size w wx→Calls Tryz.prog g #[.agg #[.int .i64 x.1,.int .i64 x.2]] wx fun e w'=>e= .returned (.string ⟨(f x).toArray⟩)∧Below wx.heap.size wx w')):
  Calls Tryz.prog 142 #[v,.string ⟨sep.toArray⟩,.func (.func g) #[] #[]] w fun e w'=>e= .returned (.string ⟨(Lib.join (l.map f) sep).toArray⟩)∧Below w.heap.size w w':=by
 obtain⟨i0,hi,hz0,hz1,hz2⟩:=info_parts infoStrJ
 obtain⟨za,zn,zc,rfl⟩:=hl.isSlice
 have HLB:=Lib.hid fun (wr:World) (hb:Below w.heap.size w wr)=>hl.rngs_below hb
 have hn:zn=l.length:=by
  obtain⟨A,cap,e,_⟩:=hl.spread
  injection e
 subst hn
 have CJ:=Lib.hid fun (v:Value) (w:World) (h:StrsAt w v (l.map f))=>sjoin_any (l.map f) v sep w h (by rw[List.length_map];omega) ht
 clear hl ht
 go_enter Tryz.func142,Tryz.ntmps142
 go_wp2_with fail
 go_loopw [7,12] (fun o i wr=> ∃k:Nat,i= .int .i64 (k:Int)∧k≤l.length∧Hid (wr.ownsRow w.heap.size 9 1 o k (((l.map f).take k).map txtV))∧Hid (Below w.heap.size w wr)) (fun _ i _=>l.length-(RowKit.intOf i).toNat)
 case atStart=>exact⟨0,rfl,Nat.zero_le _,Lib.hid ⟨rfl,.inl ⟨rfl,rfl⟩⟩,Lib.hid (Below.refl _ _)⟩
 case round=>
  obtain⟨k,rfl,hk,HO,HB⟩:=hrel
  by_cases hlt:k<l.length
  ·obtain⟨x,hx⟩: ∃x,l[k]?=some x:=⟨l[k],List.getElem?_eq_getElem hlt⟩
   obtain⟨A',cap',eA,_,hsp⟩:=(HLB.out wr HB.out).spread
   injection eA with e1 e2 e3
   subst e1
   obtain⟨b,off,rfl,hxc⟩:=hsp k x hx
   clear hsp e2 e3
   obtain⟨x0,x1⟩:=hxc
   have CX:=Lib.hid fun wx hb=>CP.out x (List.mem_of_getElem? hx) wx hb
   have HT:=Lib.hid (show((l.map f).take (k+1)).map txtV=((l.map f).take k).map txtV++ [txtV (f x)] by
    rw[List.take_add_one,List.getElem?_map,hx];simp)
   clear hx
   generalize f x=fx at*
   go_wp2_with fail
   refine(CX.out _ (blw_trans HB.out (blw_alloc _ _))).mono ?_
   rintro e w2 ⟨rfl,hb⟩
   have hb':=blw_trans (blw_alloc wr _) hb
   have HB2:=Lib.hid (blw_trans HB.out hb')
   have hown:=HO.out.kept (row:=none) ⟨hb'.os,hb'.tape,hb'.output,hb'.size,fun k hk _=>hb'.block k hk⟩ (by cases u7.ownBlock<;>simp)
   have hbs:=HB2.out.size
   clear hb hb' CX HO HB x0 x1
   go_wp2_with (at_builtin;refine wpList_append_own _ rfl _ _ 45 rfl w.heap.size 9 i0 (.string ByteArray.empty) 1 16 Tryz.underlying45 hi hz0 hz1 hz2 rfl (by decide) _ _ _ rfl (hown.alloc _) ⟨w2.heap.size,0,none⟩ 1 1 [txtV fx] rfl rfl (cell_one_new _ _ _) (fun x hx=>by simp at hx;subst hx;rfl) (by unfold maxLen;omega) (by omega) (by simp;omega) ?_;intro v' w1 hown' hgrow _)
   have HO':=Lib.hid (show w1.ownsRow w.heap.size 9 1 v' (k+1) (((l.map f).take (k+1)).map txtV) by rw[HT.out];exact hown')
   have HB':=Lib.hid (show Below w.heap.size w w1 from(HB2.out.alloc hbs _).grown hgrow (by simp;omega) (fun k hk=>(hown.lt k hk).1))
   clear hown hown' hgrow hbs HB2
   go_wp2_with fail
   go_roundw
   case rel=>exact⟨k+1,by go_num,by omega,HO',HB'⟩
   case measure=>simp[RowKit.intOf];omega
  ·obtain rfl:k=l.length:=by omega
   have HS:=Lib.hid (show StrsAt wr u7 (l.map f) from StrsAt.of_row (n:=l.length) (by have h:=HO.out;rw[List.take_of_length_le (by rw[List.length_map];omega)] at h;exact h))
   go_wp2_with fail
   refine(CJ.out _ _ HS.out).mono ?_
   rintro e w2 ⟨rfl,hb⟩
   have HB2:=Lib.hid (blw_trans HB.out hb)
   clear hb
   go_wp2_with fail
   go_ret
   exact⟨rfl,HB2.out⟩
open Go.RowKit

theorem op_text (c:UInt8) (h:Rul.opOk c=true):Utf8.encode (c.toNat:Int)=⟨#[c]⟩:=by
 have h':c∈ [110,105,118,119,102,116]:=by simpa[Rul.opOk] using h
 simp only[List.mem_cons,List.not_mem_nil,or_false] at h'
 rcases h' with rfl|rfl|rfl|rfl|rfl|rfl
 ·show Utf8.encode 110=⟨#[110]⟩
  kernel_rfl
 ·show Utf8.encode 105=⟨#[105]⟩
  kernel_rfl
 ·show Utf8.encode 118=⟨#[118]⟩
  kernel_rfl
 ·show Utf8.encode 119=⟨#[119]⟩
  kernel_rfl
 ·show Utf8.encode 102=⟨#[102]⟩
  kernel_rfl
 ·show Utf8.encode 116=⟨#[116]⟩
  kernel_rfl
theorem ranged_at (args:Array Value) (w:World):(callFunc 143 args).run Tryz.prog w= .ok (.enter 143 args) w:=enters_of Tryz.func143 (by kernel_rfl) rfl args w

set_option maxHeartbeats 2000000 in
theorem related_any (r:Rul.Rl) (a:Option Addr) (n c:Nat) (w:World) (hp:PowW w) (hs:SlAt 2 RngC w (.slice a n c) r.rs) (hl:r.rs.length≤4000000001) (ht:Lst.total (r.rs.map Rul.rngT) [44]≤2000000000000) (hk:Rul.relOk r=true):
  Calls Tryz.prog 102 #[.agg #[.int .u8 (r.op.toNat:Int),.int .i64 r.mod,.bool r.no,.slice a n c]] w fun e w'=>e= .returned (.string ⟨(Rul.relT r).toArray⟩)∧Below w.heap.size w w':=by
 obtain⟨op,mod,no,rs⟩:=r
 simp only[Rul.relOk,Bool.and_eq_true,decide_eq_true_eq] at hk
 obtain⟨⟨⟨⟨ho,hm0⟩,hm1⟩,_⟩,hall⟩:=hk
 dsimp only at*
 have EO:=op_text op ho
 have i0:0≤(op.toNat:Int)∧(op.toNat:Int)<256:=by have:=op.toNat_lt;omega
 have CM:=Lib.hid fun w hp=>itoa_pos mod w hp hm0 (by omega)
 have CJ:=Lib.hid fun (wx:World) (hb:Below w.heap.size w wx)=>joined_rng rs Rul.rngT 143 ranged_at (.slice a n c) [44] wx (hs.rngs_below hb) hl ht (Lib.hid fun x hx wy hy=>ranged_any x wy ((hp.below hb).below hy) (List.all_eq_true.1 hall x hx))
 have hT:=Lib.hid (show Rul.relT ⟨op,mod,no,rs⟩=(if mod=0 then [op] else [op]++Rul.pcS++Rul.dg mod)++(if no then Rul.neS else Rul.eqS)++Lib.join (rs.map Rul.rngT) [44] from rfl)
 generalize Rul.relT ⟨op,mod,no,rs⟩=T at*
 have hJ:(Lib.join (rs.map Rul.rngT) [44]).length≤2000000000000:=by have:=Lst.join_le (rs.map Rul.rngT) [44];omega
 generalize Lib.join (rs.map Rul.rngT) [44]=J at*
 have lm:(Lib.decDigits mod.toNat).length≤100:=by have:=Byt.digits_short 7 mod.toNat (by omega) (by omega);omega
 have hdg:Rul.dg mod=Lib.decDigits mod.toNat:=rfl
 rw[hdg] at hT
 clear hdg
 generalize Lib.decDigits mod.toNat=DM at*
 generalize (op.toNat:Int)=opI at*
 have ew:wrap32 opI=opI:=IntWalk.wrap32_in _ ⟨by omega,by omega⟩
 clear ho hm0 hm1 hall hs ht hl
 obtain⟨SG,hSG⟩: ∃SG,SG=(if no then Rul.neS else Rul.eqS):=⟨_,rfl⟩
 have hSl:SG.length≤4:=by rw[hSG];cases no<;>decide
 obtain⟨P1,hP1⟩: ∃P1,P1=Rul.pcS++DM:=⟨_,rfl⟩
 have lP:P1.length≤103:=by rw[hP1,List.length_append];show 3+_≤_;omega
 obtain⟨X1,hX1⟩: ∃X1,X1=(if mod=0 then [op] else [op]++P1):=⟨_,rfl⟩
 have lX:X1.length≤104:=by rw[hX1];split<;>simp<;>omega
 obtain⟨X2,hX2⟩: ∃X2,X2=X1++SG:=⟨_,rfl⟩
 have lX2:X2.length≤108:=by rw[hX2,List.length_append];omega
 have hTT:=Lib.hid (show X2++J=T by rw[hX2,hX1,hP1,hSG,hT.out];simp only[List.append_assoc])
 have AP: ∀w,(Op.stringOp .add ⟨#[32,37,32]⟩ ⟨DM.toArray⟩).run Tryz.prog w= .ok (.string ⟨P1.toArray⟩) w:=fun w=>by rw[hP1];exact add_str (P:= Tryz.prog) [32,37,32] DM (by simp;omega) w
 have AT: ∀w,(Op.stringOp .add ⟨X2.toArray⟩ ⟨J.toArray⟩).run Tryz.prog w= .ok (.string ⟨T.toArray⟩) w:=fun w=>by rw[←hTT.out];exact add_str (P:= Tryz.prog) X2 J (by omega) w
 have B0:=Lib.hid (Boxed.made w #[.int .u8 opI,.int .i64 mod,.bool no,.slice a n c] 143)
 have W0:=Lib.hid (blw_alloc w (.cells #[.int .u8 opI,.int .i64 mod,.bool no,.slice a n c] 143))
 have P0:=Lib.hid (hp.alloc (.cells #[.int .u8 opI,.int .i64 mod,.bool no,.slice a n c] 143))
 by_cases hm:mod=0
 ·have e0:(mod==0)=true:=beq_yes hm
  rw[if_pos hm] at hX1
  subst hX1
  cases no with
  |true=>
   have A2: ∀w,(Op.stringOp .add ⟨#[op]⟩ ⟨#[32,33,61,32]⟩).run Tryz.prog w= .ok (.string ⟨X2.toArray⟩) w:=fun w=>by rw[hX2,hSG];exact add_str (P:= Tryz.prog) [op] [32,33,61,32] (by simp) w
   clear hX2 hP1 hT hm hSG
   go_enter Tryz.func102,Tryz.ntmps102
   go_wp2_with fail
   refine(CJ.out _ W0.out).mono ?_
   rintro e w2 ⟨rfl,hb⟩
   have W2:=Lib.hid (blw_trans W0.out hb)
   clear hb CJ CM
   go_wp2_with fail
   go_ret
   exact⟨rfl,W2.out⟩
  |false=>
   have A2: ∀w,(Op.stringOp .add ⟨#[op]⟩ ⟨#[32,61,32]⟩).run Tryz.prog w= .ok (.string ⟨X2.toArray⟩) w:=fun w=>by rw[hX2,hSG];exact add_str (P:= Tryz.prog) [op] [32,61,32] (by simp) w
   clear hX2 hP1 hT hm hSG
   go_enter Tryz.func102,Tryz.ntmps102
   go_wp2_with fail
   refine(CJ.out _ W0.out).mono ?_
   rintro e w2 ⟨rfl,hb⟩
   have W2:=Lib.hid (blw_trans W0.out hb)
   clear hb CJ CM
   go_wp2_with fail
   go_ret
   exact⟨rfl,W2.out⟩
 ·have e0:(mod==0)=false:=beq_no hm
  rw[if_neg hm] at hX1
  have A1: ∀w,(Op.stringOp .add ⟨#[op]⟩ ⟨P1.toArray⟩).run Tryz.prog w= .ok (.string ⟨X1.toArray⟩) w:=fun w=>by rw[hX1];exact add_str (P:= Tryz.prog) [op] P1 (by simp;omega) w
  cases no with
  |true=>
   have A2: ∀w,(Op.stringOp .add ⟨X1.toArray⟩ ⟨#[32,33,61,32]⟩).run Tryz.prog w= .ok (.string ⟨X2.toArray⟩) w:=fun w=>by rw[hX2,hSG];exact add_str (P:= Tryz.prog) X1 [32,33,61,32] (by simp;omega) w
   clear hX1 hX2 hP1 hT hm hSG
   go_enter Tryz.func102,Tryz.ntmps102
   go_wp2_with fail
   refine(CM.out _ P0.out).mono ?_
   rintro e w1 ⟨rfl,hb⟩
   have W1:=Lib.hid (blw_trans W0.out hb)
   have B1:=Lib.hid (B0.out.below hb)
   have k2:=B1.out.cell 2 _ rfl
   have k3:=B1.out.cell 3 _ rfl
   clear hb CM B0 W0 P0
   go_wp2_with fail
   refine(CJ.out _ W1.out).mono ?_
   rintro e w2 ⟨rfl,hb⟩
   have W2:=Lib.hid (blw_trans W1.out hb)
   clear hb CJ
   go_wp2_with fail
   go_ret
   exact⟨rfl,W2.out⟩
  |false=>
   have A2: ∀w,(Op.stringOp .add ⟨X1.toArray⟩ ⟨#[32,61,32]⟩).run Tryz.prog w= .ok (.string ⟨X2.toArray⟩) w:=fun w=>by rw[hX2,hSG];exact add_str (P:= Tryz.prog) X1 [32,61,32] (by simp;omega) w
   clear hX1 hX2 hP1 hT hm hSG
   go_enter Tryz.func102,Tryz.ntmps102
   go_wp2_with fail
   refine(CM.out _ P0.out).mono ?_
   rintro e w1 ⟨rfl,hb⟩
   have W1:=Lib.hid (blw_trans W0.out hb)
   have B1:=Lib.hid (B0.out.below hb)
   have k2:=B1.out.cell 2 _ rfl
   have k3:=B1.out.cell 3 _ rfl
   clear hb CM B0 W0 P0
   go_wp2_with fail
   refine(CJ.out _ W1.out).mono ?_
   rintro e w2 ⟨rfl,hb⟩
   have W2:=Lib.hid (blw_trans W1.out hb)
   clear hb CJ
   go_wp2_with fail
   go_ret
   exact⟨rfl,W2.out⟩
end Go.Proofs.YtldbfkccieipjaaGreatDoor
