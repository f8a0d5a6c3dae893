/- The walk of needs' all. Conditions: the message is one, of lists of at most 2000000; the list is kept as NI tells; all names are at most 1000000. -/
import Derived.Test.YtjlchookakbomaaGreatDoorEi9
import Derived.Sort.CutIn
set_option maxHeartbeats 8000000
set_option maxRecDepth 100000
namespace Go.Proofs.YtjlchookakbomaaGreatDoor
open Go.RowKit Go.Shelf

theorem zCT (t s:List UInt8) (w:World) (hM:MaxW w) (ht:t.length≤4000000000):
  Calls Tryz.prog 88 #[.string ⟨t.toArray⟩,.string ⟨s.toArray⟩] w fun e w'=>e= .returned (.tuple #[.string ⟨(Lib.cut t s).1.toArray⟩,.string ⟨(Lib.cut t s).2.1.toArray⟩,.bool (Lib.cut t s).2.2])∧Below w.heap.size w w':=by
 obtain⟨m,hm⟩:=hM
 refine(Tryz.strings_Cut ⟨t.toArray⟩ ⟨s.toArray⟩ m w (by rw[zAO];omega) hm).mono ?_
 rintro e w' ⟨rfl,n,rfl⟩
 exact⟨rfl,zAb (Below.refl _ _) n⟩
theorem zCU (t s:List UInt8):(Lib.cut t s).1.length≤t.length∧(Lib.cut t s).2.1.length≤t.length:=by
 unfold Lib.cut
 split
 ·simp only[List.length_take,List.length_drop];omega
 simp

attribute [local go_sem] Oper.semAt_some

theorem infoRng:(Tryz.prog.info? 265).map (fun i=>(i.zero,i.size,i.bytes))=some (some (.agg #[.int .i64 0,.int .i64 0]),2,16):=by kernel_rfl
theorem zJt (sub:List UInt8): ∀(k:Nat) (s x:List UInt8),x∈Lib.splitK sub 0 k s→x.length≤s.length:=by
 intro k
 induction k with
 |zero=>intro s x hx;simp[Lib.splitK] at hx;rw[hx];omega
 |succ k ih=>
  intro s x hx
  unfold Lib.splitK at hx
  split at hx
  ·simp at hx;rw[hx];omega
  rcases List.mem_cons.1 hx with rfl|hx
  ·simp;omega
  have:=ih _ x hx
  simp at this;omega
theorem zBn {s sub x:List UInt8} (hx:x∈Lib.split s sub):x.length≤s.length:=zJt sub _ s x hx
theorem zAy {w:World} {a:Addr} {v:Value} {k:Nat} (h:a.block≠k):(w.setCell a v).heap[k]?=w.heap[k]?:=
 Below.heap_setCell _ _ _ k (by first|exact h|exact h.symm)
def rflat (l:List (List UInt8)):List Value:=l.flatMap fun x=> [.int .i64 (Rul.rngP x).1,.int .i64 (Rul.rngP x).2]
theorem zKG {l:List (List UInt8)}: ∀{j:Nat} {x:List UInt8},l[j]?=some x→(rflat l)[j*2]?=some (.int .i64 (Rul.rngP x).1)∧(rflat l)[j*2+1]?=some (.int .i64 (Rul.rngP x).2):=by
 induction l with
 |nil=>intro j x h;simp at h
 |cons a l ih=>
  intro j x h
  cases j with
  |zero=>simp at h;subst h;exact⟨rfl,rfl⟩
  |succ j=>
   have h':=ih (by simpa using h)
   have e:(j+1)*2=j*2+1+1:=by omega
   rw[e]
   exact h'
structure PX (w:World) (B p:Nat) (o m b vb vr:Value) (pre:List (List UInt8)) (W:World):Prop where
 box:Boxed W p #[o,m,b,vb]
 row:W.ownsRow B 265 2 vr pre.length (rflat pre)
 res:Boxed W w.heap.size #[.int .u8 0,.int .i64 0,.bool false,.slice none 0 0]
 low:Below w.heap.size w W
 sz:B≤W.heap.size
theorem zAs {A C:World} {r:Option Nat} {p:Nat} {vs:Array Value} (h:Boxed A p vs) (g:A.grownBy C r) (hr:some p≠r):Boxed C p vs:=
 ⟨Nat.lt_of_lt_of_le h.lt g.size,fun j v hv=>g.cell (h.cell j v hv) hr,fun j hj=>(World.frozen?_of_block (g.block p h.lt hr)).trans (h.free j hj)⟩
theorem PX.grown {w:World} {B p:Nat} {o m b vb vr:Value} {pre:List (List UInt8)} {A C:World} {r:Option Nat} (h:PX w B p o m b vb vr pre A) (g:A.grownBy C r)
  (hr: ∀k,r=some k→w.heap.size<k∧k≠p∧vr.ownBlock≠some k):PX w B p o m b vb vr pre C:=
 ⟨zAs h.box g (fun e=>(hr _ e.symm).2.1 rfl),h.row.kept g (by
   cases hv:vr.ownBlock with
   |none=>exact .inl rfl
   |some k=>exact .inr fun e=>(hr k e.symm).2.2 hv),zAs h.res g (fun e=>by have:=(hr _ e.symm).1;omega),
  h.low.grown g h.low.size (fun k hk=>by have:=(hr k hk).1;omega),Nat.le_trans h.sz g.size⟩

theorem PX.lies {w:World} {B p:Nat} {o m b vb vr:Value} {pre:List (List UInt8)} {A C:World} (h:PX w B p o m b vb vr pre A)
  (hC: ∀(g:Nat) cur e,B≤g→A.heap[g]?=some (.cells cur e (0,0))→C.heap[g]?=A.heap[g]?):SlAt 2 RngC C vr (pre.map Rul.rngP):=by
 rcases hv:h.row.2 with⟨rfl,hn⟩|⟨g,cap,cur,rfl,hB,hg,hc,hm,_⟩
 ·exact .inl ⟨by rw[List.length_eq_zero_iff.1 hn];rfl,_,_,rfl⟩
 by_cases h0:pre.length=0
 ·exact .inl ⟨by rw[List.length_eq_zero_iff.1 h0];rfl,some ⟨g,0,none⟩,cap,by rw[h0]⟩
 have hgC:=hC g cur _ hB hg
 refine .inr ⟨g,0,cap,by rw[List.length_map],by rw[List.length_map];omega,by rw[List.length_map];exact hc,hm,fun j x hx=>?_⟩
 rw[List.getElem?_map] at hx
 obtain⟨y,hy,rfl⟩:=Option.map_eq_some_iff.1 hx
 have hj:j<pre.length:=(List.getElem?_eq_some_iff.1 hy).1
 obtain⟨e0,e1⟩:=zKG hy
 have c0:=h.row.cellAt (g:=g) (j*2) (by omega)
 have c1:=h.row.cellAt (g:=g) (j*2+1) (by omega)
 rw[e0] at c0
 rw[e1] at c1
 rw[Nat.zero_add]
 exact⟨(World.cell?_of_block (a:=⟨g,j*2,none⟩) hgC).trans c0,(World.cell?_of_block (a:=⟨g,j*2+1,none⟩) hgC).trans c1⟩

theorem zAP {w:World} {base n k:Nat} {e:TypeId} {v:Value} {xs:List Value} (h:w.ownsRow base e k v n xs) (hn:0<n): ∃g cap,v= .slice (some ⟨g,0,none⟩) n cap:=by
 obtain⟨_,⟨rfl,rfl⟩|⟨g,cap,cur,rfl,_⟩⟩:=h
 ·omega
 exact⟨_,_,rfl⟩
theorem zAz {W:World} {q:Nat} {l:List Value} (h:Boxed W q l.toArray): ∀j u,l[j]?=some u→W.cell? ((⟨q,0,none⟩:Addr).add j)=some u:=by
 intro j u hj
 have c:=h.cell j u (by simpa using hj)
 cases j with
 |zero=>simpa[Addr.add] using c
 |succ j=>simpa[Addr.add] using c
theorem zA4 {P:Program} {l:List Oper} {Q:Exit→Act→World→Prop} {md:Region.Mode} {S:World→Prop} {oi oj:Oper} {fuel:Nat} {listed:Array Bool} {a:Act} {w:World} (i j:Nat) (hi:l[i]?=some oi) (hj:l[j]?=some oj) (hr:Region.ready md l.toArray listed= [i,j])
  (hwi:Region.wanted oi (yielded l.toArray a.tmps)=true) (hwj:Region.wanted oj (yielded l.toArray a.tmps)=true)
  (h1: ∀K':Act→World→Prop,Shut (∀a w,S w→(S w→wpAnyH P md l.toArray Q S fuel (listed.setIfInBounds i true) a w)→K' a w)→Oper.wp P oi a w K' Q)
  (h2: ∀K':Act→World→Prop,Shut (∀a w,S w→(S w→wpAnyH P md l.toArray Q S fuel (listed.setIfInBounds j true) a w)→K' a w)→Oper.wp P oj a w K' Q):wpAnyH P md l.toArray Q S (fuel+1) listed a w:=
 wpAnyH_ready hr (by simp) (AllReadyH.cons (by simpa using hi) (fun K' hK=>by rw[if_pos hwi];exact h1 K' hK) (AllReadyH.cons (by simpa using hj) (fun K' hK=>by rw[if_pos hwj];exact h2 K' hK) AllReadyH.nil))
structure PL (w:World) (B p bp bs bv:Nat) (o m b vb vr:Value) (pre:List (List UInt8)) (W0 W:World):Prop where
 px:PX w B p o m b vb vr pre W
 kf:KeepsFrom B W0 W
 kp:KpS w.heap.size bp bs bv W0 W
theorem PL.start {w:World} {B p bp bs bv:Nat} {o m b vb vr:Value} {pre:List (List UInt8)} {W:World} (h:PX w B p o m b vb vr pre W):PL w B p bp bs bv o m b vb vr pre W W:=
 ⟨h,KeepsFrom.refl _ _,⟨Below.refl _ _,rfl,rfl,rfl⟩⟩
theorem PL.below {w:World} {B p bp bs bv:Nat} {o m b vb vr:Value} {pre:List (List UInt8)} {W0 A C:World} (h:PL w B p bp bs bv o m b vb vr pre W0 A) (hb:Below A.heap.size A C)
  (h1:bp<B∧bs<B∧bv<B):PL w B p bp bs bv o m b vb vr pre W0 C:=
 have s:=h.px.sz
 have g:A.grownBy C none:=⟨hb.os,hb.tape,hb.output,hb.size,fun k hk _=>hb.block k hk⟩
 ⟨h.px.grown g (fun k e=>by cases e),h.kf.trans (KeepsFrom.of_grownBy g (fun j e=>by cases e)),
  h.kp.trans ⟨hb.mono h.px.low.size,hb.block _ (by omega),hb.block _ (by omega),hb.block _ (by omega)⟩⟩
theorem PL.append {w:World} {B p bp bs bv:Nat} {o m b vb vr v':Value} {pre:List (List UInt8)} {x:List UInt8} {W0 A C:World} (h:PL w B p bp bs bv o m b vb vr pre W0 A)
  (hown:C.ownsRow B 265 2 v' (pre.length+1) (rflat pre++ [.int .i64 (Rul.rngP x).1,.int .i64 (Rul.rngP x).2])) (g:A.grownBy C vr.ownBlock) (hw:w.heap.size<B) (hp:p<B)
  (h1:bp<B∧bs<B∧bv<B):PL w B p bp bs bv o m b vb v' (pre++ [x]) W0 C:=by
 have hB: ∀k,vr.ownBlock=some k→B≤k:=fun k hk=>(h.px.row.lt k hk).1
 have s:=h.px.sz
 have keep: ∀k,k<B→C.heap[k]?=A.heap[k]?:=fun k hk=>g.block k (by omega) (fun e=>by have:=hB k e.symm;omega)
 refine⟨⟨zAs h.px.box g (fun e=>by have:=hB _ e.symm;omega),?_,zAs h.px.res g (fun e=>by have:=hB _ e.symm;omega),
  h.px.low.grown g h.px.low.size (fun k hk=>by have:=hB _ hk;omega),Nat.le_trans h.px.sz g.size⟩,h.kf.trans ⟨g.size,fun k ob hk hA hc=>?_⟩,
  h.kp.trans ⟨⟨g.os,g.tape,g.output,g.size,fun k hk=>keep k (by omega)⟩,keep _ h1.1,keep _ h1.2.1,keep _ h1.2.2⟩⟩
 ·have e:rflat (pre++ [x])=rflat pre++ [.int .i64 (Rul.rngP x).1,.int .i64 (Rul.rngP x).2]:=by unfold rflat;rw[List.flatMap_append];rfl
  rw[e,List.length_append]
  exact hown
 refine(g.block k (Array.getElem?_eq_some_iff.1 hA).1 (fun e=>?_)).trans hA
 rcases h.px.row.2 with⟨rfl,_⟩|⟨g',cap,cur,rfl,_,hg',_⟩
 ·cases e
 injection e with e
 subst e
 rw[hA] at hg'
 injection hg' with hg'
 subst hg'
 cases hc
theorem PL.stored {w:World} {B p bp bs bv:Nat} {o m b vb vr:Value} {pre:List (List UInt8)} {W0 A:World} (h:PL w B p bp bs bv o m b vb vr pre W0 A) (hw:w.heap.size<p) (hp:p<B)
  (hne:p≠bp∧p≠bs∧p≠bv):PL w B p bp bs bv o m b vr vr pre W0 (A.setCell ⟨p,3,none⟩ vr):=by
 have g:A.grownBy (A.setCell ⟨p,3,none⟩ vr) (some p):=⟨rfl,rfl,rfl,by rw[zAF];exact Nat.le_refl _,fun k _ hk=>zAy (fun e=>hk (by rw[←e]))⟩
 have keep: ∀k,p≠k→(A.setCell ⟨p,3,none⟩ vr).heap[k]?=A.heap[k]?:=fun k hk=>zAy hk
 refine⟨⟨h.px.box.set 3 vr (by show 3<4;omega),h.px.row.kept g ?_,h.px.res.far (by omega) 3 vr,h.px.low.setCell (p:=⟨p,3,none⟩) (show w.heap.size≤p by omega) vr,by rw[zAF];exact h.px.sz⟩,
  h.kf.trans (KeepsFrom.of_grownBy g (fun j e=>by injection e with e;omega)),
  h.kp.trans ⟨(Below.refl _ _).setCell (p:=⟨p,3,none⟩) (show w.heap.size≤p by omega) vr,keep _ hne.1,keep _ hne.2.1,keep _ hne.2.2⟩⟩
 cases hv:vr.ownBlock with
 |none=>exact .inl rfl
 |some k=>exact .inr fun e=>by have:=h.px.row.lt k hv;injection e with e;omega

theorem zIf (t:List UInt8) (w:World) (hM:MaxW w) (hN:NumW w) (ht:t.length≤4000000000):
  Calls Tryz.prog 149 #[.string ⟨t.toArray⟩] w fun e w'=> ∃v,e= .returned (.agg #[.int .u8 ((Rul.relP t).op.toNat:Int),.int .i64 (Rul.relP t).mod,.bool (Rul.relP t).no,v])∧SlAt 2 RngC w' v (Rul.relP t).rs∧(∀b,v.ownBlock=some b→w.heap.size≤b)∧Below w.heap.size w w':=by
 have C1:=lH fun w hM=>zCT t [32,61,32] w hM ht
 have C2:=lH fun w hM=>zCT t [32,33,61,32] w hM ht
 have l1:=zCU t Rul.eqS
 have l2:=zCU t Rul.neS
 obtain⟨hh,hhh⟩: ∃hh,hh=(Rul.hd t).1:=⟨_,rfl⟩
 obtain⟨tl,htl⟩: ∃tl,tl=(Rul.hd t).2:=⟨_,rfl⟩
 have eop:(Rul.relP t).op=Rul.opP (Lib.cut hh Rul.pcS).1:=by rw[hhh];rfl
 have emd:(Rul.relP t).mod=if (Lib.cut hh Rul.pcS).2.2 then Rul.num (Lib.cut hh Rul.pcS).2.1 else 0:=by rw[hhh];rfl
 have eno:(Rul.relP t).no=!(Lib.cut t Rul.eqS).2.2:=rfl
 have ers:(Rul.relP t).rs=(Lib.split tl [44]).map Rul.rngP:=by rw[htl];rfl
 have lh:hh.length≤t.length∧tl.length≤t.length:=by
  rw[hhh,htl];unfold Rul.hd;split
  ·exact l1
  exact l2
 unfold Rul.hd at hhh htl
 have C3:=lH fun w hM=>zCT hh [32,37,32] w hM (by omega)
 have l3:=zCU hh Rul.pcS
 rw[eop,emd,eno,ers]
 clear eop emd eno ers
 generalize hR:(Lib.split tl [44]).map Rul.rngP=RS
 change Hid (∀w,MaxW w→Calls Tryz.prog 88 #[.string ⟨hh.toArray⟩,.string ⟨#[32,37,32]⟩] w fun e w'=>e= .returned (.tuple #[.string ⟨(Lib.cut hh Rul.pcS).1.toArray⟩,.string ⟨(Lib.cut hh Rul.pcS).2.1.toArray⟩,.bool (Lib.cut hh Rul.pcS).2.2])∧Below w.heap.size w w') at C3
 change Hid (∀w,MaxW w→Calls Tryz.prog 88 #[.string ⟨t.toArray⟩,.string ⟨#[32,61,32]⟩] w fun e w'=>e= .returned (.tuple #[.string ⟨(Lib.cut t Rul.eqS).1.toArray⟩,.string ⟨(Lib.cut t Rul.eqS).2.1.toArray⟩,.bool (Lib.cut t Rul.eqS).2.2])∧Below w.heap.size w w') at C1
 change Hid (∀w,MaxW w→Calls Tryz.prog 88 #[.string ⟨t.toArray⟩,.string ⟨#[32,33,61,32]⟩] w fun e w'=>e= .returned (.tuple #[.string ⟨(Lib.cut t Rul.neS).1.toArray⟩,.string ⟨(Lib.cut t Rul.neS).2.1.toArray⟩,.bool (Lib.cut t Rul.neS).2.2])∧Below w.heap.size w w') at C2
 generalize Lib.cut t Rul.eqS=c1 at*
 generalize Lib.cut t Rul.neS=c2 at*
 generalize Lib.cut hh Rul.pcS=c3 at*
 obtain⟨a1,b1,f1⟩:=c1
 obtain⟨a2,b2,f2⟩:=c2
 obtain⟨nm,md,f3⟩:=c3
 dsimp only at*
 have CN:=lH fun w hN=>zCR md w hN (by omega)
 generalize Rul.num md=MD at*
 obtain⟨MO,hMO⟩: ∃MO,(if f3=true then MD else 0)=MO:=⟨_,rfl⟩
 obtain⟨OP,hOP⟩: ∃OP,((Rul.opP nm).toNat:Int)=OP:=⟨_,rfl⟩
 obtain⟨NO,hNO⟩: ∃NO,(!f1)=NO:=⟨_,rfl⟩
 rw[hMO,hOP,hNO]
 have HMO:=lH hMO
 have HOP:=lH hOP
 have HNO:=lH hNO
 clear hMO hOP hNO
 have HT:=lH (show(if f1=true then (a1,b1) else (a2,b2))=(hh,tl) by rw[hhh,htl])
 clear hhh htl
 refine(callsIn_wide (n:=10)).1 ?_
 refine callsIn_of_wp_marks Tryz.func149 rfl trivial ?_ rfl
 refine wpIn_wide.2 ?_
 simp only[Tryz.ntmps149,List.size_toArray,List.length_cons,List.length_nil,Nat.reduceAdd,Nat.reduceSub,Array.replicate_succ,Array.replicate_zero,List.push_toArray,List.append_toArray,List.nil_append,List.cons_append]
 go_wp2_with fail
 refine(C1.out _ (hM.alloc _)).mono ?_
 rintro e w1 ⟨rfl,hb⟩
 have M1:=(hM.alloc _).below hb
 have W1:=lH (bT (bA w _) hb)
 have B1:=lH ((Boxed.made w _ _).below hb)
 have hwl:=W1.out.size
 have hMw:=lH hM
 have hNw:=lH hN
 clear hb hM hN C1
 have ne:w1.heap.size≠w.heap.size:=by have:=B1.out.lt;omega
 go_upto_if 21 with fail
 go_cut [3,4] from 14 to 46 (fun v3 v4 wx=>v3= .string ⟨hh.toArray⟩∧v4= .string ⟨tl.toArray⟩∧Hid (Boxed wx w1.heap.size #[.int .u8 0,.int .i64 0,.bool NO,.slice none 0 0])∧Hid (Boxed wx w.heap.size #[.int .u8 0,.int .i64 0,.bool false,.slice none 0 0])∧Hid (Below w.heap.size w wx))
 case first=>
  have M2:=M1.alloc (.cells #[.int .u8 0,.int .i64 0,.bool false,.slice none 0 0] 240)
  have W2:=lH (bT W1.out (bA w1 (.cells #[.int .u8 0,.int .i64 0,.bool false,.slice none 0 0] 240)))
  have B2:=lH (B1.out.alloc (.cells #[.int .u8 0,.int .i64 0,.bool false,.slice none 0 0] 240))
  have A2:=lH (Boxed.made w1 #[.int .u8 0,.int .i64 0,.bool false,.slice none 0 0] 240)
  cases f1 with
  |true=>
   obtain rfl:NO=false:=HNO.out.symm
   obtain⟨rfl,rfl⟩:=Prod.mk.inj ((if_pos rfl).symm.trans HT.out)
   go_wp2_with fail
   go_meet
   exact⟨rfl,rfl,A2,B2,W2⟩
  |false=>
   obtain rfl:NO=true:=HNO.out.symm
   obtain⟨rfl,rfl⟩:=Prod.mk.inj ((if_neg (by decide)).symm.trans HT.out)
   go_wp2_with fail
   refine(C2.out _ M2).mono ?_
   rintro e w2 ⟨rfl,hb⟩
   have W3:=lH (bT W2.out hb)
   have A3:=lH (A2.out.below hb)
   have B3:=lH (B2.out.below hb)
   have k2:=A3.out.cell 2 _ rfl
   have fz:=A3.out.free
   have sz:=A3.out.lt
   clear hb A2 B2 W2 B1 W1 C2 C3 CN
   go_wp2_with fail
   go_meet
   exact⟨rfl,rfl,lH (A3.out.set 2 (.bool true) (by decide)),lH (B3.out.far ne 2 _),lH (W3.out.setCell (show w.heap.size≤w1.heap.size from hwl) _)⟩
 case rest=>
  obtain⟨rfl,rfl,A4,B4,W4⟩:=hcut
  clear HT C2 M1 B1
  go_wp2_with fail
  refine(C3.out _ (hMw.out.below W4.out)).mono ?_
  rintro e w2 ⟨rfl,hb⟩
  have W5:=lH (bT W4.out hb)
  have A5:=lH (A4.out.below hb)
  have B5:=lH (B4.out.below hb)
  clear hb C3 A4 B4 W4 W1
  have k0:=A5.out.cell 0 _ rfl
  have f0:=A5.out.free 0 (by show 0<4;omega)
  have hlt:=A5.out.lt
  go_upto_if 37 with fail
  go_cut [] from 14 to 46 (fun wx=>Hid (Boxed wx w1.heap.size #[.int .u8 OP,.int .i64 0,.bool NO,.slice none 0 0])∧Hid (Boxed wx w.heap.size #[.int .u8 0,.int .i64 0,.bool false,.slice none 0 0])∧Hid (Below w.heap.size w wx))
  case first=>
   by_cases hn:nm.length=1
   ·obtain⟨c,rfl⟩:=List.length_eq_one_iff.1 hn
    have IX: ∀w,(Instr.index 9 (.string ⟨[c].toArray⟩) (.int .i64 0)).run Tryz.prog w= .ok (.int .u8 (c.toNat:Int)) w:=fun w=>zA9 (P:= Tryz.prog) 9 Tryz.underlying9 [c] .i64 0 c rfl w
    have e1:((([c]:List UInt8).length:Int)==1)=true:=rfl
    have eo:Rul.opP [c]=c:=rfl
    clear hn
    generalize [c]=nm at*
    go_wp2_with fail
    go_meet
    obtain rfl:OP=(c.toNat:Int):=by rw[←HOP.out,eo]
    exact⟨lH (by exact A5.out.set 0 (.int .u8 (c.toNat:Int)) (by show 0<4;omega)),lH (B5.out.far ne 0 _),lH (W5.out.setCell (show w.heap.size≤w1.heap.size from hwl) _)⟩
   have e1:((nm.length:Int)==1)=false:=zAe (by omega)
   have eo:Rul.opP nm=0:=by
    unfold Rul.opP
    split
    ·simp at hn
    rfl
   go_wp2_with fail
   go_meet
   obtain rfl:OP=0:=by rw[←HOP.out,eo];rfl
   exact⟨A5,B5,W5⟩
  case rest=>
   obtain⟨A6,B6,W6⟩:=hcut
   clear A5 B5 W5 k0 f0 hlt
   go_upto_if 41 with fail
   go_cut [] from 14 to 46 (fun wx=>Hid (Boxed wx w1.heap.size #[.int .u8 OP,.int .i64 MO,.bool NO,.slice none 0 0])∧Hid (Boxed wx w.heap.size #[.int .u8 0,.int .i64 0,.bool false,.slice none 0 0])∧Hid (Below w.heap.size w wx))
   case first=>
    cases f3 with
    |false=>
     obtain rfl:MO=0:=by simpa using HMO.out.symm
     go_wp2_with fail
     go_meet
     exact⟨A6,B6,W6⟩
    |true=>
     obtain rfl:MO=MD:=by simpa using HMO.out.symm
     go_wp2_with fail
     refine(CN.out _ (hNw.out.below W6.out)).mono ?_
     rintro e w3 ⟨rfl,hb⟩
     have W7:=lH (bT W6.out hb)
     have A7:=lH (A6.out.below hb)
     have B7:=lH (B6.out.below hb)
     have k1:=A7.out.cell 1 _ rfl
     have f1:=A7.out.free 1 (by show 1<4;omega)
     have hlt:=A7.out.lt
     clear hb A6 B6 W6 CN
     go_wp2_with fail
     go_meet
     exact⟨lH (A7.out.set 1 (.int .i64 MO) (by show 1<4;omega)),lH (B7.out.far ne 1 _),lH (W7.out.setCell (show w.heap.size≤w1.heap.size from hwl) _)⟩
   case rest=>
    obtain⟨A8,B8,W8⟩:=hcut
    clear A6 B6 W6 CN
    go_wp2_with fail
    refine(zB7 tl [44] _).mono ?_
    rintro e w2 ⟨rfl,rfl⟩
    go_wp2_with fail
    have hgM: 5<w.heap.size:=by
     obtain⟨m,hm⟩:=hMw.out
     exact World.block_lt_of_cell? w _ hm
    obtain⟨V,hV⟩: ∃V,((wc.alloc (.cells #[.string ⟨tl.toArray⟩] 9)).alloc (.cells #[.string ⟨#[44]⟩] 9)).alloc (.cells #[.int .i64 0] 3)=V:=⟨_,rfl⟩
    have bS:=lH (((Boxed.made wc #[.string ⟨tl.toArray⟩] 9).alloc (.cells #[.string ⟨#[44]⟩] 9)).alloc (.cells #[.int .i64 0] 3))
    have bP:=lH ((Boxed.made (wc.alloc (.cells #[.string ⟨tl.toArray⟩] 9)) #[.string ⟨#[44]⟩] 9).alloc (.cells #[.int .i64 0] 3))
    have bV:=lH (Boxed.made ((wc.alloc (.cells #[.string ⟨tl.toArray⟩] 9)).alloc (.cells #[.string ⟨#[44]⟩] 9)) #[.int .i64 0] 3)
    simp only[World.size_alloc] at bP bV
    have wV:=lH (((bA wc (.cells #[.string ⟨tl.toArray⟩] 9)).alloc (by simp) (.cells #[.string ⟨#[44]⟩] 9)).alloc (by simp;omega) (.cells #[.int .i64 0] 3))
    have zV:V.heap.size=wc.heap.size+3:=by rw[←hV];simp
    rw[hV] at bS bP bV wV⊢
    clear hV
    have W9:=lH (bT W8.out wV.out)
    have A9:=lH (A8.out.below wV.out)
    have B9:=lH (B8.out.below wV.out)
    have l8:=W8.out.size
    have la:=A8.out.lt
    have lb:=B8.out.lt
    clear W8 A8 B8 wV
    refine(wpIn_wide (n:=10)).1 ?_
    refine zCk (F:=Fence.wide) (d:=10) (val:=fun x:List UInt8=>Value.string ⟨x.toArray⟩) (n:=10) rfl (by omega) (gf:= 203) (lb:= #[.pointer (some ⟨wc.heap.size+1,0,none⟩),.pointer (some ⟨wc.heap.size,0,none⟩),.pointer (some ⟨wc.heap.size+2,0,none⟩)]) rfl trivial (enters_of Tryz.func203 (by kernel_rfl) rfl)
     (zCS tl [44] (wc.heap.size+1) wc.heap.size (wc.heap.size+2) w.heap.size 9 V (by omega) (by simp) (by omega) (by simp) hgM (by omega) (hMw.out.below W9.out) (by omega) (by omega) (by omega) (by omega) (by omega)
      (bP.out.cell 0 _ rfl) (bS.out.cell 0 _ rfl) (bV.out.cell 0 _ rfl) (bS.out.free 0 (by show 0<1;omega)))
     (by omega) KpS.trans (KpS.put (by omega) (by omega) (by omega) (by omega))
     (fun pre W=> ∃v,PX w V.heap.size w1.heap.size (.int .u8 OP) (.int .i64 MO) (.bool NO) v v pre W)
     (fun pre A C r hs g hr=>by
      obtain⟨v,hs⟩:=hs
      exact⟨v,hs.grown g fun k hk=>by
       obtain⟨h1,o,h2,h3⟩:=hr k hk
       refine⟨by omega,by omega,fun e=>?_⟩
       rcases hs.row.2 with⟨rfl,_⟩|⟨g',cap,cur,rfl,_,hg',_⟩
       ·cases e
       injection e with e
       subst e
       rw[hg'] at h2
       injection h2 with h2
       subst h2
       cases h3⟩)
     (fun pre A C hs g=>by
      obtain⟨v,hs⟩:=hs
      exact⟨v,hs.grown g fun k hk=>by
       injection hk with hk
       subst hk
       refine⟨by omega,by omega,fun e=>?_⟩
       have:=hs.row.lt _ e
       omega⟩)
     ⟨.slice none 0 0,A9.out,⟨rfl,.inl ⟨rfl,rfl⟩⟩,B9.out,W9.out,Nat.le_refl _⟩
     ?assign ?body ?done
    case assign=>
     intro l pre x W K hi hK
     gi_wp2
     exact hK _ (KeepsFrom.refl _ _) ⟨Below.refl _ _,rfl,rfl,rfl⟩ hi
    case done=>
     rintro D W hD ⟨v,hs⟩ hK
     obtain⟨a,n,c,rfl⟩: ∃a n c,v= .slice a n c:=by
      rcases hs.row.2 with⟨rfl,_⟩|⟨g',cap,cur,rfl,_⟩
      ·exact⟨_,_,_,rfl⟩
      exact⟨_,_,_,rfl⟩
     have k0:=hs.box.cell 0 _ rfl
     have k1:=hs.box.cell 1 _ rfl
     have k2:=hs.box.cell 2 _ rfl
     have k3:=hs.box.cell 3 _ rfl
     have q0:=hs.res.free 0 (by show 0<4;omega)
     have q1:=hs.res.free 1 (by show 1<4;omega)
     have q2:=hs.res.free 2 (by show 2<4;omega)
     have q3:=hs.res.free 3 (by show 3<4;omega)
     have c0:=hs.res.cell 0 _ rfl
     have c1:=hs.res.cell 1 _ rfl
     have c2:=hs.res.cell 2 _ rfl
     have c3:=hs.res.cell 3 _ rfl
     have s0:=hs.res.lt
     have s1:=hs.box.lt
     have HS:=lH hs
     clear hs
     go_wp2_with fail
     have HD:=lH (show((((W.setCell ⟨w.heap.size,0,none⟩ (.int .u8 OP)).setCell ⟨w.heap.size,1,none⟩ (.int .i64 MO)).setCell ⟨w.heap.size,2,none⟩ (.bool NO)).setCell ⟨w.heap.size,3,none⟩ (.slice a n c)).heap[D]?=some (.deferred (some [])) by
      rw[zAy (by show w.heap.size≠D;omega),zAy (by show w.heap.size≠D;omega),zAy (by show w.heap.size≠D;omega),zAy (by show w.heap.size≠D;omega)]
      exact hK)
     have BD:=lH (zAs ((((HS.out.res.set 0 (.int .u8 OP) (by show 0<4;omega)).set 1 (.int .i64 MO) (by show 1<4;omega)).set 2 (.bool NO) (by show 2<4;omega)).set 3 (.slice a n c) (by show 3<4;omega)) (grownBy_putObj' _ D (.deferred none)) (fun e=>by injection e with e;omega))
     have WD:=lH ((((HS.out.low.setCell (p:=⟨w.heap.size,0,none⟩) (Nat.le_refl _) (.int .u8 OP)).setCell (p:=⟨w.heap.size,1,none⟩) (Nat.le_refl _) (.int .i64 MO)).setCell (p:=⟨w.heap.size,2,none⟩) (Nat.le_refl _) (.bool NO)).setCell (p:=⟨w.heap.size,3,none⟩) (Nat.le_refl _) (.slice a n c))
     have SD:=lH (PX.lies HS.out (C:=((((W.setCell ⟨w.heap.size,0,none⟩ (.int .u8 OP)).setCell ⟨w.heap.size,1,none⟩ (.int .i64 MO)).setCell ⟨w.heap.size,2,none⟩ (.bool NO)).setCell ⟨w.heap.size,3,none⟩ (.slice a n c)).putObj D (.deferred none)) (fun g cur e hg h=>by
      have hgD:g≠D:=fun e=>by subst e;rw[hK] at h;cases h
      rw[World.putObj_heap_other hgD,zAy (by show w.heap.size≠g;omega),zAy (by show w.heap.size≠g;omega),zAy (by show w.heap.size≠g;omega),zAy (by show w.heap.size≠g;omega)]))
     refine⟨by simp,.inl ⟨_,_,rfl,run_takeDeferred HD.out,?_⟩⟩
     have y0:=BD.out.cell 0 _ rfl
     have y1:=BD.out.cell 1 _ rfl
     have y2:=BD.out.cell 2 _ rfl
     have y3:=BD.out.cell 3 _ rfl
     have WE:=lH (WD.out.trans (belowK_b (w:=w) (Nat.le_refl _) _ D _ (.deferred none) (by omega) HD.out rfl rfl))
     have FR: ∀b,(Value.slice a n c).ownBlock=some b→w.heap.size≤b:=fun b hb=>by have:=(HS.out.row.lt b hb).1;omega
     clear HD BD WD HS k0 k1 k2 k3 q0 q1 q2 q3 c0 c1 c2 c3
     generalize ((((W.setCell ⟨w.heap.size,0,none⟩ (.int .u8 OP)).setCell ⟨w.heap.size,1,none⟩ (.int .i64 MO)).setCell ⟨w.heap.size,2,none⟩ (.bool NO)).setCell ⟨w.heap.size,3,none⟩ (.slice a n c)).putObj D (.deferred none)=Z at*
     refine⟨.agg #[.int .u8 OP,.int .i64 MO,.bool NO,.slice a n c],?res,.slice a n c,rfl,?_,FR,WE.out⟩
     case res=>simp[results,Tryz.results149,go_sem,y0,y1,y2,y3]
     rw[←hR];exact SD.out
    case body=>
     rintro l pre x W hl ⟨r,hr⟩ ⟨v,hs⟩ hpre
     have hxl:x.length≤4000000000:=by have:=zBn (hpre.subset (by simp):x∈Lib.split tl [44]);omega
     have hpl:pre.length+1≤4000000001:=by
      have h1:=hpre.length_le
      rw[Spl.zBi (by simp),Lib.count_one] at h1
      have h2:=List.count_le_length (a:=(44:UInt8)) (l:=tl)
      simp at h1
      omega
     have CC:=lH fun w hM=>zCT x [46,46] w hM hxl
     have lc:=zCU x [46,46]
     have er:Rul.rngP x=(Rul.num (Lib.cut x [46,46]).1,Rul.num (if (Lib.cut x [46,46]).2.2 then (Lib.cut x [46,46]).2.1 else (Lib.cut x [46,46]).1)):=rfl
     generalize Lib.cut x [46,46]=c at*
     obtain⟨a,b,f⟩:=c
     dsimp only at*
     have HER:=lH er
     have P0:=lH (PL.start (bp:=wc.heap.size+1) (bs:=wc.heap.size) (bv:=wc.heap.size+2) hs)
     have hBs:wc.heap.size+1<V.heap.size∧wc.heap.size<V.heap.size∧wc.heap.size+2<V.heap.size:=by omega
     clear er hs hpre A9 B9 W9 bS bP bV
     gi_upto_if 55 with(refine⟨trivial,?_⟩;gi_at_call 88;refine(CallsIn.inRound l (callsIn_wide.2 (CC.out _ (hMw.out.below P0.out.px.low)))).mono ?_;rintro e w2 ⟨rfl,hb⟩)
     have P1:=lH (P0.out.below hb hBs)
     clear hb CC P0
     have CN1:=lH fun w hN=>zCR a w hN (by omega)
     have lz:(if f=true then b else a).length≤4000000000:=by split<;>omega
     have CN2:=lH fun w hN=>zCR (if f=true then b else a) w hN lz
     obtain⟨z,hz⟩: ∃z,(if f=true then b else a)=z:=⟨_,rfl⟩
     rw[hz] at CN2
     replace HER:=lH (show Rul.rngP x=(Rul.num a,Rul.num z) by rw[HER.out,hz])
     have HZ:=lH hz
     generalize Rul.num z=N2 at CN2 HER
     generalize Rul.num a=N1 at CN1 HER
     clear hz lz
     have hwB:w.heap.size<V.heap.size:=by omega
     have hpB:w1.heap.size<V.heap.size:=by omega
     have hwp:w.heap.size<w1.heap.size:=by omega
     have hne:w1.heap.size≠wc.heap.size+1∧w1.heap.size≠wc.heap.size∧w1.heap.size≠wc.heap.size+2:=by omega
     gi_cut [12] from 48 (fun v wx=>v= .string ⟨z.toArray⟩∧wx=w2)
     case first=>
      cases f with
      |false=>
       obtain rfl:a=z:=HZ.out
       gi_wp2
       gi_meet
       exact⟨rfl,rfl⟩
      |true=>
       obtain rfl:b=z:=HZ.out
       gi_wp2
       gi_meet
       exact⟨rfl,rfl⟩
     case rest=>
      obtain⟨rfl,rfl⟩:=hcut
      gi_wp2
      obtain⟨iR,hiR,hR0,hR1,hR2⟩:=info_parts infoRng
      refine zDm (S:=fun _=>True) (by kernel_rfl) (by kernel_rfl) (fun _ _ h=>h) trivial (fun hY9=>?_)
      have P:=lH (P1.out.below (Below.drew (Below.refl _ _)) hBs)
      clear P1
      generalize World.drew _=w3 at*
      refine tkr (d:=some 57) (v:=?v11) 0 rfl rfl hY9 ?hy11 ?rs11
      case hy11=>(intro w hSw;(try dsimp only at hSw);go_simp)<;>(try with_reducible rfl)
      (try simp only[Act.put,aI,aO,aS])
      refine tkr (d:=some 59) (v:=?v12) 2 rfl rfl hY9 ?hy12 ?rs12
      case hy12=>(intro w hSw;(try dsimp only at hSw);go_simp)<;>(try with_reducible rfl)
      (try simp only[Act.put,aI,aO,aS])
      refine tkr (d:=some 61) (v:=?v13) 4 rfl rfl hY9 ?hy13 ?rs13
      case hy13=>(intro w hSw;(try dsimp only at hSw);go_simp)<;>(try with_reducible rfl)
      (try simp only[Act.put,aI,aO,aS])
      refine zA4 1 3 rfl rfl (by kernel_rfl) (by rfl) (by rfl) (fun K hK=>?_) (fun K hK=>?_)
      ·have k3:=P.out.px.box.cell 3 _ rfl
       go_simp
       clear k3
       refine hK.out _ _ trivial (fun hY9=>?_)
       clear hK K
       (try simp only[Act.put,aI,aO,aS])
       refine zAc 3 rfl (by kernel_rfl) (by rfl) (fun K hK=>?_)
       go_simp
       refine(CN1.out _ (hNw.out.below P.out.px.low)).mono ?_
       rintro e w' ⟨rfl,hb⟩
       replace P:=lH (P.out.below hb hBs)
       refine hK.out _ _ trivial (fun hY9=>?_)
       clear hK K
       (try simp only[Act.put,aI,aO,aS])
       clear hb
       refine zAc 5 rfl (by kernel_rfl) (by rfl) (fun K hK=>?_)
       go_simp
       refine(CN2.out _ (hNw.out.below P.out.px.low)).mono ?_
       rintro e w' ⟨rfl,hb⟩
       replace P:=lH (P.out.below hb hBs)
       refine hK.out _ _ trivial (fun hY9=>?_)
       clear hK K
       (try simp only[Act.put,aI,aO,aS])
       clear hb
       refine tkr (d:=some 63) (v:=?v14) 6 rfl rfl hY9 ?hy14 ?rs14
       case hy14=>(intro w hSw;(try dsimp only at hSw);go_simp)<;>(try with_reducible rfl)
       (try simp only[Act.put,aI,aO,aS])
       refine zAc 7 rfl (by kernel_rfl) (by rfl) (fun K hK=>?_)
       go_simp
       refine hK.out _ _ trivial (fun hY9=>?_)
       clear hK K
       (try simp only[Act.put,aI,aO,aS])
       replace P:=lH (P.out.below (bA _ (.cells #[.int .i64 N1,.int .i64 N2] 265)) hBs)
       have BN:=lH (Boxed.made _ #[.int .i64 N1,.int .i64 N2] 265:Boxed (World.alloc w' (.cells #[.int .i64 N1,.int .i64 N2] 265)) w'.heap.size _)
       generalize hq:w'.heap.size=q at*
       generalize World.alloc w' (.cells #[.int .i64 N1,.int .i64 N2] 265)=w5 at*
       clear hq
       refine zAc 8 rfl (by kernel_rfl) (by rfl) (fun K hK=>?_)
       refine wp_append_own _ _ _ 238 rfl V.heap.size 265 iR _ 2 16 Tryz.underlying238 hiR hR0 hR1 hR2 rfl (by decide) v pre.length (rflat pre) (by simp[go_sem]) P.out.px.row ⟨q,0,none⟩ 1 1 [.int .i64 N1,.int .i64 N2] (by simp[go_sem]) rfl (zAz BN.out) (fun u hu=>by simp at hu;rcases hu with rfl|rfl<;>rfl) (by unfold maxLen;omega) (by omega) P.out.px.sz ?_
       intro v' w6 hown hgrow hnil
       clear hnil
       obtain⟨g',cap',rfl⟩:=zAP hown (by omega)
       replace P:=lH (P.out.append (x:=x) (by rw[HER.out];exact hown) hgrow hwB hpB hBs)
       clear hown hgrow
       refine hK.out _ _ trivial (fun hY9=>?_)
       clear hK K
       (try simp only[Act.put,aI,aO,aS])
       refine tkr (d:=some 66) (v:=?v15) 9 rfl rfl hY9 ?hy15 ?rs15
       case hy15=>(intro w hSw;(try dsimp only at hSw);go_simp)<;>(try with_reducible rfl)
       (try simp only[Act.put,aI,aO,aS])
       refine zAc 10 rfl (by kernel_rfl) (by rfl) (fun K hK=>?_)
       have k3:=P.out.px.box.cell 3 _ rfl
       have z3:=P.out.px.box.free 3 (by show 3<4;omega)
       have hlt:=P.out.px.box.lt
       go_simp
       clear k3 z3 hlt
       refine hK.out _ _ trivial (fun hY9=>?_)
       clear hK K
       (try simp only[Act.put,aI,aO,aS])
       replace P:=lH (P.out.stored hwp hpB hne)
       refine wpAnyH_done (by kernel_rfl) ?_ _
       exact⟨P.out.kf,P.out.kp,_,P.out.px⟩
      go_simp
      refine(CN1.out _ (hNw.out.below P.out.px.low)).mono ?_
      rintro e w' ⟨rfl,hb⟩
      replace P:=lH (P.out.below hb hBs)
      refine hK.out _ _ trivial (fun hY9=>?_)
      clear hK K
      (try simp only[Act.put,aI,aO,aS])
      clear hb
      refine zA4 1 5 rfl rfl (by kernel_rfl) (by rfl) (by rfl) (fun K hK=>?_) (fun K hK=>?_)
      ·have k3:=P.out.px.box.cell 3 _ rfl
       go_simp
       clear k3
       refine hK.out _ _ trivial (fun hY9=>?_)
       clear hK K
       (try simp only[Act.put,aI,aO,aS])
       refine zAc 5 rfl (by kernel_rfl) (by rfl) (fun K hK=>?_)
       go_simp
       refine(CN2.out _ (hNw.out.below P.out.px.low)).mono ?_
       rintro e w' ⟨rfl,hb⟩
       replace P:=lH (P.out.below hb hBs)
       refine hK.out _ _ trivial (fun hY9=>?_)
       clear hK K
       (try simp only[Act.put,aI,aO,aS])
       clear hb
       refine tkr (d:=some 63) (v:=?v19) 6 rfl rfl hY9 ?hy19 ?rs19
       case hy19=>(intro w hSw;(try dsimp only at hSw);go_simp)<;>(try with_reducible rfl)
       (try simp only[Act.put,aI,aO,aS])
       refine zAc 7 rfl (by kernel_rfl) (by rfl) (fun K hK=>?_)
       go_simp
       refine hK.out _ _ trivial (fun hY9=>?_)
       clear hK K
       (try simp only[Act.put,aI,aO,aS])
       replace P:=lH (P.out.below (bA _ (.cells #[.int .i64 N1,.int .i64 N2] 265)) hBs)
       have BN:=lH (Boxed.made _ #[.int .i64 N1,.int .i64 N2] 265:Boxed (World.alloc w' (.cells #[.int .i64 N1,.int .i64 N2] 265)) w'.heap.size _)
       generalize hq:w'.heap.size=q at*
       generalize World.alloc w' (.cells #[.int .i64 N1,.int .i64 N2] 265)=w5 at*
       clear hq
       refine zAc 8 rfl (by kernel_rfl) (by rfl) (fun K hK=>?_)
       refine wp_append_own _ _ _ 238 rfl V.heap.size 265 iR _ 2 16 Tryz.underlying238 hiR hR0 hR1 hR2 rfl (by decide) v pre.length (rflat pre) (by simp[go_sem]) P.out.px.row ⟨q,0,none⟩ 1 1 [.int .i64 N1,.int .i64 N2] (by simp[go_sem]) rfl (zAz BN.out) (fun u hu=>by simp at hu;rcases hu with rfl|rfl<;>rfl) (by unfold maxLen;omega) (by omega) P.out.px.sz ?_
       intro v' w6 hown hgrow hnil
       clear hnil
       obtain⟨g',cap',rfl⟩:=zAP hown (by omega)
       replace P:=lH (P.out.append (x:=x) (by rw[HER.out];exact hown) hgrow hwB hpB hBs)
       clear hown hgrow
       refine hK.out _ _ trivial (fun hY9=>?_)
       clear hK K
       (try simp only[Act.put,aI,aO,aS])
       refine tkr (d:=some 66) (v:=?v20) 9 rfl rfl hY9 ?hy20 ?rs20
       case hy20=>(intro w hSw;(try dsimp only at hSw);go_simp)<;>(try with_reducible rfl)
       (try simp only[Act.put,aI,aO,aS])
       refine zAc 10 rfl (by kernel_rfl) (by rfl) (fun K hK=>?_)
       have k3:=P.out.px.box.cell 3 _ rfl
       have z3:=P.out.px.box.free 3 (by show 3<4;omega)
       have hlt:=P.out.px.box.lt
       go_simp
       clear k3 z3 hlt
       refine hK.out _ _ trivial (fun hY9=>?_)
       clear hK K
       (try simp only[Act.put,aI,aO,aS])
       replace P:=lH (P.out.stored hwp hpB hne)
       refine wpAnyH_done (by kernel_rfl) ?_ _
       exact⟨P.out.kf,P.out.kp,_,P.out.px⟩
      go_simp
      refine(CN2.out _ (hNw.out.below P.out.px.low)).mono ?_
      rintro e w' ⟨rfl,hb⟩
      replace P:=lH (P.out.below hb hBs)
      refine hK.out _ _ trivial (fun hY9=>?_)
      clear hK K
      (try simp only[Act.put,aI,aO,aS])
      clear hb
      refine tkr (d:=some 63) (v:=?v16) 6 rfl rfl hY9 ?hy16 ?rs16
      case hy16=>(intro w hSw;(try dsimp only at hSw);go_simp)<;>(try with_reducible rfl)
      (try simp only[Act.put,aI,aO,aS])
      refine zA4 1 7 rfl rfl (by kernel_rfl) (by rfl) (by rfl) (fun K hK=>?_) (fun K hK=>?_)
      ·have k3:=P.out.px.box.cell 3 _ rfl
       go_simp
       clear k3
       refine hK.out _ _ trivial (fun hY9=>?_)
       clear hK K
       (try simp only[Act.put,aI,aO,aS])
       refine zAc 7 rfl (by kernel_rfl) (by rfl) (fun K hK=>?_)
       go_simp
       refine hK.out _ _ trivial (fun hY9=>?_)
       clear hK K
       (try simp only[Act.put,aI,aO,aS])
       replace P:=lH (P.out.below (bA _ (.cells #[.int .i64 N1,.int .i64 N2] 265)) hBs)
       have BN:=lH (Boxed.made _ #[.int .i64 N1,.int .i64 N2] 265:Boxed (World.alloc w' (.cells #[.int .i64 N1,.int .i64 N2] 265)) w'.heap.size _)
       generalize hq:w'.heap.size=q at*
       generalize World.alloc w' (.cells #[.int .i64 N1,.int .i64 N2] 265)=w5 at*
       clear hq
       refine zAc 8 rfl (by kernel_rfl) (by rfl) (fun K hK=>?_)
       refine wp_append_own _ _ _ 238 rfl V.heap.size 265 iR _ 2 16 Tryz.underlying238 hiR hR0 hR1 hR2 rfl (by decide) v pre.length (rflat pre) (by simp[go_sem]) P.out.px.row ⟨q,0,none⟩ 1 1 [.int .i64 N1,.int .i64 N2] (by simp[go_sem]) rfl (zAz BN.out) (fun u hu=>by simp at hu;rcases hu with rfl|rfl<;>rfl) (by unfold maxLen;omega) (by omega) P.out.px.sz ?_
       intro v' w6 hown hgrow hnil
       clear hnil
       obtain⟨g',cap',rfl⟩:=zAP hown (by omega)
       replace P:=lH (P.out.append (x:=x) (by rw[HER.out];exact hown) hgrow hwB hpB hBs)
       clear hown hgrow
       refine hK.out _ _ trivial (fun hY9=>?_)
       clear hK K
       (try simp only[Act.put,aI,aO,aS])
       refine tkr (d:=some 66) (v:=?v17) 9 rfl rfl hY9 ?hy17 ?rs17
       case hy17=>(intro w hSw;(try dsimp only at hSw);go_simp)<;>(try with_reducible rfl)
       (try simp only[Act.put,aI,aO,aS])
       refine zAc 10 rfl (by kernel_rfl) (by rfl) (fun K hK=>?_)
       have k3:=P.out.px.box.cell 3 _ rfl
       have z3:=P.out.px.box.free 3 (by show 3<4;omega)
       have hlt:=P.out.px.box.lt
       go_simp
       clear k3 z3 hlt
       refine hK.out _ _ trivial (fun hY9=>?_)
       clear hK K
       (try simp only[Act.put,aI,aO,aS])
       replace P:=lH (P.out.stored hwp hpB hne)
       refine wpAnyH_done (by kernel_rfl) ?_ _
       exact⟨P.out.kf,P.out.kp,_,P.out.px⟩
      go_simp
      refine hK.out _ _ trivial (fun hY9=>?_)
      clear hK K
      (try simp only[Act.put,aI,aO,aS])
      replace P:=lH (P.out.below (bA _ (.cells #[.int .i64 N1,.int .i64 N2] 265)) hBs)
      have BN:=lH (Boxed.made _ #[.int .i64 N1,.int .i64 N2] 265:Boxed (World.alloc w' (.cells #[.int .i64 N1,.int .i64 N2] 265)) w'.heap.size _)
      generalize hq:w'.heap.size=q at*
      generalize World.alloc w' (.cells #[.int .i64 N1,.int .i64 N2] 265)=w5 at*
      clear hq
      refine zAc 1 rfl (by kernel_rfl) (by rfl) (fun K hK=>?_)
      have k3:=P.out.px.box.cell 3 _ rfl
      go_simp
      clear k3
      refine hK.out _ _ trivial (fun hY9=>?_)
      clear hK K
      (try simp only[Act.put,aI,aO,aS])
      refine zAc 8 rfl (by kernel_rfl) (by rfl) (fun K hK=>?_)
      refine wp_append_own _ _ _ 238 rfl V.heap.size 265 iR _ 2 16 Tryz.underlying238 hiR hR0 hR1 hR2 rfl (by decide) v pre.length (rflat pre) (by simp[go_sem]) P.out.px.row ⟨q,0,none⟩ 1 1 [.int .i64 N1,.int .i64 N2] (by simp[go_sem]) rfl (zAz BN.out) (fun u hu=>by simp at hu;rcases hu with rfl|rfl<;>rfl) (by unfold maxLen;omega) (by omega) P.out.px.sz ?_
      intro v' w6 hown hgrow hnil
      clear hnil
      obtain⟨g',cap',rfl⟩:=zAP hown (by omega)
      replace P:=lH (P.out.append (x:=x) (by rw[HER.out];exact hown) hgrow hwB hpB hBs)
      clear hown hgrow
      refine hK.out _ _ trivial (fun hY9=>?_)
      clear hK K
      (try simp only[Act.put,aI,aO,aS])
      refine tkr (d:=some 66) (v:=?v18) 9 rfl rfl hY9 ?hy18 ?rs18
      case hy18=>(intro w hSw;(try dsimp only at hSw);go_simp)<;>(try with_reducible rfl)
      (try simp only[Act.put,aI,aO,aS])
      refine zAc 10 rfl (by kernel_rfl) (by rfl) (fun K hK=>?_)
      have k3:=P.out.px.box.cell 3 _ rfl
      have z3:=P.out.px.box.free 3 (by show 3<4;omega)
      have hlt:=P.out.px.box.lt
      go_simp
      clear k3 z3 hlt
      refine hK.out _ _ trivial (fun hY9=>?_)
      clear hK K
      (try simp only[Act.put,aI,aO,aS])
      replace P:=lH (P.out.stored hwp hpB hne)
      refine wpAnyH_done (by kernel_rfl) ?_ _
      exact⟨P.out.kf,P.out.kp,_,P.out.px⟩
open Go.RowKit Ms
theorem infoNode:(Tryz.prog.info? 51).map (fun i=>(i.zero,i.size,i.bytes))=some (some (.agg #[.int .i64 0,.string ByteArray.empty,.int .i64 0,.slice none 0 0]),4,56):=by kernel_rfl
theorem infoCase:(Tryz.prog.info? 53).map (fun i=>(i.zero,i.size,i.bytes))=some (some (.agg #[.string ByteArray.empty,.slice none 0 0]),2,40):=by kernel_rfl
abbrev NI2:=Nd×Value
def nEnc (y:NI2):List Value:= [.int .i64 y.1.kind,.string ⟨y.1.text.toArray⟩,.int .i64 y.1.off,y.2]
def nHang (f:Nat) (y:NI2) (w:World):Prop:= ∃a n c,y.2= .slice a n c∧CassAt f w y.2 y.1.cases∧y.1.text.length≤2000000∧y.1.cases.length≤2000000
abbrev CI2:=(List UInt8×List Nd)×Value
def cEnc (y:CI2):List Value:= [.string ⟨y.1.1.toArray⟩,y.2]
def cHang (f:Nat) (y:CI2) (w:World):Prop:= ∃a n c,y.2= .slice a n c∧MsgAt f w y.2 y.1.2∧y.1.1.length≤2000000∧y.1.2.length≤2000000
abbrev NGrow (B f:Nat):=Grow B (fun _=>True) 51 4 nEnc (nHang f)
abbrev CGrow (B q f:Nat):=Grow B (fun b=>b≠q) 53 2 cEnc (cHang f)
theorem NGrow.at {B f:Nat} {v:Value} {L:List NI2} {w:World} (h:NGrow B f v L w):Foot (fun b=>B≤b) w (fun w=>MsgAt (f+1) w v (L.map (·.1))):=by
 refine((h.read (R:=fun w b o x=>NdC (f+1) w b o x.1) (fun _ _=>trivial) (fun _=>rfl) fun w b o x _ hc hh=>?_).mono fun b _ q=>q.1).imp fun w hw=>?_
 ·obtain⟨a,n,c,e,h1,h2,h3⟩:=hh
  rw[e] at h1
  exact⟨a,n,c,hc 0 _ rfl,hc 1 _ rfl,hc 2 _ rfl,(hc 3 _ rfl).trans (by rw[e]),h1,h2,h3⟩
 rcases hw with⟨rfl,hw⟩|⟨b,off,cap,e,h1,h2,h3,h4⟩
 ·exact .inl ⟨rfl,hw⟩
 refine .inr ⟨b,off,cap,by rw[List.length_map];exact e,by rw[List.length_map];exact h1,by rw[List.length_map];exact h2,h3,fun j x hx=>?_⟩
 rw[List.getElem?_map] at hx
 obtain⟨y,hy,rfl⟩:=Option.map_eq_some_iff.1 hx
 exact h4 j y hy
theorem CGrow.at {B q f:Nat} {v:Value} {L:List CI2} {w:World} (h:CGrow B q f v L w) (hq: ∀g,v.ownBlock=some g→g≠q):Foot (fun b=>B≤b∧b≠q) w (fun w=>CassAt f w v (L.map (·.1))):=by
 refine(h.read (R:=fun w b o x=>CsC f w b o x.1) hq (fun _=>rfl) fun w b o x _ hc hh=>?_).imp fun w hw=>?_
 ·obtain⟨a,n,c,e,h1,h2,h3⟩:=hh
  rw[e] at h1
  exact⟨a,n,c,hc 0 _ rfl,(hc 1 _ rfl).trans (by rw[e]),h1,h2,h3⟩
 rcases hw with⟨rfl,hw⟩|⟨b,off,cap,e,h1,h2,h3,h4⟩
 ·exact .inl ⟨rfl,hw⟩
 refine .inr ⟨b,off,cap,by rw[List.length_map];exact e,by rw[List.length_map];exact h1,by rw[List.length_map];exact h2,h3,fun j x hx=>?_⟩
 rw[List.getElem?_map] at hx
 obtain⟨y,hy,rfl⟩:=Option.map_eq_some_iff.1 hx
 exact h4 j y hy
theorem Grow.slice {α:Type} {B:Nat} {X:Nat→Prop} {e:TypeId} {k:Nat} {enc:α→List Value} {C:α→World→Prop} {v:Value} {l:List α} {w:World} (h:Grow B X e k enc C v l w): ∃a c,v= .slice a l.length c:=by
 rcases h.row.2 with⟨rfl,h0⟩|⟨g,cap,cur,rfl,_⟩
 ·exact⟨none,0,by rw[h0]⟩
 exact⟨_,_,rfl⟩
theorem Grow.own_lt {α:Type} {B:Nat} {X:Nat→Prop} {e:TypeId} {k:Nat} {enc:α→List Value} {C:α→World→Prop} {v:Value} {l:List α} {w:World} (h:Grow B X e k enc C v l w) {g:Nat} (hg:v.ownBlock=some g):g<w.heap.size:=by
 obtain⟨_,cur,hc⟩:=h.own hg
 exact zAf hc
structure YI (w0:World) (q:Nat) (x:Nd) (f:Nat) (kv:Value) (C:List CI2) (w:World):Prop where
 gr:CGrow w0.heap.size q f kv C w
 bx:w.heap[q]?=some (.cells #[.int .i64 x.kind,.string ⟨x.text.toArray⟩,.int .i64 x.off,kv] 51 (0,0))
 lo:w0.heap.size≤q
 bel:Below w0.heap.size w0 w
theorem YI.own_ne {w0:World} {q:Nat} {x:Nd} {f:Nat} {kv:Value} {C:List CI2} {w:World} (h:YI w0 q x f kv C w): ∀g,kv.ownBlock=some g→g≠q:=by
 intro g hg e
 obtain⟨_,cur,hc⟩:=h.gr.own hg
 rw[e,h.bx] at hc
 injection hc with hc
 injection hc with _ ht _
 exact absurd ht (by decide)
theorem YI.below {w0:World} {q:Nat} {x:Nd} {f:Nat} {kv:Value} {C:List CI2} {w w':World} (h:YI w0 q x f kv C w) (hb:Below w.heap.size w w'):YI w0 q x f kv C w':=
 ⟨h.gr.below hb,(hb.block q (zAf h.bx)).trans h.bx,h.lo,bT h.bel hb⟩
theorem YI.cells {w0:World} {q:Nat} {x:Nd} {f:Nat} {kv:Value} {C:List CI2} {w:World} (h:YI w0 q x f kv C w):
  w.cell? ⟨q,0,none⟩=some (.int .i64 x.kind)∧w.cell? ⟨q,1,none⟩=some (.string ⟨x.text.toArray⟩)∧w.cell? ⟨q,2,none⟩=some (.int .i64 x.off)∧w.cell? ⟨q,3,none⟩=some kv∧w.frozen? ⟨q,3,none⟩=false∧q<w.heap.size:=
 ⟨by rw[Lib.cell_of_heap h.bx];rfl,by rw[Lib.cell_of_heap h.bx];rfl,by rw[Lib.cell_of_heap h.bx];rfl,by rw[Lib.cell_of_heap h.bx];rfl,Lib.frozen_of_heap h.bx 3,zAf h.bx⟩
theorem YI.add {w0:World} {q:Nat} {x:Nd} {f:Nat} {kv kv':Value} {C:List CI2} {w w2 w':World} (h:YI w0 q x f kv C w) (y:CI2) (hb:Below w.heap.size w w2) (hn:Foot (fun b=>w.heap.size≤b) w2 (cHang f y))
  (hown:w'.ownsRow w0.heap.size 53 2 kv' (C.length+1) (C.flatMap cEnc++cEnc y)) (hg:w2.grownBy w' kv.ownBlock) (hat:kv'.ownBlock=kv.ownBlock∨kv'.ownBlock=some w2.heap.size):YI w0 q x f kv' (C++ [y]) (w'.setCell ⟨q,3,none⟩ kv'):=by
 have h2:=h.below hb
 have hql:=zAf h.bx
 have hql2:=zAf h2.bx
 have hs:=h.bel.size
 have hlo:=h.lo
 have ha:=h2.gr.app y w.heap.size (fun g hg=>h.gr.own_lt hg) (hn.mono fun b _ hbb=>⟨hbb,by omega,by omega⟩) hown hg hat
 have hq2:w'.heap[q]?=some (.cells #[.int .i64 x.kind,.string ⟨x.text.toArray⟩,.int .i64 x.off,kv] 51 (0,0)):=by
  rw[hg.block q hql2 (fun e=>h.own_ne q e.symm rfl)];exact h2.bx
 refine⟨ha.keep (fun b _ _ hX=>Below.heap_setCell _ _ _ _ hX) (fun g hg' e=>?_),?_,hlo,?_⟩
 ·rcases hat with hat|hat
  ·rw[hat] at hg';exact h.own_ne g hg' e
  rw[hat] at hg';injection hg' with hg';omega
 ·simp[World.setCell,Array.getElem?_modify,hq2]
 refine Below.setCell (p:=⟨q,3,none⟩) ?_ hlo _
 exact h2.bel.grown hg (Nat.le_trans hs hb.size) (fun k hk=>(h.gr.own hk).1)
def CpOf (f:Nat):Prop:= ∀(v:Value) (m:List Nd) (w:World),MsgAt f w v m→m.length≤2000000→
  Calls Tryz.prog 17 #[v] w fun e w'=> ∃v',e= .returned v'∧Foot (fun b=>w.heap.size≤b) w' (fun W=>MsgAt f W v' (clean f m))∧Below w.heap.size w w'
theorem zIg {f:Nat} {m:List Nd} {i:Nat} {x:Nd} (h:m[i]?=some x):(m.take (i+1)).map (clX (clean f))=(m.take i).map (clX (clean f))++ [clX (clean f) x]:=by
 rw[List.take_add_one,h];simp
theorem zKH {f:Nat} {cs:List (List UInt8×List Nd)} {i:Nat} {y:List UInt8×List Nd} (h:cs[i]?=some y):(cs.take (i+1)).map (fun y=>(y.1,clean f y.2))=(cs.take i).map (fun y=>(y.1,clean f y.2))++ [(y.1,clean f y.2)]:=by
 rw[List.take_add_one,h];simp
theorem zIh (f:Nat):CpOf f:=by
 induction f with
 |zero=>
  intro v m w h hl
  rcases h with⟨rfl,A,cap,rfl⟩|⟨b,off,cap,_,hpos,_,_,hx⟩
  ·go_enter Tryz.func17,Tryz.ntmps17
   go_wp2_with fail
   go_loopw [3,11] (fun vo vi wr=>vo= .slice none 0 0∧vi= .int .i64 0∧w=wr) (fun _ _ _=>0)
   case atStart=>exact⟨rfl,rfl,rfl⟩
   case round=>
    obtain⟨rfl,rfl,rfl⟩:=hrel
    go_wp2_with fail
    go_ret
    exact⟨_,rfl,Foot.triv fun _=> .inl ⟨rfl,none,0,rfl⟩,Below.refl _ _⟩
  exact absurd (hx 0 _ (List.getElem?_eq_getElem hpos)) (by simp[NdC])
 |succ f ih=>
  intro v m w h hl
  have IH:=lH ih
  clear ih
  obtain⟨iN,hiN,hiN3⟩:=Option.map_eq_some_iff.1 infoNode
  obtain⟨hN0,hN12⟩:=Prod.mk.inj hiN3
  obtain⟨hN1,hN2⟩:=Prod.mk.inj hN12
  obtain⟨iC,hiC,hiC3⟩:=Option.map_eq_some_iff.1 infoCase
  obtain⟨hC0,hC12⟩:=Prod.mk.inj hiC3
  obtain⟨hC1,hC2⟩:=Prod.mk.inj hC12
  clear hiN3 hN12 hiC3 hC12
  obtain⟨A,cap,rfl,_,hel⟩:=h.spread
  have hcap:m.length≤cap∨m.length=0:=by
   rcases h with⟨e,_⟩|⟨_,_,_,e,_,q,_,_⟩
   ·exact .inr (by rw[e];rfl)
   injection e with _ _ e;exact .inl (by omega)
  have HX:=lH hel
  clear hel h
  generalize hlm:m.length=L at*
  have HLM:=lH hlm
  have G0:=lH (show NGrow w.heap.size f (.slice none 0 0) [] w from Grow.nil)
  have K0:=lH (show([]:List NI2).map (·.1)=(m.take 0).map (clX (clean f)) from rfl)
  have B0:=lH (Below.refl w.heap.size w)
  go_enter Tryz.func17,Tryz.ntmps17
  go_wp2_with fail
  go_loopw [3,11] (fun vo vi wr=> ∃(i:Nat) (Y:List NI2),vi= .int .i64 (i:Int)∧i≤L∧Hid (NGrow w.heap.size f vo Y wr)∧Hid (Y.map (·.1)=(m.take i).map (clX (clean f)))∧Hid (Below w.heap.size w wr)) (fun _ vi _=>L-(intOf vi).toNat)
  case atStart=>exact⟨0,[],rfl,Nat.zero_le _,G0,K0,B0⟩
  case round=>
   obtain⟨i,Y,rfl,hi,HG,HK,HB⟩:=hrel
   clear G0 K0 B0
   rename World=>wo
   by_cases hlt:i<L
   ·have hi':(i:Int)<(L:Int):=by omega
    have hcc:L≤cap:=by omega
    obtain⟨x,hxi⟩: ∃x,m[i]?=some x:=⟨m[i]'(by omega),List.getElem?_eq_getElem (by omega)⟩
    obtain⟨b,off,rfl,hnd⟩:=HX.out i x hxi
    obtain⟨a0,n0,c0,p0,p1,p2,p3,p4,p5,p6⟩:=hnd
    have g0:=cK p0 HB.out
    have g1:=cK p1 HB.out
    have g2:=cK p2 HB.out
    have g3:=cK p3 HB.out
    have lb:=World.block_lt_of_cell? _ _ g0
    have wi:IntKind.i64.wrap ((i:Int)+1)=(i:Int)+1:=IntWalk.i64_in _ (by omega)
    have HXI:=lH hxi
    have HTL:=lH p5
    have h4:CassAt f w (.slice a0 n0 c0) x.cases:=p4
    have H4:=lH h4
    have GWL:=lH HB.out.size
    have CC:=lH fun (wx:World) (hb:Below w.heap.size w wx)=>zDl (f:=f) x wx (zAm h4 hb)
    have lcs:(casesOf x).length≤2000000:=by
     unfold casesOf;split
     ·exact p6
     simp
    have B1:=lH (bT (bA wo (.cells #[.int .i64 x.kind,.string ⟨x.text.toArray⟩,.int .i64 x.off,.slice a0 n0 c0] 51)) (bA (wo.alloc (.cells #[.int .i64 x.kind,.string ⟨x.text.toArray⟩,.int .i64 x.off,.slice a0 n0 c0] 51)) (.cells #[.int .i64 x.kind,.string ⟨x.text.toArray⟩,.int .i64 x.off,.slice none 0 0] 51)))
    have XB:=lH ((Boxed.made wo #[.int .i64 x.kind,.string ⟨x.text.toArray⟩,.int .i64 x.off,.slice a0 n0 c0] 51).alloc (.cells #[.int .i64 x.kind,.string ⟨x.text.toArray⟩,.int .i64 x.off,.slice none 0 0] 51))
    have YB:=lH (show YI wo (wo.heap.size+1) x f (.slice none 0 0) [] _ from⟨Grow.nil,by have:=zBc (wo.alloc (.cells #[.int .i64 x.kind,.string ⟨x.text.toArray⟩,.int .i64 x.off,.slice a0 n0 c0] 51)) #[.int .i64 x.kind,.string ⟨x.text.toArray⟩,.int .i64 x.off,.slice none 0 0] 51;simpa using this,by omega,B1.out⟩)
    clear p0 p1 p2 p3 p4 p5 p6 h4 hxi hlt
    go_upto_region 6 with fail
    generalize (wo.alloc (.cells #[.int .i64 x.kind,.string ⟨x.text.toArray⟩,.int .i64 x.off,.slice a0 n0 c0] 51)).alloc (.cells #[.int .i64 x.kind,.string ⟨x.text.toArray⟩,.int .i64 x.off,.slice none 0 0] 51)=w1 at*
    have x0:w1.cell? ⟨wo.heap.size,0,none⟩=some (.int .i64 x.kind):=XB.out.cell 0 _ rfl
    have x1:w1.cell? ⟨wo.heap.size,1,none⟩=some (.string ⟨x.text.toArray⟩):=XB.out.cell 1 _ rfl
    have x2:w1.cell? ⟨wo.heap.size,2,none⟩=some (.int .i64 x.off):=XB.out.cell 2 _ rfl
    have x3:w1.cell? ⟨wo.heap.size,3,none⟩=some (.slice a0 n0 c0):=XB.out.cell 3 _ rfl
    have xl:=XB.out.lt
    have W1:=lH (bT HB.out B1.out)
    clear g0 g1 g2 g3 lb XB B1
    go_wp2_with fail
    refine(CC.out w1 W1.out).mono ?_
    rintro e w2 ⟨A1,C1,rfl,hto,hb⟩
    have Y2:=lH (YB.out.below hb)
    have HCS:=hto w H4.out
    clear hto hb CC YB W1 H4 x0 x1 x2 x3 xl
    obtain⟨cs,hcs⟩: ∃cs,cs=casesOf x:=⟨_,rfl⟩
    rw[←hcs] at HCS lcs
    rw[←hcs]
    have HCX:=lH hcs
    clear hcs
    obtain⟨A2,C2,e2,_,hel⟩:=HCS.spread
    injection e2 with e3 e4 e5
    subst e3 e5
    have hcapc:cs.length≤C1∨cs.length=0:=by
     rcases HCS with⟨e,_⟩|⟨_,_,_,e,_,q,_,_⟩
     ·exact .inr (by rw[e];rfl)
     injection e with _ _ e;exact .inl (by omega)
    have HEL:=lH hel
    clear hel HCS
    have HK2:=lH (show([]:List CI2).map (·.1)=(cs.take 0).map (fun y=>(y.1,clean f y.2)) from rfl)
    generalize hlc:cs.length=LC at*
    have HLC:=lH hlc
    obtain⟨Q,hQ⟩: ∃Q,Q=wo.heap.size+1:=⟨_,rfl⟩
    rw[←hQ] at Y2
    rw[←hQ]
    clear hQ
    rename World=>w3
    go_wp2_with fail
    go_loopw [25] (fun vk wx=> ∃(k:Nat) (kv:Value) (C:List CI2),vk= .int .i64 (k:Int)∧k≤LC∧Hid (YI wo Q x f kv C wx)∧Hid (C.map (·.1)=(cs.take k).map (fun y=>(y.1,clean f y.2)))) (fun vk _=>LC-(intOf vk).toNat)
    case atStart=>exact⟨0,_,[],rfl,Nat.zero_le _,Y2,HK2⟩
    case round=>
     obtain⟨k,kv,C,rfl,hk,HY,HKC⟩:=hrel
     clear Y2 HK2
     have HCL:=lH (show C.length=k by
      have:=congrArg List.length HKC.out
      rw[List.length_map,List.length_map,List.length_take] at this
      have:=HLC.out
      omega)
     by_cases hltk:k<LC
     ·have hk':(k:Int)<(LC:Int):=by omega
      have hccc:LC≤C1:=by omega
      obtain⟨y,hyk⟩: ∃y,cs[k]?=some y:=⟨cs[k]'(by have:=HLC.out;omega),List.getElem?_eq_getElem (by have:=HLC.out;omega)⟩
      obtain⟨bb,oo,rfl,a9,n9,c9,q0,q1,q2,q3,q4⟩:=HEL.out k y hyk
      have HBR:=lH (bT HB.out HY.out.bel)
      have j0:=cK q0 HBR.out
      have j1:=cK q1 HBR.out
      have lb:=World.block_lt_of_cell? _ _ j0
      have wk:IntKind.i64.wrap ((k:Int)+1)=(k:Int)+1:=IntWalk.i64_in _ (by omega)
      have CR:=lH fun (wx:World) (hb:Below w.heap.size w wx)=>IH.out (.slice a9 n9 c9) y.2 wx (zAi q2 hb) q4
      have HKC2:=lH (show(C.map (·.1))++ [(y.1,clean f y.2)]=(cs.take (k+1)).map (fun y=>(y.1,clean f y.2)) by rw[zKH hyk,HKC.out])
      have HYL:=lH (show y.1.length≤2000000∧(clean f y.2).length≤2000000 from⟨q3,by rw[zFn (zEh f q2)];exact q4⟩)
      obtain⟨key,body⟩:=y
      dsimp only at j0 j1 CR HKC2 HYL
      clear q0 q1 q2 q3 q4 hyk HKC
      have OWL:=lH (fun g (hg:kv.ownBlock=some g)=>HY.out.gr.own_lt hg)
      have HQK:=lH (zAf HY.out.bx)
      have BK:=lH (Boxed.made wr #[.string ⟨key.toArray⟩,.slice a9 n9 c9] 53)
      have PK:=lH (HY.out.below (bA wr (.cells #[.string ⟨key.toArray⟩,.slice a9 n9 c9] 53)))
      have KK:=lH (bA wr (.cells #[.string ⟨key.toArray⟩,.slice a9 n9 c9] 53))
      go_upto_region 9 with fail
      generalize (wr.alloc (.cells #[.string ⟨key.toArray⟩,.slice a9 n9 c9] 53))=wd at*
      clear j0 j1 lb HY KK
      refine wp_region_held_drew (S:=fun w'=>w'.cell? ⟨wr.heap.size,0,none⟩=some (.string ⟨key.toArray⟩)∧w'.cell? ⟨wr.heap.size,1,none⟩=some (.slice a9 n9 c9)) (by kernel_rfl) ⟨BK.out.drew.cell 0 _ rfl,BK.out.drew.cell 1 _ rfl⟩ (fun hY9=>?_)
      have P:=lH (PK.out.below (Below.drew (Below.refl _ _)))
      generalize wr.heap.size=kb at*
      generalize wd.drew=wz at*
      have BZ:=lH (bT HB.out P.out.bel)
      clear BK PK HBR wr
      have P0:=P
      have KZ:=lH hY9
      refine tkr (d:=some 29) (v:=?v3) 0 rfl rfl hY9 ?hy3 ?rs3
      case hy3=>(intro w hSw;(try dsimp only at hSw);go_simp)<;>(try with_reducible rfl)
      (try simp only[Act.put,aI,aO,aS])
      refine tkr (d:=some 31) (v:=?v4) 2 rfl rfl hY9 ?hy4 ?rs4
      case hy4=>(intro w hSw;(try dsimp only at hSw);go_simp)<;>(try with_reducible rfl)
      (try simp only[Act.put,aI,aO,aS])
      refine tkr (d:=some 32) (v:=?v5) 3 rfl rfl hY9 ?hy5 ?rs5
      case hy5=>(intro w hSw;(try dsimp only at hSw);go_simp)<;>(try with_reducible rfl)
      (try simp only[Act.put,aI,aO,aS])
      refine tkr (d:=some 33) (v:=?v6) 4 rfl rfl hY9 ?hy6 ?rs6
      case hy6=>(intro w hSw;(try dsimp only at hSw);go_simp)<;>(try with_reducible rfl)
      (try simp only[Act.put,aI,aO,aS])
      refine tkr (d:=some 34) (v:=?v7) 5 rfl rfl hY9 ?hy7 ?rs7
      case hy7=>(intro w hSw;(try dsimp only at hSw);go_simp)<;>(try with_reducible rfl)
      (try simp only[Act.put,aI,aO,aS])
      refine zA4 1 6 rfl rfl (by kernel_rfl) (by rfl) (by rfl) (fun K hK=>?_) (fun K hK=>?_)
      ·obtain⟨_,_,_,c3,_,ql⟩:=P.out.cells
       go_simp
       clear c3 ql
       refine hK.out _ _ (hY9) (fun hY9=>?_)
       clear hK K
       (try simp only[Act.put,aI,aO,aS])
       refine zAc 6 rfl (by kernel_rfl) (by rfl) (fun K hK=>?_)
       go_simp
       refine(CR.out _ BZ.out).mono ?_
       rintro e wc ⟨vb,rfl,hft,hb⟩
       obtain⟨ab,nb,cb,rfl⟩:=hft.out.isSlice
       have HF:=lH hft
       have BC:=lH hb
       replace P:=lH (P.out.below hb)
       have hH2:World.cell? wc ⟨kb,0,none⟩=some (.string ⟨key.toArray⟩)∧World.cell? wc ⟨kb,1,none⟩=some (.slice a9 n9 c9):=⟨cK hY9.1 hb,cK hY9.2 hb⟩
       clear hb hft hY9
       refine hK.out _ _ (hH2) (fun hY9=>?_)
       clear hK K
       (try simp only[Act.put,aI,aO,aS])
       clear hH2
       refine tkr (d:=some 36) (v:=?v1) 7 rfl rfl hY9 ?hy1 ?rs1
       case hy1=>(intro w hSw;(try dsimp only at hSw);go_simp)<;>(try with_reducible rfl)
       (try simp only[Act.put,aI,aO,aS])
       refine zAc 8 rfl (by kernel_rfl) (by rfl) (fun K hK=>?_)
       go_simp
       have HC:=lH (Boxed.made wc #[.string ⟨key.toArray⟩,(.slice ab nb cb)] 53)
       replace P:=lH (P.out.below (bA wc (.cells #[.string ⟨key.toArray⟩,(.slice ab nb cb)] 53)))
       replace BC:=lH (bT BC.out (bA wc (.cells #[.string ⟨key.toArray⟩,(.slice ab nb cb)] 53)))
       replace HF:=lH (HF.out.below (bA wc (.cells #[.string ⟨key.toArray⟩,(.slice ab nb cb)] 53)))
       refine hK.out _ _ (⟨cK hY9.1 (bA _ _),cK hY9.2 (bA _ _)⟩) (fun hY9=>?_)
       clear hK K
       (try simp only[Act.put,aI,aO,aS])
       generalize World.alloc wc (.cells #[.string ⟨key.toArray⟩,(.slice ab nb cb)] 53)=wd at*
       refine zAc 9 rfl (by kernel_rfl) (by rfl) (fun K hK=>?_)
       refine zA6 _ _ _ 49 rfl wo.heap.size 53 iC _ 2 40 Tryz.underlying49 hiC hC0 hC1 hC2 rfl (by decide) kv C.length (C.flatMap cEnc) (by simp[go_sem]) P.out.gr.row ⟨_,0,none⟩ 1 1 [.string ⟨key.toArray⟩,(.slice ab nb cb)] (by simp[go_sem]) rfl (zAJ HC.out) (fun u hu=>by simp at hu;rcases hu with rfl|rfl<;>rfl) (by have:=HCL.out;unfold maxLen;omega) (by have:=HCL.out;omega) P.out.bel.size ?_
       intro kv' w6 hown hgrow hat
       obtain⟨akv,ckv,rfl⟩:=zAG hown
       have P7:=lH (P0.out.add ((key,clean f body),Value.slice ab nb cb) BC.out (HF.out.imp fun W h=>⟨ab,nb,cb,rfl,h,HYL.out.1,HYL.out.2⟩) hown hgrow hat)
       have qc:=lH (show w6.heap[Q]?=some (.cells #[.int .i64 x.kind,.string ⟨x.text.toArray⟩,.int .i64 x.off,kv] 51 (0,0)) from by rw[hgrow.block Q (zAf P.out.bx) (fun e=>P.out.own_ne Q e.symm rfl)];exact P.out.bx)
       have lkb:=World.block_lt_of_cell? _ _ hY9.1
       have hkb:=hgrow.block kb lkb (fun e=>by have:=OWL.out kb e.symm;omega)
       have hb1:World.cell? w6 ⟨kb,0,none⟩=some (.string ⟨key.toArray⟩)∧World.cell? w6 ⟨kb,1,none⟩=some (.slice a9 n9 c9):=⟨(World.cell?_of_block (a:=⟨kb,0,none⟩) hkb).trans hY9.1,(World.cell?_of_block (a:=⟨kb,1,none⟩) hkb).trans hY9.2⟩
       clear hown hgrow hat lkb hkb hY9
       refine hK.out _ _ hb1 (fun hY9=>?_)
       clear hK K hb1
       (try simp only[Act.put,aI,aO,aS])
       refine tkr (d:=some 39) (v:=?v995) 10 rfl rfl hY9 ?hy995 ?rs995
       case hy995=>(intro w hSw;(try dsimp only at hSw);go_simp)<;>(try with_reducible rfl)
       (try simp only[Act.put,aI,aO,aS])
       refine zAc 11 rfl (by kernel_rfl) (by rfl) (fun K hK=>?_)
       have c3:World.cell? w6 ⟨Q,3,none⟩=some kv:=by rw[Lib.cell_of_heap qc.out];rfl
       have f3:=Lib.frozen_of_heap qc.out 3
       have ql:=zAf qc.out
       go_simp
       have hqk: ¬Q=kb:=by have:=HQK.out;omega
       have hb2:World.cell? (World.setCell w6 ⟨Q,3,none⟩ (.slice akv (C.length+1) ckv)) ⟨kb,0,none⟩=some (.string ⟨key.toArray⟩)∧World.cell? (World.setCell w6 ⟨Q,3,none⟩ (.slice akv (C.length+1) ckv)) ⟨kb,1,none⟩=some (.slice a9 n9 c9):=⟨(World.cell?_setCell_far w6 ⟨Q,3,none⟩ ⟨kb,0,none⟩ (.slice akv (C.length+1) ckv) hqk).trans hY9.1,(World.cell?_setCell_far w6 ⟨Q,3,none⟩ ⟨kb,1,none⟩ (.slice akv (C.length+1) ckv) hqk).trans hY9.2⟩
       clear c3 f3 ql hqk hY9
       refine hK.out _ _ hb2 (fun hY9=>?_)
       clear hK K hb2 hY9
       (try simp only[Act.put,aI,aO,aS])
       refine wpAnyH_done (by kernel_rfl) ?_ _
       generalize World.setCell w6 ⟨Q,3,none⟩ (.slice akv (C.length+1) ckv)=w7 at*
       have HKD:=lH (show(C++ [((key,clean f body),Value.slice ab nb cb)]).map (·.1)=(cs.take (k+1)).map (fun y=>(y.1,clean f y.2)) from by rw[List.map_append];exact HKC2.out)
       clear qc P P0 HF HC BC HKC2 HCL HYL CR OWL HQK BZ
       go_wp2_with fail
       go_roundw
       case rel=>exact⟨k+1,(.slice akv (C.length+1) ckv),C++ [((key,clean f body),Value.slice ab nb cb)],by go_num,by omega,P7,HKD⟩
       case measure=>simp[intOf];omega
      go_simp
      refine(CR.out _ BZ.out).mono ?_
      rintro e wc ⟨vb,rfl,hft,hb⟩
      obtain⟨ab,nb,cb,rfl⟩:=hft.out.isSlice
      have HF:=lH hft
      have BC:=lH hb
      replace P:=lH (P.out.below hb)
      have hH2:World.cell? wc ⟨kb,0,none⟩=some (.string ⟨key.toArray⟩)∧World.cell? wc ⟨kb,1,none⟩=some (.slice a9 n9 c9):=⟨cK hY9.1 hb,cK hY9.2 hb⟩
      clear hb hft hY9
      refine hK.out _ _ (hH2) (fun hY9=>?_)
      clear hK K
      (try simp only[Act.put,aI,aO,aS])
      clear hH2
      refine tkr (d:=some 36) (v:=?v2) 7 rfl rfl hY9 ?hy2 ?rs2
      case hy2=>(intro w hSw;(try dsimp only at hSw);go_simp)<;>(try with_reducible rfl)
      (try simp only[Act.put,aI,aO,aS])
      refine zA4 1 8 rfl rfl (by kernel_rfl) (by rfl) (by rfl) (fun K hK=>?_) (fun K hK=>?_)
      ·obtain⟨_,_,_,c3,_,ql⟩:=P.out.cells
       go_simp
       clear c3 ql
       refine hK.out _ _ (hY9) (fun hY9=>?_)
       clear hK K
       (try simp only[Act.put,aI,aO,aS])
       refine zAc 8 rfl (by kernel_rfl) (by rfl) (fun K hK=>?_)
       go_simp
       have HC:=lH (Boxed.made wc #[.string ⟨key.toArray⟩,(.slice ab nb cb)] 53)
       replace P:=lH (P.out.below (bA wc (.cells #[.string ⟨key.toArray⟩,(.slice ab nb cb)] 53)))
       replace BC:=lH (bT BC.out (bA wc (.cells #[.string ⟨key.toArray⟩,(.slice ab nb cb)] 53)))
       replace HF:=lH (HF.out.below (bA wc (.cells #[.string ⟨key.toArray⟩,(.slice ab nb cb)] 53)))
       refine hK.out _ _ (⟨cK hY9.1 (bA _ _),cK hY9.2 (bA _ _)⟩) (fun hY9=>?_)
       clear hK K
       (try simp only[Act.put,aI,aO,aS])
       generalize World.alloc wc (.cells #[.string ⟨key.toArray⟩,(.slice ab nb cb)] 53)=wd at*
       refine zAc 9 rfl (by kernel_rfl) (by rfl) (fun K hK=>?_)
       refine zA6 _ _ _ 49 rfl wo.heap.size 53 iC _ 2 40 Tryz.underlying49 hiC hC0 hC1 hC2 rfl (by decide) kv C.length (C.flatMap cEnc) (by simp[go_sem]) P.out.gr.row ⟨_,0,none⟩ 1 1 [.string ⟨key.toArray⟩,(.slice ab nb cb)] (by simp[go_sem]) rfl (zAJ HC.out) (fun u hu=>by simp at hu;rcases hu with rfl|rfl<;>rfl) (by have:=HCL.out;unfold maxLen;omega) (by have:=HCL.out;omega) P.out.bel.size ?_
       intro kv' w6 hown hgrow hat
       obtain⟨akv,ckv,rfl⟩:=zAG hown
       have P7:=lH (P0.out.add ((key,clean f body),Value.slice ab nb cb) BC.out (HF.out.imp fun W h=>⟨ab,nb,cb,rfl,h,HYL.out.1,HYL.out.2⟩) hown hgrow hat)
       have qc:=lH (show w6.heap[Q]?=some (.cells #[.int .i64 x.kind,.string ⟨x.text.toArray⟩,.int .i64 x.off,kv] 51 (0,0)) from by rw[hgrow.block Q (zAf P.out.bx) (fun e=>P.out.own_ne Q e.symm rfl)];exact P.out.bx)
       have lkb:=World.block_lt_of_cell? _ _ hY9.1
       have hkb:=hgrow.block kb lkb (fun e=>by have:=OWL.out kb e.symm;omega)
       have hb1:World.cell? w6 ⟨kb,0,none⟩=some (.string ⟨key.toArray⟩)∧World.cell? w6 ⟨kb,1,none⟩=some (.slice a9 n9 c9):=⟨(World.cell?_of_block (a:=⟨kb,0,none⟩) hkb).trans hY9.1,(World.cell?_of_block (a:=⟨kb,1,none⟩) hkb).trans hY9.2⟩
       clear hown hgrow hat lkb hkb hY9
       refine hK.out _ _ hb1 (fun hY9=>?_)
       clear hK K hb1
       (try simp only[Act.put,aI,aO,aS])
       refine tkr (d:=some 39) (v:=?v1036) 10 rfl rfl hY9 ?hy1036 ?rs1036
       case hy1036=>(intro w hSw;(try dsimp only at hSw);go_simp)<;>(try with_reducible rfl)
       (try simp only[Act.put,aI,aO,aS])
       refine zAc 11 rfl (by kernel_rfl) (by rfl) (fun K hK=>?_)
       have c3:World.cell? w6 ⟨Q,3,none⟩=some kv:=by rw[Lib.cell_of_heap qc.out];rfl
       have f3:=Lib.frozen_of_heap qc.out 3
       have ql:=zAf qc.out
       go_simp
       have hqk: ¬Q=kb:=by have:=HQK.out;omega
       have hb2:World.cell? (World.setCell w6 ⟨Q,3,none⟩ (.slice akv (C.length+1) ckv)) ⟨kb,0,none⟩=some (.string ⟨key.toArray⟩)∧World.cell? (World.setCell w6 ⟨Q,3,none⟩ (.slice akv (C.length+1) ckv)) ⟨kb,1,none⟩=some (.slice a9 n9 c9):=⟨(World.cell?_setCell_far w6 ⟨Q,3,none⟩ ⟨kb,0,none⟩ (.slice akv (C.length+1) ckv) hqk).trans hY9.1,(World.cell?_setCell_far w6 ⟨Q,3,none⟩ ⟨kb,1,none⟩ (.slice akv (C.length+1) ckv) hqk).trans hY9.2⟩
       clear c3 f3 ql hqk hY9
       refine hK.out _ _ hb2 (fun hY9=>?_)
       clear hK K hb2 hY9
       (try simp only[Act.put,aI,aO,aS])
       refine wpAnyH_done (by kernel_rfl) ?_ _
       generalize World.setCell w6 ⟨Q,3,none⟩ (.slice akv (C.length+1) ckv)=w7 at*
       have HKD:=lH (show(C++ [((key,clean f body),Value.slice ab nb cb)]).map (·.1)=(cs.take (k+1)).map (fun y=>(y.1,clean f y.2)) from by rw[List.map_append];exact HKC2.out)
       clear qc P P0 HF HC BC HKC2 HCL HYL CR OWL HQK BZ
       go_wp2_with fail
       go_roundw
       case rel=>exact⟨k+1,(.slice akv (C.length+1) ckv),C++ [((key,clean f body),Value.slice ab nb cb)],by go_num,by omega,P7,HKD⟩
       case measure=>simp[intOf];omega
      go_simp
      have HC:=lH (Boxed.made wc #[.string ⟨key.toArray⟩,(.slice ab nb cb)] 53)
      replace P:=lH (P.out.below (bA wc (.cells #[.string ⟨key.toArray⟩,(.slice ab nb cb)] 53)))
      replace BC:=lH (bT BC.out (bA wc (.cells #[.string ⟨key.toArray⟩,(.slice ab nb cb)] 53)))
      replace HF:=lH (HF.out.below (bA wc (.cells #[.string ⟨key.toArray⟩,(.slice ab nb cb)] 53)))
      refine hK.out _ _ (⟨cK hY9.1 (bA _ _),cK hY9.2 (bA _ _)⟩) (fun hY9=>?_)
      clear hK K
      (try simp only[Act.put,aI,aO,aS])
      generalize World.alloc wc (.cells #[.string ⟨key.toArray⟩,(.slice ab nb cb)] 53)=wd at*
      refine zAc 1 rfl (by kernel_rfl) (by rfl) (fun K hK=>?_)
      obtain⟨_,_,_,c3,_,ql⟩:=P.out.cells
      go_simp
      clear c3 ql
      refine hK.out _ _ (hY9) (fun hY9=>?_)
      clear hK K
      (try simp only[Act.put,aI,aO,aS])
      refine zAc 9 rfl (by kernel_rfl) (by rfl) (fun K hK=>?_)
      refine zA6 _ _ _ 49 rfl wo.heap.size 53 iC _ 2 40 Tryz.underlying49 hiC hC0 hC1 hC2 rfl (by decide) kv C.length (C.flatMap cEnc) (by simp[go_sem]) P.out.gr.row ⟨_,0,none⟩ 1 1 [.string ⟨key.toArray⟩,(.slice ab nb cb)] (by simp[go_sem]) rfl (zAJ HC.out) (fun u hu=>by simp at hu;rcases hu with rfl|rfl<;>rfl) (by have:=HCL.out;unfold maxLen;omega) (by have:=HCL.out;omega) P.out.bel.size ?_
      intro kv' w6 hown hgrow hat
      obtain⟨akv,ckv,rfl⟩:=zAG hown
      have P7:=lH (P0.out.add ((key,clean f body),Value.slice ab nb cb) BC.out (HF.out.imp fun W h=>⟨ab,nb,cb,rfl,h,HYL.out.1,HYL.out.2⟩) hown hgrow hat)
      have qc:=lH (show w6.heap[Q]?=some (.cells #[.int .i64 x.kind,.string ⟨x.text.toArray⟩,.int .i64 x.off,kv] 51 (0,0)) from by rw[hgrow.block Q (zAf P.out.bx) (fun e=>P.out.own_ne Q e.symm rfl)];exact P.out.bx)
      have lkb:=World.block_lt_of_cell? _ _ hY9.1
      have hkb:=hgrow.block kb lkb (fun e=>by have:=OWL.out kb e.symm;omega)
      have hb1:World.cell? w6 ⟨kb,0,none⟩=some (.string ⟨key.toArray⟩)∧World.cell? w6 ⟨kb,1,none⟩=some (.slice a9 n9 c9):=⟨(World.cell?_of_block (a:=⟨kb,0,none⟩) hkb).trans hY9.1,(World.cell?_of_block (a:=⟨kb,1,none⟩) hkb).trans hY9.2⟩
      clear hown hgrow hat lkb hkb hY9
      refine hK.out _ _ hb1 (fun hY9=>?_)
      clear hK K hb1
      (try simp only[Act.put,aI,aO,aS])
      refine tkr (d:=some 39) (v:=?v1060) 10 rfl rfl hY9 ?hy1060 ?rs1060
      case hy1060=>(intro w hSw;(try dsimp only at hSw);go_simp)<;>(try with_reducible rfl)
      (try simp only[Act.put,aI,aO,aS])
      refine zAc 11 rfl (by kernel_rfl) (by rfl) (fun K hK=>?_)
      have c3:World.cell? w6 ⟨Q,3,none⟩=some kv:=by rw[Lib.cell_of_heap qc.out];rfl
      have f3:=Lib.frozen_of_heap qc.out 3
      have ql:=zAf qc.out
      go_simp
      have hqk: ¬Q=kb:=by have:=HQK.out;omega
      have hb2:World.cell? (World.setCell w6 ⟨Q,3,none⟩ (.slice akv (C.length+1) ckv)) ⟨kb,0,none⟩=some (.string ⟨key.toArray⟩)∧World.cell? (World.setCell w6 ⟨Q,3,none⟩ (.slice akv (C.length+1) ckv)) ⟨kb,1,none⟩=some (.slice a9 n9 c9):=⟨(World.cell?_setCell_far w6 ⟨Q,3,none⟩ ⟨kb,0,none⟩ (.slice akv (C.length+1) ckv) hqk).trans hY9.1,(World.cell?_setCell_far w6 ⟨Q,3,none⟩ ⟨kb,1,none⟩ (.slice akv (C.length+1) ckv) hqk).trans hY9.2⟩
      clear c3 f3 ql hqk hY9
      refine hK.out _ _ hb2 (fun hY9=>?_)
      clear hK K hb2 hY9
      (try simp only[Act.put,aI,aO,aS])
      refine wpAnyH_done (by kernel_rfl) ?_ _
      generalize World.setCell w6 ⟨Q,3,none⟩ (.slice akv (C.length+1) ckv)=w7 at*
      have HKD:=lH (show(C++ [((key,clean f body),Value.slice ab nb cb)]).map (·.1)=(cs.take (k+1)).map (fun y=>(y.1,clean f y.2)) from by rw[List.map_append];exact HKC2.out)
      clear qc P P0 HF HC BC HKC2 HCL HYL CR OWL HQK BZ
      go_wp2_with fail
      go_roundw
      case rel=>exact⟨k+1,(.slice akv (C.length+1) ckv),C++ [((key,clean f body),Value.slice ab nb cb)],by go_num,by omega,P7,HKD⟩
      case measure=>simp[intOf];omega
     have hk': ¬(k:Int)<(LC:Int):=by omega
     have hkc:C.map (·.1)=(casesOf x).map (fun y=>(y.1,clean f y.2)):=by
      rw[HKC.out,List.take_of_length_le (by have:=HLC.out;omega),HCX.out]
     obtain⟨ak,ck,hkv⟩:=HY.out.gr.slice
     have GA:=lH ((HY.out.gr.at HY.out.own_ne).mono fun b _ q=>q.1)
     have GN:=lH (show Foot (fun b=>wo.heap.size≤b) wr (nHang f (clX (clean f) x,kv)) from GA.out.imp fun W h=>⟨ak,_,ck,hkv,by rw[hkc] at h;exact h,HTL.out,by
      show((casesOf x).map _).length≤_
      rw[List.length_map,←HCX.out];have:=HLC.out;omega⟩)
     have HGR:=lH (HG.out.below HY.out.bel)
     have HOL:=lH (fun g (hg:u3.ownBlock=some g)=>HG.out.own_lt hg)
     have HYK:=lH (show(Y++ [(clX (clean f) x,kv)]).map (·.1)=(m.take (i+1)).map (clX (clean f)) from by rw[List.map_append,zIg HXI.out,HK.out];rfl)
     have HYL:=lH (show Y.length≤2000000 from by
      have:=congrArg List.length HK.out
      rw[List.length_map,List.length_map,List.length_take] at this
      have:=HLM.out
      omega)
     have HBW:=lH (bT HB.out HY.out.bel)
     obtain⟨c0,c1,c2,c3,_,ql⟩:=HY.out.cells
     have HC:=lH (Boxed.made wr #[.int .i64 x.kind,.string ⟨x.text.toArray⟩,.int .i64 x.off,kv] 51)
     have AB:=lH (bA wr (.cells #[.int .i64 x.kind,.string ⟨x.text.toArray⟩,.int .i64 x.off,kv] 51))
     have HKV1:=lH (show kv.oneCell'=true from by rw[hkv];rfl)
     clear HY HKC HK hkc GA hkv HG HB
     go_wp2_with (at_builtin;go_loud (refine wpList_append_own_at _ rfl _ _ 22 rfl w.heap.size 51 iN _ 4 56 Tryz.underlying22 hiN hN0 hN1 hN2 rfl (by decide) u3 Y.length (Y.flatMap nEnc) rfl (HGR.out.below AB.out).row ⟨_,0,none⟩ 1 1 [.int .i64 x.kind,.string ⟨x.text.toArray⟩,.int .i64 x.off,kv] rfl rfl (zAJ HC.out) (fun u hu=>by simp at hu;rcases hu with rfl|rfl|rfl|rfl;(· rfl);(· rfl);(· rfl);(· exact HKV1.out)) (by have:=HYL.out;unfold maxLen;omega) (by have:=HYL.out;omega) (Nat.le_trans HBW.out.size AB.out.size) ?_;intro vo' w6 hown hgrow _ hat;have PG:=lH ((HGR.out.below AB.out).app (clX (clean f) x,kv) wo.heap.size HOL.out ((GN.out.below AB.out).mono fun b _ q=>⟨q,Nat.le_trans GWL.out q,trivial⟩) hown hgrow hat);have PB:=lH (show Below w.heap.size w w6 from(bT HBW.out AB.out).grown hgrow (Nat.le_trans HBW.out.size AB.out.size) (fun g hg=>(HGR.out.own hg).1));clear hown hgrow hat HGR HC AB HBW GN c0 c1 c2 c3 ql))
     go_roundw
     case rel=>exact⟨i+1,Y++ [(clX (clean f) x,kv)],by go_num,by omega,PG,HYK,PB⟩
     case measure=>simp[intOf];omega
   have hi': ¬(i:Int)<(L:Int):=by omega
   have hY:Y.map (·.1)=clean (f+1) m:=by
    rw[HK.out,List.take_of_length_le (by have:=HLM.out;omega)];rfl
   have GM:=lH HG.out.at
   rw[hY] at GM
   clear hY HK HG
   go_wp2_with fail
   go_ret
   exact⟨_,rfl,GM.out,HB.out⟩
open Go.RowKit Ms
structure Sx where
 s:Stp
 kv:Value
 bv:Value
def sEnc (y:Sx):List Value:= [.int .i64 y.s.kind,.string ⟨y.s.text.toArray⟩,.int .i64 y.s.off,y.kv,y.bv,.int .i64 (y.s.fin:Int)]
def NatC (w:World) (b k:Nat) (n:Nat):Prop:=w.cell? ⟨b,k,none⟩=some (.int .i64 (n:Int))
def keyC (k:List UInt8):List UInt8×List Nd:=(k,[])
def sHang (y:Sx) (w:World):Prop:=(∃a n c,y.kv= .slice a n c)∧(∃a n c,y.bv= .slice a n c)∧CassAt 1 w y.kv (y.s.keys.map keyC)∧SlAt 1 NatC w y.bv y.s.beg∧y.s.text.length≤2000000∧y.s.keys.length≤2000000
def zeroS:Sx:=⟨⟨0,[],0,[],[],0⟩,.slice none 0 0,.slice none 0 0⟩
theorem zJu (w:World):sHang zeroS w:=⟨⟨_,_,_,rfl⟩,⟨_,_,_,rfl⟩,.inl ⟨rfl,none,0,rfl⟩,.inl ⟨rfl,none,0,rfl⟩,Nat.zero_le _,Nat.zero_le _⟩
abbrev SGrow (B:Nat) (X:Nat→Prop):=Grow B X 81 6 sEnc sHang
theorem Grow.kept {α:Type} {B:Nat} {X:Nat→Prop} {e:TypeId} {k:Nat} {enc:α→List Value} {C:α→World→Prop} {v:Value} {l:List α} {w w':World} (h:Grow B X e k enc C v l w) (hk: ∀b,b<w.heap.size→X b→some b≠v.ownBlock→w'.heap[b]?=w.heap[b]?) (ho: ∀g,v.ownBlock=some g→w'.heap[g]?=w.heap[g]?):Grow B X e k enc C v l w':=by
 refine⟨⟨h.row.1,?_⟩,h.hang.keep fun b hl hb=>hk b hl hb.2.1 hb.2.2⟩
 rcases h.row.2 with h0|⟨g,cap,cur,rfl,hB,hg,h1⟩
 ·exact .inl h0
 exact .inr ⟨g,cap,cur,rfl,hB,(ho g rfl).trans hg,h1⟩
theorem Grow.free {α:Type} {B:Nat} {X X':Nat→Prop} {e:TypeId} {k:Nat} {enc:α→List Value} {C:α→World→Prop} {v:Value} {l:List α} {w:World} (h:Grow B X e k enc C v l w) (hX: ∀b,b<w.heap.size→X b→X' b):Grow B X' e k enc C v l w:=
 ⟨h.row,h.hang.mono fun b hl q=>⟨q.1,hX b hl q.2.1,q.2.2⟩⟩
theorem zAk {w:World} {B k n:Nat} {e:TypeId} {v:Value} {xs:List Value} (h:w.ownsRow B e k v n xs) {g:Nat} (hg:v.ownBlock=some g):B≤g∧g<w.heap.size∧ ∃cur,w.heap[g]?=some (.cells cur e (0,0)):=by
 rcases h.2 with⟨rfl,_⟩|⟨g',cap,cur,rfl,hB,hg',_⟩
 ·simp[Value.ownBlock] at hg
 simp only[Value.ownBlock,Option.some.injEq] at hg
 subst hg
 exact⟨hB,zAf hg',cur,hg'⟩
theorem zBe {w w':World} {B k n:Nat} {e:TypeId} {v:Value} {xs:List Value} (h:w.ownsRow B e k v n xs) (ho: ∀g,v.ownBlock=some g→w'.heap[g]?=w.heap[g]?):w'.ownsRow B e k v n xs:=by
 refine⟨h.1,?_⟩
 rcases h.2 with h0|⟨g,cap,cur,rfl,hB,hg,h1⟩
 ·exact .inl h0
 exact .inr ⟨g,cap,cur,rfl,hB,(ho g rfl).trans hg,h1⟩
theorem zAQ {w:World} {a b:Nat} {c d:Array Value} {e f:TypeId} (ha:w.heap[a]?=some (.cells c e (0,0))) (hb:w.heap[b]?=some (.cells d f (0,0))) (h:e≠f):a≠b:=by
 rintro rfl
 rw[ha] at hb
 injection hb with hb
 injection hb with _ ht _
 exact h ht
structure CoI (B p:Nat) (X:Nat→Prop) (u:Value) (l:List Sx) (w:World):Prop where
 gr:SGrow B (fun b=>X b∧b≠p) u l w
 bx:w.heap[p]?=some (.cells #[u,.slice none 0 0] 26 (0,0))
 lo:B≤p
namespace CoI
variable {B p:Nat} {X X':Nat→Prop} {u:Value} {l:List Sx} {w w':World}
theorem own_ne (h:CoI B p X u l w) {g:Nat} (hg:u.ownBlock=some g):g≠p:=by
 obtain⟨_,cur,hc⟩:=h.gr.own hg
 exact zAQ hc h.bx (by decide)
theorem below (h:CoI B p X u l w) (hb:Below w.heap.size w w'):CoI B p X u l w':=⟨h.gr.below hb,(hb.block p (zAf h.bx)).trans h.bx,h.lo⟩
theorem free (h:CoI B p X u l w) (hX: ∀b,b<w.heap.size→X b→X' b):CoI B p X' u l w:=⟨h.gr.free fun b hl q=>⟨hX b hl q.1,q.2⟩,h.bx,h.lo⟩
theorem kept (h:CoI B p X u l w) (hk: ∀b,b<w.heap.size→X b→some b≠u.ownBlock→w'.heap[b]?=w.heap[b]?) (hp:w'.heap[p]?=w.heap[p]?) (ho: ∀g,u.ownBlock=some g→w'.heap[g]?=w.heap[g]?):CoI B p X u l w':=
 ⟨h.gr.kept (fun b hl q hn=>hk b hl q.1 hn) ho,hp.trans h.bx,h.lo⟩
theorem cells (h:CoI B p X u l w):w.cell? ⟨p,0,none⟩=some u∧w.cell? ⟨p,1,none⟩=some (.slice none 0 0)∧w.frozen? ⟨p,0,none⟩=false∧w.frozen? ⟨p,1,none⟩=false∧p<w.heap.size:=
 ⟨by rw[Lib.cell_of_heap h.bx];rfl,by rw[Lib.cell_of_heap h.bx];rfl,Lib.frozen_of_heap h.bx 0,Lib.frozen_of_heap h.bx 1,zAf h.bx⟩
end CoI
theorem zBg {w:World} {p:Nat} {cs:Array Value} {t:TypeId} (h:w.heap[p]?=some (.cells cs t (0,0))) (j:Nat) (u:Value):(w.setCell ⟨p,j,none⟩ u).heap[p]?=some (.cells (cs.setIfInBounds j u) t (0,0)):=by
 simp[World.setCell,Array.getElem?_modify,h]
theorem CoI.app {B p:Nat} {X:Nat→Prop} {u u':Value} {l:List Sx} {w w':World} (h:CoI B p X u l w) (y:Sx) (hy: ∀w,sHang y w) (hown:w'.ownsRow B 81 6 u' (l.length+1) (l.flatMap sEnc++sEnc y)) (hg:w.grownBy w' u.ownBlock) (hat:u'.ownBlock=u.ownBlock∨u'.ownBlock=some w.heap.size):CoI B p X u' (l++ [y]) (w'.setCell ⟨p,0,none⟩ u'):=by
 have hpl:=zAf h.bx
 have ha:=h.gr.app y w.heap.size (fun g hg=>h.gr.own_lt hg) (Foot.triv hy) hown hg hat
 have hp2:w'.heap[p]?=some (.cells #[u,.slice none 0 0] 26 (0,0)):=by
  rw[hg.block p hpl (fun e=>h.own_ne e.symm rfl)];exact h.bx
 refine⟨ha.kept (fun b _ hX _=>Below.heap_setCell _ _ _ _ hX.2) (fun g hg'=>Below.heap_setCell _ _ _ _ (fun e=>?_)),zBg hp2 0 u',h.lo⟩
 rcases hat with hat|hat
 ·rw[hat] at hg';exact h.own_ne hg' e
 rw[hat] at hg'
 injection hg' with hg'
 have e:g=p:=e
 omega
structure KpC (p:Nat) (u:Value) (w w':World):Prop where
 size:w.heap.size≤w'.heap.size
 kept: ∀b,b<w.heap.size→b≠p→some b≠u.ownBlock→w'.heap[b]?=w.heap[b]?
def OwnNew (n:Nat) (u u':Value):Prop:=u'.ownBlock=u.ownBlock∨ ∀g,u'.ownBlock=some g→n≤g
theorem KpC.trans {p:Nat} {u u':Value} {a b c:World} (h:KpC p u a b) (k:KpC p u' b c) (ho:OwnNew a.heap.size u u'):KpC p u a c:=by
 refine⟨Nat.le_trans h.size k.size,fun x hx hp hu=>?_⟩
 rw[k.kept x (Nat.lt_of_lt_of_le hx h.size) hp (fun e=>?_),h.kept x hx hp hu]
 rcases ho with ho|ho
 ·exact hu (e.trans ho)
 have:=ho x e.symm;omega
theorem KpC.below {p:Nat} {u:Value} {a b c:World} (h:KpC p u a b) (k:Below b.heap.size b c):KpC p u a c:=
 ⟨Nat.le_trans h.size k.size,fun x hx hp hu=>(k.block x (Nat.lt_of_lt_of_le hx h.size)).trans (h.kept x hx hp hu)⟩
theorem OwnNew.trans {n m:Nat} {u v x:Value} (h:OwnNew n u v) (k:OwnNew m v x) (hnm:n≤m):OwnNew n u x:=by
 rcases k with k|k
 ·rcases h with h|h
  ·exact .inl (k.trans h)
  exact .inr fun g hg=>h g (k▸hg)
 exact .inr fun g hg=>Nat.le_trans hnm (k g hg)
def AdP (W0 w:World) (p:Nat) (X:Nat→Prop) (u:Value) (L:List Stp) (w':World):Prop:=
 ∃u' l',CoI W0.heap.size p (fun b=>X b∨w.heap.size≤b) u' l' w'∧l'.map (·.s)=L∧OwnNew w.heap.size u u'∧KpC p u w w'∧Below W0.heap.size W0 w'
structure AdI (W0 wo:World) (p q:Nat) (X:Nat→Prop) (uo:Value) (x:Nd) (u kv bv:Value) (l:List Sx) (ks:List (List UInt8)) (bs:List Nat) (w:World):Prop where
 co:CoI W0.heap.size p (fun b=>(X b∨wo.heap.size≤b)∧b≠q∧some b≠kv.ownBlock∧some b≠bv.ownBlock) u l w
 ow:OwnNew wo.heap.size uo u
 bx:w.heap[q]?=some (.cells #[.int .i64 x.kind,.string ⟨x.text.toArray⟩,.int .i64 x.off,kv] 51 (0,0))
 kr:w.ownsRow wo.heap.size 53 2 kv ks.length (ks.flatMap fun k=> [.string ⟨k.toArray⟩,.slice none 0 0])
 br:w.ownsRow wo.heap.size 3 1 bv bs.length (bs.map fun n:Nat=>Value.int .i64 (n:Int))
 qlo:wo.heap.size≤q
 plo:p<wo.heap.size
 wlo:W0.heap.size≤wo.heap.size
 kp:KpC p uo wo w
 bel:Below W0.heap.size W0 w
namespace AdI
variable {W0 wo:World} {p q:Nat} {X:Nat→Prop} {uo:Value} {x:Nd} {u kv bv:Value} {l:List Sx} {ks:List (List UInt8)} {bs:List Nat} {w w':World}
theorem below (h:AdI W0 wo p q X uo x u kv bv l ks bs w) (hb:Below w.heap.size w w'):AdI W0 wo p q X uo x u kv bv l ks bs w':=
 ⟨h.co.below hb,h.ow,(hb.block q (zAf h.bx)).trans h.bx,zBe h.kr fun g hg=>hb.block g (zAk h.kr hg).2.1,zBe h.br fun g hg=>hb.block g (zAk h.br hg).2.1,h.qlo,h.plo,h.wlo,h.kp.below hb,h.bel.trans (hb.mono h.bel.size)⟩
theorem ne_pq (h:AdI W0 wo p q X uo x u kv bv l ks bs w):q≠p:=zAQ h.bx h.co.bx (by decide)
theorem ne_kq (h:AdI W0 wo p q X uo x u kv bv l ks bs w) {g:Nat} (hg:kv.ownBlock=some g):g≠q∧g≠p∧some g≠u.ownBlock∧some g≠bv.ownBlock:=by
 obtain⟨_,_,cur,hc⟩:=zAk h.kr hg
 refine⟨zAQ hc h.bx (by decide),zAQ hc h.co.bx (by decide),fun e=>?_,fun e=>?_⟩
 ·obtain⟨_,cur',hc'⟩:=h.co.gr.own e.symm
  exact zAQ hc hc' (by decide) rfl
 obtain⟨_,_,cur',hc'⟩:=zAk h.br e.symm
 exact zAQ hc hc' (by decide) rfl
theorem ne_bq (h:AdI W0 wo p q X uo x u kv bv l ks bs w) {g:Nat} (hg:bv.ownBlock=some g):g≠q∧g≠p∧some g≠u.ownBlock:=by
 obtain⟨_,_,cur,hc⟩:=zAk h.br hg
 refine⟨zAQ hc h.bx (by decide),zAQ hc h.co.bx (by decide),fun e=>?_⟩
 obtain⟨_,cur',hc'⟩:=h.co.gr.own e.symm
 exact zAQ hc hc' (by decide) rfl
theorem ne_uq (h:AdI W0 wo p q X uo x u kv bv l ks bs w):some q≠u.ownBlock:=fun e=>by
 obtain⟨_,cur',hc'⟩:=h.co.gr.own e.symm
 exact zAQ h.bx hc' (by decide) rfl
theorem cells (h:AdI W0 wo p q X uo x u kv bv l ks bs w):w.cell? ⟨q,0,none⟩=some (.int .i64 x.kind)∧w.cell? ⟨q,1,none⟩=some (.string ⟨x.text.toArray⟩)∧w.cell? ⟨q,2,none⟩=some (.int .i64 x.off)∧w.cell? ⟨q,3,none⟩=some kv∧w.frozen? ⟨q,3,none⟩=false∧q<w.heap.size:=
 ⟨by rw[Lib.cell_of_heap h.bx];rfl,by rw[Lib.cell_of_heap h.bx];rfl,by rw[Lib.cell_of_heap h.bx];rfl,by rw[Lib.cell_of_heap h.bx];rfl,Lib.frozen_of_heap h.bx 3,zAf h.bx⟩
theorem key (h:AdI W0 wo p q X uo x u kv bv l ks bs w) (k:List UInt8) {kv':Value} (hown:w'.ownsRow wo.heap.size 53 2 kv' (ks.length+1) ((ks.flatMap fun k=> [.string ⟨k.toArray⟩,.slice none 0 0])++ [.string ⟨k.toArray⟩,.slice none 0 0])) (hg:w.grownBy w' kv.ownBlock) (hat:kv'.ownBlock=kv.ownBlock∨kv'.ownBlock=some w.heap.size):AdI W0 wo p q X uo x u kv' bv l (ks++ [k]) bs (w'.setCell ⟨q,3,none⟩ kv'):=by
 have hql:=zAf h.bx
 have hpl:=zAf h.co.bx
 have hk1: ∀b,b<w.heap.size→b≠q→some b≠kv.ownBlock→(w'.setCell ⟨q,3,none⟩ kv').heap[b]?=w.heap[b]?:=fun b hl hq hk=>(Below.heap_setCell _ _ _ _ hq).trans (hg.block b hl hk)
 have hkn: ∀b,b<w.heap.size→some b≠kv.ownBlock→some b≠kv'.ownBlock:=fun b hl hk e=>by
  rcases hat with hat|hat
  ·exact hk (e.trans hat)
  rw[hat] at e;injection e with e;omega
 have hco:CoI W0.heap.size p (fun b=>(X b∨wo.heap.size≤b)∧b≠q∧some b≠kv'.ownBlock∧some b≠bv.ownBlock) u l w:=h.co.free fun b hl ⟨a1,a2,a3,a4⟩=>⟨a1,a2,hkn b hl a3,a4⟩
 have hq2:w'.heap[q]?=some (.cells #[.int .i64 x.kind,.string ⟨x.text.toArray⟩,.int .i64 x.off,kv] 51 (0,0)):=(hg.block q hql (fun e=>(h.ne_kq e.symm).1 rfl)).trans h.bx
 refine⟨?_,h.ow,zBg hq2 3 kv',?_,zBe h.br fun g hg'=>hk1 g (zAk h.br hg').2.1 (h.ne_bq hg').1 (fun e=>(h.ne_kq e.symm).2.2.2 hg'.symm),h.qlo,h.plo,h.wlo,?_,?_⟩
 ·obtain⟨D,d1,d2,d3⟩:=h.co.gr.hang
  refine⟨⟨?_,D,fun y hy=>?_,fun y hy=>?_,d3⟩,(hk1 p hpl (Ne.symm h.ne_pq) (fun e=>(h.ne_kq e.symm).2.1 rfl)).trans h.co.bx,h.co.lo⟩
  ·exact zBe h.co.gr.row fun g hg'=>hk1 g (h.co.gr.own_lt hg') (fun e=>h.ne_uq (by rw[hg',e])) (fun e=>(h.ne_kq e.symm).2.2.1 hg'.symm)
  ·obtain⟨e1,⟨⟨e2,e3,e4,e5⟩,e6⟩,e7⟩:=d2 y hy
   exact(hk1 _ (zAf (d1 y hy)) e3 e4).trans (d1 y hy)
  obtain⟨e1,⟨⟨e2,e3,e4,e5⟩,e6⟩,e7⟩:=d2 y hy
  exact⟨e1,⟨⟨e2,e3,hkn _ (zAf (d1 y hy)) e4,e5⟩,e6⟩,e7⟩
 ·have hr:=zBe (w':=w'.setCell ⟨q,3,none⟩ kv') hown fun g hg'=>Below.heap_setCell _ _ _ _ (fun e=>by
   have e:g=q:=e
   rcases hat with hat|hat
   ·rw[hat] at hg';exact(h.ne_kq hg').1 e
   rw[hat] at hg';injection hg' with hg';omega)
  rw[List.length_append,List.flatMap_append]
  simpa using hr
 ·refine⟨Nat.le_trans h.kp.size (by simpa[World.setCell] using hg.size),fun b hb hp hu=>(hk1 b (Nat.lt_of_lt_of_le hb h.kp.size) (fun e=>by have:=h.qlo;omega) (fun e=>by have:=(zAk h.kr e.symm).1;omega)).trans (h.kp.kept b hb hp hu)⟩
 refine Below.setCell (p:=⟨q,3,none⟩) ?_ (Nat.le_trans h.wlo h.qlo) _
 exact h.bel.grown hg h.bel.size (fun k hk=>Nat.le_trans h.wlo (zAk h.kr hk).1)
theorem beg (h:AdI W0 wo p q X uo x u kv bv l ks bs w) (n:Nat) {bv':Value} (hown:w'.ownsRow wo.heap.size 3 1 bv' (bs.length+1) ((bs.map fun n:Nat=>Value.int .i64 (n:Int))++ [.int .i64 (n:Int)])) (hg:w.grownBy w' bv.ownBlock) (hat:bv'.ownBlock=bv.ownBlock∨bv'.ownBlock=some w.heap.size):AdI W0 wo p q X uo x u kv bv' l ks (bs++ [n]) w':=by
 have hql:=zAf h.bx
 have hpl:=zAf h.co.bx
 have hk1: ∀b,b<w.heap.size→some b≠bv.ownBlock→w'.heap[b]?=w.heap[b]?:=fun b hl hk=>hg.block b hl hk
 have hkn: ∀b,b<w.heap.size→some b≠bv.ownBlock→some b≠bv'.ownBlock:=fun b hl hk e=>by
  rcases hat with hat|hat
  ·exact hk (e.trans hat)
  rw[hat] at e;injection e with e;omega
 refine⟨?_,h.ow,(hk1 q hql (fun e=>(h.ne_bq e.symm).1 rfl)).trans h.bx,zBe h.kr fun g hg'=>hk1 g (zAk h.kr hg').2.1 (h.ne_kq hg').2.2.2,?_,h.qlo,h.plo,h.wlo,?_,?_⟩
 ·obtain⟨D,d1,d2,d3⟩:=h.co.gr.hang
  refine⟨⟨?_,D,fun y hy=>?_,fun y hy=>?_,d3⟩,(hk1 p hpl (fun e=>(h.ne_bq e.symm).2.1 rfl)).trans h.co.bx,h.co.lo⟩
  ·exact zBe h.co.gr.row fun g hg'=>hk1 g (h.co.gr.own_lt hg') (fun e=>(h.ne_bq e.symm).2.2 hg'.symm)
  ·obtain⟨e1,⟨⟨e2,e3,e4,e5⟩,e6⟩,e7⟩:=d2 y hy
   exact(hk1 _ (zAf (d1 y hy)) e5).trans (d1 y hy)
  obtain⟨e1,⟨⟨e2,e3,e4,e5⟩,e6⟩,e7⟩:=d2 y hy
  exact⟨e1,⟨⟨e2,e3,e4,hkn _ (zAf (d1 y hy)) e5⟩,e6⟩,e7⟩
 ·rw[List.length_append,List.map_append]
  simpa using hown
 ·exact⟨Nat.le_trans h.kp.size hg.size,fun b hb hp hu=>(hk1 b (Nat.lt_of_lt_of_le hb h.kp.size) (fun e=>by have:=(zAk h.br e.symm).1;omega)).trans (h.kp.kept b hb hp hu)⟩
 exact h.bel.grown hg h.bel.size (fun k hk=>Nat.le_trans h.wlo (zAk h.br hk).1)
theorem walked (h:AdI W0 wo p q X uo x u kv bv l ks bs w) {L:List Stp} (ha:AdP W0 w p (fun b=>(X b∨wo.heap.size≤b)∧b≠q∧some b≠kv.ownBlock∧some b≠bv.ownBlock) u L w'): ∃u' l',AdI W0 wo p q X uo x u' kv bv l' ks bs w'∧l'.map (·.s)=L:=by
 obtain⟨u',l',hc,hl,ho,hk,hb⟩:=ha
 have hql:=zAf h.bx
 have hs:=h.kp.size
 refine⟨u',l',⟨hc.free fun b hl hq=>?_,h.ow.trans ho hs,(hk.kept q hql h.ne_pq h.ne_uq).trans h.bx,zBe h.kr fun g hg=>hk.kept g (zAk h.kr hg).2.1 (h.ne_kq hg).2.1 (h.ne_kq hg).2.2.1,zBe h.br fun g hg=>hk.kept g (zAk h.br hg).2.1 (h.ne_bq hg).2.1 (h.ne_bq hg).2.2,h.qlo,h.plo,h.wlo,h.kp.trans hk h.ow,hb⟩,hl⟩
 rcases hq with hq|hq
 ·exact hq
 refine⟨.inr (Nat.le_trans hs hq),by omega,fun e=>?_,fun e=>?_⟩
 ·have:=(zAk h.kr e.symm).2.1;omega
 have:=(zAk h.br e.symm).2.1;omega
end AdI
open Go.RowKit Ms
theorem zNw {α:Type} {l:List α} (h:l.length=6): ∃a b c d e f,l= [a,b,c,d,e,f]:=by
 match l,h with
 | [a,b,c,d,e,f],_=>exact⟨a,b,c,d,e,f,rfl⟩
def set6 (L:List Value) (k:Nat) (v0 v1 v2 v3 v4 v5:Value):List Value:=(((((L.set k v0).set (k+1) v1).set (k+2) v2).set (k+3) v3).set (k+4) v4).set (k+5) v5
theorem zKI (A F:List Value) (k:Nat) (v0 v1 v2 v3 v4 v5:Value):set6 (A++F) (A.length+k) v0 v1 v2 v3 v4 v5=A++set6 F k v0 v1 v2 v3 v4 v5:=by
 unfold set6
 have e: ∀(G:List Value) (j:Nat) (v:Value),(A++G).set (A.length+k+j) v=A++G.set (k+j) v:=fun G j v=>by
  rw[List.set_append_right _ _ (by omega)]
  congr 2
  omega
 have e0:=e F 0 v0
 simp only[Nat.add_zero] at e0
 rw[e0,e,e,e,e,e]
theorem zGj {α:Type} {enc:α→List Value} (hk: ∀x,(enc x).length=6) {y:α} {v0 v1 v2 v3 v4 v5:Value} (hy:enc y= [v0,v1,v2,v3,v4,v5]): ∀(l:List α) (i:Nat),i<l.length→(l.set i y).flatMap enc=set6 (l.flatMap enc) (i*6) v0 v1 v2 v3 v4 v5
 | [],i,h=>by simp at h
 |a::r,0,_=>by
  obtain⟨a0,a1,a2,a3,a4,a5,e⟩:=zNw (hk a)
  show(y::r).flatMap enc=_
  rw[List.flatMap_cons,List.flatMap_cons,hy,e]
  rfl
 |a::r,i+1,h=>by
  have ih:=zGj hk hy r i (by simpa using h)
  have e:(i+1)*6=(enc a).length+i*6:=by rw[hk];omega
  show(a::r.set i y).flatMap enc=_
  rw[List.flatMap_cons,List.flatMap_cons,ih,e,zKI]
def put6 (w:World) (g k:Nat) (v0 v1 v2 v3 v4 v5:Value):World:=(((((w.setCell ⟨g,k,none⟩ v0).setCell ⟨g,k+1,none⟩ v1).setCell ⟨g,k+2,none⟩ v2).setCell ⟨g,k+3,none⟩ v3).setCell ⟨g,k+4,none⟩ v4).setCell ⟨g,k+5,none⟩ v5
theorem zB8 (w:World) (g k:Nat) (v0 v1 v2 v3 v4 v5:Value) {b:Nat} (h:b≠g):(put6 w g k v0 v1 v2 v3 v4 v5).heap[b]?=w.heap[b]?:=by
 unfold put6
 rw[Below.heap_setCell _ _ _ _ h,Below.heap_setCell _ _ _ _ h,Below.heap_setCell _ _ _ _ h,Below.heap_setCell _ _ _ _ h,Below.heap_setCell _ _ _ _ h,Below.heap_setCell _ _ _ _ h]
theorem zJv (w:World) (g k:Nat) (v0 v1 v2 v3 v4 v5:Value):(put6 w g k v0 v1 v2 v3 v4 v5).heap.size=w.heap.size:=by
 unfold put6;simp[World.setCell]
theorem zIi {B:Nat} {a w:World} (h:Below B a w) {g:Nat} (hg:B≤g) (k:Nat) (v0 v1 v2 v3 v4 v5:Value):Below B a (put6 w g k v0 v1 v2 v3 v4 v5):=
 (((((h.setCell hg _).setCell hg _).setCell hg _).setCell hg _).setCell hg _).setCell hg _
theorem zKJ {w:World} {B n cap g:Nat} {e:TypeId} {xs:List Value} (h:w.ownsRow B e 6 (.slice (some ⟨g,0,none⟩) n cap) n xs) (i:Nat) (v0 v1 v2 v3 v4 v5:Value):(put6 w g (i*6) v0 v1 v2 v3 v4 v5).ownsRow B e 6 (.slice (some ⟨g,0,none⟩) n cap) n (set6 xs (i*6) v0 v1 v2 v3 v4 v5):=by
 obtain⟨hl,⟨h0,_⟩|⟨g',cap',cur,he,hB,hg,h1,h2,h3,h4⟩⟩:=h
 ·cases h0
 injection he with he _ hc
 injection he with he
 injection he with he
 subst he hc
 refine⟨by unfold set6;simpa using hl,.inr ⟨g,cap,_,rfl,hB,zBg (zBg (zBg (zBg (zBg (zBg hg _ v0) _ v1) _ v2) _ v3) _ v4) _ v5,h1,h2,by simpa using h3,?_⟩⟩
 unfold set6
 simp only[Array.toList_setIfInBounds,List.take_set,h4]
theorem zMf {w:World} {B n cap g:Nat} {e:TypeId} {xs:List Value} (h:w.ownsRow B e 6 (.slice (some ⟨g,0,none⟩) n cap) n xs) {i:Nat} (hi:i<n): ∃o0 o1 o2 o3 o4 o5,
  w.cell? ⟨g,i*6,none⟩=some o0∧w.cell? ⟨g,i*6+1,none⟩=some o1∧w.cell? ⟨g,i*6+2,none⟩=some o2∧w.cell? ⟨g,i*6+3,none⟩=some o3∧w.cell? ⟨g,i*6+4,none⟩=some o4∧w.cell? ⟨g,i*6+5,none⟩=some o5∧
  w.frozen? ⟨g,i*6,none⟩=false∧w.frozen? ⟨g,i*6+1,none⟩=false∧w.frozen? ⟨g,i*6+2,none⟩=false∧w.frozen? ⟨g,i*6+3,none⟩=false∧w.frozen? ⟨g,i*6+4,none⟩=false∧w.frozen? ⟨g,i*6+5,none⟩=false∧g<w.heap.size:=by
 obtain⟨hl,⟨h0,_⟩|⟨g',cap',cur,he,hB,hg,h1,h2,h3,h4⟩⟩:=h
 ·cases h0
 injection he with he _ hc
 injection he with he
 injection he with he
 subst he hc
 have hc: ∀j,j<6→ ∃o,w.cell? ⟨g,i*6+j,none⟩=some o:=fun j hj=>by
  have hlt:i*6+j<cur.size:=by rw[h3];omega
  exact⟨cur[i*6+j],by simp[World.cell?,hg,hlt]⟩
 obtain⟨o0,c0⟩:=hc 0 (by omega)
 obtain⟨o1,c1⟩:=hc 1 (by omega)
 obtain⟨o2,c2⟩:=hc 2 (by omega)
 obtain⟨o3,c3⟩:=hc 3 (by omega)
 obtain⟨o4,c4⟩:=hc 4 (by omega)
 obtain⟨o5,c5⟩:=hc 5 (by omega)
 exact⟨o0,o1,o2,o3,o4,o5,c0,c1,c2,c3,c4,c5,Lib.frozen_of_heap hg _,Lib.frozen_of_heap hg _,Lib.frozen_of_heap hg _,Lib.frozen_of_heap hg _,Lib.frozen_of_heap hg _,Lib.frozen_of_heap hg _,zAf hg⟩
theorem zMg {w:World} {B:Nat} {kv:Value} {ks:List (List UInt8)} (h:w.ownsRow B 53 2 kv ks.length (ks.flatMap fun k=> [.string ⟨k.toArray⟩,.slice none 0 0])) (hl: ∀k∈ks,k.length≤2000000):Foot (fun b=>some b=kv.ownBlock) w (fun w=>CassAt 1 w kv (ks.map keyC)):=by
 by_cases h0:ks= []
 ·subst h0
  rcases h.2 with⟨rfl,_⟩|⟨g,cap,cur,rfl,_⟩
  ·exact Foot.triv fun w=> .inl ⟨rfl,none,0,rfl⟩
  exact Foot.triv fun w=> .inl ⟨rfl,_,_,rfl⟩
 rcases h.2 with⟨rfl,hn⟩|⟨g,cap,cur,rfl,hB,hg,h1,h2,h3,h4⟩
 ·exact absurd (List.length_eq_zero_iff.1 hn) h0
 refine(Foot.block (A:=fun b=>some b=(Value.slice (some ⟨g,0,none⟩) ks.length cap).ownBlock) hg rfl).imp fun w' hw=>?_
 refine .inr ⟨g,0,cap,by rw[List.length_map],by rw[List.length_map];exact List.length_pos_iff.2 h0,by rw[List.length_map];exact h1,h2,fun j x hx=>?_⟩
 rw[List.getElem?_map] at hx
 obtain⟨k,hk,rfl⟩:=Option.map_eq_some_iff.1 hx
 have hc:=fun i u hu=>zDw (enc:=fun k:List UInt8=> [Value.string ⟨k.toArray⟩,.slice none 0 0]) (k:=2) (fun _=>rfl) hk i u hu
 have cell: ∀i u,[Value.string ⟨k.toArray⟩,.slice none 0 0][i]?=some u→w'.cell? ⟨g,0+j*2+i,none⟩=some u:=fun i u hu=>by
  have:=hc i u hu
  rw[←h4,List.getElem?_take] at this
  split at this
  ·rw[Nat.zero_add];simp[World.cell?,hw,←this]
  cases this
 exact⟨none,0,0,cell 0 _ rfl,cell 1 _ rfl,.inl ⟨rfl,none,0,rfl⟩,hl k (List.mem_of_getElem? hk),Nat.zero_le _⟩
theorem zMh {w:World} {B:Nat} {bv:Value} {bs:List Nat} (h:w.ownsRow B 3 1 bv bs.length (bs.map fun n:Nat=>Value.int .i64 (n:Int))):Foot (fun b=>some b=bv.ownBlock) w (fun w=>SlAt 1 NatC w bv bs):=by
 by_cases h0:bs= []
 ·subst h0
  rcases h.2 with⟨rfl,_⟩|⟨g,cap,cur,rfl,_⟩
  ·exact Foot.triv fun w=> .inl ⟨rfl,none,0,rfl⟩
  exact Foot.triv fun w=> .inl ⟨rfl,_,_,rfl⟩
 rcases h.2 with⟨rfl,hn⟩|⟨g,cap,cur,rfl,hB,hg,h1,h2,h3,h4⟩
 ·exact absurd (List.length_eq_zero_iff.1 hn) h0
 refine(Foot.block (A:=fun b=>some b=(Value.slice (some ⟨g,0,none⟩) bs.length cap).ownBlock) hg rfl).imp fun w' hw=>?_
 refine .inr ⟨g,0,cap,rfl,List.length_pos_iff.2 h0,h1,h2,fun j n hn=>?_⟩
 have hc:(bs.map fun n:Nat=>Value.int .i64 (n:Int))[j]?=some (.int .i64 (n:Int)):=by rw[List.getElem?_map,hn];rfl
 rw[←h4,List.getElem?_take] at hc
 unfold NatC
 split at hc
 ·rw[Nat.zero_add];simp[World.cell?,hw,←hc]
 cases hc
theorem AdI.shut {W0 wo:World} {p q:Nat} {X:Nat→Prop} {uo:Value} {x:Nd} {g cap:Nat} {kv bv:Value} {l:List Sx} {ks:List (List UInt8)} {bs:List Nat} {w:World} (h:AdI W0 wo p q X uo x (.slice (some ⟨g,0,none⟩) l.length cap) kv bv l ks bs w) (i fin:Nat) (hi:i<l.length)
  (hkv: ∃a n c,kv= .slice a n c) (hbv: ∃a n c,bv= .slice a n c) (ht:x.text.length≤2000000) (hl:ks.length≤2000000) (hk: ∀k∈ks,k.length≤2000000):
  AdP W0 wo p X uo ((l.map (·.s)).set i ⟨x.kind,x.text,x.off,ks,bs,fin⟩) (put6 w g (i*6) (.int .i64 x.kind) (.string ⟨x.text.toArray⟩) (.int .i64 x.off) kv bv (.int .i64 (fin:Int))):=by
 have hgp:=h.co.own_ne (g:=g) rfl
 have hy:sEnc ⟨⟨x.kind,x.text,x.off,ks,bs,fin⟩,kv,bv⟩= [.int .i64 x.kind,.string ⟨x.text.toArray⟩,.int .i64 x.off,kv,bv,.int .i64 (fin:Int)]:=rfl
 have hrow:=zKJ h.co.gr.row i (.int .i64 x.kind) (.string ⟨x.text.toArray⟩) (.int .i64 x.off) kv bv (.int .i64 (fin:Int))
 rw[←zGj (fun _=>rfl) hy l i hi] at hrow
 obtain⟨_,hgl,_⟩:=zAk h.co.gr.row (g:=g) rfl
 -- what hangs on the new step
 have f1:=zMg h.kr hk
 have f2:=zMh h.br
 have fy:Foot (fun b=>W0.heap.size≤b∧((X b∨wo.heap.size≤b)∧b≠p)∧some b≠some g) w (sHang ⟨⟨x.kind,x.text,x.off,ks,bs,fin⟩,kv,bv⟩):=by
  have a1:=f1.mono (A':=fun b=>W0.heap.size≤b∧((X b∨wo.heap.size≤b)∧b≠p)∧some b≠some g) fun b _ e=>by
   have:=(zAk h.kr e.symm).1
   have hn:=h.ne_kq e.symm
   exact⟨Nat.le_trans h.wlo this,⟨.inr this,hn.2.1⟩,hn.2.2.1⟩
  have a2:=f2.mono (A':=fun b=>W0.heap.size≤b∧((X b∨wo.heap.size≤b)∧b≠p)∧some b≠some g) fun b _ e=>by
   have:=(zAk h.br e.symm).1
   have hn:=h.ne_bq e.symm
   exact⟨Nat.le_trans h.wlo this,⟨.inr this,hn.2.1⟩,hn.2.2⟩
  exact(a1.both a2).imp fun w hw=>⟨hkv,hbv,hw.1,hw.2,ht,hl⟩
 have fo:Foot (fun b=>W0.heap.size≤b∧((X b∨wo.heap.size≤b)∧b≠p)∧some b≠some g) w (fun w=> ∀y∈l,sHang y w):=h.co.gr.hang.mono fun b _ ⟨e1,⟨⟨e2,_,_,_⟩,e3⟩,e4⟩=>⟨e1,⟨e2,e3⟩,e4⟩
 have fz:=(fo.both fy).keep (w':=put6 w g (i*6) (.int .i64 x.kind) (.string ⟨x.text.toArray⟩) (.int .i64 x.off) kv bv (.int .i64 (fin:Int))) fun b _ e=>zB8 _ _ _ _ _ _ _ _ _ (fun e'=>e.2.2 (by rw[e']))
 refine⟨.slice (some ⟨g,0,none⟩) l.length cap,l.set i ⟨⟨x.kind,x.text,x.off,ks,bs,fin⟩,kv,bv⟩,⟨⟨?_,fz.imp fun w hw y hy=>?_⟩,(zB8 _ _ _ _ _ _ _ _ _ (Ne.symm hgp)).trans h.co.bx,h.co.lo⟩,by rw[List.map_set],h.ow,⟨?_,fun b hb hp hu=>?_⟩,zIi h.bel ?_ _ _ _ _ _ _ _⟩
 ·rw[List.length_set];exact hrow
 ·rcases List.mem_or_eq_of_mem_set hy with hy|rfl
  ·exact hw.1 y hy
  exact hw.2
 ·rw[zJv];exact h.kp.size
 ·rw[zB8 _ _ _ _ _ _ _ _ _ (fun e=>?_),h.kp.kept b hb hp hu]
  rcases h.ow with ho|ho
  ·exact hu (by rw[←ho,e];rfl)
  have:=ho g rfl;omega
 exact(zAk h.co.gr.row (g:=g) rfl).1
open Go.RowKit Ms

theorem zFp (f:Nat) {m:List Nd} {i:Nat} {x:Nd} (h:m[i]?=some x) (l:List Need):allN (f+1) l (m.drop i)=allN (f+1) (goN (allN f) (addN l x) ((casesOf x).map (·.2))) (m.drop (i+1)):=by
 obtain⟨hi,e⟩:=List.getElem?_eq_some_iff.1 h
 rw[List.drop_eq_getElem_cons hi,e]
 rfl
theorem zCV (f:Nat) {m:List Nd} {i:Nat} {x:Nd} (h:m[i]?=some x):cnt (f+1) (m.drop i)=1+(((casesOf x).map (·.2)).map (cnt f)).sum+cnt (f+1) (m.drop (i+1)):=by
 obtain⟨hi,e⟩:=List.getElem?_eq_some_iff.1 h
 rw[List.drop_eq_getElem_cons hi,e,List.map_map]
 simp[cnt,Function.comp_def]

theorem zKK (f:Nat): ∀(v:Value) (m:List Nd) (W0 w:World) (p:Nat) (u:Value) (xs:List Need),MsgAt f W0 v m→m.length≤2000000→NI W0.heap.size p u xs w→Below W0.heap.size W0 w→xs.length+cnt f m≤1000000→
  Calls Tryz.prog 80 #[.pointer (some ⟨p,0,none⟩),v] w fun e w'=>e= .returned (.tuple #[])∧(∃u',NI W0.heap.size p u' (allN f xs m) w')∧Below W0.heap.size W0 w':=by
 induction f with
 |zero=>
  intro v m W0 w p u xs h hl hP hb hc
  rcases h with⟨rfl,A,cap,rfl⟩|⟨b,off,cap,_,hpos,_,_,hx⟩
  ·rw[show allN 0 xs []=xs from rfl]
   go_enter Tryz.func80,Tryz.ntmps80
   go_wp2_with fail
   go_loopw [10] (fun vi wr=>vi= .int .i64 0∧w=wr) (fun _ _=>0)
   case atStart=>exact⟨rfl,rfl⟩
   case round=>
    obtain⟨rfl,rfl⟩:=hrel
    go_wp2_with fail
    go_end0
    exact⟨rfl,⟨_,hP⟩,hb⟩
  exact absurd (hx 0 _ (List.getElem?_eq_getElem hpos)) (by simp[NdC])
 |succ f ih=>
  intro v m W0 w p u xs h hl hP hb hc
  have IH:=lH ih
  have AL:=lH (zBB f)
  obtain⟨RES,hRES⟩: ∃RES,RES=allN (f+1) xs m:=⟨_,rfl⟩
  rw[←hRES]
  have HRES:=lH (show allN (f+1) xs (m.drop 0)=RES by rw[List.drop_zero,hRES])
  have HCN:=lH (show xs.length+cnt (f+1) (m.drop 0)≤1000000 by rw[List.drop_zero];exact hc)
  clear hRES ih hc
  obtain⟨A,cap,rfl,_,hel⟩:=h.spread
  have hcap:m.length≤cap∨m.length=0:=by
   rcases h with⟨e,_⟩|⟨_,_,_,e,_,q,_,_⟩
   ·exact .inr (by rw[e];rfl)
   injection e with _ _ e;exact .inl (by omega)
  have HX:=lH hel
  clear hel h
  have HP0:=lH (show ∃u,NI W0.heap.size p u xs w from⟨u,hP⟩)
  have HB0:=lH hb
  clear hP hb
  generalize hlm:m.length=L at*
  go_enter Tryz.func80,Tryz.ntmps80
  go_wp2_with fail
  go_loopw [10] (fun vi wr=> ∃(i:Nat) (ys:List Need),vi= .int .i64 (i:Int)∧i≤L∧Hid (∃u,NI W0.heap.size p u ys wr)∧Hid (allN (f+1) ys (m.drop i)=RES)∧Hid (ys.length+cnt (f+1) (m.drop i)≤1000000)∧Hid (Below W0.heap.size W0 wr)) (fun vi _=>L-(intOf vi).toNat)
  case atStart=>exact⟨0,xs,rfl,Nat.zero_le _,HP0,HRES,HCN,HB0⟩
  case round=>
   obtain⟨i,ys,rfl,hi,HP,HL,HC,HB⟩:=hrel
   clear HP0 HRES HCN HB0
   by_cases hlt:i<L
   ·have hi':(i:Int)<(L:Int):=by omega
    have hcc:L≤cap:=by omega
    obtain⟨x,hxi⟩: ∃x,m[i]?=some x:=⟨m[i]'(by omega),List.getElem?_eq_getElem (by omega)⟩
    obtain⟨b,off,rfl,hnd⟩:=HX.out i x hxi
    obtain⟨a0,n0,c0,p0,p1,p2,p3,p4,p5,p6⟩:=hnd
    have g0:=cK p0 HB.out
    have g1:=cK p1 HB.out
    have g2:=cK p2 HB.out
    have g3:=cK p3 HB.out
    have lb:=World.block_lt_of_cell? _ _ g0
    have HL2:=lH ((zFp f hxi ys).symm.trans HL.out)
    have HC2:=lH (show ys.length+(1+(((casesOf x).map (·.2)).map (cnt f)).sum+cnt (f+1) (m.drop (i+1)))≤1000000 by have:=HC.out;rw[zCV f hxi] at this;exact this)
    have wi:IntKind.i64.wrap ((i:Int)+1)=(i:Int)+1:=IntWalk.i64_in _ (by omega)
    have HB1:=lH (HB.out.alloc (HB.out.size) (.cells #[.int .i64 x.kind,.string ⟨x.text.toArray⟩,.int .i64 x.off,.slice a0 n0 c0] 51))
    have XB:=lH (Boxed.made wr #[.int .i64 x.kind,.string ⟨x.text.toArray⟩,.int .i64 x.off,.slice a0 n0 c0] 51)
    obtain⟨u,hu⟩:=HP.out
    have CA:=lH (zKi x a0 n0 c0 W0 _ p u ys wr.heap.size _ (hu.below (bA wr _)) HB1.out (by have:=HC.out;omega) XB.out (fun e=>by have:=hu.box.lt;omega) (fun e=>by have:=(hu.row.lt _ e).2;omega))
    have HAL:=lH (show(addN ys x).length≤ys.length+1 from zDP ys x)
    have h4:CassAt f W0 (.slice a0 n0 c0) x.cases:=p4
    have CC:=lH fun (wx:World) (hb:Below W0.heap.size W0 wx)=>zDl (f:=f) x wx (zAm h4 hb)
    have H4:=lH h4
    have lcs:(casesOf x).length≤2000000:=by
     unfold casesOf;split
     ·exact p6
     simp
    generalize addN ys x=zs at*
    clear HL HC p0 p1 p2 p3 p4 p5 p6 h4 hxi hu HP XB
    go_wp2_with fail
    refine CA.out.mono ?_
    rintro e w1 ⟨rfl,hni,hb,hbx⟩
    have P1:=lH hni
    have W1:=lH hb
    have x0:w1.cell? ⟨wr.heap.size,0,none⟩=some (.int .i64 x.kind):=hbx.cell 0 _ rfl
    have x1:w1.cell? ⟨wr.heap.size,1,none⟩=some (.string ⟨x.text.toArray⟩):=hbx.cell 1 _ rfl
    have x2:w1.cell? ⟨wr.heap.size,2,none⟩=some (.int .i64 x.off):=hbx.cell 2 _ rfl
    have x3:w1.cell? ⟨wr.heap.size,3,none⟩=some (.slice a0 n0 c0):=hbx.cell 3 _ rfl
    have xl:=hbx.lt
    clear hni hb hbx CA g0 g1 g2 g3 lb HB1 HB
    go_wp2_with fail
    refine(CC.out w1 W1.out).mono ?_
    rintro e w2 ⟨A1,C1,rfl,hto,hb⟩
    have P2:=lH (P1.out.elim fun u h=>(show ∃u,NI W0.heap.size p u zs w2 from⟨u,h.below hb⟩))
    have W2:=lH (W1.out.trans (hb.mono W1.out.size))
    have HCS:=hto W0 H4.out
    clear hto hb CC P1 W1 H4 x0 x1 x2 x3 xl
    generalize casesOf x=cs at*
    obtain⟨A2,C2,e2,_,hel⟩:=HCS.spread
    injection e2 with e3 e4 e5
    subst e3 e5
    have hcapc:cs.length≤C1∨cs.length=0:=by
     rcases HCS with⟨e,_⟩|⟨_,_,_,e,_,q,_,_⟩
     ·exact .inr (by rw[e];rfl)
     injection e with _ _ e;exact .inl (by omega)
    have HEL:=lH hel
    clear hel HCS
    have HL3:=lH (show allN (f+1) (goN (allN f) zs ((cs.drop 0).map (·.2))) (m.drop (i+1))=RES by rw[List.drop_zero];exact HL2.out)
    have HC3:=lH (show zs.length+((((cs.drop 0).map (·.2)).map (cnt f)).sum+cnt (f+1) (m.drop (i+1)))≤1000000 by rw[List.drop_zero];have:=HC2.out;have:=HAL.out;omega)
    have HCSL:=lH (rfl:cs.length=cs.length)
    clear HL2 HC2 HAL
    generalize hlc:cs.length=LC at*
    go_wp2_with fail
    go_loopw [20] (fun vk wx=> ∃(k:Nat) (ts:List Need),vk= .int .i64 (k:Int)∧k≤LC∧Hid (∃u,NI W0.heap.size p u ts wx)∧Hid (allN (f+1) (goN (allN f) ts ((cs.drop k).map (·.2))) (m.drop (i+1))=RES)∧Hid (ts.length+((((cs.drop k).map (·.2)).map (cnt f)).sum+cnt (f+1) (m.drop (i+1)))≤1000000)∧Hid (Below W0.heap.size W0 wx)) (fun vk _=>LC-(intOf vk).toNat)
    case atStart=>exact⟨0,zs,rfl,Nat.zero_le _,P2,HL3,HC3,W2⟩
    case round=>
     obtain⟨k,ts,rfl,hk,HP,HL,HC,HB⟩:=hrel
     clear P2 HL3 HC3 W2
     by_cases hltk:k<LC
     ·have hk':(k:Int)<(LC:Int):=by omega
      have hccc:LC≤C1:=by omega
      obtain⟨y,hyk⟩: ∃y,cs[k]?=some y:=⟨cs[k]'(by omega),List.getElem?_eq_getElem (by omega)⟩
      obtain⟨bb,oo,rfl,a9,n9,c9,q0,q1,q2,q3,q4⟩:=HEL.out k y hyk
      have j0:=cK q0 HB.out
      have j1:=cK q1 HB.out
      have lb:=World.block_lt_of_cell? _ _ j0
      have hst:=HL.out
      have hct:=HC.out
      rw[zBP hyk] at hst hct
      rw[List.map_cons,List.sum_cons] at hct
      have wk:IntKind.i64.wrap ((k:Int)+1)=(k:Int)+1:=IntWalk.i64_in _ (by omega)
      obtain⟨u,hu⟩:=HP.out
      have CR:=lH (IH.out (.slice a9 n9 c9) y.2 W0 _ p u ts q2 q4 (hu.below (bA wr (.cells #[.string ⟨y.1.toArray⟩,.slice a9 n9 c9] 53))) (HB.out.alloc HB.out.size _) (by omega))
      have HAL:=AL.out ts y.2
      have HL4:=lH (show allN (f+1) (goN (allN f) (allN f ts y.2) ((cs.drop (k+1)).map (·.2))) (m.drop (i+1))=RES from hst)
      have HC4:=lH (show(allN f ts y.2).length+((((cs.drop (k+1)).map (·.2)).map (cnt f)).sum+cnt (f+1) (m.drop (i+1)))≤1000000 by omega)
      generalize allN f ts y.2=ts' at*
      clear HL HC HAL hst hct q0 q1 q2 q3 q4 hyk hu HP HB
      go_wp2_with fail
      refine CR.out.mono ?_
      rintro e w3 ⟨rfl,hni,hb⟩
      have P3:=lH hni
      have W3:=lH hb
      clear hni hb CR j0 j1 lb
      go_wp2_with fail
      go_roundw
      case rel=>exact⟨k+1,ts',by go_num,by omega,P3,HL4,HC4,W3⟩
      case measure=>simp[intOf];omega
     have hk': ¬(k:Int)<(LC:Int):=by omega
     have hst:=HL.out
     have hct:=HC.out
     rw[List.drop_of_length_le (by omega)] at hst hct
     have HL4:=lH (show allN (f+1) ts (m.drop (i+1))=RES from hst)
     have HC4:=lH (show ts.length+cnt (f+1) (m.drop (i+1))≤1000000 by simpa using hct)
     clear hst hct HL HC
     go_wp2_with fail
     go_roundw
     case rel=>exact⟨i+1,ts,by go_num,by omega,HP,HL4,HC4,HB⟩
     case measure=>simp[intOf];omega
   have hi': ¬(i:Int)<(L:Int):=by omega
   have hst:=HL.out
   rw[List.drop_of_length_le (by omega)] at hst
   have hst':ys=RES:=hst
   subst hst'
   clear hst HL
   go_wp2_with fail
   go_end0
   exact⟨rfl,HP.out,HB.out⟩
end Go.Proofs.YtjlchookakbomaaGreatDoor
