/- Names of a message: the plain law, and the walks of msg.Name and of the reference's Name. Conditions: the text is short. -/
import Derived.Test.YtldbfkccieipjaaGreatDoorEf4
import Derived.Test.YtldbfkccieipjaaGreatDoorEf0
import Derived.Maps.AppendAt
import Derived.Laws.OwnMore
import Derived.OwnWalk
import Derived.Test.YtldbfkccieipjaaGreatDoorProg
import Derived.LoopTactic
import Derived.Lib.Walk
import Derived.WalkKit
import Derived.WalkSpells
import Derived.Shelf.Abstract
import Derived.Deep.LoopGhost
import Derived.Deep.Draws
import Derived.Shelf.Strings.SlTrimAscii
import Derived.Laws.Strings2
import Derived.Laws.Strings3
import Derived.Laws.Concat
import Derived.Laws.IdiomStrings
import Derived.Test.YtldbfkccieipjaaGreatDoorShelfU
import Derived.Test.YtldbfkccieipjaaGreatDoorShelfG
namespace Go.Proofs.YtldbfkccieipjaaGreatDoor
set_option maxRecDepth 100000
open Go.RowKit

namespace Ms
/-- a name; is it a number, a text? -/
abbrev Need:=List UInt8×Bool×Bool
def orN (a b:Bool) (n:Need):Need:=(n.1,n.2.1||a,n.2.2||b)
def grownN (l:List Need) (t:List UInt8):List Need:=if l.findIdx (fun n=>n.1==t)<l.length then l else l++ [(t,false,false)]
/-- a node's name is added -/
def addN (l:List Need) (x:Nd):List Need:=
 if x.kind=1∨x.kind=6 then l else (grownN l x.text).modify (l.findIdx (fun n=>n.1==x.text)) (orN (decide (x.kind=3)||decide (x.kind=4)) (decide (x.kind=5)))
def goN (F:List Need→List Nd→List Need) (l:List Need) (bs:List (List Nd)):List Need:=bs.foldl F l
/-- .. of a message -/
def allN:Nat→List Need→List Nd→List Need
 |0,l,_=>l
 |f+1,l,m=>m.foldl (fun l x=>goN (allN f) (addN l x) ((casesOf x).map (·.2))) l
/-- how many nodes -/
def cnt:Nat→List Nd→Nat
 |0,_=>0
 |f+1,m=>(m.map fun x=>1+((casesOf x).map fun y=>cnt f y.2).sum).sum
theorem modify_len (l:List Need) (i:Nat) (g:Need→Need):(l.modify i g).length=l.length:=by simp
theorem grownN_idx (l:List Need) (t:List UInt8):l.findIdx (fun n=>n.1==t)<(grownN l t).length∧(grownN l t).length≤l.length+1∧ ∃n,(grownN l t)[l.findIdx (fun n=>n.1==t)]?=some n:=by
 unfold grownN
 split
 ·rename_i h
  exact⟨h,by omega,_,List.getElem?_eq_getElem h⟩
 ·rename_i h
  have e:l.findIdx (fun n=>n.1==t)=l.length:=by have:=List.findIdx_le_length (xs:=l) (p:=fun n=>n.1==t);omega
  rw[e]
  exact⟨by simp,by simp,(t,false,false),by simp⟩
theorem addN_len (l:List Need) (x:Nd):(addN l x).length≤l.length+1:=by
 unfold addN
 split
 ·omega
 ·rw[modify_len];exact(grownN_idx l x.text).2.1
theorem goN_len {F:List Need→List Nd→List Need} {c:List Nd→Nat} (hF: ∀l b,(F l b).length≤l.length+c b): ∀(bs:List (List Nd)) (l:List Need),(goN F l bs).length≤l.length+(bs.map c).sum
 | [],l=>by simp[goN]
 |b::r,l=>by
  have h:=goN_len hF r (F l b)
  have h2:=hF l b
  show(goN F (F l b) r).length≤_
  rw[List.map_cons,List.sum_cons]
  omega
theorem allN_len: ∀(f:Nat) (l:List Need) (m:List Nd),(allN f l m).length≤l.length+cnt f m
 |0,l,m=>by simp[allN,cnt]
 |f+1,l,m=>by
  induction m generalizing l with
  |nil=>simp[allN,cnt]
  |cons x r ih=>
   have h:=ih (goN (allN f) (addN l x) ((casesOf x).map (·.2)))
   have h2:=goN_len (F:=allN f) (c:=cnt f) (fun l b=>allN_len f l b) ((casesOf x).map (·.2)) (addN l x)
   have h3:=addN_len l x
   have e:cnt (f+1) (x::r)=(1+((casesOf x).map fun y=>cnt f y.2).sum)+cnt (f+1) r:=by simp[cnt]
   have e2:((casesOf x).map fun y=>cnt f y.2).sum=(((casesOf x).map (·.2)).map (cnt f)).sum:=by rw[List.map_map];rfl
   rw[e,e2]
   show(allN (f+1) (goN (allN f) (addN l x) ((casesOf x).map (·.2))) r).length≤_
   omega
/-- the cells -/
def ncells (n:Need):List Value:= [.string ⟨n.1.toArray⟩,.bool n.2.1,.bool n.2.2]
def nflat (l:List Need):List Value:=l.flatMap ncells
theorem nflat_add (l:List Need) (n:Need):nflat (l++ [n])=nflat l++ncells n:=by unfold nflat;rw[List.flatMap_append];simp
theorem nflat_at: ∀{l:List Need} {j:Nat} {n:Need},l[j]?=some n→(nflat l)[j*3]?=some (.string ⟨n.1.toArray⟩)∧(nflat l)[j*3+1]?=some (.bool n.2.1)∧(nflat l)[j*3+2]?=some (.bool n.2.2):=by
 intro l
 induction l with
 |nil=>intro j n h;simp at h
 |cons a l ih=>
  intro j n h
  cases j with
  |zero=>simp at h;subst h;exact⟨rfl,rfl,rfl⟩
  |succ j=>
   have h':=ih (j:=j) (n:=n) (by simpa using h)
   have e:(j+1)*3=j*3+1+1+1:=by omega
   rw[e]
   exact h'
theorem nflat_or: ∀{l:List Need} {j:Nat} {n:Need} (a b:Bool),l[j]?=some n→((nflat l).set (j*3+1) (.bool (n.2.1||a))).set (j*3+2) (.bool (n.2.2||b))=nflat (l.modify j (orN a b)):=by
 intro l
 induction l with
 |nil=>intro j n a b h;simp at h
 |cons x l ih=>
  intro j n a b h
  cases j with
  |zero=>simp at h;subst h;rfl
  |succ j=>
   have h':=ih (j:=j) (n:=n) a b (by simpa using h)
   have e:(j+1)*3=j*3+1+1+1:=by omega
   rw[e,List.modify_succ_cons]
   show _=ncells x++nflat (l.modify j (orN a b))
   rw[←h']
   rfl
end Ms
open Ms
def NeedC (w:World) (b k:Nat) (n:Need):Prop:=w.cell? ⟨b,k,none⟩=some (.string ⟨n.1.toArray⟩)∧w.cell? ⟨b,k+1,none⟩=some (.bool n.2.1)∧w.cell? ⟨b,k+2,none⟩=some (.bool n.2.2)
abbrev NeedsAt:=SlAt 3 NeedC
theorem NeedC.below {w w':World} {b k:Nat} {n:Need} (h:NeedC w b k n) (hb:Below w.heap.size w w'):NeedC w' b k n:=⟨cell_keep h.1 hb,cell_keep h.2.1 hb,cell_keep h.2.2 hb⟩
theorem needs_below {w w':World} {v:Value} {l:List Need} (h:NeedsAt w v l) (hb:Below w.heap.size w w'):NeedsAt w' v l:=h.imp fun _ _ _ _ q=>q.below hb
theorem nrow_cells {w:World} {base n k:Nat} {e:TypeId} {g cap:Nat} {xs:List Value} (h:w.ownsRow base e k (.slice (some ⟨g,0,none⟩) n cap) n xs) {j:Nat} {u:Value} (hj:xs[j]?=some u):w.cell? ⟨g,j,none⟩=some u:=by
 have:=h.cellAt j (by have:=(List.getElem?_eq_some_iff.1 hj).1;have:=h.1;omega)
 rw[this,hj]
theorem needs_of_row {w:World} {base:Nat} {e:TypeId} {v:Value} {l:List Need} (h:w.ownsRow base e 3 v l.length (nflat l)):NeedsAt w v l:=by
 have h':=h.2
 rcases h' with⟨rfl,h0⟩|⟨g,cap,cur,rfl,_,_,h1,h2,_,_⟩
 ·exact .inl ⟨List.length_eq_zero_iff.1 h0,none,0,rfl⟩
 ·by_cases h0:l.length=0
  ·exact .inl ⟨List.length_eq_zero_iff.1 h0,_,_,by rw[h0]⟩
  ·refine .inr ⟨g,0,cap,rfl,by omega,h1,h2,fun j x hx=>?_⟩
   rw[Nat.zero_add]
   have q:=nflat_at hx
   exact⟨nrow_cells h q.1,nrow_cells h q.2.1,nrow_cells h q.2.2⟩
/-- the needs, kept in a row of the call's own behind a block that tells where -/
structure NI (B p:Nat) (v:Value) (xs:List Need) (W:World):Prop where
 box:Boxed W p #[v]
 row:W.ownsRow B 126 3 v xs.length (nflat xs)
 ne:v.ownBlock≠some p
 ge:B≤p
theorem NI.below {B p:Nat} {v:Value} {xs:List Need} {A C:World} (h:NI B p v xs A) (hb:Below A.heap.size A C):NI B p v xs C:=
 ⟨h.box.below hb,h.row.kept (row:=none) ⟨hb.os,hb.tape,hb.output,hb.size,fun k hk _=>hb.block k hk⟩ (by cases v.ownBlock<;>simp),h.ne,h.ge⟩
theorem NI.isSlice {B p:Nat} {v:Value} {xs:List Need} {A:World} (h:NI B p v xs A): ∃a c,v= .slice a xs.length c:=by
 rcases h.row.2 with⟨rfl,h0⟩|⟨g,cap,cur,rfl,_⟩
 ·exact⟨none,0,by rw[h0]⟩
 ·exact⟨_,_,rfl⟩
theorem nboxed_grown {A C:World} {r:Option Nat} {p:Nat} {vs:Array Value} (h:Boxed A p vs) (g:A.grownBy C r) (hr:some p≠r):Boxed C p vs:=
 ⟨Nat.lt_of_lt_of_le h.lt g.size,fun j v hv=>g.cell (h.cell j v hv) hr,fun j hj=>(World.frozen?_of_block (g.block p h.lt hr)).trans (h.free j hj)⟩
theorem nrow_some {w:World} {base n k:Nat} {e:TypeId} {v:Value} {xs:List Value} (h:w.ownsRow base e k v n xs) (hn:0<n): ∃g cap,v= .slice (some ⟨g,0,none⟩) n cap:=by
 obtain⟨_,⟨rfl,rfl⟩|⟨g,cap,cur,rfl,_⟩⟩:=h
 ·omega
 ·exact⟨_,_,rfl⟩
theorem nboxed_add {W:World} {q:Nat} {l:List Value} (h:Boxed W q l.toArray): ∀j u,l[j]?=some u→W.cell? ((⟨q,0,none⟩:Addr).add j)=some u:=by
 intro j u hj
 have c:=h.cell j u (by simpa using hj)
 cases j with
 |zero=>simpa[Addr.add] using c
 |succ j=>simpa[Addr.add] using c
/-- the new row's slice is stored into the block -/
theorem NI.stored {B p:Nat} {v v':Value} {xs ys:List Need} {A C:World} (h:NI B p v xs A) (hg:A.grownBy C v.ownBlock) (hn:v'.ownBlock=v.ownBlock∨v'.ownBlock=some A.heap.size) (ho:C.ownsRow B 126 3 v' ys.length (nflat ys)):
  NI B p v' ys (C.setCell ⟨p,0,none⟩ v')∧Boxed C p #[v]:=by
 have hb:=nboxed_grown h.box hg (fun e=>h.ne e.symm)
 have hne:v'.ownBlock≠some p:=by
  rcases hn with e|e
  ·rw[e];exact h.ne
  ·rw[e];intro g;injection g with g;have:=h.box.lt;omega
 refine⟨⟨by exact hb.set 0 v' (by simp),ho.kept (row:=some p) ⟨rfl,rfl,rfl,by simp,fun k _ hk=>?_⟩ (.inr hne),hne,h.ge⟩,hb⟩
 exact heap_setCell_other C ⟨p,0,none⟩ k v' (fun e=>hk (by simp[e]))
/-- two of a row's cells are stored -/
theorem NI.ored {B p g cap:Nat} {ys:List Need} {A:World} (h:NI B p (.slice (some ⟨g,0,none⟩) ys.length cap) ys A) {j:Nat} {n:Need} (hj:ys[j]?=some n) (a b:Bool):
  NI B p (.slice (some ⟨g,0,none⟩) ys.length cap) (ys.modify j (orN a b)) ((A.setCell ⟨g,j*3+1,none⟩ (.bool (n.2.1||a))).setCell ⟨g,j*3+2,none⟩ (.bool (n.2.2||b))):=by
 have hgp:g≠p:=fun e=>h.ne (by rw[e];rfl)
 have h1:=(h.row.stored (j*3+1) (.bool (n.2.1||a))).1
 have h2:=(h1.stored (j*3+2) (.bool (n.2.2||b))).1
 rw[nflat_or a b hj] at h2
 exact⟨(h.box.far hgp _ _).far hgp _ _,by rw[modify_len];exact h2,h.ne,h.ge⟩
section
variable {P:Program} (w:World)
theorem wp_nappend {o:Oper} {a:Act} {K:Act→World→Prop} {Q:Exit→Act→World→Prop} (s x:Operand) (t:TypeId)
  (ho:o.op= .call {callee:= .builtin .append,args:= #[s,x],argTypes:= #[t,t]})
  (base:Nat) (e:TypeId) (i:TypeInfo) (z:Value) (size bytes:Nat) (ht:P.underlying t=some (.slice e)) (hi:P.info? e=some i) (hz:i.zero=some z)
  (hsize:i.size=size) (hby:i.bytes=bytes) (hzs:z.cells.size=size) (hsz:0<size)
  (v:Value) (n:Nat) (xs:List Value) (hs:a.eval s=v) (hown:w.ownsRow base e size v n xs)
  (ad:Addr) (m c:Nat) (news:List Value) (hx:a.eval x= .slice (some ad) m c) (hl:news.length=m*size) (hnews: ∀j u,news[j]?=some u→w.cell? (ad.add j)=some u) (h1: ∀u∈news,u.oneCell'=true)
  (h63:n+m≤maxLen) (hbytes:(n+m)*bytes≤140737488355328) (hbase:base≤w.heap.size)
  (h: ∀v' w',w'.ownsRow base e size v' (n+m) (xs++news)→w.grownBy w' v.ownBlock→(v'.ownBlock=v.ownBlock∨v'.ownBlock=some w.heap.size)→K (a.put o.dst v') w'):o.wp P a w K Q:=by
 obtain⟨v',w',hr,h2,h3,_,h5⟩:=run_append_own_at (P:=P) w base t o.type e i z size bytes ht hi hz hsize hby hzs hsz v n xs hown ad m c news hl hnews h1 h63 hbytes hbase
 unfold Oper.wp execOp
 simp only[ho,resolve,invoke,builtin,Sem.run_bind,Sem.run_pure,Result.andThen_ok,List.map_toArray,List.map_cons,List.map_nil,hs,hx,hr]
 exact h v' w' h2 h3 h5
end
open Go.RowKit Go.Lib Ms

theorem idx_first {α:Type} {l:List α} {p:α→Bool} {k:Nat} {x:α} (hx:l[k]?=some x) (h0:(l.take k).any p=false) (h1:p x=true):l.findIdx p=k:=by
 obtain⟨hk,e⟩:=List.getElem?_eq_some_iff.1 hx
 refine(List.findIdx_eq hk).2 ⟨by rw[e];exact h1,fun j hj=>?_⟩
 have hj2:j<l.length:=by omega
 have hm:l[j]∈l.take k:=by
  rw[List.mem_take_iff_getElem]
  exact⟨j,by omega,rfl⟩
 cases hp:p l[j] with
 |false=>rfl
 |true=>rw[List.any_eq_true.2 ⟨_,hm,hp⟩] at h0;cases h0
theorem idx_none {α:Type} {l:List α} {p:α→Bool} (h0:l.any p=false):l.findIdx p=l.length:=by
 rw[List.findIdx_eq_length]
 intro x hx
 cases hp:p x with
 |false=>rfl
 |true=>rw[List.any_eq_true.2 ⟨_,hx,hp⟩] at h0;cases h0
theorem any_idx {α:Type} {l:List α} {p:α→Bool}:l.any p=decide (l.findIdx p<l.length):=by
 cases h:l.any p with
 |false=>rw[idx_none h];simp
 |true=>
  obtain⟨x,hx,hp⟩:=List.any_eq_true.1 h
  exact(decide_eq_true (List.findIdx_lt_length_of_exists ⟨x,hx,hp⟩)).symm
/-- where the first one lies -/
def fstV (l:List Need) (p:Need→Bool):Int:=if l.findIdx p<l.length then (l.findIdx p:Int) else-1

set_option maxHeartbeats 1000000 in
theorem idx_need (l:List Need) (p:Need→Bool) (g:Nat) (lb:Array Value) (eg: ∀args w,(callFunc g args).run Tryz.prog w= .ok (.enter g args) w) (v:Value) (w:World) (hl:NeedsAt w v l)
  (CP:Hid (∀x∈l,∀wx,Below w.heap.size w wx→Calls Tryz.prog g (#[.agg #[.string ⟨x.1.toArray⟩,.bool x.2.1,.bool x.2.2]]++lb) wx fun e w'=>e= .returned (.bool (p x))∧Below wx.heap.size wx w')):
  Calls Tryz.prog 117 #[v,.func (.func g) #[] lb] w fun e w'=>e= .returned (.int .i64 (fstV l p))∧Below w.heap.size w w':=by
 have HLB:=Lib.hid (show ∀wx,Below w.heap.size w wx→NeedsAt wx v l from fun wx hb=>needs_below hl hb)
 obtain⟨A,cap,rfl,hm,_⟩:=hl.spread
 unfold maxLen at hm
 clear hl
 have HF:=Lib.hid (show fstV l p=if l.findIdx p<l.length then (l.findIdx p:Int) else-1 from rfl)
 generalize fstV l p=R at*
 go_enter Tryz.func117,Tryz.ntmps117
 go_wp2_with fail
 go_loopw [5,8] (fun _ i wr=> ∃k:Nat,i= .int .i64 k∧k≤l.length∧Hid ((l.take k).any p=false)∧Hid (Below w.heap.size w wr)) (fun _ i _=>l.length-(RowKit.intOf i).toNat)
 case atStart=>exact⟨0,rfl,Nat.zero_le _,Lib.hid rfl,Lib.hid (Below.refl _ _)⟩
 case round=>
  obtain⟨k,rfl,hk,HA,HB⟩:=hrel
  by_cases hlt:k<l.length
  ·obtain⟨x,hx⟩: ∃x,l[k]?=some x:=⟨l[k],List.getElem?_eq_getElem hlt⟩
   have HX:=Lib.hid (any_take' (p:=p) hx)
   have hxm:=List.mem_of_getElem? hx
   obtain⟨A',cap',eA,_,hsp⟩:=(HLB.out wr HB.out).spread
   injection eA with e1 e2 e3
   subst e1
   obtain⟨b,off,rfl,hxc⟩:=hsp k x hx
   clear hsp e2 e3
   obtain⟨x0,x1,x2⟩:=hxc
   have CX:=Lib.hid (CP.out x hxm _ HB.out)
   cases hq:p x with
   |true=>
    rw[hq] at CX
    have hi:=idx_first hx HA.out hq
    have HT:=Lib.hid (show R=(k:Int) by rw[HF.out,hi,if_pos hlt])
    clear hq hx hxm hi
    go_wp2_with (go_at_fn g;refine CX.out.mono ?_;rintro e w' ⟨rfl,hb⟩;have HB2:=Lib.hid (blw_trans HB.out hb);clear hb)
    go_ret
    exact⟨ret_int HT.out.symm,HB2.out⟩
   |false=>
    rw[hq] at CX
    have HT:=Lib.hid (show(l.take (k+1)).any p=false by rw[HX.out,hq,HA.out];rfl)
    clear hq hx hxm
    go_wp2_with (go_at_fn g;refine CX.out.mono ?_;rintro e w' ⟨rfl,hb⟩;have HB2:=Lib.hid (blw_trans HB.out hb);clear hb)
    go_roundw
    case rel=>exact⟨k+1,by go_num,by omega,HT,HB2⟩
    case measure=>simp[RowKit.intOf];omega
  ·have HT:=Lib.hid (show R= -1 by
    have h0:l.any p=false:=by rw[←List.take_of_length_le (l:=l) (i:=k) (by omega)];exact HA.out
    rw[HF.out,idx_none h0,if_neg (Nat.lt_irrefl _)])
   go_wp2_with fail
   go_ret
   exact⟨ret_int HT.out.symm,HB.out⟩

set_option maxHeartbeats 1000000 in
theorem has_need (l:List Need) (p:Need→Bool) (g:Nat) (lb:Array Value) (eg: ∀args w,(callFunc g args).run Tryz.prog w= .ok (.enter g args) w) (v:Value) (w:World) (hl:NeedsAt w v l)
  (CP:Hid (∀x∈l,∀wx,Below w.heap.size w wx→Calls Tryz.prog g (#[.agg #[.string ⟨x.1.toArray⟩,.bool x.2.1,.bool x.2.2]]++lb) wx fun e w'=>e= .returned (.bool (p x))∧Below wx.heap.size wx w')):
  Calls Tryz.prog 85 #[v,.func (.func g) #[] lb] w fun e w'=>e= .returned (.bool (l.any p))∧Below w.heap.size w w':=by
 have CI:=Lib.hid (idx_need l p g lb eg v w hl CP)
 obtain⟨za,zn,zc,rfl⟩:=hl.isSlice
 have HF:=Lib.hid (show l.any p=decide (0≤fstV l p) by
  rw[any_idx]
  unfold fstV
  by_cases h:l.findIdx p<l.length
  ·rw[if_pos h,decide_eq_true h];exact(decide_eq_true (by omega)).symm
  ·rw[if_neg h,decide_eq_false h];rfl)
 generalize fstV l p=R at*
 generalize l.any p=Z at*
 clear hl CP eg
 go_enter Tryz.func85,Tryz.ntmps85
 go_wp2_with fail
 refine CI.out.mono ?_
 rintro e w1 ⟨rfl,hb⟩
 have W1:=Lib.hid hb
 clear hb
 go_wp2_with fail
 go_ret
 exact⟨ret_bool (by rw[HF.out]),W1.out⟩

set_option maxHeartbeats 1000000 in
theorem add1_any (x:Need) (q:Nat) (t:List UInt8) (w:World) (hq:w.cell? ⟨q,1,none⟩=some (.string ⟨t.toArray⟩)):
  Calls Tryz.prog 158 (#[.agg #[.string ⟨x.1.toArray⟩,.bool x.2.1,.bool x.2.2]]++ #[.pointer (some ⟨q,0,none⟩)]) w fun e w'=>e= .returned (.bool (x.1==t))∧Below w.heap.size w w':=by
 obtain⟨a,n,c⟩:=x
 dsimp only
 show Calls _ _ #[_,_] _ _
 have hlt:=World.block_lt_of_cell? _ _ hq
 have hne:q≠w.heap.size:=by dsimp only at hlt;omega
 go_enter Tryz.func158,Tryz.ntmps158
 go_wp2_with fail
 go_ret
 exact⟨rfl,blw_alloc _ _⟩

set_option maxHeartbeats 1000000 in
theorem of1_any (x:Need) (w:World):
  Calls Tryz.prog 86 (#[.agg #[.string ⟨x.1.toArray⟩,.bool x.2.1,.bool x.2.2]]++ #[]) w fun e w'=>e= .returned (.bool (x.2.1&&x.2.2))∧Below w.heap.size w w':=by
 obtain⟨a,n,c⟩:=x
 dsimp only
 show Calls _ _ #[_] _ _
 cases n with
 |false=>
  go_enter Tryz.func86,Tryz.ntmps86
  go_wp2_with fail
  go_ret
  exact⟨rfl,blw_alloc _ _⟩
 |true=>
  go_enter Tryz.func86,Tryz.ntmps86
  go_wp2_with fail
  go_ret
  exact⟨ret_bool (by simp),blw_alloc _ _⟩
theorem add1_at (args:Array Value) (w:World):(callFunc 158 args).run Tryz.prog w= .ok (.enter 158 args) w:=enters_of Tryz.func158 (by kernel_rfl) rfl args w
theorem of1_at (args:Array Value) (w:World):(callFunc 86 args).run Tryz.prog w= .ok (.enter 86 args) w:=enters_of Tryz.func86 (by kernel_rfl) rfl args w
open Go.RowKit
/-- an error's number; nought: none -/
def errN (n:Int):Value:=if n=0 then .nilIface else errV n
theorem dropWhile_all {p:UInt8→Bool}: ∀{l:List UInt8},l.dropWhile p= []↔l.all p=true
 | []=>by simp
 |b::l=>by
  by_cases h:p b=true
  ·simp[List.dropWhile,h,dropWhile_all]
  ·simp[List.dropWhile,h]
theorem trim_none (s cs:List UInt8):Lib.trimS s cs= []↔s.all (fun c=>cs.contains c)=true:=by
 unfold Lib.trimS Lib.trimLeftS Lib.trimRightS
 rw[dropWhile_all,List.all_reverse]
 constructor
 ·intro h
  by_cases hs:s.all (fun c=>cs.contains c)=true
  ·exact hs
  ·exfalso
   have h2:(s.reverse.dropWhile (cs.contains ·))≠ []:=fun e=>hs (by rw[←List.all_reverse];exact dropWhile_all.1 e)
   cases hd:s.reverse.dropWhile (cs.contains ·) with
   |nil=>exact h2 hd
   |cons x r=>
    have hx:cs.contains x=false:=by
     have:=List.head?_dropWhile_not (cs.contains ·) s.reverse
     rw[hd] at this
     simpa using this
    rw[hd] at h
    have:=List.all_eq_true.1 h x (by simp)
    rw[hx] at this
    exact absurd this (by simp)
 ·intro h
  rw[List.all_eq_true] at h⊢
  intro x hx
  exact h x (List.mem_reverse.1 ((List.dropWhile_sublist _).mem hx))
open Go.RowKit

/-- how long a text is -/
def strLen:Value→Nat| .string s=>s.size|_=>0

theorem ret_str {a b:List UInt8} (h:a=b):Ending.returned (.string ⟨a.toArray⟩)= .returned (.string ⟨b.toArray⟩):=by rw[h]
theorem size_mkl (l:List UInt8):(ByteArray.mk l.toArray).size=l.length:=by show l.toArray.size=_;simp
theorem strLen_mk (l:List UInt8):strLen (.string ⟨l.toArray⟩)=l.length:=size_mkl l
theorem add_str {P:Program} (x y:List UInt8) (h:x.length+y.length≤9223372036854775807) (w:World):
  (Op.stringOp .add ⟨x.toArray⟩ ⟨y.toArray⟩).run P w= .ok (.string ⟨(x++y).toArray⟩) w:=by
 rw[run_string_add_sum w _ _ (by rw[size_mkl,size_mkl];exact h),ByteArray.mk_append_mk]
/-- a slice of one new byte, as a text -/
theorem conv_one {P:Program} (src dst e:TypeId) (hs:P.underlying src=some (.slice e)) (he:P.underlying e=some (.int .u8)) (hd:P.underlying dst=some .string) (c:Int) (w:World) (h0:0≤c) (h1:c<256):
  (convert src dst (.slice (some ⟨w.heap.size,0,none⟩) 1 1)).run P (w.alloc (.cells #[.int .u8 c] e))= .ok (.string ⟨[UInt8.ofNat c.toNat].toArray⟩) (w.alloc (.cells #[.int .u8 c] e)):=by
 refine run_convert_bytes_back (w.alloc (.cells #[.int .u8 c] e)) src dst e ⟨w.heap.size,0,none⟩ 1 [UInt8.ofNat c.toNat] hs he hd fun j hj=>?_
 obtain rfl:j=0:=by simpa using hj
 have hc:(UInt8.ofNat c.toNat).toNat=c.toNat:=by rw[UInt8.toNat_ofNat'];omega
 have e1:((UInt8.ofNat c.toNat).toNat:Int)=c:=by rw[hc];omega
 simp only[List.getElem_cons_zero,e1]
 simp[Addr.add]
theorem size_list (l:List UInt8):(ByteArray.mk l.toArray).size=l.length:=by show l.toArray.size=_;simp
theorem index_str {P:Program} (t:TypeId) (h:P.underlying t=some .string) (L:List UInt8) (k:IntKind) (i:Nat) (c:UInt8) (hc:L[i]?=some c) (w:World):
  (Instr.index t (.string ⟨L.toArray⟩) (.int k i)).run P w= .ok (.int .u8 (c.toNat:Int)) w:=by
 have hl:i<L.length:=(List.getElem?_eq_some_iff.1 hc).1
 have hv:L[i]=c:=(List.getElem?_eq_some_iff.1 hc).2
 have hg:(⟨L.toArray⟩:ByteArray)[i]'(by rw[size_list];exact hl)=c:=by rw[←hv];rfl
 rw[run_index_string w t _ k i h,dif_pos ⟨by omega,by rw[size_list];omega⟩]
 simp only[Int.toNat_natCast,hg]
theorem slice_to {P:Program} (t:TypeId) (h:P.underlying t=some .string) (L:List UInt8) (k:IntKind) (j:Nat) (hj:j≤L.length) (w:World):
  (Instr.slice t (.string ⟨L.toArray⟩) none (some (.int k j)) none).run P w= .ok (.string ⟨(L.take j).toArray⟩) w:=by
 rw[run_slice_string_to_if w t _ k j h,if_pos ⟨by omega,by rw[size_list];omega⟩,ByteArray.extract_mk]
 simp
theorem slice_from {P:Program} (t:TypeId) (h:P.underlying t=some .string) (L:List UInt8) (k:IntKind) (i:Nat) (hi:i≤L.length) (w:World):
  (Instr.slice t (.string ⟨L.toArray⟩) (some (.int k i)) none none).run P w= .ok (.string ⟨(L.drop i).toArray⟩) w:=by
 rw[run_slice_string_from_if w t _ k i h,if_pos ⟨by omega,by rw[size_list];omega⟩,ByteArray.extract_mk,size_list]
 have e:(L.drop i).take (L.length-i)=L.drop i:=List.take_of_length_le (by simp)
 simp[e]
theorem slice_mid {P:Program} (t:TypeId) (h:P.underlying t=some .string) (L:List UInt8) (k k':IntKind) (i j:Nat) (hi:i≤j) (hj:j≤L.length) (w:World):
  (Instr.slice t (.string ⟨L.toArray⟩) (some (.int k i)) (some (.int k' j)) none).run P w= .ok (.string ⟨((L.drop i).take (j-i)).toArray⟩) w:=by
 rw[run_slice_string w t _ k k' i j h (by omega) (by omega) (by rw[size_list];omega),ByteArray.extract_mk]
 simp
open Go.RowKit

/-- only draws -/
def Drew (w w':World):Prop:= ∃n,w'=w.drewN n
theorem Drew.refl (w:World):Drew w w:=⟨0,rfl⟩
theorem drewN_drewN (w:World) (a b:Nat):(w.drewN a).drewN b=w.drewN (a+b):=by
 induction b with
 |zero=>rfl
 |succ b ih=>show((w.drewN a).drewN b).drew=(w.drewN (a+b)).drew;rw[ih]
theorem Drew.drewN {w w':World} (h:Drew w w') (n:Nat):Drew w (w'.drewN n):=by
 obtain⟨a,rfl⟩:=h
 exact⟨a+n,drewN_drewN w a n⟩
theorem Drew.drew {w w':World} (h:Drew w w'):Drew w w'.drew:=h.drewN 1
theorem Drew.below {w w':World} (h:Drew w w'):Below w.heap.size w w':=by
 obtain⟨a,rfl⟩:=h
 exact blw_drewN (Below.refl _ _) a
open Go.RowKit

/-- made of these bytes alone, so many -/
def onlyB (s of:List UInt8) (f t:Int):Bool:=s.all (fun c=>of.contains c)&&(decide (f≤(s.length:Int))&&decide ((s.length:Int)≤t))
theorem quiet_drew {P:Program} {f:FuncId} {args:Array Value} {w:World} {n:Nat} {v:Value}
  (h:Calls P f args (w.drewN n) fun e w'=>e= .returned v∧Drew (w.drewN n) w'):Calls P f args (w.drewN n) fun e w''=>e= .returned v∧ ∃m,w''=w.drewN m:=
 h.mono fun _ _ ⟨he,m,hm⟩=>⟨he,n+m,by rw[hm,drewN_drewN]⟩
theorem byte_eq {a b:UInt8}:((a.toNat:Int)==(b.toNat:Int))=(a==b):=by
 by_cases h:a=b
 ·subst h;simp
 ·rw[beq_eq_false_iff_ne.2 h]
  exact beq_eq_false_iff_ne.2 fun g=>h (UInt8.toNat_inj.1 (by omega))

set_option maxHeartbeats 1000000 in
theorem only_any (s of:List UInt8) (f t:Int) (w:World) (hs:s.length≤4000000000) (ho:of.length≤4000000000):
  Calls Tryz.prog 34 #[.string ⟨s.toArray⟩,.string ⟨of.toArray⟩,.int .i64 f,.int .i64 t] w fun e w'=>e= .returned (.bool (onlyB s of f t))∧Drew w w':=by
 generalize HPOST:onlyB s of f t=POST
 have HP:=Lib.hid HPOST
 clear HPOST
 go_enter Tryz.func34,Tryz.ntmps34
 go_wp2_with fail
 go_loopw [9,10,11] (fun i _ _ wr=> ∃k:Nat,i= .int .i64 k∧k≤s.length∧Hid (Drew w wr)∧Hid ((s.take k).all (fun c=>of.contains c)=true)) (fun i _ _ _=>s.length-(RowKit.intOf i).toNat)
 case atStart=>exact⟨0,rfl,Nat.zero_le _,Drew.refl _,Lib.hid rfl⟩
 case round=>
  obtain⟨k,rfl,hk,HW,HA⟩:=hrel
  by_cases hlt:k<s.length
  ·obtain⟨c,hc⟩: ∃c,s[k]?=some c:=⟨s[k],List.getElem?_eq_getElem hlt⟩
   have IX:=fun w=>index_str (P:= Tryz.prog) 9 Tryz.underlying9 s .i64 k c hc w
   have HC:=Lib.hid hc
   clear hc
   go_wp2_with fail
   obtain⟨wo,hwo⟩: ∃wo:World,wo=wr:=⟨_,rfl⟩
   subst hwo
   go_loopw [10,11] (fun b j wr=> ∃m:Nat,j= .int .i64 m∧m≤of.length∧Hid (Drew w wr)∧b= .bool ((of.take m).contains c)) (fun _ j _=>of.length-(RowKit.intOf j).toNat)
   case atStart=>exact⟨0,rfl,Nat.zero_le _,HW,rfl⟩
   case round=>
    obtain⟨m,rfl,hm,HW',rfl⟩:=hrel
    clear HW
    by_cases hlm:m<of.length
    ·obtain⟨x,hx⟩: ∃x,of[m]?=some x:=⟨of[m],List.getElem?_eq_getElem hlm⟩
     have IX2:=fun w=>index_str (P:= Tryz.prog) 9 Tryz.underlying9 of .i64 m x hx w
     have HS:=Lib.hid (show(of.take (m+1)).contains c=((of.take m).contains c||(c==x)) by
      rw[List.take_add_one,hx,Bool.eq_iff_iff];simp[List.contains_eq_mem,List.mem_append])
     have hcx:=byte_eq (a:=c) (b:=x)
     clear hx
     generalize (of.take m).contains c=b at*
     cases b
     ·go_wp2_with fail
      go_quiet (fail)
      go_wp2_with fail
      go_roundw
      case rel=>exact⟨m+1,by go_num,by omega,HW'.out.drewN _,by rw[HS.out];simp⟩
      case measure=>simp[RowKit.intOf];omega
     ·go_wp2_with fail
      go_quiet (fail)
      go_wp2_with fail
      go_roundw
      case rel=>exact⟨m+1,by go_num,by omega,HW'.out.drewN _,by rw[HS.out];simp⟩
      case measure=>simp[RowKit.intOf];omega
    ·have HM:=Lib.hid (show(of.take m).contains c=of.contains c by rw[List.take_of_length_le (by omega)])
     generalize (of.take m).contains c=b at*
     cases b
     ·have HN:=Lib.hid (show onlyB s of f t=false by
       unfold onlyB
       rw[show s.all (fun c=>of.contains c)=false from List.all_eq_false.2 ⟨c,List.mem_of_getElem? HC.out,by rw[←HM.out];decide⟩]
       rfl)
      clear HM
      go_wp2_with fail
      go_ret
      exact⟨ret_bool (by rw[←HP.out,HN.out]),HW'.out⟩
     ·have HN:=Lib.hid (show(s.take (k+1)).all (fun c=>of.contains c)=true by
       rw[List.take_add_one,HC.out,List.all_append,HA.out];simpa using HM.out.symm)
      clear HM
      go_wp2_with fail
      first|exact⟨⟨k+1,by go_num,by omega,HW',HN⟩,by simp[RowKit.intOf];omega⟩|(refine⟨?_,?_⟩;exact⟨_,_,_,_,⟨k+1,by go_num,by omega,HW',HN⟩,rfl⟩;simp[RowKit.intOf];omega)
  ·have HN:=Lib.hid (show onlyB s of f t=(decide (f≤(s.length:Int))&&decide ((s.length:Int)≤t)) by
    have h:=HA.out
    rw[List.take_of_length_le (by omega)] at h
    unfold onlyB;rw[h];rfl)
   by_cases h1:f≤(s.length:Int)
   ·have e1:decide (f≤(s.length:Int))=true:=dec_yes h1
    go_wp2_with fail
    go_ret
    exact⟨ret_bool (by rw[←HP.out,HN.out,e1];first|rfl|simp),HW.out⟩
   ·have e1:decide (f≤(s.length:Int))=false:=dec_no h1
    go_wp2_with fail
    go_ret
    exact⟨ret_bool (by rw[←HP.out,HN.out,e1];first|rfl|simp),HW.out⟩
open Go.RowKit
namespace Ms
def lowL:List UInt8:= [97,98,99,100,101,102,103,104,105,106,107,108,109,110,111,112,113,114,115,116,117,118,119,120,121,122]
def namL:List UInt8:= [97,98,99,100,101,102,103,104,105,106,107,108,109,110,111,112,113,114,115,116,117,118,119,120,121,122,48,49,50,51,52,53,54,55,56,57,95]
def nameB (s:List UInt8):Bool:=(s.all (fun c=>namL.contains c)&&(decide (1≤s.length)&&decide (s.length≤20)))&&lowL.contains (s.headD 0)
theorem nam_small: ∀b∈namL,b.toNat<128:=by decide
end Ms
theorem index_neg: ∀(l:List UInt8) (c:UInt8),-1≤Lib.indexByte l c∧(0≤Lib.indexByte l c↔c∈l)
 | [],c=>⟨by simp[Lib.indexByte],by simp[Lib.indexByte]⟩
 |b::l,c=>by
  obtain⟨i1,i2⟩:=index_neg l c
  unfold Lib.indexByte
  by_cases h:b=c
  ·subst h;simp
  ·have hb:(b==c)=false:=beq_eq_false_iff_ne.2 h
   have hc: ¬c=b:=fun e=>h e.symm
   rw[hb,if_neg (by simp)]
   by_cases h1:Lib.indexByte l c= -1
   ·rw[h1]
    have:c∉l:=fun e=>by have:=i2.2 e;omega
    simp[this,hc]
   ·have hh:(Lib.indexByte l c== -1)=false:=beq_eq_false_iff_ne.2 h1
    rw[hh,if_neg (by simp)]
    have h0:0≤Lib.indexByte l c:=by omega
    refine⟨by omega,⟨fun _=>List.mem_cons_of_mem _ (i2.1 h0),fun _=>by omega⟩⟩
theorem trimM_any (s:List UInt8) (w:World) (hs:s.length≤4000000000):
  Calls Tryz.prog 87 #[.string ⟨s.toArray⟩,.string ⟨#[97,98,99,100,101,102,103,104,105,106,107,108,109,110,111,112,113,114,115,116,117,118,119,120,121,122,48,49,50,51,52,53,54,55,56,57,95]⟩] w fun e w'=>e= .returned (.string ⟨(Lib.trimS s Ms.namL).toArray⟩)∧Below w.heap.size w w':=
 Any.strings_Trim_laid Tryz.lays160 (by kernel_rfl) ⟨s.toArray⟩ ⟨Ms.namL.toArray⟩ w (by rw[size_mkl];omega) (by decide) (fun j b hb=>Ms.nam_small b (List.mem_of_getElem? (i:=j) hb))
theorem lowb_any (x:UInt8) (w:World):Calls Tryz.prog 88 #[.string ⟨#[97,98,99,100,101,102,103,104,105,106,107,108,109,110,111,112,113,114,115,116,117,118,119,120,121,122]⟩,.int .u8 (x.toNat:Int)] w fun e w'=>e= .returned (.int .i64 (Lib.indexByte Ms.lowL x))∧w=w':=by
 have h:= Tryz.strings_IndexByte ⟨#[97,98,99,100,101,102,103,104,105,106,107,108,109,110,111,112,113,114,115,116,117,118,119,120,121,122]⟩ (x.toNat:Int) w
 rw[show((x.toNat:Int).toNat.toUInt8)=x by simp] at h
 exact h.mono fun _ _ g=>⟨g.1,g.2.symm⟩

set_option maxHeartbeats 2000000 in
theorem mname_any (s:List UInt8) (w:World) (hs:s.length≤4000000000):
  Calls Tryz.prog 56 #[.string ⟨s.toArray⟩] w fun e w'=>e= .returned (.bool (Ms.nameB s))∧Below w.heap.size w w':=by
 cases s with
 |nil=>
  go_enter Tryz.func56,Tryz.ntmps56
  go_wp2_with fail
  go_ret
  exact⟨ret_bool (by decide),Below.refl _ _⟩
 |cons x r=>
  have CT:=Lib.hid fun w=>trimM_any (x::r) w hs
  have CB:=Lib.hid fun w=>lowb_any x w
  have HD:Hid ((x::r).all (fun c=>Ms.namL.contains c)=decide (Lib.trimS (x::r) Ms.namL= [])):=Lib.hid (by
   rw[Bool.eq_iff_iff,decide_eq_true_iff,trim_none])
  have IX:=fun w=>index_str (P:= Tryz.prog) 9 Tryz.underlying9 (x::r) .i64 0 x rfl w
  rw[show((0:Nat):Int)=0 from rfl] at IX
  have hx:=index_neg Ms.lowL x
  have e0:Ms.nameB (x::r)=((x::r).all (fun c=>Ms.namL.contains c)&&decide ((x::r).length≤20)&&Ms.lowL.contains x):=by
   unfold Ms.nameB
   rw[decide_eq_true (show 1≤(x::r).length by simp),Bool.true_and];rfl
  rw[e0]
  have hc:Ms.lowL.contains x=decide (0≤Lib.indexByte Ms.lowL x):=by
   rw[Bool.eq_iff_iff,decide_eq_true_iff,hx.2,List.contains_iff_mem]
  rw[hc]
  have hne:(x::r).isEmpty=false:=rfl
  have hn0:((x::r)== [])=false:=rfl
  have l0:(0:Int)<((x::r).length:Int):=by simp only[List.length_cons];omega
  generalize Lib.indexByte Ms.lowL x=I at*
  generalize (x::r).all (fun c=>Ms.namL.contains c)=A at*
  generalize Lib.trimS (x::r) Ms.namL=T at*
  generalize hS:x::r=S at*
  clear hS e0 hc hx hs
  by_cases h5:S.length≤20
  ·have h6:(S.length:Int)≤20:=by omega
   rw[decide_eq_true h5]
   cases T with
   |nil=>
    go_enter Tryz.func56,Tryz.ntmps56
    go_wp2_with fail
    refine(CT.out _).mono ?_
    rintro e w1 ⟨rfl,hb⟩
    have W:=Lib.hid hb
    clear hb
    go_wp2_with fail
    refine(CB.out _).mono ?_
    rintro e w' ⟨rfl,rfl⟩
    go_wp2_with fail
    go_ret
    exact⟨ret_bool (by rw[HD.out];simp),W.out⟩
   |cons y z=>
    go_enter Tryz.func56,Tryz.ntmps56
    go_wp2_with fail
    refine(CT.out _).mono ?_
    rintro e w1 ⟨rfl,hb⟩
    have W:=Lib.hid hb
    clear hb
    go_wp2_with fail
    go_ret
    exact⟨ret_bool (by rw[HD.out];simp),W.out⟩
  ·have h6: ¬(S.length:Int)≤20:=by omega
   rw[decide_eq_false h5]
   go_enter Tryz.func56,Tryz.ntmps56
   go_wp2_with fail
   go_ret
   exact⟨ret_bool (by simp),Below.refl _ _⟩

set_option maxHeartbeats 2000000 in
theorem qname_any (s:List UInt8) (w:World) (hs:s.length≤4000000000):
  Calls Tryz.prog 15 #[.string ⟨s.toArray⟩] w fun e w'=>e= .returned (.bool (Ms.nameB s))∧Below w.heap.size w w':=by
 have C1:=Lib.hid fun w=>(only_any s Ms.namL 1 20 w hs (by decide)).mono fun e w' (h:e= .returned (.bool (onlyB s Ms.namL 1 20))∧Drew w w')=>(⟨h.1,by obtain⟨n,rfl⟩:=h.2;exact blw_drewN (Below.refl _ _) n⟩:e= .returned (.bool (onlyB s Ms.namL 1 20))∧Below w.heap.size w w')
 have e1:onlyB s Ms.namL 1 20=(s.all (fun c=>Ms.namL.contains c)&&(decide (1≤s.length)&&decide (s.length≤20))):=by
  unfold onlyB
  have a1:decide ((1:Int)≤(s.length:Int))=decide (1≤s.length):=by
   rw[Bool.eq_iff_iff,decide_eq_true_iff,decide_eq_true_iff];omega
  have a2:decide ((s.length:Int)≤20)=decide (s.length≤20):=by
   rw[Bool.eq_iff_iff,decide_eq_true_iff,decide_eq_true_iff];omega
  rw[a1,a2]
 rw[e1] at C1
 unfold Ms.nameB
 cases hA:(s.all (fun c=>Ms.namL.contains c)&&(decide (1≤s.length)&&decide (s.length≤20))) with
 |false=>
  rw[hA] at C1
  clear hA e1
  go_enter Tryz.func15,Tryz.ntmps15
  go_wp2_with fail
  refine(C1.out _).mono ?_
  rintro e w1 ⟨rfl,hb⟩
  have W:=Lib.hid hb
  clear hb
  go_wp2_with fail
  go_ret
  exact⟨ret_bool (by simp),W.out⟩
 |true=>
  rw[hA] at C1
  have h1:1≤s.length:=by
   rw[Bool.and_eq_true,Bool.and_eq_true,decide_eq_true_iff,decide_eq_true_iff] at hA;exact hA.2.1
  obtain⟨x,r,rfl⟩: ∃x r,s=x::r:=by
   cases s with
   |nil=>simp at h1
   |cons x r=>exact⟨x,r,rfl⟩
  have SL:=fun w=>slice_to (P:= Tryz.prog) 9 Tryz.underlying9 (x::r) .i64 1 (by simp) w
  rw[show((1:Nat):Int)=1 from rfl] at SL
  have C2:=Lib.hid fun w=>(only_any [x] Ms.lowL 1 1 w (by simp) (by decide)).mono fun e w' (h:e= .returned (.bool (onlyB [x] Ms.lowL 1 1))∧Drew w w')=>(⟨h.1,by obtain⟨n,rfl⟩:=h.2;exact blw_drewN (Below.refl _ _) n⟩:e= .returned (.bool (onlyB [x] Ms.lowL 1 1))∧Below w.heap.size w w')
  have e2:onlyB [x] Ms.lowL 1 1=Ms.lowL.contains x:=by unfold onlyB;simp
  rw[e2] at C2
  have e3:((x::r).headD 0)=x:=rfl
  rw[e3]
  have e4:(x::r).take 1= [x]:=rfl
  rw[e4] at SL
  generalize Ms.lowL.contains x=B at*
  generalize x::r=S at*
  clear hA e1 e2 e3 e4 h1
  go_enter Tryz.func15,Tryz.ntmps15
  go_wp2_with fail
  refine(C1.out _).mono ?_
  rintro e w1 ⟨rfl,hb⟩
  have W:=Lib.hid hb
  clear hb
  go_wp2_with fail
  refine(C2.out _).mono ?_
  rintro e w2 ⟨rfl,hb⟩
  have W2:=Lib.hid (blw_trans W.out hb)
  clear hb
  go_wp2_with fail
  go_ret
  exact⟨ret_bool (by simp),W2.out⟩
end Go.Proofs.YtldbfkccieipjaaGreatDoor
