/- The walk of linguisterref1.RelOf: what the reference reads of a relation's text. Condition: the text is short. -/
import Derived.Test.YtjlchookakbomaaGreatDoorEi18
set_option maxHeartbeats 8000000
set_option maxRecDepth 100000
namespace Go.Proofs.YtjlchookakbomaaGreatDoor
open Go.RowKit
namespace Ms
end Ms
open Go.RowKit
abbrev stV (t:List UInt8):Value:=txtV t
structure OutI (B p q:Nat) (us:Array Value) (s:List (List UInt8)) (v:Value) (w:World):Prop where
 box:Boxed w p #[v]
 row:w.ownsRow B 9 1 v s.length (s.map stV)
 ne:v.ownBlock≠some p
 ge:B≤p
 set:Boxed w q us
 qp:q≠p
 qv:v.ownBlock≠some q
structure Turn (p:Nat) (v:Value) (w:World) (v':Value) (w':World):Prop where
 os:w'.os=w.os
 tape:w'.tape=w.tape
 output:w'.output=w.output
 size:w.heap.size≤w'.heap.size
 block: ∀k,k<w.heap.size→k≠p→v.ownBlock≠some k→w'.heap[k]?=w.heap[k]?
 at':v'.ownBlock=v.ownBlock∨ ∃k,v'.ownBlock=some k∧w.heap.size≤k
section
variable {B p q:Nat} {us:Array Value} {s:List (List UInt8)} {v v1 v2:Value} {w w1 w2:World}
theorem Turn.below (h:Below w.heap.size w w1):Turn p v w v w1:=⟨h.os,h.tape,h.output,h.size,fun k hk _ _=>h.block k hk,.inl rfl⟩
theorem Turn.trans (h:Turn p v w v1 w1) (g:Turn p v1 w1 v2 w2):Turn p v w v2 w2:=by
 refine⟨g.os.trans h.os,g.tape.trans h.tape,g.output.trans h.output,Nat.le_trans h.size g.size,fun k hk hp hv=>?_,?_⟩
 ·refine(g.block k (Nat.lt_of_lt_of_le hk h.size) hp (fun e=>?_)).trans (h.block k hk hp hv)
  rcases h.at' with e1|⟨j,e1,hj⟩
  ·rw[e1] at e;exact hv e
  rw[e1] at e;injection e with e;omega
 rcases g.at' with e|⟨j,e,hj⟩
 ·rcases h.at' with e1|⟨i,e1,hi⟩
  ·exact .inl (e.trans e1)
  exact .inr ⟨i,e.trans e1,hi⟩
 exact .inr ⟨j,e,Nat.le_trans h.size hj⟩
theorem Turn.boxed {k:Nat} {vs:Array Value} (h:Turn p v w v1 w1) (hb:Boxed w k vs) (hp:k≠p) (hv:v.ownBlock≠some k):Boxed w1 k vs:=by
 have e:=h.block k hb.lt hp hv
 exact⟨Nat.lt_of_lt_of_le hb.lt h.size,fun j x hx=>(World.cell?_of_block e).trans (hb.cell j x hx),fun j hj=>(World.frozen?_of_block e).trans (hb.free j hj)⟩
theorem Turn.keep {k:Nat} {vs:Array Value} (h:Turn p v w v1 w1) (hb:Boxed w k vs∧v.ownBlock≠some k) (hp:k≠p):Boxed w1 k vs∧v1.ownBlock≠some k:=by
 refine⟨h.boxed hb.1 hp hb.2,fun e=>?_⟩
 rcases h.at' with e1|⟨j,e1,hj⟩
 ·rw[e1] at e;exact hb.2 e
 rw[e1] at e;injection e with e;have:=hb.1.lt;omega
theorem Turn.base {W0:World} (h:Turn p v w v1 w1) (hb:Below B W0 w) (hp:B≤p) (hv: ∀k,v.ownBlock=some k→B≤k) (hB:B≤w.heap.size):Below B W0 w1:=
 ⟨h.os.trans hb.os,h.tape.trans hb.tape,h.output.trans hb.output,Nat.le_trans hb.size h.size,fun k hk=>(h.block k (by omega) (by omega) (fun e=>by have:=hv k e;omega)).trans (hb.block k hk)⟩
theorem OutI.below (h:OutI B p q us s v w) (hb:Below w.heap.size w w1):OutI B p q us s v w1:=
 ⟨h.box.below hb,h.row.kept (row:=none) ⟨hb.os,hb.tape,hb.output,hb.size,fun k hk _=>hb.block k hk⟩ (by cases v.ownBlock<;>simp),h.ne,h.ge,h.set.below hb,h.qp,h.qv⟩
theorem OutI.base {W0:World} (h:OutI B p q us s v w) (t:Turn p v w v1 w1) (hb:Below B W0 w):Below B W0 w1:=
 t.base hb h.ge (fun k e=>(h.row.lt k e).1) (Nat.le_trans h.ge (Nat.le_of_lt h.box.lt))
theorem OutI.isSlice (h:OutI B p q us s v w): ∃a c,v= .slice a s.length c:=by
 rcases h.row.2 with⟨rfl,h0⟩|⟨g,cap,cur,rfl,_⟩
 ·exact⟨none,0,by rw[h0]⟩
 exact⟨_,_,rfl⟩
end
open Go.RowKit

def strC (l:List (List UInt8)):Array Value:=(l.map fun t=>Value.string ⟨t.toArray⟩).toArray
theorem zCZ {l:List (List UInt8)} {k:Nat} {x:List UInt8} (h:l[k]?=some x):(strC l)[k]?=some (.string ⟨x.toArray⟩):=by
 unfold strC
 simp[h]

theorem zGE (t0 t1 t2 t3 t4:List UInt8) (w:World):
  Calls Tryz.prog 119 #[.agg #[.string ⟨t0.toArray⟩,.string ⟨t1.toArray⟩,.string ⟨t2.toArray⟩,.string ⟨t3.toArray⟩,.string ⟨t4.toArray⟩]] w fun e w'=> ∃b,e= .returned (.slice (some ⟨b,0,none⟩) 5 5)∧Boxed w' b (strC [t0,t1,t2,t3,t4])∧Below w.heap.size w w':=by
 have W2:=lH ((bA w (.cells #[.string ⟨t0.toArray⟩,.string ⟨t1.toArray⟩,.string ⟨t2.toArray⟩,.string ⟨t3.toArray⟩,.string ⟨t4.toArray⟩] 58)).alloc (by simp) (.cells #[.string ⟨t0.toArray⟩,.string ⟨t1.toArray⟩,.string ⟨t2.toArray⟩,.string ⟨t3.toArray⟩,.string ⟨t4.toArray⟩] 9))
 have B2:=lH (Boxed.made (w.alloc (.cells #[.string ⟨t0.toArray⟩,.string ⟨t1.toArray⟩,.string ⟨t2.toArray⟩,.string ⟨t3.toArray⟩,.string ⟨t4.toArray⟩] 58)) #[.string ⟨t0.toArray⟩,.string ⟨t1.toArray⟩,.string ⟨t2.toArray⟩,.string ⟨t3.toArray⟩,.string ⟨t4.toArray⟩] 9)
 simp only[World.size_alloc] at B2
 go_enter Tryz.func119,Tryz.ntmps119
 go_wp2
 go_ret
 exact⟨_,rfl,B2.out,W2.out⟩
theorem zJP (w:World):
  Calls Tryz.prog 67 #[] w fun e w'=> ∃b,e= .returned (.slice (some ⟨b,0,none⟩) 5 5)∧Boxed w' b (strC Rul.kindL)∧Below w.heap.size w w':=by
 have B:=lH (Boxed.made w (strC Rul.kindL) 9)
 go_enter Tryz.func67,Tryz.ntmps67
 go_wp2
 go_ret
 exact⟨_,rfl,B.out,bA _ _⟩
open Go.RowKit Ms

structure RefI (B k b:Nat) (us ss:Array Value) (s:List (List UInt8)) (v:Value) (w:World):Prop where
 row:w.ownsRow B 9 1 v s.length (s.map stV)
 set:Boxed w k us
 txt:Boxed w b ss
 nk:v.ownBlock≠some k
 nb:v.ownBlock≠some b
section
variable {B k b:Nat} {us ss:Array Value} {s:List (List UInt8)} {v:Value} {w w':World}
theorem RefI.below (h:RefI B k b us ss s v w) (hb:Below w.heap.size w w'):RefI B k b us ss s v w':=⟨zAq h.row hb,h.set.below hb,h.txt.below hb,h.nk,h.nb⟩
theorem RefI.app {t:List (List UInt8)} {v':Value} {m:Nat} (h:RefI B k b us ss s v w) (hm:t.length=m) (ho:w'.ownsRow B 9 1 v' (s.length+m) (s.map stV++t.map stV)) (hg:w.grownBy w' v.ownBlock) (hat:v'.ownBlock=v.ownBlock∨v'.ownBlock=some w.heap.size):RefI B k b us ss (s++t) v' w':=by
 refine⟨by rw[List.length_append,List.map_append,hm];exact ho,zA5 h.set hg (fun e=>h.nk e.symm),zA5 h.txt hg (fun e=>h.nb e.symm),?_,?_⟩
 ·rcases hat with e|e
  ·rw[e];exact h.nk
  rw[e];intro g;injection g with g;have:=h.set.lt;omega
 rcases hat with e|e
 ·rw[e];exact h.nb
 rw[e];intro g;injection g with g;have:=h.txt.lt;omega
theorem RefI.isSlice (h:RefI B k b us ss s v w): ∃a c,v= .slice a s.length c:=zAw h.row
theorem RefI.grown {W0:World} (h:RefI B k b us ss s v w) (hb:Below B W0 w) (hB:B≤w.heap.size) (hg:w.grownBy w' v.ownBlock):Below B W0 w':=hb.grown hg hB (fun k hk=>(h.row.lt k hk).1)
end
open Go.RowKit Ms
namespace Ms
def keyN (cs:Cs) (k:List UInt8):Int:=match keyI cs k with|some i=>(i:Int)|none=> -1
theorem zIH {cs:Cs} {k:Nat} {y:List UInt8×List Nd} {key:List UInt8} (h:cs[k]?=some y) (h0:(cs.take k).any (fun y=>y.1==key)=false) (h1:(y.1==key)=true):keyN cs key=(k:Int):=by
 obtain⟨hk,e⟩:=List.getElem?_eq_some_iff.1 h
 have hI:cs.findIdx? (fun y=>y.1==key)=some k:=List.findIdx?_eq_some_iff_getElem.2 ⟨hk,by rw[e];exact h1,fun j hj=>by
  have hm:cs[j]'(by omega)∈cs.take k:=List.mem_take_iff_getElem.2 ⟨j,by omega,rfl⟩
  exact List.any_eq_false.1 h0 _ hm⟩
 unfold keyN keyI
 rw[hI]
theorem zMI {cs:Cs} {key:List UInt8} (h:cs.any (fun y=>y.1==key)=false):keyN cs key= -1:=by
 unfold keyN keyI
 rw[List.findIdx?_eq_none_iff.2 fun y hy=>by simpa using List.any_eq_false.1 h y hy]
end Ms
theorem zEp {f:Nat} (K:Int) (T:List UInt8) (O:Int) (cs:Cs) (a:Option Addr) (n c:Nat) (key:List UInt8) (w:World) (h:CassAt f w (.slice a n c) cs) (hl:cs.length≤2000000):
  Calls Tryz.prog 47 #[.agg #[.int .i64 K,.string ⟨T.toArray⟩,.int .i64 O,.slice a n c],.string ⟨key.toArray⟩] w fun e w'=>e= .returned (.int .i64 (keyN cs key))∧Below w.heap.size w w':=by
 obtain⟨A,cap,e0,_,hel⟩:=h.spread
 injection e0 with e1 e2 e3
 subst e1 e2 e3
 have hcap:cs.length≤c∨cs.length=0:=by
  rcases h with⟨e,_⟩|⟨_,_,_,e,_,q,_,_⟩
  ·exact .inr (by rw[e];rfl)
  injection e with _ _ e;exact .inl (by omega)
 have HX:=lH hel
 have BX:=lH (Boxed.made w #[.int .i64 K,.string ⟨T.toArray⟩,.int .i64 O,.slice a cs.length c] 51)
 have W0:=lH (bA w (.cells #[.int .i64 K,.string ⟨T.toArray⟩,.int .i64 O,.slice a cs.length c] 51))
 have HF:=lH fun (k:Nat) (y:List UInt8×List Nd) (h:cs[k]?=some y) (h0:(cs.take k).any (fun y=>y.1==key)=false) (h1:(y.1==key)=true)=>zIH h h0 h1
 have HG:=lH fun (h:cs.any (fun y=>y.1==key)=false)=>zMI h
 clear h hel
 generalize keyN cs key=R at*
 generalize hN:cs.length=N at*
 go_enter Tryz.func47,Tryz.ntmps47
 go_wp2_with fail
 generalize w.alloc (.cells #[.int .i64 K,.string ⟨T.toArray⟩,.int .i64 O,.slice a N c] 51)=w1 at*
 have x3:=BX.out.cell 3 _ rfl
 have xl:=BX.out.lt
 clear BX
 go_loopw [5] (fun vi wr=> ∃k:Nat,vi= .int .i64 (k:Int)∧k≤N∧Hid ((cs.take k).any (fun y=>y.1==key)=false)∧w1=wr) (fun vi _=>N-(RowKit.intOf vi).toNat)
 case atStart=>exact⟨0,rfl,Nat.zero_le _,lH rfl,rfl⟩
 case round=>
  obtain⟨k,rfl,hk,HA,rfl⟩:=hrel
  by_cases hlt:k<N
  ·have hk':(k:Int)<(N:Int):=by omega
   have hcc:N≤c:=by omega
   obtain⟨y,hyk⟩: ∃y,cs[k]?=some y:=⟨cs[k]'(by omega),List.getElem?_eq_getElem (by omega)⟩
   obtain⟨b,off,rfl,a9,n9,c9,p0,_⟩:=HX.out k y hyk
   have g0:=cK p0 W0.out
   have HY:=lH (HF.out k y hyk HA.out)
   have HAN:=lH fun (h:(y.1==key)=false)=>(show(cs.take (k+1)).any (fun y=>y.1==key)=false by rw[any_take' hyk,HA.out,h];rfl)
   have wk:IntKind.i64.wrap ((k:Int)+1)=(k:Int)+1:=IntWalk.i64_in _ (by omega)
   obtain⟨ky,bd⟩:=y
   dsimp only at g0 HY HAN
   clear p0 hyk HX HF HG
   cases ht:ky==key with
   |true=>
    have hY:=lH (HY.out ht)
    go_wp2_with fail
    go_ret
    exact⟨zAl hY.out.symm,W0.out⟩
   |false=>
    have HA2:=lH (HAN.out ht)
    clear HAN HA HY
    go_wp2_with fail
    go_roundw
    case rel=>exact⟨k+1,by go_num,by omega,HA2,trivial⟩
    case measure=>simp[RowKit.intOf];omega
  have hk': ¬(k:Int)<(N:Int):=by omega
  have hA:=HA.out
  rw[List.take_of_length_le (by omega)] at hA
  have hR:=lH (HG.out hA)
  go_wp2_with fail
  go_ret
  exact⟨zAl hR.out.symm,W0.out⟩
open Go.RowKit
open Dcm (P10 okD)

end Go.Proofs.YtjlchookakbomaaGreatDoor
namespace Rul
open Go Go.Lib

def rngQ (z:List UInt8):Int×Int:=(Byt.numP (((split z [46,46])[0]?).getD []),Byt.numP (((split z [46,46]).getLast?).getD []))
def wordsQ:List (List UInt8)→Rl
 | [c]::u::v::r=>
  if u= [37]∧r.length=2 then ⟨c,Byt.numP v,decide ((r[0]?).getD []= [33,61]),(split ((r[1]?).getD []) [44]).map rngQ⟩
  else ⟨c,0,decide (u= [33,61]),(split v [44]).map rngQ⟩
 |_=>⟨0,0,false,[]⟩
def relQ (s:List UInt8):Rl:=wordsQ (split s [32])
def partQ (s:List UInt8):List Rl:=(split s andS).map relQ
def ruleQ (s:List UInt8):Rule:=(split s orS).map partQ
def okQ (s:List UInt8):Bool:=decide (ruleE (ruleQ s)=0)&&(ruleT (ruleQ s)==s)

theorem zEN {v:Int} (h0:0≤v) (h1:v≤1000000):Byt.numP (dg v)=v:=by
 have:=Byt.zFT v.toNat (by omega)
 unfold dg
 rw[this]
 omega
theorem zNB (p:Int×Int) (h:rngOk p=true):rngQ (rngT p)=p:=by
 obtain⟨a,b⟩:=p
 simp only[rngOk,Bool.and_eq_true,decide_eq_true_eq] at h
 obtain⟨⟨h0,h1⟩,h2⟩:=h
 have na:=zEN (v:=a) h0 (by omega)
 have nb:=zEN (v:=b) (by omega) h2
 unfold rngQ rngT
 dsimp only
 split
 ·rename_i e
  subst e
  rw[split_none (c:=46) (by simp) (zCb (by decide))]
  simp[na]
 rw[zFI (c:=46) (k:=0) _ rfl (by simp) (zCb (by decide)),split_none (c:=46) (by simp) (zCb (by decide))]
 simp[na,nb]
theorem zII {r:Rl} (h:relOk r=true):(split (join (r.rs.map rngT) [44]) [44]).map rngQ=r.rs:=by
 obtain⟨_,_,_,h3,h4⟩:=zAT h
 rw[zAY (c:=44) (k:=0) rfl (by simp) (by simpa using h3) (fun p hp=>by obtain⟨x,_,rfl⟩:=List.mem_map.1 hp;exact zEu (by decide)),List.map_map]
 rw[List.map_congr_left (f:=rngQ∘rngT) (g:=id) (fun p hp=>zNB p (h4 p hp))]
 simp
theorem zNW {c:UInt8} (h:opOk c=true):(32:UInt8)∉ [c]:=by
 rcases zBr h with e|e|e|e|e|e<;>rw[e]<;>decide
theorem zIJ {r:Rl} (h:relOk r=true):split (relT r) [32]=(if r.mod=0 then [[r.op]] else [[r.op],[37],dg r.mod])++ [if r.no then [33,61] else [61],join (r.rs.map rngT) [44]]:=by
 obtain⟨h0,_,_,h3,h4⟩:=zAT h
 have hj:(32:UInt8)∉join (r.rs.map rngT) [44]:=zEw (by decide)
 have hd:(32:UInt8)∉dg r.mod:=zCb (by decide)
 have ho:=zNW h0
 have hn:(32:UInt8)∉(if r.no then [33,61] else [61]:List UInt8):=by split<;>decide
 have e:relT r=join ((if r.mod=0 then [[r.op]] else [[r.op],[37],dg r.mod])++ [if r.no then [33,61] else [61],join (r.rs.map rngT) [44]]) [32]:=by
  unfold relT headT
  split<;>split<;>simp[join,List.intercalate,List.intersperse,pcS,neS,eqS]
 rw[e]
 refine zAY (c:=32) (k:=0) rfl (by simp) (by simp) (fun p hp=>?_)
 rcases List.mem_append.1 hp with hp|hp
 ·split at hp
  ·simp at hp;subst hp;exact ho
  simp at hp
  rcases hp with rfl|rfl|rfl
  ·exact ho
  ·decide
  exact hd
 simp only[List.mem_cons,List.not_mem_nil,or_false] at hp
 rcases hp with rfl|rfl
 ·exact hn
 exact hj
theorem words3 (c:UInt8) (u v:List UInt8):wordsQ [[c],u,v]=⟨c,0,decide (u= [33,61]),(split v [44]).map rngQ⟩:=by
 show(if u= [37]∧([]:List (List UInt8)).length=2 then _ else _)=_
 rw[if_neg (by simp)]
theorem words5 (c:UInt8) (v x y:List UInt8):wordsQ [[c],[37],v,x,y]=⟨c,Byt.numP v,decide (x= [33,61]),(split y [44]).map rngQ⟩:=by
 unfold wordsQ
 simp
theorem zNC (r:Rl) (h:relOk r=true):relQ (relT r)=r:=by
 obtain⟨_,h1,h2,_,_⟩:=zAT h
 unfold relQ
 rw[zIJ h]
 have hs:=zII h
 have hm:=zEN h1 h2
 obtain⟨op,mod,no,rs⟩:=r
 dsimp only at*
 by_cases hz:mod=0
 ·subst hz
  rw[if_pos rfl]
  show wordsQ [[op],(if no then [33,61] else [61]),join (rs.map rngT) [44]]=_
  rw[words3,hs]
  cases no<;>simp
 rw[if_neg hz]
 show wordsQ [[op],[37],dg mod,(if no then [33,61] else [61]),join (rs.map rngT) [44]]=_
 rw[words5,hs,hm]
 cases no<;>simp
theorem zMJ (l:List Rl) (h:partOk l=true):partQ (partT l)=l:=by
 obtain⟨h1,h2⟩:=zAE h
 unfold partQ partT
 rw[zAY (c:=97) (k:=1) rfl (by decide) (by simpa using h1) (fun p hp=>by obtain⟨x,hx,rfl⟩:=List.mem_map.1 hp;exact zEy (zFE (h2 x hx)) (by simp)),List.map_map]
 rw[List.map_congr_left (f:=relQ∘relT) (g:=id) (fun p hp=>zNC p (h2 p hp))]
 simp
theorem zMK (r:Rule) (h:shapeOk r=true):ruleQ (ruleT r)=r:=by
 obtain⟨h1,h2⟩:=zAC h
 unfold ruleQ ruleT
 rw[zAY (c:=111) (k:=1) rfl (by decide) (by simpa using h1) (fun p hp=>by obtain⟨x,hx,rfl⟩:=List.mem_map.1 hp;exact zFL (h2 x hx)),List.map_map]
 rw[List.map_congr_left (f:=partQ∘partT) (g:=id) (fun p hp=>zMJ p (h2 p hp))]
 simp
theorem zHR {s:List UInt8}:okQ s=true↔ruleE (ruleQ s)=0∧ruleT (ruleQ s)=s:=by
 unfold okQ
 simp
theorem zML (s:List UInt8):okQ s=parseOk s∧(parseOk s=true→ruleQ s=ruleP s):=by
 have h1:okQ s=true→parseOk s=true∧ruleP s=ruleQ s:=fun h=>by
  obtain⟨e,t⟩:=zHR.1 h
  have:=zAu e
  rwa [t] at this
 have h2:parseOk s=true→okQ s=true∧ruleQ s=ruleP s:=fun h=>by
  obtain⟨e,t⟩:=zA3.1 h
  have q:=zMK (ruleP s) (ruleE_zero.1 e).1
  rw[t] at q
  exact⟨zHR.2 (by rw[q];exact⟨e,t⟩),q⟩
 refine⟨?_,fun h=>(h2 h).2⟩
 cases hp:parseOk s with
 |true=>exact(h2 hp).1
 |false=>
  cases hq:okQ s with
  |false=>rfl
  |true=>rw[(h1 hq).1] at hp;cases hp
end Rul
namespace Go.Proofs.YtjlchookakbomaaGreatDoor
open Go.RowKit

def GivesStrs (w:World) (l:List (List UInt8)) (e:Ending) (w':World):Prop:= ∃v,e= .returned v∧StrsAt w' v l∧Below w.heap.size w w'

theorem zBV {P:Program} (t:TypeId) (h:P.underlying t=some .string) (L:List UInt8) (i j:Int) (a b:Nat) (hi:i=a) (hj:j=b) (hab:a≤b) (hb:b≤L.length) (w:World):
  (Instr.slice t (.string ⟨L.toArray⟩) (some (.int .i64 i)) (some (.int .i64 j)) none).run P w= .ok (.string ⟨((L.drop a).take (b-a)).toArray⟩) w:=by
 subst hi hj;exact zIX t h L .i64 .i64 a b hab hb w
theorem infoStr:(Tryz.prog.info? 9).map (fun i=>(i.zero,i.size,i.bytes))=some (some (.string ByteArray.empty),1,16):=by kernel_rfl

theorem zMM (s at_:List UInt8) (w:World) (ha:at_≠ []) (hs:s.length≤4000000000) (hat:at_.length≤4000000000):
  Calls Tryz.prog 117 #[.string ⟨s.toArray⟩,.string ⟨at_.toArray⟩] w (GivesStrs w (Lib.split s at_)):=by
 obtain⟨i0,hi,hz0,hz1,hz2⟩:=info_parts infoStr
 have hm:0<at_.length:=List.length_pos_iff.2 ha
 have HA:=lH ha
 clear ha
 go_enter Tryz.func117,Tryz.ntmps117
 go_wp2_with fail
 go_loopw [5,6,7] (fun o f i wr=> ∃(P:List (List UInt8)) (a b:Nat),f= .int .i64 a∧i= .int .i64 b∧a≤b∧b≤s.length∧P.length≤a∧Hid (wr.ownsRow w.heap.size 9 1 o P.length (P.map txtV))∧Hid (Below w.heap.size w wr)∧Hid (Spl.Inv s at_ P a b)) (fun _ _ i _=>s.length-(RowKit.intOf i).toNat)
 case atStart=>exact⟨[],0,0,rfl,rfl,Nat.le_refl _,Nat.zero_le _,Nat.le_refl _,⟨rfl,.inl ⟨rfl,rfl⟩⟩,Below.refl _ _,Spl.zEU s at_⟩
 case round=>
  obtain⟨P,a,b,rfl,rfl,hab,hb,hP,HO,HB,HI⟩:=hrel
  by_cases hroom:b+at_.length≤s.length
  ·have SM:=fun w=>zBV (P:= Tryz.prog) 9 Tryz.underlying9 s (b:Int) ((b:Int)+(at_.length:Int)) b (b+at_.length) rfl (by omega) (by omega) hroom w
   have e0:b+at_.length-b=at_.length:=by omega
   rw[e0] at SM
   clear e0
   by_cases hX:(s.drop b).take at_.length=at_
   ·have IH:=lH (Spl.zHb HI.out HA.out hab hroom hX)
    rw[hX] at SM
    have S2:=fun w=>zBV (P:= Tryz.prog) 9 Tryz.underlying9 s (a:Int) (b:Int) a b rfl rfl hab hb w
    clear hX HI
    generalize (s.drop a).take (b-a)=u at*
    have hown:=HO.out
    have hbs:=HB.out.size
    go_wp2_with (at_builtin;refine wpList_append_own _ rfl _ _ 97 rfl w.heap.size 9 i0 (.string ByteArray.empty) 1 16 Tryz.underlying97 hi hz0 hz1 hz2 rfl (by decide) _ _ _ rfl (hown.alloc _) ⟨wr.heap.size,0,none⟩ 1 1 [txtV u] rfl rfl (cell_one_new _ _ _) (fun x hx=>by simp at hx;subst hx;rfl) (by unfold maxLen;omega) (by omega) (by simp;omega) ?_;intro v' w1 hown' hgrow _)
    have HO':=lH (show w1.ownsRow w.heap.size 9 1 v' (P++ [u]).length ((P++ [u]).map txtV) by simpa using hown')
    have HB':=lH (show Below w.heap.size w w1 from(HB.out.alloc hbs _).grown hgrow (by simp;omega) (fun k hk=>(hown.lt k hk).1))
    clear hown hown' hgrow hbs HO HB S2
    go_wp2_with fail
    go_roundw
    case rel=>exact⟨P++ [u],b+at_.length,b+at_.length,by go_num,by go_num,Nat.le_refl _,hroom,by simp;omega,HO',HB',IH⟩
    case measure=>simp[RowKit.intOf];omega
   have IH:=lH (Spl.zFF HI.out hroom hX)
   have hXb:((s.drop b).take at_.length==at_)=false:=beq_eq_false_iff_ne.2 hX
   clear HI hX
   generalize (s.drop b).take at_.length=u at*
   go_wp2_with fail
   go_roundw
   case rel=>exact⟨P,a,b+1,rfl,by go_num,by omega,by omega,hP,HO,HB,IH⟩
   case measure=>simp[RowKit.intOf];omega
  have IE:=lH (Spl.zHc HI.out HA.out hroom)
  have S3:=fun w=>zBd (P:= Tryz.prog) 9 Tryz.underlying9 s .i64 a (by omega) w
  clear HI
  generalize s.drop a=u at*
  have hown:=HO.out
  have hbs:=HB.out.size
  go_wp2_with (at_builtin;refine wpList_append_own _ rfl _ _ 97 rfl w.heap.size 9 i0 (.string ByteArray.empty) 1 16 Tryz.underlying97 hi hz0 hz1 hz2 rfl (by decide) _ _ _ rfl (hown.alloc _) ⟨wr.heap.size,0,none⟩ 1 1 [txtV u] rfl rfl (cell_one_new _ _ _) (fun x hx=>by simp at hx;subst hx;rfl) (by unfold maxLen;omega) (by omega) (by simp;omega) ?_;intro v' w1 hown' hgrow _)
  have HO':=lH (show w1.ownsRow w.heap.size 9 1 v' (P++ [u]).length ((P++ [u]).map txtV) by simpa using hown')
  have HB':=lH (show Below w.heap.size w w1 from(HB.out.alloc hbs _).grown hgrow (by simp;omega) (fun k hk=>(hown.lt k hk).1))
  clear hown hown' hgrow hbs HO HB S3
  go_wp2_with fail
  go_ret
  exact⟨_,rfl,by rw[IE.out];exact StrsAt.of_row HO'.out,HB'.out⟩
open Go.RowKit

def OwnsStrs (w:World) (l:List (List UInt8)) (e:Ending) (w':World):Prop:= ∃v,e= .returned v∧w'.ownsRow w.heap.size 9 1 v l.length (l.map txtV)∧Below w.heap.size w w'
theorem zCy (s at_:List UInt8) (w:World) (ha:at_≠ []) (hs:s.length≤4000000000) (hat:at_.length≤4000000000):
  Calls Tryz.prog 117 #[.string ⟨s.toArray⟩,.string ⟨at_.toArray⟩] w (OwnsStrs w (Lib.split s at_)):=by
 obtain⟨i0,hi,hz0,hz1,hz2⟩:=info_parts infoStr
 have hm:0<at_.length:=List.length_pos_iff.2 ha
 have HA:=lH ha
 clear ha
 go_enter Tryz.func117,Tryz.ntmps117
 go_wp2_with fail
 go_loopw [5,6,7] (fun o f i wr=> ∃(P:List (List UInt8)) (a b:Nat),f= .int .i64 a∧i= .int .i64 b∧a≤b∧b≤s.length∧P.length≤a∧Hid (wr.ownsRow w.heap.size 9 1 o P.length (P.map txtV))∧Hid (Below w.heap.size w wr)∧Hid (Spl.Inv s at_ P a b)) (fun _ _ i _=>s.length-(RowKit.intOf i).toNat)
 case atStart=>exact⟨[],0,0,rfl,rfl,Nat.le_refl _,Nat.zero_le _,Nat.le_refl _,⟨rfl,.inl ⟨rfl,rfl⟩⟩,Below.refl _ _,Spl.zEU s at_⟩
 case round=>
  obtain⟨P,a,b,rfl,rfl,hab,hb,hP,HO,HB,HI⟩:=hrel
  by_cases hroom:b+at_.length≤s.length
  ·have SM:=fun w=>zBV (P:= Tryz.prog) 9 Tryz.underlying9 s (b:Int) ((b:Int)+(at_.length:Int)) b (b+at_.length) rfl (by omega) (by omega) hroom w
   have e0:b+at_.length-b=at_.length:=by omega
   rw[e0] at SM
   clear e0
   by_cases hX:(s.drop b).take at_.length=at_
   ·have IH:=lH (Spl.zHb HI.out HA.out hab hroom hX)
    rw[hX] at SM
    have S2:=fun w=>zBV (P:= Tryz.prog) 9 Tryz.underlying9 s (a:Int) (b:Int) a b rfl rfl hab hb w
    clear hX HI
    generalize (s.drop a).take (b-a)=u at*
    have hown:=HO.out
    have hbs:=HB.out.size
    go_wp2_with (at_builtin;refine wpList_append_own _ rfl _ _ 97 rfl w.heap.size 9 i0 (.string ByteArray.empty) 1 16 Tryz.underlying97 hi hz0 hz1 hz2 rfl (by decide) _ _ _ rfl (hown.alloc _) ⟨wr.heap.size,0,none⟩ 1 1 [txtV u] rfl rfl (cell_one_new _ _ _) (fun x hx=>by simp at hx;subst hx;rfl) (by unfold maxLen;omega) (by omega) (by simp;omega) ?_;intro v' w1 hown' hgrow _)
    have HO':=lH (show w1.ownsRow w.heap.size 9 1 v' (P++ [u]).length ((P++ [u]).map txtV) by simpa using hown')
    have HB':=lH (show Below w.heap.size w w1 from(HB.out.alloc hbs _).grown hgrow (by simp;omega) (fun k hk=>(hown.lt k hk).1))
    clear hown hown' hgrow hbs HO HB S2
    go_wp2_with fail
    go_roundw
    case rel=>exact⟨P++ [u],b+at_.length,b+at_.length,by go_num,by go_num,Nat.le_refl _,hroom,by simp;omega,HO',HB',IH⟩
    case measure=>simp[RowKit.intOf];omega
   have IH:=lH (Spl.zFF HI.out hroom hX)
   have hXb:((s.drop b).take at_.length==at_)=false:=beq_eq_false_iff_ne.2 hX
   clear HI hX
   generalize (s.drop b).take at_.length=u at*
   go_wp2_with fail
   go_roundw
   case rel=>exact⟨P,a,b+1,rfl,by go_num,by omega,by omega,hP,HO,HB,IH⟩
   case measure=>simp[RowKit.intOf];omega
  have IE:=lH (Spl.zHc HI.out HA.out hroom)
  have S3:=fun w=>zBd (P:= Tryz.prog) 9 Tryz.underlying9 s .i64 a (by omega) w
  clear HI
  generalize s.drop a=u at*
  have hown:=HO.out
  have hbs:=HB.out.size
  go_wp2_with (at_builtin;refine wpList_append_own _ rfl _ _ 97 rfl w.heap.size 9 i0 (.string ByteArray.empty) 1 16 Tryz.underlying97 hi hz0 hz1 hz2 rfl (by decide) _ _ _ rfl (hown.alloc _) ⟨wr.heap.size,0,none⟩ 1 1 [txtV u] rfl rfl (cell_one_new _ _ _) (fun x hx=>by simp at hx;subst hx;rfl) (by unfold maxLen;omega) (by omega) (by simp;omega) ?_;intro v' w1 hown' hgrow _)
  have HO':=lH (show w1.ownsRow w.heap.size 9 1 v' (P++ [u]).length ((P++ [u]).map txtV) by simpa using hown')
  have HB':=lH (show Below w.heap.size w w1 from(HB.out.alloc hbs _).grown hgrow (by simp;omega) (fun k hk=>(hown.lt k hk).1))
  clear hown hown' hgrow hbs HO HB S3
  go_wp2_with fail
  go_ret
  exact⟨_,rfl,by rw[IE.out];exact HO'.out,HB'.out⟩
open Go.RowKit Go.Shelf

def qrf (l:List (List UInt8)):List Value:=l.flatMap fun x=> [.int .i64 (Rul.rngQ x).1,.int .i64 (Rul.rngQ x).2]
theorem zND {l:List (List UInt8)}: ∀{j:Nat} {x:List UInt8},l[j]?=some x→(qrf l)[j*2]?=some (.int .i64 (Rul.rngQ x).1)∧(qrf l)[j*2+1]?=some (.int .i64 (Rul.rngQ x).2):=by
 induction l with
 |nil=>intro j x h;simp at h
 |cons a l ih=>
  intro j x h
  cases j with
  |zero=>simp at h;subst h;exact⟨rfl,rfl⟩
  |succ j=>
   have h':=ih (by simpa using h)
   have e:(j+1)*2=j*2+1+1:=by omega
   rw[e]
   exact h'
structure QX (w:World) (B p:Nat) (o m b vb vr:Value) (g5:Nat) (L pre:List (List UInt8)) (W:World):Prop where
 box:Boxed W p #[o,m,b,vb]
 row:W.ownsRow B 265 2 vr pre.length (qrf pre)
 res:Boxed W w.heap.size #[.int .u8 0,.int .i64 0,.bool false,.slice none 0 0]
 low:Below w.heap.size w W
 sz:B≤W.heap.size
 strs: ∀(j:Nat) x,L[j]?=some x→W.cell? ⟨g5,j,none⟩=some (.string ⟨x.toArray⟩)
theorem QX.grown {w:World} {B p:Nat} {o m b vb vr:Value} {g5:Nat} {L pre:List (List UInt8)} {A C:World} {r:Option Nat} (h:QX w B p o m b vb vr g5 L pre A) (g:A.grownBy C r)
  (hr: ∀k,r=some k→w.heap.size<k∧k≠p∧vr.ownBlock≠some k∧k≠g5):QX w B p o m b vb vr g5 L pre C:=
 ⟨zAs h.box g (fun e=>(hr _ e.symm).2.1 rfl),h.row.kept g (by
   cases hv:vr.ownBlock with
   |none=>exact .inl rfl
   |some k=>exact .inr fun e=>(hr k e.symm).2.2.1 hv),zAs h.res g (fun e=>by have:=(hr _ e.symm).1;omega),
  h.low.grown g h.low.size (fun k hk=>by have:=(hr k hk).1;omega),Nat.le_trans h.sz g.size,fun j x hx=>g.cell (h.strs j x hx) (fun e=>(hr _ e.symm).2.2.2 rfl)⟩

theorem QX.lies {w:World} {B p:Nat} {o m b vb vr:Value} {g5:Nat} {L pre:List (List UInt8)} {A C:World} (h:QX w B p o m b vb vr g5 L pre A)
  (hC: ∀(g:Nat) cur e,B≤g→A.heap[g]?=some (.cells cur e (0,0))→C.heap[g]?=A.heap[g]?):SlAt 2 RngC C vr (pre.map Rul.rngQ):=by
 rcases hv:h.row.2 with⟨rfl,hn⟩|⟨g,cap,cur,rfl,hB,hg,hc,hm,_⟩
 ·exact .inl ⟨by rw[List.length_eq_zero_iff.1 hn];rfl,_,_,rfl⟩
 by_cases h0:pre.length=0
 ·exact .inl ⟨by rw[List.length_eq_zero_iff.1 h0];rfl,some ⟨g,0,none⟩,cap,by rw[h0]⟩
 have hgC:=hC g cur _ hB hg
 refine .inr ⟨g,0,cap,by rw[List.length_map],by rw[List.length_map];omega,by rw[List.length_map];exact hc,hm,fun j x hx=>?_⟩
 rw[List.getElem?_map] at hx
 obtain⟨y,hy,rfl⟩:=Option.map_eq_some_iff.1 hx
 have hj:j<pre.length:=(List.getElem?_eq_some_iff.1 hy).1
 obtain⟨e0,e1⟩:=zND hy
 have c0:=h.row.cellAt (g:=g) (j*2) (by omega)
 have c1:=h.row.cellAt (g:=g) (j*2+1) (by omega)
 rw[e0] at c0
 rw[e1] at c1
 rw[Nat.zero_add]
 exact⟨(World.cell?_of_block (a:=⟨g,j*2,none⟩) hgC).trans c0,(World.cell?_of_block (a:=⟨g,j*2+1,none⟩) hgC).trans c1⟩
theorem QX.below {w:World} {B p:Nat} {o m b vb vr:Value} {g5:Nat} {L pre:List (List UInt8)} {A C:World} (h:QX w B p o m b vb vr g5 L pre A) (hb:Below A.heap.size A C):QX w B p o m b vb vr g5 L pre C:=
 h.grown (zAU hb) (fun k e=>by cases e)
theorem QX.append {w:World} {B p:Nat} {o m b vb vr v':Value} {g5:Nat} {L pre:List (List UInt8)} {x:List UInt8} {A C:World} (h:QX w B p o m b vb vr g5 L pre A)
  (hown:C.ownsRow B 265 2 v' (pre.length+1) (qrf pre++ [.int .i64 (Rul.rngQ x).1,.int .i64 (Rul.rngQ x).2])) (g:A.grownBy C vr.ownBlock) (hw:w.heap.size<B) (hp:p<B) (h5:g5<B):QX w B p o m b vb v' g5 L (pre++ [x]) C:=by
 have hB: ∀k,vr.ownBlock=some k→B≤k:=fun k hk=>(h.row.lt k hk).1
 refine⟨zAs h.box g (fun e=>by have:=hB _ e.symm;omega),?_,zAs h.res g (fun e=>by have:=hB _ e.symm;omega),
  h.low.grown g h.low.size (fun k hk=>by have:=hB _ hk;omega),Nat.le_trans h.sz g.size,fun j y hy=>g.cell (h.strs j y hy) (fun e=>by have:=hB g5 e.symm;omega)⟩
 have e:qrf (pre++ [x])=qrf pre++ [.int .i64 (Rul.rngQ x).1,.int .i64 (Rul.rngQ x).2]:=by unfold qrf;rw[List.flatMap_append];rfl
 rw[e,List.length_append]
 exact hown
theorem QX.stored {w:World} {B p:Nat} {o m b vb vr:Value} {g5:Nat} {L pre:List (List UInt8)} {A:World} (h:QX w B p o m b vb vr g5 L pre A) (hw:w.heap.size<p) (hp:p<B) (h5:g5≠p):QX w B p o m b vr vr g5 L pre (A.setCell ⟨p,3,none⟩ vr):=by
 have g:A.grownBy (A.setCell ⟨p,3,none⟩ vr) (some p):=⟨rfl,rfl,rfl,by rw[zAF];exact Nat.le_refl _,fun k _ hk=>zAy (fun e=>hk (by rw[←e]))⟩
 refine⟨h.box.set 3 vr (by show 3<4;omega),h.row.kept g ?_,h.res.far (by omega) 3 vr,h.low.setCell (p:=⟨p,3,none⟩) (show w.heap.size≤p by omega) vr,by rw[zAF];exact h.sz,fun j y hy=>g.cell (h.strs j y hy) (fun e=>by injection e with e;exact h5 e)⟩
 cases hv:vr.ownBlock with
 |none=>exact .inl rfl
 |some k=>exact .inr fun e=>by have:=h.row.lt k hv;injection e with e;omega
theorem zCz {w:World} {base:Nat} {v:Value} {L:List (List UInt8)} (h:w.ownsRow base 9 1 v L.length (L.map txtV)) (h0:0<L.length):
  ∃g cap,v= .slice (some ⟨g,0,none⟩) L.length cap∧base≤g∧g<w.heap.size∧L.length≤cap∧cap≤maxLen∧ ∀(j:Nat) x,L[j]?=some x→w.cell? ⟨g,j,none⟩=some (.string ⟨x.toArray⟩):=by
 rcases h.2 with⟨e,hn⟩|⟨g,cap,cur,e,hB,hg,hc,hm,_⟩
 ·omega
 refine⟨g,cap,e,hB,(Array.getElem?_eq_some_iff.1 hg).1,hc,hm,fun j x hx=>?_⟩
 subst e
 have hj:=(List.getElem?_eq_some_iff.1 hx).1
 rw[h.cellAt j (by omega),List.getElem?_map,hx];rfl
theorem zDy {w:World} {base n k:Nat} {e:TypeId} {v:Value} {xs:List Value} (h:w.ownsRow base e k v n xs): ∃a c,v= .slice a n c:=by
 rcases h.2 with⟨rfl,rfl⟩|⟨g,cap,cur,rfl,_⟩
 ·exact⟨_,_,rfl⟩
 exact⟨_,_,rfl⟩
theorem zG5 {L:List (List UInt8)} (h:L.length<3):Rul.wordsQ L=⟨0,0,false,[]⟩:=by
 rcases L with _|⟨a,_|⟨b,_|⟨c,r⟩⟩⟩
 ·rfl
 ·cases a with
  |nil=>rfl
  |cons x t=>cases t<;>rfl
 ·cases a with
  |nil=>rfl
  |cons x t=>cases t<;>rfl
 simp at h;omega
theorem zLg {a u v:List UInt8} {r:List (List UInt8)} (h:a.length≠1):Rul.wordsQ (a::u::v::r)=⟨0,0,false,[]⟩:=by
 rcases a with _|⟨x,_|⟨y,t⟩⟩
 ·rfl
 ·simp at h
 rfl
theorem zHS (a b:List UInt8):(a==b)=decide (a=b):=by
 by_cases h:a=b<;>simp[h]
theorem zJQ (c:UInt8) (u v:List UInt8) (r:List (List UInt8)): ∃MO X Y bx,Rul.wordsQ ([c]::u::v::r)=⟨c,MO,bx,(Lib.split Y [44]).map Rul.rngQ⟩∧(X== [33,61])=bx∧
  (u= [37]∧r.length=2→MO=Byt.numP v∧r= [X,Y])∧(¬(u= [37]∧r.length=2)→MO=0∧X=u∧Y=v):=by
 by_cases h:u= [37]∧r.length=2
 ·obtain⟨X,Y,rfl⟩: ∃X Y,r= [X,Y]:=by
   rcases r with _|⟨a,_|⟨b,_|⟨c,t⟩⟩⟩
   ·simp at h
   ·simp at h
   ·exact⟨_,_,rfl⟩
   simp at h
  obtain⟨rfl,_⟩:=h
  exact⟨_,X,Y,decide (X= [33,61]),Rul.words5 c v X Y,zHS X _,fun _=>⟨rfl,rfl⟩,fun hn=>absurd ⟨rfl,rfl⟩ hn⟩
 refine⟨0,u,v,decide (u= [33,61]),?_,zHS u _,fun hn=>absurd hn h,fun _=>⟨rfl,rfl,rfl⟩⟩
 show(if u= [37]∧r.length=2 then _ else _)=_
 rw[if_neg h]
open Go.RowKit

attribute [local go_sem] Oper.semAt_some

theorem zCo {A C:World} {r:Option Nat} {g i j:Nat} {u v:Value} (h:A.grownBy C r) (h1:A.cell? ⟨g,i,none⟩=some u) (h2:A.cell? ⟨g,j,none⟩=some v) (hr: ∀k,r=some k→k<g):
  C.cell? ⟨g,i,none⟩=some u∧C.cell? ⟨g,j,none⟩=some v:=
 ⟨h.cell h1 (fun e=>by have:=hr g e.symm;omega),h.cell h2 (fun e=>by have:=hr g e.symm;omega)⟩
theorem zCp {A:World} {g p i j k:Nat} {u v x:Value} (hg:g≠p) (h1:A.cell? ⟨g,i,none⟩=some u) (h2:A.cell? ⟨g,j,none⟩=some v):
  (A.setCell ⟨p,k,none⟩ x).cell? ⟨g,i,none⟩=some u∧(A.setCell ⟨p,k,none⟩ x).cell? ⟨g,j,none⟩=some v:=
 ⟨(World.cell?_setCell_other _ _ _ _ (fun e=>hg (by injection e with e;exact e.symm))).trans h1,(World.cell?_setCell_other _ _ _ _ (fun e=>hg (by injection e with e;exact e.symm))).trans h2⟩

theorem zJR (s:List UInt8) (w:World) (hs:s.length≤100000000):
  Calls Tryz.prog 159 #[.string ⟨s.toArray⟩] w fun e w'=> ∃a n c,e= .returned (.agg #[.int .u8 ((Rul.relQ s).op.toNat:Int),.int .i64 (Rul.relQ s).mod,.bool (Rul.relQ s).no,.slice a n c])∧SlAt 2 RngC w' (.slice a n c) (Rul.relQ s).rs∧(∀b,(Value.slice a n c).ownBlock=some b→w.heap.size≤b)∧Below w.heap.size w w':=by
 have CW:=lH fun w=>zCy s [32] w (by simp) (by omega) (by simp)
 have hsl:=Rul.zAA (s:=s) (sub:= [32]) (by simp)
 have HPL:=lH fun x (hx:x∈Lib.split s [32])=>zBn hx
 have hR:Rul.relQ s=Rul.wordsQ (Lib.split s [32]):=rfl
 rw[hR]
 clear hR
 generalize Lib.split s [32]=L at*
 generalize hRQ:Rul.wordsQ L=RQ at*
 have HRQ:=lH hRQ
 clear hRQ
 go_enter Tryz.func159,Tryz.ntmps159
 go_wp2_with fail
 refine(CW.out _).mono ?_
 rintro e w1 ⟨v3,rfl,hown,hb⟩
 have W1:=lH (bT (bA w (.cells #[.int .u8 0,.int .i64 0,.bool false,.slice none 0 0] 240)) hb)
 have B1:=lH ((Boxed.made w #[.int .u8 0,.int .i64 0,.bool false,.slice none 0 0] 240).below hb)
 have hz1:w.heap.size<w1.heap.size:=by have:=hb.size;simp at this;omega
 obtain⟨w2,hw2⟩: ∃w2,w1.alloc (.cells #[.int .u8 0,.int .i64 0,.bool false,.slice none 0 0] 240)=w2:=⟨_,rfl⟩
 have W2:=lH (show Below w.heap.size w w2 by rw[←hw2];exact bT W1.out (bA _ _))
 have B2:=lH (show Boxed w2 w.heap.size _ by rw[←hw2];exact B1.out.alloc _)
 have A2:=lH (show Boxed w2 w1.heap.size _ by rw[←hw2];exact Boxed.made w1 #[.int .u8 0,.int .i64 0,.bool false,.slice none 0 0] 240)
 have O2:=lH (show w2.ownsRow _ _ _ _ _ _ by rw[←hw2];exact hown.alloc (.cells #[.int .u8 0,.int .i64 0,.bool false,.slice none 0 0] 240))
 have hgl:=fun g h=>(hown.lt g h).2
 clear hown hb W1 B1 CW
 by_cases h3:L.length<3
 ·obtain⟨a3,c3,rfl⟩:=zDy O2.out
  have d3:decide ((L.length:Int)<3)=true:=zAd (by omega)
  obtain rfl:RQ=⟨0,0,false,[]⟩:=by rw[←HRQ.out];exact zG5 h3
  clear h3 O2 hgl HPL hsl
  have k0:=A2.out.cell 0 _ rfl
  have k1:=A2.out.cell 1 _ rfl
  have k2:=A2.out.cell 2 _ rfl
  have k3:=A2.out.cell 3 _ rfl
  have q0:=B2.out.free 0 (by show 0<4;omega)
  have q1:=B2.out.free 1 (by show 1<4;omega)
  have q2:=B2.out.free 2 (by show 2<4;omega)
  have q3:=B2.out.free 3 (by show 3<4;omega)
  have c0:=B2.out.cell 0 _ rfl
  have c1:=B2.out.cell 1 _ rfl
  have c2:=B2.out.cell 2 _ rfl
  have c3:=B2.out.cell 3 _ rfl
  have s0:=B2.out.lt
  have s1:=A2.out.lt
  go_wp2_with fail
  have BD:=lH ((((B2.out.set 0 (.int .u8 0) (by show 0<4;omega)).set 1 (.int .i64 0) (by show 1<4;omega)).set 2 (.bool false) (by show 2<4;omega)).set 3 (.slice none 0 0) (by show 3<4;omega))
  have WD:=lH (show Below w.heap.size w ((((w2.setCell ⟨w.heap.size,0,none⟩ (.int .u8 0)).setCell ⟨w.heap.size,1,none⟩ (.int .i64 0)).setCell ⟨w.heap.size,2,none⟩ (.bool false)).setCell ⟨w.heap.size,3,none⟩ (.slice none 0 0)) from((((W2.out.setCell (p:=⟨w.heap.size,0,none⟩) (Nat.le_refl _) (.int .u8 0)).setCell (p:=⟨w.heap.size,1,none⟩) (Nat.le_refl _) (.int .i64 0)).setCell (p:=⟨w.heap.size,2,none⟩) (Nat.le_refl _) (.bool false)).setCell (p:=⟨w.heap.size,3,none⟩) (Nat.le_refl _) (.slice none 0 0)))
  have y0:=BD.out.cell 0 _ rfl
  have y1:=BD.out.cell 1 _ rfl
  have y2:=BD.out.cell 2 _ rfl
  have y3:=BD.out.cell 3 _ rfl
  generalize ((((w2.setCell ⟨w.heap.size,0,none⟩ (.int .u8 0)).setCell ⟨w.heap.size,1,none⟩ (.int .i64 0)).setCell ⟨w.heap.size,2,none⟩ (.bool false)).setCell ⟨w.heap.size,3,none⟩ (.slice none 0 0))=Z at*
  try simp only[Exit.inBlock,Exit.then]
  refine bodyPost_ret (by simp[results,Tryz.results159,go_sem,y0,y1,y2,y3];try rfl) rfl ?_
  exact⟨_,_,_,rfl,.inl ⟨rfl,_,_,rfl⟩,(fun b hb=>by cases hb),WD.out⟩
 obtain⟨c,u,v,r,rfl⟩: ∃c u v r,L=c::u::v::r:=by
  rcases L with _|⟨a,_|⟨b,_|⟨c,r⟩⟩⟩
  ·simp at h3
  ·simp at h3
  ·simp at h3
  exact⟨_,_,_,_,rfl⟩
 obtain⟨g3,cap3,rfl,hg3,_,hc3,hm3,hcell⟩:=zCz O2.out (by simp)
 have hg3':=hgl g3 rfl
 have x0:=hcell 0 c rfl
 have x1:=hcell 1 u rfl
 have x2:=hcell 2 v rfl
 have x3:=hcell 3
 have x4:=hcell 4
 have d3:decide (((c::u::v::r).length:Int)<3)=false:=zAa (by simp;omega)
 by_cases h1:c.length=1
 ·obtain⟨ch,rfl⟩:=List.length_eq_one_iff.1 h1
  have IX: ∀w,(Instr.index 9 (.string ⟨[ch].toArray⟩) (.int .i64 0)).run Tryz.prog w= .ok (.int .u8 (ch.toNat:Int)) w:=fun w=>zA9 (P:= Tryz.prog) 9 Tryz.underlying9 [ch] .i64 0 ch rfl w
  have q1:((([ch]:List UInt8).length:Int) !=1)=false:=rfl
  have hvl:=HPL.out v (by simp)
  obtain⟨MO,X,Y,bx,hrq,hbx,hyes,hno⟩:=zJQ ch u v r
  have HBX:=lH hbx
  clear hbx
  obtain rfl:RQ=⟨ch,MO,bx,(Lib.split Y [44]).map Rul.rngQ⟩:=HRQ.out.symm.trans hrq
  have hYl:Y.length≤s.length:=by
   by_cases hc:u= [37]∧r.length=2
   ·have:=(hyes hc).2
    exact HPL.out Y (by rw[this];simp)
   rw[(hno hc).2.2];exact hvl
  have HYes:=lH hyes
  have HNo:=lH hno
  obtain⟨w3,hw3⟩: ∃w3,w2.setCell ⟨w1.heap.size,0,none⟩ (.int .u8 (ch.toNat:Int))=w3:=⟨_,rfl⟩
  have hne:w1.heap.size≠g3:=by omega
  have KP:=lH (show ∀j x,w2.cell? ⟨g3,j,none⟩=some x→w3.cell? ⟨g3,j,none⟩=some x from fun j x hx=>by rw[←hw3];exact(World.cell?_setCell_other _ _ _ _ (fun e=>hne (by injection e))).trans hx)
  have W3:=lH (show Below w.heap.size w w3 by rw[←hw3];exact W2.out.setCell (p:=⟨w1.heap.size,0,none⟩) (show w.heap.size≤w1.heap.size by omega) _)
  have B3:=lH (show Boxed w3 w.heap.size _ by rw[←hw3];exact B2.out.far (by omega) 0 _)
  have A3:=lH (show Boxed w3 w1.heap.size #[.int .u8 (ch.toNat:Int),.int .i64 0,.bool false,.slice none 0 0] by rw[←hw3];exact A2.out.set 0 (.int .u8 (ch.toNat:Int)) (by show 0<4;omega))
  have y1:=KP.out _ _ x1
  have X2:=lH (KP.out _ _ x2)
  have X3:=lH fun x h=>KP.out _ _ (x3 x h)
  have X4:=lH fun x h=>KP.out _ _ (x4 x h)
  have z0:=A2.out.free 0 (by show 0<4;omega)
  have z1:=A2.out.lt
  have k0:=A2.out.cell 0 _ rfl
  have i0:0<([ch]::u::v::r).length:=by simp
  have i1:1<([ch]::u::v::r).length:=by simp
  have HN3:=lH (show([ch]::u::v::r).length=r.length+3 from rfl)
  clear h3 h1 O2 hgl HPL hsl x1 x2 x3 x4 hcell hrq hyes hno hg3 HRQ
  generalize ([ch]::u::v::r).length=n3 at*
  generalize [ch]=nm at*
  go_upto_region 6 with fail
  obtain⟨bq,hbq⟩: ∃bq,bq=decide (u= [37]∧r.length=2):=⟨_,rfl⟩
  go_cut [34] from 26 to 33 (fun f wx=>f= .bool bq∧wx=w3)
  case first=>
   obtain⟨bu,hbu⟩: ∃bu,(u== [37])=bu:=⟨_,rfl⟩
   obtain⟨b5,hb5⟩: ∃b5,((n3:Int)==5)=b5:=⟨_,rfl⟩
   have HB:=lH (show bq=(bu&&b5) by
    have hn:=HN3.out
    rw[hbq,←hbu,←hb5]
    by_cases hu:u= [37]
    ·by_cases hr:r.length=2
     ·have e:((n3:Int)==5)=true:=zAo (by omega)
      simp[hu,hr,e]
     have e:((n3:Int)==5)=false:=zAe (by omega)
     simp[hr,e]
    simp[hu])
   clear hbq
   go_wp2_with fail
   ·rename_i hh
    go_meet
    exact⟨by rw[HB.out,hh];rfl,rfl⟩
   rename_i hh
   go_meet
   exact⟨by rw[HB.out];simp[hh],rfl⟩
  case rest=>
  obtain⟨rfl,rfl⟩:=hcut
  have HBQ:=lH hbq
  clear hbq
  go_upto_if 34 with fail
  go_cut [3] from 34 (fun s3 wx=> ∃o N C,s3= .slice (some ⟨g3,o,none⟩) N C∧3≤N∧Hid (wx.cell? ⟨g3,o+1,none⟩=some (.string ⟨X.toArray⟩))∧Hid (wx.cell? ⟨g3,o+2,none⟩=some (.string ⟨Y.toArray⟩))∧Hid (Boxed wx w1.heap.size #[.int .u8 (ch.toNat:Int),.int .i64 MO,.bool false,.slice none 0 0])∧Hid (Boxed wx w.heap.size #[.int .u8 0,.int .i64 0,.bool false,.slice none 0 0])∧Hid (Below w.heap.size w wx))
  case first=>
   cases bq with
   |false=>
    obtain⟨rfl,rfl,rfl⟩:=HNo.out (fun h=>by have:=HBQ.out;simp[h] at this)
    go_wp2_with fail
    go_meet
    exact⟨0,n3,cap3,rfl,by have:=HN3.out;omega,lH (by exact y1),X2,A3,B3,W3⟩
   |true=>
    obtain⟨hMO,hr2⟩:=HYes.out (of_decide_eq_true HBQ.out.symm)
    have CV:=lH fun w=>zCd v w (by omega)
    rw[←hMO] at CV
    obtain rfl:n3=5:=by have:=HN3.out;rw[hr2] at this;exact this
    obtain⟨ce,rfl⟩: ∃ce,cap3=ce+5:=⟨cap3-5,by omega⟩
    have y2:=X2.out
    have hcx:=X3.out X (by rw[hr2];rfl)
    have hcy:=X4.out Y (by rw[hr2];rfl)
    have HCX:=lH hcx
    have HCY:=lH hcy
    clear hr2 hMO HYes HNo hcx hcy X2 X3 X4 y1
    go_wp2_with fail
    refine(CV.out _).mono ?_
    rintro e w4 ⟨rfl,hb⟩
    have A4:=lH (A3.out.below hb)
    have B4:=lH (B3.out.below hb)
    have W4:=lH (bT W3.out hb)
    replace HCX:=lH (cK HCX.out hb)
    replace HCY:=lH (cK HCY.out hb)
    have f1:=A4.out.free 1 (by show 1<4;omega)
    have f2:=A4.out.lt
    have f3:=A4.out.cell 1 _ rfl
    clear hb CV y2 A3 B3 W3 KP
    go_wp2_with fail
    go_meet
    exact⟨2,3,ce+3,rfl,by omega,lH ((World.cell?_setCell_other _ _ _ _ (fun e=>hne (by injection e))).trans HCX.out),lH ((World.cell?_setCell_other _ _ _ _ (fun e=>hne (by injection e))).trans HCY.out),lH (by exact A4.out.set 1 (.int .i64 MO) (by show 1<4;omega)),lH (by exact B4.out.far (by omega) 1 _),lH (by exact W4.out.setCell (p:=⟨w1.heap.size,1,none⟩) (show w.heap.size≤w1.heap.size by omega) _)⟩
  case rest=>
   obtain⟨o,N,C,rfl,hN,HX,HY,A5,B5,W5⟩:=hcut
   have cx:=HX.out
   have HQ:=lH (show bx=(X== [33,61]) from HBX.out.symm)
   have xb:=HBX.out
   have j1:1<N:=by omega
   have j2:2<N:=by omega
   obtain⟨p,hp⟩: ∃p,w1.heap.size=p:=⟨_,rfl⟩
   rw[hp] at A5 hz1 hne⊢
   have f2:=A5.out.free 2 (by show 2<4;omega)
   have f3:=A5.out.lt
   have f4:=A5.out.cell 2 _ rfl
   obtain⟨w6,hw6⟩: ∃w6,wc.setCell ⟨p,2,none⟩ (.bool bx)=w6:=⟨_,rfl⟩
   have cy:=(World.cell?_setCell_other wc ⟨p,2,none⟩ _ (.bool bx) (fun e=>hne (by injection e))).trans HY.out
   have A6:=lH (A5.out.set 2 (.bool bx) (by show 2<4;omega))
   have B6:=lH (B5.out.far (q:=p) (by omega) 2 (.bool bx))
   have W6:=lH (W5.out.setCell (p:=⟨p,2,none⟩) (show w.heap.size≤p by omega) (.bool bx))
   rw[hw6] at cy A6 B6 W6
   have CY:=lH fun w=>zCy Y [44] w (by simp) (by omega) (by simp)
   have hL0:0<(Lib.split Y [44]).length:=by rw[Spl.zBi (by simp)];omega
   have hLm:=Rul.zAA (s:=Y) (sub:= [44]) (by simp)
   have HLS:=lH fun x (hx:x∈Lib.split Y [44])=>Nat.le_trans (zBn hx) hYl
   generalize hL2:Lib.split Y [44]=L2 at*
   have HL2:=lH hL2
   clear hL2
   clear A3 B3 W3 A5 B5 W5 HX HY KP X2 X3 X4 HBQ HNo HYes HQ HBX hp
   go_wp2_with fail
   clear hw6
   refine(CY.out _).mono ?_
   rintro e w7 ⟨v5,rfl,hown5,hb⟩
   obtain⟨g5,cap5,rfl,hg5,hg5',hc5,hm5,hcell5⟩:=zCz hown5 hL0
   have A7:=lH (A6.out.below hb)
   have B7:=lH (B6.out.below hb)
   have W7:=lH (bT W6.out hb)
   have hp6:p<w6.heap.size:=A6.out.lt
   have QX0:=lH (show QX w w7.heap.size p (.int .u8 (ch.toNat:Int)) (.int .i64 MO) (.bool bx) (.slice none 0 0) (.slice none 0 0) g5 L2 (L2.take 0) w7 from⟨A7.out,⟨rfl,.inl ⟨rfl,by simp⟩⟩,B7.out,W7.out,Nat.le_refl _,hcell5⟩)
   have hpB:p<w7.heap.size:=Nat.lt_of_lt_of_le hp6 hb.size
   have h5p:g5≠p:=by omega
   obtain⟨m,hm⟩: ∃m,L2.length=m:=⟨_,rfl⟩
   rw[hm] at hL0 hLm hc5⊢
   have HM:=lH hm
   generalize w7.heap.size=B at*
   clear hb hown5 hcell5 A6 B6 W6 A7 B7 W7 CY cx cy f2 f3 f4 xb hm hm5 hw3 hw2 hp6 hg5
   go_wp2_with fail
   go_loopw [6,7] (fun i _ wx=> ∃(k:Nat) (v:Value),i= .int .i64 k∧k≤m∧Hid (QX w B p (.int .u8 (ch.toNat:Int)) (.int .i64 MO) (.bool bx) v v g5 L2 (L2.take k) wx)) (fun i _ _=>m-(RowKit.intOf i).toNat)
   case atStart=>exact⟨0,_,rfl,Nat.zero_le _,QX0⟩
   case round=>
    obtain⟨k,v,rfl,hk,P⟩:=hrel
    clear QX0
    by_cases hlt:k<m
    ·obtain⟨x,hx⟩: ∃x,L2[k]?=some x:=⟨L2[k]'(by have:=HM.out;omega),List.getElem?_eq_getElem (by have:=HM.out;omega)⟩
     have cz:=P.out.strs k x hx
     have hxl:=HLS.out x (List.mem_of_getElem? hx)
     have CX:=lH fun w=>zCy x [46,46] w (by simp) (by omega) (by simp)
     have hx0:0<(Lib.split x [46,46]).length:=by rw[Spl.zBi (by simp)];omega
     have hxm:=Rul.zAA (s:=x) (sub:= [46,46]) (by simp)
     have er:Rul.rngQ x=(Byt.numP (((Lib.split x [46,46])[0]?).getD []),Byt.numP (((Lib.split x [46,46]).getLast?).getD [])):=rfl
     have HXS:=lH fun y (hy:y∈Lib.split x [46,46])=>Nat.le_trans (zBn hy) hxl
     generalize Lib.split x [46,46]=L7 at*
     have hvk:=fun k h=>(P.out.row.lt k h).2
     have HTK:=lH (show L2.take (k+1)=L2.take k++ [x] by rw[List.take_add_one,hx];rfl)
     have hpl:(L2.take k).length=k:=by rw[List.length_take,HM.out];omega
     obtain⟨pre,hpre⟩: ∃pre,L2.take k=pre:=⟨_,rfl⟩
     rw[hpre] at HTK P hpl
     have k0:(0:Int)≤(k:Int):=by omega
     have k1:(k:Int)<(m:Int):=by omega
     clear hx hpre
     go_wp2_with fail
     refine(CX.out _).mono ?_
     rintro e w8 ⟨v7,rfl,hown7,hb⟩
     obtain⟨g7,cap7,rfl,hg7,_,hc7,hm7,hcell7⟩:=zCz hown7 hx0
     have P1:=lH (P.out.below hb)
     have hv7: ∀j,v.ownBlock=some j→j<g7:=fun j h=>by have:=hvk j h;omega
     have hsz:=P.out.sz
     obtain⟨mm,hmm⟩: ∃mm,L7.length=mm+1:=⟨L7.length-1,by omega⟩
     obtain⟨xa,hxa⟩: ∃xa,L7[0]?=some xa:=⟨_,List.getElem?_eq_getElem hx0⟩
     obtain⟨xb,hxb⟩: ∃xb,L7[mm]?=some xb:=⟨_,List.getElem?_eq_getElem (by omega)⟩
     have y0:=hcell7 0 xa hxa
     have y1:=hcell7 mm xb hxb
     have CN1:=lH fun w=>zCd xa w (by have:=HXS.out xa (List.mem_of_getElem? hxa);omega)
     have CN2:=lH fun w=>zCd xb w (by have:=HXS.out xb (List.mem_of_getElem? hxb);omega)
     have HER:=lH (show Rul.rngQ x=(Byt.numP xa,Byt.numP xb) by rw[er,hxa,List.getLast?_eq_getElem?,hmm,Nat.add_sub_cancel,hxb];rfl)
     rw[hmm] at hc7⊢
     generalize Byt.numP xa=N1 at*
     generalize Byt.numP xb=N2 at*
     have hmb:mm≤200000000:=by omega
     have hp7:g7≠p:=by omega
     have hwB:w.heap.size<B:=by omega
     have m1:(mm:Int)<(mm:Int)+1:=by omega
     have m2:(0:Int)≤(mm:Int):=by omega
     have m3:IntKind.i64.wrap (mm:Int)=(mm:Int):=IntWalk.i64_in _ (by omega)
     clear hb hown7 hcell7 CX hmm hxa hxb cz hvk er P hx0 hxm HXS
     obtain⟨iR,hiR,hR0,hR1,hR2⟩:=info_parts infoRng
     go_wp2_with fail
     refine wp_region_held_drew (S:=fun w'=>w'.cell? ⟨g7,0,none⟩=some (.string ⟨xa.toArray⟩)∧w'.cell? ⟨g7,mm,none⟩=some (.string ⟨xb.toArray⟩)) (by kernel_rfl) (by exact⟨y0,y1⟩) (fun hY9=>?_)
     have P:=lH (P1.out.below (Below.drew (Below.refl _ _)))
     clear P1 y0 y1
     generalize World.drew _=w3 at*
     refine tkr (d:=some 62) (v:=?v1) 0 rfl rfl hY9 ?hy1 ?rs1
     case hy1=>(intro w hSw;(try dsimp only at hSw);go_simp)<;>(try with_reducible rfl)
     (try simp only[Act.put,aI,aO,aS])
     refine tkr (d:=some 64) (v:=?v2) 2 rfl rfl hY9 ?hy2 ?rs2
     case hy2=>(intro w hSw;(try dsimp only at hSw);go_simp)<;>(try with_reducible rfl)
     (try simp only[Act.put,aI,aO,aS])
     refine tkr (d:=some 65) (v:=?v3) 3 rfl rfl hY9 ?hy3 ?rs3
     case hy3=>(intro w hSw;(try dsimp only at hSw);go_simp)<;>(try with_reducible rfl)
     (try simp only[Act.put,aI,aO,aS])
     refine tkr (d:=some 66) (v:=?v4) 4 rfl rfl hY9 ?hy4 ?rs4
     case hy4=>(intro w hSw;(try dsimp only at hSw);go_simp)<;>(try with_reducible rfl)
     (try simp only[Act.put,aI,aO,aS])
     refine tkr (d:=some 68) (v:=?v12) 6 rfl rfl hY9 ?hy12 ?rs12
     case hy12=>(intro w hSw;(try dsimp only at hSw);go_simp)<;>(try with_reducible rfl)
     (try simp only[Act.put,aI,aO,aS])
     refine tkr (d:=some 69) (v:=?v13) 7 rfl rfl hY9 ?hy13 ?rs13
     case hy13=>(intro w hSw;(try dsimp only at hSw);go_simp)<;>(try with_reducible rfl)
     (try simp only[Act.put,aI,aO,aS])
     refine tkr (d:=some 70) (v:=?v14) 8 rfl rfl hY9 ?hy14 ?rs14
     case hy14=>(intro w hSw;(try dsimp only at hSw);go_simp)<;>(try with_reducible rfl)
     (try simp only[Act.put,aI,aO,aS])
     refine tkr (d:=some 71) (v:=?v15) 9 rfl rfl hY9 ?hy15 ?rs15
     case hy15=>(intro w hSw;(try dsimp only at hSw);go_simp)<;>(try with_reducible rfl)
     (try simp only[Act.put,aI,aO,aS])
     refine tkr (d:=some 72) (v:=?v16) 10 rfl rfl hY9 ?hy16 ?rs16
     case hy16=>(intro w hSw;(try dsimp only at hSw);go_simp)<;>(try with_reducible rfl)
     (try simp only[Act.put,aI,aO,aS])
     refine tkr (d:=some 73) (v:=?v17) 11 rfl rfl hY9 ?hy17 ?rs17
     case hy17=>(intro w hSw;(try dsimp only at hSw);go_simp)<;>(try with_reducible rfl)
     (try simp only[Act.put,aI,aO,aS])
     refine zA4 1 5 rfl rfl (by kernel_rfl) (by rfl) (by rfl) (fun K hK=>?_) (fun K hK=>?_)
     ·have k3:=P.out.box.cell 3 _ rfl
      go_simp
      clear k3
      refine hK.out _ _ (hY9) (fun hY9=>?_)
      clear hK K
      (try simp only[Act.put,aI,aO,aS])
      refine zAc 5 rfl (by kernel_rfl) (by rfl) (fun K hK=>?_)
      go_simp
      refine(CN1.out _).mono ?_
      rintro e w' ⟨rfl,hb⟩
      replace P:=lH (P.out.below hb)
      refine hK.out _ _ (⟨cK hY9.1 hb,cK hY9.2 hb⟩) (fun hY9=>?_)
      clear hK K
      (try simp only[Act.put,aI,aO,aS])
      clear hb
      refine zAc 12 rfl (by kernel_rfl) (by rfl) (fun K hK=>?_)
      go_simp
      refine(CN2.out _).mono ?_
      rintro e w' ⟨rfl,hb⟩
      replace P:=lH (P.out.below hb)
      refine hK.out _ _ (⟨cK hY9.1 hb,cK hY9.2 hb⟩) (fun hY9=>?_)
      clear hK K
      (try simp only[Act.put,aI,aO,aS])
      clear hb
      refine tkr (d:=some 75) (v:=?v18) 13 rfl rfl hY9 ?hy18 ?rs18
      case hy18=>(intro w hSw;(try dsimp only at hSw);go_simp)<;>(try with_reducible rfl)
      (try simp only[Act.put,aI,aO,aS])
      refine zAc 14 rfl (by kernel_rfl) (by rfl) (fun K hK=>?_)
      go_simp
      refine hK.out _ _ (⟨cK hY9.1 (bA _ _),cK hY9.2 (bA _ _)⟩) (fun hY9=>?_)
      clear hK K
      (try simp only[Act.put,aI,aO,aS])
      replace P:=lH (P.out.below (bA _ (.cells #[.int .i64 N1,.int .i64 N2] 265)))
      have BN:=lH (Boxed.made _ #[.int .i64 N1,.int .i64 N2] 265:Boxed (World.alloc w' (.cells #[.int .i64 N1,.int .i64 N2] 265)) w'.heap.size _)
      generalize hq:w'.heap.size=q at*
      generalize World.alloc w' (.cells #[.int .i64 N1,.int .i64 N2] 265)=w5 at*
      clear hq
      refine zAc 15 rfl (by kernel_rfl) (by rfl) (fun K hK=>?_)
      refine wp_append_own _ _ _ 238 rfl B 265 iR _ 2 16 Tryz.underlying238 hiR hR0 hR1 hR2 rfl (by decide) v pre.length (qrf pre) (by simp[go_sem]) P.out.row ⟨q,0,none⟩ 1 1 [.int .i64 N1,.int .i64 N2] (by simp[go_sem]) rfl (zAz BN.out) (fun u hu=>by simp at hu;rcases hu with rfl|rfl<;>rfl) (by unfold maxLen;omega) (by omega) P.out.sz ?_
      intro v' w6 hown hgrow hnil
      clear hnil
      obtain⟨g',cap',rfl⟩:=zAP hown (by omega)
      have hHeld2:=zCo hgrow hY9.1 hY9.2 hv7
      replace P:=lH (P.out.append (x:=x) (by rw[HER.out];exact hown) hgrow hwB hpB hg5')
      clear hown hgrow
      refine hK.out _ _ (hHeld2) (fun hY9=>?_)
      clear hK K
      (try simp only[Act.put,aI,aO,aS])
      clear hHeld2
      refine tkr (d:=some 78) (v:=?v19) 16 rfl rfl hY9 ?hy19 ?rs19
      case hy19=>(intro w hSw;(try dsimp only at hSw);go_simp)<;>(try with_reducible rfl)
      (try simp only[Act.put,aI,aO,aS])
      refine zAc 17 rfl (by kernel_rfl) (by rfl) (fun K hK=>?_)
      have k3:=P.out.box.cell 3 _ rfl
      have z3:=P.out.box.free 3 (by show 3<4;omega)
      have hlt:=P.out.box.lt
      go_simp
      clear k3 z3 hlt
      refine hK.out _ _ (zCp hp7 hY9.1 hY9.2) (fun hY9=>?_)
      clear hK K
      (try simp only[Act.put,aI,aO,aS])
      replace P:=lH (P.out.stored hz1 hpB h5p)
      refine wpAnyH_done (by kernel_rfl) ?_ _
      clear hY9
      rw[hpl] at P
      go_wp2_with fail
      go_roundw
      case rel=>exact⟨k+1,_,by go_num,by omega,by rw[HTK.out];exact P⟩
      case measure=>simp[RowKit.intOf];omega
     go_simp
     refine(CN1.out _).mono ?_
     rintro e w' ⟨rfl,hb⟩
     replace P:=lH (P.out.below hb)
     refine hK.out _ _ (⟨cK hY9.1 hb,cK hY9.2 hb⟩) (fun hY9=>?_)
     clear hK K
     (try simp only[Act.put,aI,aO,aS])
     clear hb
     refine zA4 1 12 rfl rfl (by kernel_rfl) (by rfl) (by rfl) (fun K hK=>?_) (fun K hK=>?_)
     ·have k3:=P.out.box.cell 3 _ rfl
      go_simp
      clear k3
      refine hK.out _ _ (hY9) (fun hY9=>?_)
      clear hK K
      (try simp only[Act.put,aI,aO,aS])
      refine zAc 12 rfl (by kernel_rfl) (by rfl) (fun K hK=>?_)
      go_simp
      refine(CN2.out _).mono ?_
      rintro e w' ⟨rfl,hb⟩
      replace P:=lH (P.out.below hb)
      refine hK.out _ _ (⟨cK hY9.1 hb,cK hY9.2 hb⟩) (fun hY9=>?_)
      clear hK K
      (try simp only[Act.put,aI,aO,aS])
      clear hb
      refine tkr (d:=some 75) (v:=?v23) 13 rfl rfl hY9 ?hy23 ?rs23
      case hy23=>(intro w hSw;(try dsimp only at hSw);go_simp)<;>(try with_reducible rfl)
      (try simp only[Act.put,aI,aO,aS])
      refine zAc 14 rfl (by kernel_rfl) (by rfl) (fun K hK=>?_)
      go_simp
      refine hK.out _ _ (⟨cK hY9.1 (bA _ _),cK hY9.2 (bA _ _)⟩) (fun hY9=>?_)
      clear hK K
      (try simp only[Act.put,aI,aO,aS])
      replace P:=lH (P.out.below (bA _ (.cells #[.int .i64 N1,.int .i64 N2] 265)))
      have BN:=lH (Boxed.made _ #[.int .i64 N1,.int .i64 N2] 265:Boxed (World.alloc w' (.cells #[.int .i64 N1,.int .i64 N2] 265)) w'.heap.size _)
      generalize hq:w'.heap.size=q at*
      generalize World.alloc w' (.cells #[.int .i64 N1,.int .i64 N2] 265)=w5 at*
      clear hq
      refine zAc 15 rfl (by kernel_rfl) (by rfl) (fun K hK=>?_)
      refine wp_append_own _ _ _ 238 rfl B 265 iR _ 2 16 Tryz.underlying238 hiR hR0 hR1 hR2 rfl (by decide) v pre.length (qrf pre) (by simp[go_sem]) P.out.row ⟨q,0,none⟩ 1 1 [.int .i64 N1,.int .i64 N2] (by simp[go_sem]) rfl (zAz BN.out) (fun u hu=>by simp at hu;rcases hu with rfl|rfl<;>rfl) (by unfold maxLen;omega) (by omega) P.out.sz ?_
      intro v' w6 hown hgrow hnil
      clear hnil
      obtain⟨g',cap',rfl⟩:=zAP hown (by omega)
      have hHeld2:=zCo hgrow hY9.1 hY9.2 hv7
      replace P:=lH (P.out.append (x:=x) (by rw[HER.out];exact hown) hgrow hwB hpB hg5')
      clear hown hgrow
      refine hK.out _ _ (hHeld2) (fun hY9=>?_)
      clear hK K
      (try simp only[Act.put,aI,aO,aS])
      clear hHeld2
      refine tkr (d:=some 78) (v:=?v24) 16 rfl rfl hY9 ?hy24 ?rs24
      case hy24=>(intro w hSw;(try dsimp only at hSw);go_simp)<;>(try with_reducible rfl)
      (try simp only[Act.put,aI,aO,aS])
      refine zAc 17 rfl (by kernel_rfl) (by rfl) (fun K hK=>?_)
      have k3:=P.out.box.cell 3 _ rfl
      have z3:=P.out.box.free 3 (by show 3<4;omega)
      have hlt:=P.out.box.lt
      go_simp
      clear k3 z3 hlt
      refine hK.out _ _ (zCp hp7 hY9.1 hY9.2) (fun hY9=>?_)
      clear hK K
      (try simp only[Act.put,aI,aO,aS])
      replace P:=lH (P.out.stored hz1 hpB h5p)
      refine wpAnyH_done (by kernel_rfl) ?_ _
      clear hY9
      rw[hpl] at P
      go_wp2_with fail
      go_roundw
      case rel=>exact⟨k+1,_,by go_num,by omega,by rw[HTK.out];exact P⟩
      case measure=>simp[RowKit.intOf];omega
     go_simp
     refine(CN2.out _).mono ?_
     rintro e w' ⟨rfl,hb⟩
     replace P:=lH (P.out.below hb)
     refine hK.out _ _ (⟨cK hY9.1 hb,cK hY9.2 hb⟩) (fun hY9=>?_)
     clear hK K
     (try simp only[Act.put,aI,aO,aS])
     clear hb
     refine tkr (d:=some 75) (v:=?v20) 13 rfl rfl hY9 ?hy20 ?rs20
     case hy20=>(intro w hSw;(try dsimp only at hSw);go_simp)<;>(try with_reducible rfl)
     (try simp only[Act.put,aI,aO,aS])
     refine zA4 1 14 rfl rfl (by kernel_rfl) (by rfl) (by rfl) (fun K hK=>?_) (fun K hK=>?_)
     ·have k3:=P.out.box.cell 3 _ rfl
      go_simp
      clear k3
      refine hK.out _ _ (hY9) (fun hY9=>?_)
      clear hK K
      (try simp only[Act.put,aI,aO,aS])
      refine zAc 14 rfl (by kernel_rfl) (by rfl) (fun K hK=>?_)
      go_simp
      refine hK.out _ _ (⟨cK hY9.1 (bA _ _),cK hY9.2 (bA _ _)⟩) (fun hY9=>?_)
      clear hK K
      (try simp only[Act.put,aI,aO,aS])
      replace P:=lH (P.out.below (bA _ (.cells #[.int .i64 N1,.int .i64 N2] 265)))
      have BN:=lH (Boxed.made _ #[.int .i64 N1,.int .i64 N2] 265:Boxed (World.alloc w' (.cells #[.int .i64 N1,.int .i64 N2] 265)) w'.heap.size _)
      generalize hq:w'.heap.size=q at*
      generalize World.alloc w' (.cells #[.int .i64 N1,.int .i64 N2] 265)=w5 at*
      clear hq
      refine zAc 15 rfl (by kernel_rfl) (by rfl) (fun K hK=>?_)
      refine wp_append_own _ _ _ 238 rfl B 265 iR _ 2 16 Tryz.underlying238 hiR hR0 hR1 hR2 rfl (by decide) v pre.length (qrf pre) (by simp[go_sem]) P.out.row ⟨q,0,none⟩ 1 1 [.int .i64 N1,.int .i64 N2] (by simp[go_sem]) rfl (zAz BN.out) (fun u hu=>by simp at hu;rcases hu with rfl|rfl<;>rfl) (by unfold maxLen;omega) (by omega) P.out.sz ?_
      intro v' w6 hown hgrow hnil
      clear hnil
      obtain⟨g',cap',rfl⟩:=zAP hown (by omega)
      have hHeld2:=zCo hgrow hY9.1 hY9.2 hv7
      replace P:=lH (P.out.append (x:=x) (by rw[HER.out];exact hown) hgrow hwB hpB hg5')
      clear hown hgrow
      refine hK.out _ _ (hHeld2) (fun hY9=>?_)
      clear hK K
      (try simp only[Act.put,aI,aO,aS])
      clear hHeld2
      refine tkr (d:=some 78) (v:=?v21) 16 rfl rfl hY9 ?hy21 ?rs21
      case hy21=>(intro w hSw;(try dsimp only at hSw);go_simp)<;>(try with_reducible rfl)
      (try simp only[Act.put,aI,aO,aS])
      refine zAc 17 rfl (by kernel_rfl) (by rfl) (fun K hK=>?_)
      have k3:=P.out.box.cell 3 _ rfl
      have z3:=P.out.box.free 3 (by show 3<4;omega)
      have hlt:=P.out.box.lt
      go_simp
      clear k3 z3 hlt
      refine hK.out _ _ (zCp hp7 hY9.1 hY9.2) (fun hY9=>?_)
      clear hK K
      (try simp only[Act.put,aI,aO,aS])
      replace P:=lH (P.out.stored hz1 hpB h5p)
      refine wpAnyH_done (by kernel_rfl) ?_ _
      clear hY9
      rw[hpl] at P
      go_wp2_with fail
      go_roundw
      case rel=>exact⟨k+1,_,by go_num,by omega,by rw[HTK.out];exact P⟩
      case measure=>simp[RowKit.intOf];omega
     go_simp
     refine hK.out _ _ (⟨cK hY9.1 (bA _ _),cK hY9.2 (bA _ _)⟩) (fun hY9=>?_)
     clear hK K
     (try simp only[Act.put,aI,aO,aS])
     replace P:=lH (P.out.below (bA _ (.cells #[.int .i64 N1,.int .i64 N2] 265)))
     have BN:=lH (Boxed.made _ #[.int .i64 N1,.int .i64 N2] 265:Boxed (World.alloc w' (.cells #[.int .i64 N1,.int .i64 N2] 265)) w'.heap.size _)
     generalize hq:w'.heap.size=q at*
     generalize World.alloc w' (.cells #[.int .i64 N1,.int .i64 N2] 265)=w5 at*
     clear hq
     refine zAc 1 rfl (by kernel_rfl) (by rfl) (fun K hK=>?_)
     have k3:=P.out.box.cell 3 _ rfl
     go_simp
     clear k3
     refine hK.out _ _ (hY9) (fun hY9=>?_)
     clear hK K
     (try simp only[Act.put,aI,aO,aS])
     refine zAc 15 rfl (by kernel_rfl) (by rfl) (fun K hK=>?_)
     refine wp_append_own _ _ _ 238 rfl B 265 iR _ 2 16 Tryz.underlying238 hiR hR0 hR1 hR2 rfl (by decide) v pre.length (qrf pre) (by simp[go_sem]) P.out.row ⟨q,0,none⟩ 1 1 [.int .i64 N1,.int .i64 N2] (by simp[go_sem]) rfl (zAz BN.out) (fun u hu=>by simp at hu;rcases hu with rfl|rfl<;>rfl) (by unfold maxLen;omega) (by omega) P.out.sz ?_
     intro v' w6 hown hgrow hnil
     clear hnil
     obtain⟨g',cap',rfl⟩:=zAP hown (by omega)
     have hHeld2:=zCo hgrow hY9.1 hY9.2 hv7
     replace P:=lH (P.out.append (x:=x) (by rw[HER.out];exact hown) hgrow hwB hpB hg5')
     clear hown hgrow
     refine hK.out _ _ (hHeld2) (fun hY9=>?_)
     clear hK K
     (try simp only[Act.put,aI,aO,aS])
     clear hHeld2
     refine tkr (d:=some 78) (v:=?v22) 16 rfl rfl hY9 ?hy22 ?rs22
     case hy22=>(intro w hSw;(try dsimp only at hSw);go_simp)<;>(try with_reducible rfl)
     (try simp only[Act.put,aI,aO,aS])
     refine zAc 17 rfl (by kernel_rfl) (by rfl) (fun K hK=>?_)
     have k3:=P.out.box.cell 3 _ rfl
     have z3:=P.out.box.free 3 (by show 3<4;omega)
     have hlt:=P.out.box.lt
     go_simp
     clear k3 z3 hlt
     refine hK.out _ _ (zCp hp7 hY9.1 hY9.2) (fun hY9=>?_)
     clear hK K
     (try simp only[Act.put,aI,aO,aS])
     replace P:=lH (P.out.stored hz1 hpB h5p)
     refine wpAnyH_done (by kernel_rfl) ?_ _
     clear hY9
     rw[hpl] at P
     go_wp2_with fail
     go_roundw
     case rel=>exact⟨k+1,_,by go_num,by omega,by rw[HTK.out];exact P⟩
     case measure=>simp[RowKit.intOf];omega
    have e:k=m:=by omega
    subst e
    have P2:=P.out
    rw[List.take_of_length_le (by have:=HM.out;omega)] at P2
    have HP:=lH P2
    have hpw:=P2.box.lt
    obtain⟨a5,n5,c5,rfl⟩: ∃a n c,v= .slice a n c:=by
     obtain⟨a,c,e⟩:=zDy P2.row
     exact⟨a,_,c,e⟩
    clear P P2
    have k0:=HP.out.box.cell 0 _ rfl
    have k1:=HP.out.box.cell 1 _ rfl
    have k2:=HP.out.box.cell 2 _ rfl
    have k3:=HP.out.box.cell 3 _ rfl
    have q0:=HP.out.res.free 0 (by show 0<4;omega)
    have q1:=HP.out.res.free 1 (by show 1<4;omega)
    have q2:=HP.out.res.free 2 (by show 2<4;omega)
    have q3:=HP.out.res.free 3 (by show 3<4;omega)
    have c0:=HP.out.res.cell 0 _ rfl
    have c1:=HP.out.res.cell 1 _ rfl
    have c2:=HP.out.res.cell 2 _ rfl
    have c3:=HP.out.res.cell 3 _ rfl
    have s0:=HP.out.res.lt
    have s1:=HP.out.box.lt
    go_wp2_with fail
    have BD:=lH ((((HP.out.res.set 0 (.int .u8 (ch.toNat:Int)) (by show 0<4;omega)).set 1 (.int .i64 MO) (by show 1<4;omega)).set 2 (.bool bx) (by show 2<4;omega)).set 3 (.slice a5 n5 c5) (by show 3<4;omega))
    have WD:=lH (show Below w.heap.size w ((((wr.setCell ⟨w.heap.size,0,none⟩ (.int .u8 (ch.toNat:Int))).setCell ⟨w.heap.size,1,none⟩ (.int .i64 MO)).setCell ⟨w.heap.size,2,none⟩ (.bool bx)).setCell ⟨w.heap.size,3,none⟩ (.slice a5 n5 c5)) from((((HP.out.low.setCell (p:=⟨w.heap.size,0,none⟩) (Nat.le_refl _) (.int .u8 (ch.toNat:Int))).setCell (p:=⟨w.heap.size,1,none⟩) (Nat.le_refl _) (.int .i64 MO)).setCell (p:=⟨w.heap.size,2,none⟩) (Nat.le_refl _) (.bool bx)).setCell (p:=⟨w.heap.size,3,none⟩) (Nat.le_refl _) (.slice a5 n5 c5)))
    have y0:=BD.out.cell 0 _ rfl
    have y1:=BD.out.cell 1 _ rfl
    have y2:=BD.out.cell 2 _ rfl
    have y3:=BD.out.cell 3 _ rfl
    have SD:=lH (HP.out.lies (C:=((((wr.setCell ⟨w.heap.size,0,none⟩ (.int .u8 (ch.toNat:Int))).setCell ⟨w.heap.size,1,none⟩ (.int .i64 MO)).setCell ⟨w.heap.size,2,none⟩ (.bool bx)).setCell ⟨w.heap.size,3,none⟩ (.slice a5 n5 c5))) (fun g cur e hg h=>by rw[zAy (by show w.heap.size≠g;omega),zAy (by show w.heap.size≠g;omega),zAy (by show w.heap.size≠g;omega),zAy (by show w.heap.size≠g;omega)]))
    have FR: ∀b,(Value.slice a5 n5 c5).ownBlock=some b→w.heap.size≤b:=fun b hb=>by have:=(HP.out.row.lt b hb).1;omega
    generalize ((((wr.setCell ⟨w.heap.size,0,none⟩ (.int .u8 (ch.toNat:Int))).setCell ⟨w.heap.size,1,none⟩ (.int .i64 MO)).setCell ⟨w.heap.size,2,none⟩ (.bool bx)).setCell ⟨w.heap.size,3,none⟩ (.slice a5 n5 c5))=Z at*
    try simp only[Exit.inBlock,Exit.then]
    refine bodyPost_ret (by simp[results,Tryz.results159,go_sem,y0,y1,y2,y3];try rfl) rfl ?_
    rw[←HL2.out] at SD
    exact⟨_,_,_,rfl,SD.out,FR,WD.out⟩
 have q1:((c.length:Int)==1)=false:=zAe (by omega)
 obtain rfl:RQ=⟨0,0,false,[]⟩:=by rw[←HRQ.out];exact zLg h1
 clear h3 O2 hgl HPL hsl x1 x2 x3 x4 hcell
 have i0:0<(c::u::v::r).length:=by simp
 generalize (c::u::v::r).length=n3 at*
 have k0:=A2.out.cell 0 _ rfl
 have k1:=A2.out.cell 1 _ rfl
 have k2:=A2.out.cell 2 _ rfl
 have k3:=A2.out.cell 3 _ rfl
 have q0:=B2.out.free 0 (by show 0<4;omega)
 have q1:=B2.out.free 1 (by show 1<4;omega)
 have q2:=B2.out.free 2 (by show 2<4;omega)
 have q3:=B2.out.free 3 (by show 3<4;omega)
 have c0:=B2.out.cell 0 _ rfl
 have c1:=B2.out.cell 1 _ rfl
 have c2:=B2.out.cell 2 _ rfl
 have c3:=B2.out.cell 3 _ rfl
 have s0:=B2.out.lt
 have s1:=A2.out.lt
 go_wp2_with fail
 have BD:=lH ((((B2.out.set 0 (.int .u8 0) (by show 0<4;omega)).set 1 (.int .i64 0) (by show 1<4;omega)).set 2 (.bool false) (by show 2<4;omega)).set 3 (.slice none 0 0) (by show 3<4;omega))
 have WD:=lH (show Below w.heap.size w ((((w2.setCell ⟨w.heap.size,0,none⟩ (.int .u8 0)).setCell ⟨w.heap.size,1,none⟩ (.int .i64 0)).setCell ⟨w.heap.size,2,none⟩ (.bool false)).setCell ⟨w.heap.size,3,none⟩ (.slice none 0 0)) from((((W2.out.setCell (p:=⟨w.heap.size,0,none⟩) (Nat.le_refl _) (.int .u8 0)).setCell (p:=⟨w.heap.size,1,none⟩) (Nat.le_refl _) (.int .i64 0)).setCell (p:=⟨w.heap.size,2,none⟩) (Nat.le_refl _) (.bool false)).setCell (p:=⟨w.heap.size,3,none⟩) (Nat.le_refl _) (.slice none 0 0)))
 have y0:=BD.out.cell 0 _ rfl
 have y1:=BD.out.cell 1 _ rfl
 have y2:=BD.out.cell 2 _ rfl
 have y3:=BD.out.cell 3 _ rfl
 generalize ((((w2.setCell ⟨w.heap.size,0,none⟩ (.int .u8 0)).setCell ⟨w.heap.size,1,none⟩ (.int .i64 0)).setCell ⟨w.heap.size,2,none⟩ (.bool false)).setCell ⟨w.heap.size,3,none⟩ (.slice none 0 0))=Z at*
 try simp only[Exit.inBlock,Exit.then]
 refine bodyPost_ret (by simp[results,Tryz.results159,go_sem,y0,y1,y2,y3];try rfl) rfl ?_
 exact⟨_,_,_,rfl,.inl ⟨rfl,_,_,rfl⟩,(fun b hb=>by cases hb),WD.out⟩

end Go.Proofs.YtjlchookakbomaaGreatDoor
