/- What the first rules' kind is. -/
import Derived.Test.YtldbfkccieipjaaGreatDoorEh
import Derived.Test.YtldbfkccieipjaaGreatDoorEf16
import Derived.Test.YtldbfkccieipjaaGreatDoorEf8
import Derived.Test.YtldbfkccieipjaaGreatDoorEf5
import Derived.Test.YtldbfkccieipjaaGreatDoorEf6
import Derived.Test.YtldbfkccieipjaaGreatDoorProg
import Derived.Test.YtldbfkccieipjaaGreatDoorEf0
import Derived.Test.YtldbfkccieipjaaGreatDoorEf4
import Derived.Test.YtldbfkccieipjaaGreatDoorEf20
import Derived.Test.YtldbfkccieipjaaGreatDoorEf12
namespace Go.Proofs.YtldbfkccieipjaaGreatDoor
set_option maxRecDepth 100000
open Go.RowKit
namespace Ms
end Ms
open Go.RowKit
abbrev stV (t:List UInt8):Value:=txtV t
structure OutI (B p q:Nat) (us:Array Value) (s:List (List UInt8)) (v:Value) (w:World):Prop where
 box:Boxed w p #[v]
 row:w.ownsRow B 9 1 v s.length (s.map stV)
 ne:v.ownBlock≠some p
 ge:B≤p
 set:Boxed w q us
 qp:q≠p
 qv:v.ownBlock≠some q
structure Turn (p:Nat) (v:Value) (w:World) (v':Value) (w':World):Prop where
 os:w'.os=w.os
 tape:w'.tape=w.tape
 output:w'.output=w.output
 size:w.heap.size≤w'.heap.size
 block: ∀k,k<w.heap.size→k≠p→v.ownBlock≠some k→w'.heap[k]?=w.heap[k]?
 at':v'.ownBlock=v.ownBlock∨ ∃k,v'.ownBlock=some k∧w.heap.size≤k
section
variable {B p q:Nat} {us:Array Value} {s:List (List UInt8)} {v v1 v2:Value} {w w1 w2:World}
theorem Turn.below (h:Below w.heap.size w w1):Turn p v w v w1:=⟨h.os,h.tape,h.output,h.size,fun k hk _ _=>h.block k hk,.inl rfl⟩
theorem Turn.trans (h:Turn p v w v1 w1) (g:Turn p v1 w1 v2 w2):Turn p v w v2 w2:=by
 refine⟨g.os.trans h.os,g.tape.trans h.tape,g.output.trans h.output,Nat.le_trans h.size g.size,fun k hk hp hv=>?_,?_⟩
 ·refine(g.block k (Nat.lt_of_lt_of_le hk h.size) hp (fun e=>?_)).trans (h.block k hk hp hv)
  rcases h.at' with e1|⟨j,e1,hj⟩
  ·rw[e1] at e;exact hv e
  ·rw[e1] at e;injection e with e;omega
 ·rcases g.at' with e|⟨j,e,hj⟩
  ·rcases h.at' with e1|⟨i,e1,hi⟩
   ·exact .inl (e.trans e1)
   ·exact .inr ⟨i,e.trans e1,hi⟩
  ·exact .inr ⟨j,e,Nat.le_trans h.size hj⟩
theorem Turn.base {W0:World} (h:Turn p v w v1 w1) (hb:Below B W0 w) (hp:B≤p) (hv: ∀k,v.ownBlock=some k→B≤k) (hB:B≤w.heap.size):Below B W0 w1:=
 ⟨h.os.trans hb.os,h.tape.trans hb.tape,h.output.trans hb.output,Nat.le_trans hb.size h.size,fun k hk=>(h.block k (by omega) (by omega) (fun e=>by have:=hv k e;omega)).trans (hb.block k hk)⟩
theorem OutI.below (h:OutI B p q us s v w) (hb:Below w.heap.size w w1):OutI B p q us s v w1:=
 ⟨h.box.below hb,h.row.kept (row:=none) ⟨hb.os,hb.tape,hb.output,hb.size,fun k hk _=>hb.block k hk⟩ (by cases v.ownBlock<;>simp),h.ne,h.ge,h.set.below hb,h.qp,h.qv⟩
theorem OutI.base {W0:World} (h:OutI B p q us s v w) (t:Turn p v w v1 w1) (hb:Below B W0 w):Below B W0 w1:=
 t.base hb h.ge (fun k e=>(h.row.lt k e).1) (Nat.le_trans h.ge (Nat.le_of_lt h.box.lt))
theorem OutI.isSlice (h:OutI B p q us s v w): ∃a c,v= .slice a s.length c:=by
 rcases h.row.2 with⟨rfl,h0⟩|⟨g,cap,cur,rfl,_⟩
 ·exact⟨none,0,by rw[h0]⟩
 ·exact⟨_,_,rfl⟩
end
open Go.RowKit

def strC (l:List (List UInt8)):Array Value:=(l.map fun t=>Value.string ⟨t.toArray⟩).toArray
theorem strC_get {l:List (List UInt8)} {k:Nat} {x:List UInt8} (h:l[k]?=some x):(strC l)[k]?=some (.string ⟨x.toArray⟩):=by
 unfold strC
 simp[h]

set_option maxHeartbeats 1000000 in
theorem settexts_any (t0 t1 t2 t3 t4:List UInt8) (w:World):
  Calls Tryz.prog 151 #[.agg #[.string ⟨t0.toArray⟩,.string ⟨t1.toArray⟩,.string ⟨t2.toArray⟩,.string ⟨t3.toArray⟩,.string ⟨t4.toArray⟩]] w fun e w'=> ∃b,e= .returned (.slice (some ⟨b,0,none⟩) 5 5)∧Boxed w' b (strC [t0,t1,t2,t3,t4])∧Below w.heap.size w w':=by
 have W2:=lH ((bA w (.cells #[.string ⟨t0.toArray⟩,.string ⟨t1.toArray⟩,.string ⟨t2.toArray⟩,.string ⟨t3.toArray⟩,.string ⟨t4.toArray⟩] 54)).alloc (by simp) (.cells #[.string ⟨t0.toArray⟩,.string ⟨t1.toArray⟩,.string ⟨t2.toArray⟩,.string ⟨t3.toArray⟩,.string ⟨t4.toArray⟩] 9))
 have B2:=lH (Boxed.made (w.alloc (.cells #[.string ⟨t0.toArray⟩,.string ⟨t1.toArray⟩,.string ⟨t2.toArray⟩,.string ⟨t3.toArray⟩,.string ⟨t4.toArray⟩] 54)) #[.string ⟨t0.toArray⟩,.string ⟨t1.toArray⟩,.string ⟨t2.toArray⟩,.string ⟨t3.toArray⟩,.string ⟨t4.toArray⟩] 9)
 simp only[World.size_alloc] at B2
 go_enter Tryz.func151,Tryz.ntmps151
 go_wp2
 go_ret
 exact⟨_,rfl,B2.out,W2.out⟩
set_option maxHeartbeats 1000000 in
theorem kinds_any (w:World):
  Calls Tryz.prog 19 #[] w fun e w'=> ∃b,e= .returned (.slice (some ⟨b,0,none⟩) 5 5)∧Boxed w' b (strC Rul.kindL)∧Below w.heap.size w w':=by
 have B:=lH (Boxed.made w (strC Rul.kindL) 9)
 go_enter Tryz.func19,Tryz.ntmps19
 go_wp2
 go_ret
 exact⟨_,rfl,B.out,bA _ _⟩
open Go.RowKit Ms

structure RefI (B k b:Nat) (us ss:Array Value) (s:List (List UInt8)) (v:Value) (w:World):Prop where
 row:w.ownsRow B 9 1 v s.length (s.map stV)
 set:Boxed w k us
 txt:Boxed w b ss
 nk:v.ownBlock≠some k
 nb:v.ownBlock≠some b
section
variable {B k b:Nat} {us ss:Array Value} {s:List (List UInt8)} {v:Value} {w w':World}
theorem RefI.below (h:RefI B k b us ss s v w) (hb:Below w.heap.size w w'):RefI B k b us ss s v w':=⟨mrow_below h.row hb,h.set.below hb,h.txt.below hb,h.nk,h.nb⟩
theorem RefI.app {t:List (List UInt8)} {v':Value} {m:Nat} (h:RefI B k b us ss s v w) (hm:t.length=m) (ho:w'.ownsRow B 9 1 v' (s.length+m) (s.map stV++t.map stV)) (hg:w.grownBy w' v.ownBlock) (hat:v'.ownBlock=v.ownBlock∨v'.ownBlock=some w.heap.size):RefI B k b us ss (s++t) v' w':=by
 refine⟨by rw[List.length_append,List.map_append,hm];exact ho,nboxed_grown h.set hg (fun e=>h.nk e.symm),nboxed_grown h.txt hg (fun e=>h.nb e.symm),?_,?_⟩
 ·rcases hat with e|e
  ·rw[e];exact h.nk
  ·rw[e];intro g;injection g with g;have:=h.set.lt;omega
 ·rcases hat with e|e
  ·rw[e];exact h.nb
  ·rw[e];intro g;injection g with g;have:=h.txt.lt;omega
theorem RefI.isSlice (h:RefI B k b us ss s v w): ∃a c,v= .slice a s.length c:=mrow_slice h.row
theorem RefI.grown {W0:World} (h:RefI B k b us ss s v w) (hb:Below B W0 w) (hB:B≤w.heap.size) (hg:w.grownBy w' v.ownBlock):Below B W0 w':=hb.grown hg hB (fun k hk=>(h.row.lt k hk).1)
end
open Go.RowKit Ms
namespace Ms
def keyN (cs:Cs) (k:List UInt8):Int:=match keyI cs k with|some i=>(i:Int)|none=> -1
theorem keyI_first {cs:Cs} {k:Nat} {y:List UInt8×List Nd} {key:List UInt8} (h:cs[k]?=some y) (h0:(cs.take k).any (fun y=>y.1==key)=false) (h1:(y.1==key)=true):keyN cs key=(k:Int):=by
 obtain⟨hk,e⟩:=List.getElem?_eq_some_iff.1 h
 have hI:cs.findIdx? (fun y=>y.1==key)=some k:=List.findIdx?_eq_some_iff_getElem.2 ⟨hk,by rw[e];exact h1,fun j hj=>by
  have hm:cs[j]'(by omega)∈cs.take k:=List.mem_take_iff_getElem.2 ⟨j,by omega,rfl⟩
  exact List.any_eq_false.1 h0 _ hm⟩
 unfold keyN keyI
 rw[hI]
theorem keyI_no {cs:Cs} {key:List UInt8} (h:cs.any (fun y=>y.1==key)=false):keyN cs key= -1:=by
 unfold keyN keyI
 rw[List.findIdx?_eq_none_iff.2 fun y hy=>by simpa using List.any_eq_false.1 h y hy]
end Ms
set_option maxHeartbeats 1000000 in
theorem qcasei_any {f:Nat} (K:Int) (T:List UInt8) (O:Int) (cs:Cs) (a:Option Addr) (n c:Nat) (key:List UInt8) (w:World) (h:CassAt f w (.slice a n c) cs) (hl:cs.length≤2000000):
  Calls Tryz.prog 81 #[.agg #[.int .i64 K,.string ⟨T.toArray⟩,.int .i64 O,.slice a n c],.string ⟨key.toArray⟩] w fun e w'=>e= .returned (.int .i64 (keyN cs key))∧Below w.heap.size w w':=by
 obtain⟨A,cap,e0,_,hel⟩:=h.spread
 injection e0 with e1 e2 e3
 subst e1 e2 e3
 have hcap:cs.length≤c∨cs.length=0:=by
  rcases h with⟨e,_⟩|⟨_,_,_,e,_,q,_,_⟩
  ·exact .inr (by rw[e];rfl)
  ·injection e with _ _ e;exact .inl (by omega)
 have HX:=lH hel
 have BX:=lH (Boxed.made w #[.int .i64 K,.string ⟨T.toArray⟩,.int .i64 O,.slice a cs.length c] 34)
 have W0:=lH (bA w (.cells #[.int .i64 K,.string ⟨T.toArray⟩,.int .i64 O,.slice a cs.length c] 34))
 have HF:=lH fun (k:Nat) (y:List UInt8×List Nd) (h:cs[k]?=some y) (h0:(cs.take k).any (fun y=>y.1==key)=false) (h1:(y.1==key)=true)=>keyI_first h h0 h1
 have HG:=lH fun (h:cs.any (fun y=>y.1==key)=false)=>keyI_no h
 clear h hel
 generalize keyN cs key=R at*
 generalize hN:cs.length=N at*
 go_enter Tryz.func81,Tryz.ntmps81
 go_wp2_with fail
 generalize w.alloc (.cells #[.int .i64 K,.string ⟨T.toArray⟩,.int .i64 O,.slice a N c] 34)=w1 at*
 have x3:=BX.out.cell 3 _ rfl
 have xl:=BX.out.lt
 clear BX
 go_loopw [5] (fun vi wr=> ∃k:Nat,vi= .int .i64 (k:Int)∧k≤N∧Hid ((cs.take k).any (fun y=>y.1==key)=false)∧w1=wr) (fun vi _=>N-(intOf vi).toNat)
 case atStart=>exact⟨0,rfl,Nat.zero_le _,lH rfl,rfl⟩
 case round=>
  obtain⟨k,rfl,hk,HA,rfl⟩:=hrel
  by_cases hlt:k<N
  ·have hk':(k:Int)<(N:Int):=by omega
   have hcc:N≤c:=by omega
   obtain⟨y,hyk⟩: ∃y,cs[k]?=some y:=⟨cs[k]'(by omega),List.getElem?_eq_getElem (by omega)⟩
   obtain⟨b,off,rfl,a9,n9,c9,p0,_⟩:=HX.out k y hyk
   have g0:=cK p0 W0.out
   have HY:=lH (HF.out k y hyk HA.out)
   have HAN:=lH fun (h:(y.1==key)=false)=>(show(cs.take (k+1)).any (fun y=>y.1==key)=false by rw[any_take' hyk,HA.out,h];rfl)
   have wk:IntKind.i64.wrap ((k:Int)+1)=(k:Int)+1:=IntWalk.i64_in _ (by omega)
   obtain⟨ky,bd⟩:=y
   dsimp only at g0 HY HAN
   clear p0 hyk HX HF HG
   cases ht:ky==key with
   |true=>
    have hY:=lH (HY.out ht)
    go_wp2_with fail
    go_ret
    exact⟨ret_int hY.out.symm,W0.out⟩
   |false=>
    have HA2:=lH (HAN.out ht)
    clear HAN HA HY
    go_wp2_with fail
    go_roundw
    case rel=>exact⟨k+1,by go_num,by omega,HA2,trivial⟩
    case measure=>simp[intOf];omega
  ·have hk': ¬(k:Int)<(N:Int):=by omega
   have hA:=HA.out
   rw[List.take_of_length_le (by omega)] at hA
   have hR:=lH (HG.out hA)
   go_wp2_with fail
   go_ret
   exact⟨ret_int hR.out.symm,W0.out⟩
open Go.RowKit
open Dcm (P10 okD)

end Go.Proofs.YtldbfkccieipjaaGreatDoor
