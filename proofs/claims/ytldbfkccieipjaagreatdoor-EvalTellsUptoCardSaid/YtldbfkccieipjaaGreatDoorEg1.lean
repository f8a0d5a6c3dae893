/- What lasts while the reference reads a relation: the box of the relation, the row of its ranges, the pieces of its text. No walk. -/
import Derived.Test.YtldbfkccieipjaaGreatDoorEh
import Derived.Test.YtldbfkccieipjaaGreatDoorEf8
import Derived.Test.YtldbfkccieipjaaGreatDoorEf6
import Derived.Test.YtldbfkccieipjaaGreatDoorEf25
import Derived.Test.YtldbfkccieipjaaGreatDoorEf9
namespace Rul
open Go Go.Lib

def rngQ (z:List UInt8):Int×Int:=(Byt.numP (((split z [46,46])[0]?).getD []),Byt.numP (((split z [46,46]).getLast?).getD []))
def wordsQ:List (List UInt8)→Rl
 | [c]::u::v::r=>
  if u= [37]∧r.length=2 then ⟨c,Byt.numP v,decide ((r[0]?).getD []= [33,61]),(split ((r[1]?).getD []) [44]).map rngQ⟩
  else ⟨c,0,decide (u= [33,61]),(split v [44]).map rngQ⟩
 |_=>⟨0,0,false,[]⟩
def relQ (s:List UInt8):Rl:=wordsQ (split s [32])
def partQ (s:List UInt8):List Rl:=(split s andS).map relQ
def ruleQ (s:List UInt8):Rule:=(split s orS).map partQ
def okQ (s:List UInt8):Bool:=decide (ruleE (ruleQ s)=0)&&(ruleT (ruleQ s)==s)

theorem numP_dg {v:Int} (h0:0≤v) (h1:v≤1000000):Byt.numP (dg v)=v:=by
 have:=Byt.numP_dec v.toNat (by omega)
 unfold dg
 rw[this]
 omega
theorem rngQ_T (p:Int×Int) (h:rngOk p=true):rngQ (rngT p)=p:=by
 obtain⟨a,b⟩:=p
 simp only[rngOk,Bool.and_eq_true,decide_eq_true_eq] at h
 obtain⟨⟨h0,h1⟩,h2⟩:=h
 have na:=numP_dg (v:=a) h0 (by omega)
 have nb:=numP_dg (v:=b) (by omega) h2
 unfold rngQ rngT
 dsimp only
 split
 ·rename_i e
  subst e
  rw[split_none (c:=46) (by simp) (dg_no (by decide))]
  simp[na]
 ·rw[split_at (c:=46) (k:=0) _ rfl (by simp) (dg_no (by decide)),split_none (c:=46) (by simp) (dg_no (by decide))]
  simp[na,nb]
theorem rngs_split {r:Rl} (h:relOk r=true):(split (join (r.rs.map rngT) [44]) [44]).map rngQ=r.rs:=by
 obtain⟨_,_,_,h3,h4⟩:=relOk_parts h
 rw[split_join (c:=44) (k:=0) rfl (by simp) (by simpa using h3) (fun p hp=>by obtain⟨x,_,rfl⟩:=List.mem_map.1 hp;exact rngT_no (by decide)),List.map_map]
 rw[List.map_congr_left (f:=rngQ∘rngT) (g:=id) (fun p hp=>rngQ_T p (h4 p hp))]
 simp
theorem op_no {c:UInt8} (h:opOk c=true):(32:UInt8)∉ [c]:=by
 rcases op_cases h with e|e|e|e|e|e<;>rw[e]<;>decide
theorem relT_words {r:Rl} (h:relOk r=true):split (relT r) [32]=(if r.mod=0 then [[r.op]] else [[r.op],[37],dg r.mod])++ [if r.no then [33,61] else [61],join (r.rs.map rngT) [44]]:=by
 obtain⟨h0,_,_,h3,h4⟩:=relOk_parts h
 have hj:(32:UInt8)∉join (r.rs.map rngT) [44]:=rngs_no (by decide)
 have hd:(32:UInt8)∉dg r.mod:=dg_no (by decide)
 have ho:=op_no h0
 have hn:(32:UInt8)∉(if r.no then [33,61] else [61]:List UInt8):=by split<;>decide
 have e:relT r=join ((if r.mod=0 then [[r.op]] else [[r.op],[37],dg r.mod])++ [if r.no then [33,61] else [61],join (r.rs.map rngT) [44]]) [32]:=by
  unfold relT headT
  split<;>split<;>simp[join,List.intercalate,List.intersperse,pcS,neS,eqS]
 rw[e]
 refine split_join (c:=32) (k:=0) rfl (by simp) (by simp) (fun p hp=>?_)
 rcases List.mem_append.1 hp with hp|hp
 ·split at hp
  ·simp at hp;subst hp;exact ho
  ·simp at hp
   rcases hp with rfl|rfl|rfl
   ·exact ho
   ·decide
   ·exact hd
 ·simp only[List.mem_cons,List.not_mem_nil,or_false] at hp
  rcases hp with rfl|rfl
  ·exact hn
  ·exact hj
theorem words3 (c:UInt8) (u v:List UInt8):wordsQ [[c],u,v]=⟨c,0,decide (u= [33,61]),(split v [44]).map rngQ⟩:=by
 show(if u= [37]∧([]:List (List UInt8)).length=2 then _ else _)=_
 rw[if_neg (by simp)]
theorem words5 (c:UInt8) (v x y:List UInt8):wordsQ [[c],[37],v,x,y]=⟨c,Byt.numP v,decide (x= [33,61]),(split y [44]).map rngQ⟩:=by
 unfold wordsQ
 simp
theorem relQ_T (r:Rl) (h:relOk r=true):relQ (relT r)=r:=by
 obtain⟨_,h1,h2,_,_⟩:=relOk_parts h
 unfold relQ
 rw[relT_words h]
 have hs:=rngs_split h
 have hm:=numP_dg h1 h2
 obtain⟨op,mod,no,rs⟩:=r
 dsimp only at*
 by_cases hz:mod=0
 ·subst hz
  rw[if_pos rfl]
  show wordsQ [[op],(if no then [33,61] else [61]),join (rs.map rngT) [44]]=_
  rw[words3,hs]
  cases no<;>simp
 ·rw[if_neg hz]
  show wordsQ [[op],[37],dg mod,(if no then [33,61] else [61]),join (rs.map rngT) [44]]=_
  rw[words5,hs,hm]
  cases no<;>simp
theorem partQ_T (l:List Rl) (h:partOk l=true):partQ (partT l)=l:=by
 obtain⟨h1,h2⟩:=part_parts h
 unfold partQ partT
 rw[split_join (c:=97) (k:=1) rfl (by decide) (by simpa using h1) (fun p hp=>by obtain⟨x,hx,rfl⟩:=List.mem_map.1 hp;exact relT_no (op_of (h2 x hx)) (by simp)),List.map_map]
 rw[List.map_congr_left (f:=relQ∘relT) (g:=id) (fun p hp=>relQ_T p (h2 p hp))]
 simp
theorem ruleQ_T (r:Rule) (h:shapeOk r=true):ruleQ (ruleT r)=r:=by
 obtain⟨h1,h2⟩:=shape_parts h
 unfold ruleQ ruleT
 rw[split_join (c:=111) (k:=1) rfl (by decide) (by simpa using h1) (fun p hp=>by obtain⟨x,hx,rfl⟩:=List.mem_map.1 hp;exact partT_no (h2 x hx)),List.map_map]
 rw[List.map_congr_left (f:=partQ∘partT) (g:=id) (fun p hp=>partQ_T p (h2 p hp))]
 simp
theorem okQ_iff {s:List UInt8}:okQ s=true↔ruleE (ruleQ s)=0∧ruleT (ruleQ s)=s:=by
 unfold okQ
 simp
theorem ok_same (s:List UInt8):okQ s=parseOk s∧(parseOk s=true→ruleQ s=ruleP s):=by
 have h1:okQ s=true→parseOk s=true∧ruleP s=ruleQ s:=fun h=>by
  obtain⟨e,t⟩:=okQ_iff.1 h
  have:=parse_text e
  rwa [t] at this
 have h2:parseOk s=true→okQ s=true∧ruleQ s=ruleP s:=fun h=>by
  obtain⟨e,t⟩:=parseOk_iff.1 h
  have q:=ruleQ_T (ruleP s) (ruleE_zero.1 e).1
  rw[t] at q
  exact⟨okQ_iff.2 (by rw[q];exact⟨e,t⟩),q⟩
 refine⟨?_,fun h=>(h2 h).2⟩
 cases hp:parseOk s with
 |true=>exact(h2 hp).1
 |false=>
  cases hq:okQ s with
  |false=>rfl
  |true=>rw[(h1 hq).1] at hp;cases hp
end Rul
namespace Go.Proofs.YtldbfkccieipjaaGreatDoor
set_option maxRecDepth 100000
open Go.RowKit

def OwnsStrs (w:World) (l:List (List UInt8)) (e:Ending) (w':World):Prop:= ∃v,e= .returned v∧w'.ownsRow w.heap.size 9 1 v l.length (l.map txtV)∧Below w.heap.size w w'
set_option maxHeartbeats 1000000 in
theorem cut_own (s at_:List UInt8) (w:World) (ha:at_≠ []) (hs:s.length≤4000000000) (hat:at_.length≤4000000000):
  Calls Tryz.prog 61 #[.string ⟨s.toArray⟩,.string ⟨at_.toArray⟩] w (OwnsStrs w (Lib.split s at_)):=by
 obtain⟨i0,hi,hz0,hz1,hz2⟩:=info_parts infoStr
 have hm:0<at_.length:=List.length_pos_iff.2 ha
 have HA:=lH ha
 clear ha
 go_enter Tryz.func61,Tryz.ntmps61
 go_wp2_with fail
 go_loopw [5,6,7] (fun o f i wr=> ∃(P:List (List UInt8)) (a b:Nat),f= .int .i64 a∧i= .int .i64 b∧a≤b∧b≤s.length∧P.length≤a∧Hid (wr.ownsRow w.heap.size 9 1 o P.length (P.map txtV))∧Hid (Below w.heap.size w wr)∧Hid (Spl.Inv s at_ P a b)) (fun _ _ i _=>s.length-(intOf i).toNat)
 case atStart=>exact⟨[],0,0,rfl,rfl,Nat.le_refl _,Nat.zero_le _,Nat.le_refl _,⟨rfl,.inl ⟨rfl,rfl⟩⟩,Below.refl _ _,Spl.inv_start s at_⟩
 case round=>
  obtain⟨P,a,b,rfl,rfl,hab,hb,hP,HO,HB,HI⟩:=hrel
  by_cases hroom:b+at_.length≤s.length
  ·have SM:=fun w=>slice_midI (P:= Tryz.prog) 9 Tryz.underlying9 s (b:Int) ((b:Int)+(at_.length:Int)) b (b+at_.length) rfl (by omega) (by omega) hroom w
   have e0:b+at_.length-b=at_.length:=by omega
   rw[e0] at SM
   clear e0
   by_cases hX:(s.drop b).take at_.length=at_
   ·have IH:=lH (Spl.inv_hit HI.out HA.out hab hroom hX)
    rw[hX] at SM
    have S2:=fun w=>slice_midI (P:= Tryz.prog) 9 Tryz.underlying9 s (a:Int) (b:Int) a b rfl rfl hab hb w
    clear hX HI
    generalize (s.drop a).take (b-a)=u at*
    have hown:=HO.out
    have hbs:=HB.out.size
    go_wp2_with (at_builtin;refine wpList_append_own _ rfl _ _ 45 rfl w.heap.size 9 i0 (.string ByteArray.empty) 1 16 Tryz.underlying45 hi hz0 hz1 hz2 rfl (by decide) _ _ _ rfl (hown.alloc _) ⟨wr.heap.size,0,none⟩ 1 1 [txtV u] rfl rfl (cell_one_new _ _ _) (fun x hx=>by simp at hx;subst hx;rfl) (by unfold maxLen;omega) (by omega) (by simp;omega) ?_;intro v' w1 hown' hgrow _)
    have HO':=lH (show w1.ownsRow w.heap.size 9 1 v' (P++ [u]).length ((P++ [u]).map txtV) by simpa using hown')
    have HB':=lH (show Below w.heap.size w w1 from(HB.out.alloc hbs _).grown hgrow (by simp;omega) (fun k hk=>(hown.lt k hk).1))
    clear hown hown' hgrow hbs HO HB S2
    go_wp2_with fail
    go_roundw
    case rel=>exact⟨P++ [u],b+at_.length,b+at_.length,by go_num,by go_num,Nat.le_refl _,hroom,by simp;omega,HO',HB',IH⟩
    case measure=>simp[intOf];omega
   ·have IH:=lH (Spl.inv_miss HI.out hroom hX)
    have hXb:((s.drop b).take at_.length==at_)=false:=beq_eq_false_iff_ne.2 hX
    clear HI hX
    generalize (s.drop b).take at_.length=u at*
    go_wp2_with fail
    go_roundw
    case rel=>exact⟨P,a,b+1,rfl,by go_num,by omega,by omega,hP,HO,HB,IH⟩
    case measure=>simp[intOf];omega
  ·have IE:=lH (Spl.inv_end HI.out HA.out hroom)
   have S3:=fun w=>slice_from (P:= Tryz.prog) 9 Tryz.underlying9 s .i64 a (by omega) w
   clear HI
   generalize s.drop a=u at*
   have hown:=HO.out
   have hbs:=HB.out.size
   go_wp2_with (at_builtin;refine wpList_append_own _ rfl _ _ 45 rfl w.heap.size 9 i0 (.string ByteArray.empty) 1 16 Tryz.underlying45 hi hz0 hz1 hz2 rfl (by decide) _ _ _ rfl (hown.alloc _) ⟨wr.heap.size,0,none⟩ 1 1 [txtV u] rfl rfl (cell_one_new _ _ _) (fun x hx=>by simp at hx;subst hx;rfl) (by unfold maxLen;omega) (by omega) (by simp;omega) ?_;intro v' w1 hown' hgrow _)
   have HO':=lH (show w1.ownsRow w.heap.size 9 1 v' (P++ [u]).length ((P++ [u]).map txtV) by simpa using hown')
   have HB':=lH (show Below w.heap.size w w1 from(HB.out.alloc hbs _).grown hgrow (by simp;omega) (fun k hk=>(hown.lt k hk).1))
   clear hown hown' hgrow hbs HO HB S3
   go_wp2_with fail
   go_ret
   exact⟨_,rfl,by rw[IE.out];exact HO'.out,HB'.out⟩
open Go.RowKit Go.Shelf

def qrf (l:List (List UInt8)):List Value:=l.flatMap fun x=> [.int .i64 (Rul.rngQ x).1,.int .i64 (Rul.rngQ x).2]
theorem qrf_at {l:List (List UInt8)}: ∀{j:Nat} {x:List UInt8},l[j]?=some x→(qrf l)[j*2]?=some (.int .i64 (Rul.rngQ x).1)∧(qrf l)[j*2+1]?=some (.int .i64 (Rul.rngQ x).2):=by
 induction l with
 |nil=>intro j x h;simp at h
 |cons a l ih=>
  intro j x h
  cases j with
  |zero=>simp at h;subst h;exact⟨rfl,rfl⟩
  |succ j=>
   have h':=ih (by simpa using h)
   have e:(j+1)*2=j*2+1+1:=by omega
   rw[e]
   exact h'
structure QX (w:World) (B p:Nat) (o m b vb vr:Value) (g5:Nat) (L pre:List (List UInt8)) (W:World):Prop where
 box:Boxed W p #[o,m,b,vb]
 row:W.ownsRow B 176 2 vr pre.length (qrf pre)
 res:Boxed W w.heap.size #[.int .u8 0,.int .i64 0,.bool false,.slice none 0 0]
 low:Below w.heap.size w W
 sz:B≤W.heap.size
 strs: ∀(j:Nat) x,L[j]?=some x→W.cell? ⟨g5,j,none⟩=some (.string ⟨x.toArray⟩)
theorem QX.grown {w:World} {B p:Nat} {o m b vb vr:Value} {g5:Nat} {L pre:List (List UInt8)} {A C:World} {r:Option Nat} (h:QX w B p o m b vb vr g5 L pre A) (g:A.grownBy C r)
  (hr: ∀k,r=some k→w.heap.size<k∧k≠p∧vr.ownBlock≠some k∧k≠g5):QX w B p o m b vb vr g5 L pre C:=
 ⟨boxed_grown h.box g (fun e=>(hr _ e.symm).2.1 rfl),h.row.kept g (by
   cases hv:vr.ownBlock with
   |none=>exact .inl rfl
   |some k=>exact .inr fun e=>(hr k e.symm).2.2.1 hv),boxed_grown h.res g (fun e=>by have:=(hr _ e.symm).1;omega),
  h.low.grown g h.low.size (fun k hk=>by have:=(hr k hk).1;omega),Nat.le_trans h.sz g.size,fun j x hx=>g.cell (h.strs j x hx) (fun e=>(hr _ e.symm).2.2.2 rfl)⟩

theorem QX.lies {w:World} {B p:Nat} {o m b vb vr:Value} {g5:Nat} {L pre:List (List UInt8)} {A C:World} (h:QX w B p o m b vb vr g5 L pre A)
  (hC: ∀(g:Nat) cur e,B≤g→A.heap[g]?=some (.cells cur e (0,0))→C.heap[g]?=A.heap[g]?):SlAt 2 RngC C vr (pre.map Rul.rngQ):=by
 rcases hv:h.row.2 with⟨rfl,hn⟩|⟨g,cap,cur,rfl,hB,hg,hc,hm,_⟩
 ·exact .inl ⟨by rw[List.length_eq_zero_iff.1 hn];rfl,_,_,rfl⟩
 ·by_cases h0:pre.length=0
  ·exact .inl ⟨by rw[List.length_eq_zero_iff.1 h0];rfl,some ⟨g,0,none⟩,cap,by rw[h0]⟩
  ·have hgC:=hC g cur _ hB hg
   refine .inr ⟨g,0,cap,by rw[List.length_map],by rw[List.length_map];omega,by rw[List.length_map];exact hc,hm,fun j x hx=>?_⟩
   rw[List.getElem?_map] at hx
   obtain⟨y,hy,rfl⟩:=Option.map_eq_some_iff.1 hx
   have hj:j<pre.length:=(List.getElem?_eq_some_iff.1 hy).1
   obtain⟨e0,e1⟩:=qrf_at hy
   have c0:=h.row.cellAt (g:=g) (j*2) (by omega)
   have c1:=h.row.cellAt (g:=g) (j*2+1) (by omega)
   rw[e0] at c0
   rw[e1] at c1
   rw[Nat.zero_add]
   exact⟨(World.cell?_of_block (a:=⟨g,j*2,none⟩) hgC).trans c0,(World.cell?_of_block (a:=⟨g,j*2+1,none⟩) hgC).trans c1⟩
theorem QX.below {w:World} {B p:Nat} {o m b vb vr:Value} {g5:Nat} {L pre:List (List UInt8)} {A C:World} (h:QX w B p o m b vb vr g5 L pre A) (hb:Below A.heap.size A C):QX w B p o m b vb vr g5 L pre C:=
 h.grown (grown_below hb) (fun k e=>by cases e)
theorem QX.append {w:World} {B p:Nat} {o m b vb vr v':Value} {g5:Nat} {L pre:List (List UInt8)} {x:List UInt8} {A C:World} (h:QX w B p o m b vb vr g5 L pre A)
  (hown:C.ownsRow B 176 2 v' (pre.length+1) (qrf pre++ [.int .i64 (Rul.rngQ x).1,.int .i64 (Rul.rngQ x).2])) (g:A.grownBy C vr.ownBlock) (hw:w.heap.size<B) (hp:p<B) (h5:g5<B):QX w B p o m b vb v' g5 L (pre++ [x]) C:=by
 have hB: ∀k,vr.ownBlock=some k→B≤k:=fun k hk=>(h.row.lt k hk).1
 refine⟨boxed_grown h.box g (fun e=>by have:=hB _ e.symm;omega),?_,boxed_grown h.res g (fun e=>by have:=hB _ e.symm;omega),
  h.low.grown g h.low.size (fun k hk=>by have:=hB _ hk;omega),Nat.le_trans h.sz g.size,fun j y hy=>g.cell (h.strs j y hy) (fun e=>by have:=hB g5 e.symm;omega)⟩
 have e:qrf (pre++ [x])=qrf pre++ [.int .i64 (Rul.rngQ x).1,.int .i64 (Rul.rngQ x).2]:=by unfold qrf;rw[List.flatMap_append];rfl
 rw[e,List.length_append]
 exact hown
theorem QX.stored {w:World} {B p:Nat} {o m b vb vr:Value} {g5:Nat} {L pre:List (List UInt8)} {A:World} (h:QX w B p o m b vb vr g5 L pre A) (hw:w.heap.size<p) (hp:p<B) (h5:g5≠p):QX w B p o m b vr vr g5 L pre (A.setCell ⟨p,3,none⟩ vr):=by
 have g:A.grownBy (A.setCell ⟨p,3,none⟩ vr) (some p):=⟨rfl,rfl,rfl,by rw[size_setCell];exact Nat.le_refl _,fun k _ hk=>set_else (fun e=>hk (by rw[←e]))⟩
 refine⟨h.box.set 3 vr (by show 3<4;omega),h.row.kept g ?_,h.res.far (by omega) 3 vr,h.low.setCell (p:=⟨p,3,none⟩) (show w.heap.size≤p by omega) vr,by rw[size_setCell];exact h.sz,fun j y hy=>g.cell (h.strs j y hy) (fun e=>by injection e with e;exact h5 e)⟩
 cases hv:vr.ownBlock with
 |none=>exact .inl rfl
 |some k=>exact .inr fun e=>by have:=h.row.lt k hv;injection e with e;omega
theorem row_txt {w:World} {base:Nat} {v:Value} {L:List (List UInt8)} (h:w.ownsRow base 9 1 v L.length (L.map txtV)) (h0:0<L.length):
  ∃g cap,v= .slice (some ⟨g,0,none⟩) L.length cap∧base≤g∧g<w.heap.size∧L.length≤cap∧cap≤maxLen∧ ∀(j:Nat) x,L[j]?=some x→w.cell? ⟨g,j,none⟩=some (.string ⟨x.toArray⟩):=by
 rcases h.2 with⟨e,hn⟩|⟨g,cap,cur,e,hB,hg,hc,hm,_⟩
 ·omega
 ·refine⟨g,cap,e,hB,(Array.getElem?_eq_some_iff.1 hg).1,hc,hm,fun j x hx=>?_⟩
  subst e
  have hj:=(List.getElem?_eq_some_iff.1 hx).1
  rw[h.cellAt j (by omega),List.getElem?_map,hx];rfl
theorem row_any {w:World} {base n k:Nat} {e:TypeId} {v:Value} {xs:List Value} (h:w.ownsRow base e k v n xs): ∃a c,v= .slice a n c:=by
 rcases h.2 with⟨rfl,rfl⟩|⟨g,cap,cur,rfl,_⟩
 ·exact⟨_,_,rfl⟩
 ·exact⟨_,_,rfl⟩
theorem words_short {L:List (List UInt8)} (h:L.length<3):Rul.wordsQ L=⟨0,0,false,[]⟩:=by
 rcases L with _|⟨a,_|⟨b,_|⟨c,r⟩⟩⟩
 ·rfl
 ·cases a with
  |nil=>rfl
  |cons x t=>cases t<;>rfl
 ·cases a with
  |nil=>rfl
  |cons x t=>cases t<;>rfl
 ·simp at h;omega
theorem words_op {a u v:List UInt8} {r:List (List UInt8)} (h:a.length≠1):Rul.wordsQ (a::u::v::r)=⟨0,0,false,[]⟩:=by
 rcases a with _|⟨x,_|⟨y,t⟩⟩
 ·rfl
 ·simp at h
 ·rfl
theorem beq_dec (a b:List UInt8):(a==b)=decide (a=b):=by
 by_cases h:a=b<;>simp[h]
theorem words_any (c:UInt8) (u v:List UInt8) (r:List (List UInt8)): ∃MO X Y bx,Rul.wordsQ ([c]::u::v::r)=⟨c,MO,bx,(Lib.split Y [44]).map Rul.rngQ⟩∧(X== [33,61])=bx∧
  (u= [37]∧r.length=2→MO=Byt.numP v∧r= [X,Y])∧(¬(u= [37]∧r.length=2)→MO=0∧X=u∧Y=v):=by
 by_cases h:u= [37]∧r.length=2
 ·obtain⟨X,Y,rfl⟩: ∃X Y,r= [X,Y]:=by
   rcases r with _|⟨a,_|⟨b,_|⟨c,t⟩⟩⟩
   ·simp at h
   ·simp at h
   ·exact⟨_,_,rfl⟩
   ·simp at h
  obtain⟨rfl,_⟩:=h
  exact⟨_,X,Y,decide (X= [33,61]),Rul.words5 c v X Y,beq_dec X _,fun _=>⟨rfl,rfl⟩,fun hn=>absurd ⟨rfl,rfl⟩ hn⟩
 ·refine⟨0,u,v,decide (u= [33,61]),?_,beq_dec u _,fun hn=>absurd hn h,fun _=>⟨rfl,rfl,rfl⟩⟩
  show(if u= [37]∧r.length=2 then _ else _)=_
  rw[if_neg h]
end Go.Proofs.YtldbfkccieipjaaGreatDoor
