/- A region that draws its order within a round of a loop over an iterator: walked as anywhere, where nothing in it is deferred and nothing is outgrown. No program. -/
import Derived.Test.YtldbfkccieipjaaGreatDoorEf7
import Derived.Test.YtldbfkccieipjaaGreatDoorEf6
import Derived.LaidSub
import Derived.MakeChecks
import Derived.Lib.Join
import Derived.Test.YtldbfkccieipjaaGreatDoorEf4
import Derived.Test.YtldbfkccieipjaaGreatDoorEf0
import Derived.OwnWalk
import Derived.RangeFuncNested
import Derived.RangeFuncLeaves
import Derived.RangeFuncBound
import Derived.Test.YtldbfkccieipjaaGreatDoorShelfI
import Derived.Test.YtldbfkccieipjaaGreatDoorEf5
import Derived.Lib.Hide
import Derived.RangeFuncBox
import Derived.Shelf.Abstract
import Derived.OwnWalkIn
import Derived.TacticsInMore
import Derived.LoopNIn
import Derived.LoopIn
import Derived.OrdersIn
import Derived.TacticsIn
import Derived.RangeFuncCalls
import Derived.Deep.RegionHeld3
namespace Go.Proofs.YtldbfkccieipjaaGreatDoor
set_option maxRecDepth 100000
open Go.RowKit
namespace Ms
def six:List (List UInt8):=five++ [other]
end Ms
/-- the package's list of kinds holds its six texts -/
def KdW (w:World):Prop:= ∃a n c,w.cell? ⟨5,0,none⟩=some (.slice a n c)∧StrsAt w (.slice a n c) Ms.six
theorem KdW.below {w w':World} (h:KdW w) (hb:Below w.heap.size w w'):KdW w':=by
 obtain⟨a,n,c,h1,h2⟩:=h
 exact⟨a,n,c,cell_keep h1 hb,h2.below hb⟩
/-- what a message's walks lean on -/
structure MW (w:World):Prop where
 p:PowW w
 n:NumW w
 k:KdW w
theorem MW.below {w w':World} (h:MW w) (hb:Below w.heap.size w w'):MW w':=⟨h.p.below hb,h.n.below hb,h.k.below hb⟩

set_option maxHeartbeats 2000000 in
theorem mkey_any (x:Ms.Nd) {a:Option Addr} {n c:Nat} (k:List UInt8) (w:World) (hw:MW w) (hk:k.length≤2000000):
  Calls Tryz.prog 174 #[.agg #[.int .i64 x.kind,.string ⟨x.text.toArray⟩,.int .i64 x.off,.slice a n c],.string ⟨k.toArray⟩] w fun e w'=>e= .returned (.bool (Ms.keyB x k))∧Below w.heap.size w w':=by
 have CN:=Lib.hid fun wx=>mname_any k wx (by omega)
 have CX:=Lib.hid fun (wx:World) (hb:Below w.heap.size w wx)=>exact_any k wx (hw.p.below hb) (hw.n.below hb) (by omega)
 obtain⟨ka,kn,kc,hkc,hks⟩:=hw.k
 have CI:=Lib.hid fun (wx:World) (hb:Below w.heap.size w wx)=>scontains_any Ms.six (.slice ka kn kc) k wx (hks.below hb)
 have e6:Ms.six.contains k=(Ms.five.contains k||k==Ms.other):=by rw[Bool.eq_iff_iff];simp[Ms.six]
 rw[e6] at CI
 unfold Ms.keyB
 generalize x.kind=K at*
 generalize x.off=O at*
 generalize x.text=T at*
 generalize Ms.nameB k=NB at*
 generalize Ms.exV k=EX at*
 generalize (Ms.five.contains k||k==Ms.other)=FB at*
 have W0:=Lib.hid (blw_alloc w (.cells #[.int .i64 K,.string ⟨T.toArray⟩,.int .i64 O,.slice a n c] 34))
 have hkc2:=cell_keep hkc W0.out
 clear e6 hks hw hkc
 by_cases k5:K=5
 ·subst k5
  rw[if_pos rfl]
  go_enter Tryz.func174,Tryz.ntmps174
  go_wp2_with fail
  refine(CN.out _).mono ?_
  rintro e w1 ⟨rfl,hb⟩
  go_wp2_with fail
  go_ret
  exact⟨rfl,blw_trans W0.out hb⟩
 ·have b5:(K==5)=false:=beq_no k5
  rw[if_neg k5]
  clear CN k5
  cases FB with
  |true=>
   go_enter Tryz.func174,Tryz.ntmps174
   go_wp2_with fail
   refine(CI.out _ W0.out).mono ?_
   rintro e w' ⟨rfl,rfl⟩
   go_wp2_with fail
   go_ret
   exact⟨ret_bool (by simp),W0.out⟩
  |false=>
   go_enter Tryz.func174,Tryz.ntmps174
   go_wp2_with fail
   refine(CI.out _ W0.out).mono ?_
   rintro e w' ⟨rfl,rfl⟩
   go_wp2_with fail
   refine(CX.out _ W0.out).mono ?_
   rintro e w2 ⟨rfl,hb⟩
   go_wp2_with fail
   go_ret
   exact⟨ret_bool (by simp),blw_trans W0.out hb⟩
open Go.RowKit Go.WideShapes Go.ChangeShapes Go.Deep Ms

theorem gKd: Tryz.prog.globalNamed "linguister/msg.kinds"=some 5:=by kernel_rfl
theorem gKdT:(Tryz.prog.globals[5]?).map (·.type)=some 45:=by kernel_rfl
theorem kdW_of {L:List (String×DataW Unit)} {W:World} (h:laidMetH Tryz.prog L W) (hf:L.filter (fun x=>x.1== "linguister/msg.kinds")= [("linguister/msg.kinds",Rows.laid_linguister_msg_kinds)]):KdW W:=by
 have g:=laidMetH.filter (fun x=>x.1== "linguister/msg.kinds") h
 rw[hf,MakeChecks.laidMetH_plain _ _ _ (by kernel_rfl)] at g
 obtain⟨ps,⟨gg,t,cs,fuel,p,q,hg,ht,hvar,hd,_,_⟩,_⟩:=g
 obtain rfl:=Option.some.inj (gKd.symm.trans hg)
 obtain rfl:=Option.some.inj (gKdT.symm.trans ht)
 obtain⟨a,n,c,e⟩: ∃a n c,cs.toList= [Value.slice a n c]:=by
  rcases open_slice Tryz.underlying45 hd with⟨hcs,_⟩|⟨a',len,cap,_,_,_,_,hcs,_⟩
  ·exact⟨_,_,_,hcs⟩
  ·exact⟨_,_,_,hcs⟩
 rw[e] at hd
 obtain⟨l,hl,hD⟩:=strs_open (a:=a) (n:=n) (c:=c) Tryz.underlying45 Tryz.underlying9 (by kernel_rfl) (by simpa[Value.cells] using hd)
 have el:l=Ms.six:=by
  rcases hD with⟨e,_⟩|⟨sp,e⟩
  ·cases e
  ·simp only[Rows.laid_linguister_msg_kinds] at e
   injection e with e _
   have e2:l.map (fun x=>(.lit (.string x):DataW Unit))=Ms.six.map (fun x=>(.lit (.string x):DataW Unit)):=e.symm
   exact(List.map_inj_right (fun a b h=>by injection h with h;injection h)).1 e2
 subst el
 refine⟨a,n,c,?_,hl⟩
 have hv:=World.var?_cell gKd hvar 0
 rw[hv]
 have:cs= #[Value.slice a n c]:=by
  cases cs with|mk l=>simp at e;rw[e]
 rw[this];rfl

theorem cellsNode: Tryz.prog.cellsOf 34=4:=by kernel_rfl
theorem cellsCase: Tryz.prog.cellsOf 41=2:=by kernel_rfl
theorem cellsArg: Tryz.prog.cellsOf 36=5:=by kernel_rfl
section
variable {H:Type} {enc:TypeId×Value→H} {w:World} {base:Nat} {sp:Nat→Bool} {held:Bool} {fuel:Nat} {a:Option Addr} {n c:Nat} {d:DataW H} {p:List MemPlace}
theorem nodes_open (h:DataW.trod enc Tryz.prog w base sp held fuel 22 (Value.slice a n c).cells.toList=some (d,p)) (hK:Rows.uptoBulk d≤1048576): ∃m:List Nd,MsgAt 1048576 w (.slice a n c) m∧m.length<Rows.uptoBulk d:=
 msg_open Tryz.underlying22 Tryz.underlying32 Tryz.underlying34 Tryz.underlying41 cellsNode cellsCase Tryz.underlying3 Tryz.underlying9 Tryz.underlying3 rfl Tryz.underlying9 rfl (by kernel_rfl) (by kernel_rfl) h hK
end
end Go.Proofs.YtldbfkccieipjaaGreatDoor
namespace Lst
open Go Go.Lib
/-- the first k texts, joined -/
def upto (l:List (List UInt8)) (sep:List UInt8) (k:Nat):List UInt8:=join (l.take k) sep
theorem upto_zero (l:List (List UInt8)) (sep:List UInt8):upto l sep 0= []:=by unfold upto;rw[List.take_zero];exact join_nil sep
theorem upto_one (l:List (List UInt8)) (sep x:List UInt8) (h:l[0]?=some x):upto l sep 1=x:=by
 unfold upto
 cases l with
 |nil=>simp at h
 |cons y r=>simp at h;subst h;simp[join_one]
theorem upto_succ (l:List (List UInt8)) (sep x:List UInt8) (k:Nat) (h0:0<k) (h:l[k]?=some x):upto l sep (k+1)=upto l sep k++sep++x:=by
 unfold upto
 cases l with
 |nil=>simp at h
 |cons y r=>
  cases k with
  |zero=>omega
  |succ k=>
   rw[List.take_succ_cons,List.take_succ_cons,join_cons,join_cons]
   rw[joinTail_take_succ sep r k x (by simpa using h)]
   simp
theorem upto_all (l:List (List UInt8)) (sep:List UInt8) (k:Nat) (h:l.length≤k):upto l sep k=join l sep:=by unfold upto;rw[List.take_of_length_le h]
def total (l:List (List UInt8)) (sep:List UInt8):Nat:=sep.length*l.length+lens l
theorem join_le (l:List (List UInt8)) (sep:List UInt8):(join l sep).length≤total l sep:=by
 cases l with
 |nil=>rw[join_nil];simp[total]
 |cons x r=>rw[join_length];unfold total;simp[Nat.mul_succ];try omega
theorem lens_take (l:List (List UInt8)) (k:Nat):lens (l.take k)≤lens l:=lens_take_le l k
theorem upto_le (l:List (List UInt8)) (sep:List UInt8) (k:Nat):(upto l sep k).length≤total l sep:=by
 refine Nat.le_trans (join_le _ _) ?_
 unfold total
 have h1:=lens_take l k
 have h2:sep.length*(l.take k).length≤sep.length*l.length:=Nat.mul_le_mul_left _ (by simp;omega)
 omega
theorem lens_at (l:List (List UInt8)) (k:Nat) (x:List UInt8) (h:l[k]?=some x):x.length≤lens l:=by
 have h1:=lens_take_succ l k x h
 have h2:=lens_take l (k+1)
 omega
/-- list.Join, plainly -/
def joined (l:List (List UInt8)) (two sep last:List UInt8):List UInt8:=
 if l.length<2 then join l [] else if l.length=2 then l.getD 0 []++two++l.getD 1 [] else join (l.take (l.length-1)) sep++last++l.getD (l.length-1) []
end Lst
namespace Rul
open Go Go.Lib

/-- the pieces of a text have no more signs than it -/
theorem split_lens {sub:List UInt8} (hs:sub≠ []): ∀(k:Nat) (s:List UInt8),s.length≤k→lens (split s sub)+sub.length*(split s sub).length=s.length+sub.length:=by
 intro k
 induction k with
 |zero=>
  intro s h
  have e:s= []:=List.eq_nil_of_length_eq_zero (by omega)
  subst e
  have hi:index [] sub<0:=by
   have r:=index_room [] sub
   have:=List.length_pos_iff.2 hs
   simp at r
   omega
  rw[Spl.split_miss (by have:=index_ge [] sub;omega)]
  simp[lens]
 |succ k ih=>
  intro s h
  by_cases hi:index s sub<0
  ·rw[Spl.split_miss (by have:=index_ge s sub;omega)]
   simp[lens]
  ·obtain⟨i,hi'⟩: ∃i:Nat,index s sub=i:=⟨(index s sub).toNat,by omega⟩
   have room:=index_room s sub (by omega)
   have hp:=List.length_pos_iff.2 hs
   rw[Spl.split_hit hs hi']
   have q:=ih (s.drop (i+sub.length)) (by rw[List.length_drop];omega)
   rw[List.length_drop] at q
   have e:lens (s.take i::split (s.drop (i+sub.length)) sub)=i+lens (split (s.drop (i+sub.length)) sub):=by
    simp[lens];omega
   rw[e,List.length_cons,Nat.mul_succ]
   omega
theorem split_short {s sub:List UInt8} (hs:sub≠ []):(split s sub).length≤s.length+1:=by
 have h:=split_lens hs _ s (Nat.le_refl _)
 have hp:=List.length_pos_iff.2 hs
 have q:1*(split s sub).length≤sub.length*(split s sub).length:=Nat.mul_le_mul_right _ hp
 have:(split s sub).length+sub.length≤s.length+1+sub.length∨True:= .inr trivial
 rcases Nat.eq_or_lt_of_le hp with e|e
 ·rw[←e] at h;omega
 ·have hl:0<(split s sub).length:=by rw[Spl.split_len hs];omega
  obtain⟨m,hm⟩: ∃m,(split s sub).length=m+1:=⟨_,(Nat.succ_pred_eq_of_pos hl).symm⟩
  rw[hm] at h⊢
  rw[Nat.mul_succ] at h
  have:1*m≤sub.length*m:=Nat.mul_le_mul_right _ hp
  omega
/-- a rule that was read has no more relations than its text signs -/
theorem count_P (s:List UInt8):(ruleP s).length≤s.length+1∧count (ruleP s)≤2*s.length+2:=by
 have h1:=split_short (s:=s) (sub:=orS) (by decide)
 have h2:=split_lens (sub:=orS) (by decide) _ s (Nat.le_refl _)
 refine⟨by unfold ruleP;rw[List.length_map];exact h1,?_⟩
 have key: ∀l:List (List UInt8),((l.map partP).map (·.length)).sum≤lens l+l.length:=by
  intro l
  induction l with
  |nil=>simp[lens]
  |cons a l ih=>
   have ha:=split_short (s:=a) (sub:=andS) (by decide)
   have e:lens (a::l)=a.length+lens l:=by simp[lens]
   rw[e,List.map_cons,List.map_cons,List.sum_cons,List.length_cons]
   have:(partP a).length≤a.length+1:=by unfold partP;rw[List.length_map];exact ha
   omega
 have:=key (split s orS)
 unfold count ruleP
 have:0≤orS.length*(split s orS).length:=Nat.zero_le _
 have h3:lens (split s orS)≤s.length:=by
  have hl:0<(split s orS).length:=by rw[Spl.split_len (by decide)];omega
  have:orS.length*1≤orS.length*(split s orS).length:=Nat.mul_le_mul_left _ hl
  omega
 omega
theorem mem_splitK {sub:List UInt8}: ∀(k:Nat) (s x:List UInt8),x∈splitK sub 0 k s→x.length≤s.length:=by
 intro k
 induction k with
 |zero=>intro s x hx;simp[splitK] at hx;rw[hx];omega
 |succ k ih=>
  intro s x hx
  unfold splitK at hx
  split at hx
  ·simp at hx;rw[hx];omega
  ·rcases List.mem_cons.1 hx with rfl|hx
   ·simp;omega
   ·have:=ih _ x hx
    simp at this;omega
theorem mem_split {s sub x:List UInt8} (hx:x∈split s sub):x.length≤s.length:=mem_splitK _ s x hx
theorem hd_len (s:List UInt8):(hd s).2.length≤s.length:=by
 unfold hd
 split
 ·unfold cut;split
  ·simp only[List.length_drop];omega
  ·simp
 ·unfold cut;split
  ·simp only[List.length_drop];omega
  ·simp
theorem rs_P (s:List UInt8): ∀l∈ruleP s,∀x∈l,x.rs.length≤s.length+1:=by
 intro l hl x hx
 obtain⟨p,hp,rfl⟩:=List.mem_map.1 hl
 obtain⟨q,hq,rfl⟩:=List.mem_map.1 hx
 have h1:=mem_split hp
 have h2:=mem_split hq
 have h3:=hd_len q
 have h4:=split_short (s:=(hd q).2) (sub:= [44]) (by decide)
 show((split (hd q).2 [44]).map rngP).length≤_
 rw[List.length_map]
 omega

theorem dg_len {v:Int} (h:v≤1000000):(dg v).length≤7:=Byt.digits_short 7 v.toNat (by omega) (by omega)
theorem rngT_len {p:Int×Int} (h:rngOk p=true):(rngT p).length≤16:=by
 simp only[rngOk,Bool.and_eq_true,decide_eq_true_eq] at h
 have h1:=dg_len (v:=p.1) (by omega)
 have h2:=dg_len (v:=p.2) (by omega)
 unfold rngT
 split
 ·omega
 ·simp only[List.length_append,List.length_cons,List.length_nil];omega
theorem total_le {l:List (List UInt8)} {sep:List UInt8} {k:Nat} (h: ∀x∈l,x.length≤k):Lst.total l sep≤l.length*(k+sep.length):=by
 unfold Lst.total
 have:lens l≤l.length*k:=by
  induction l with
  |nil=>simp[lens]
  |cons a l ih=>
   have e:lens (a::l)=a.length+lens l:=by simp[lens]
   have h1:=h a (by simp)
   have h2:=ih (fun x hx=>h x (by simp[hx]))
   rw[e,List.length_cons,Nat.succ_mul]
   omega
 rw[Nat.mul_add,Nat.mul_comm sep.length]
 omega
theorem relOk_parts {r:Rl} (h:relOk r=true):opOk r.op=true∧0≤r.mod∧r.mod≤1000000∧r.rs≠ []∧ ∀p∈r.rs,rngOk p=true:=by
 simp only[relOk,Bool.and_eq_true,decide_eq_true_eq,Bool.not_eq_true',List.isEmpty_eq_false_iff,List.all_eq_true] at h
 exact⟨h.1.1.1.1,h.1.1.1.2,h.1.1.2,h.1.2,h.2⟩
theorem relT_len {r:Rl} {m:Nat} (h:relOk r=true) (hm:r.rs.length≤m):(relT r).length≤15+m*17:=by
 obtain⟨_,_,h2,_,h4⟩:=relOk_parts h
 have hd:=dg_len h2
 have t:=total_le (l:=r.rs.map rngT) (sep:= [44]) (k:=16) (fun x hx=>by
  obtain⟨p,hp,rfl⟩:=List.mem_map.1 hx
  exact rngT_len (h4 p hp))
 have j:=Lst.join_le (r.rs.map rngT) [44]
 rw[List.length_map] at t
 have q:r.rs.length*(16+([44]:List UInt8).length)≤m*17:=Nat.mul_le_mul_right _ hm
 have hh:(headT r).length≤11:=by
  unfold headT
  split
  ·simp
  ·simp only[List.length_append,List.length_cons,List.length_nil,pcS];omega
 have hn:(if r.no then neS else eqS).length≤4:=by split<;>decide
 unfold relT
 simp only[List.length_append]
 omega
theorem count_mem {r:Rule} {l:List Rl} (h:l∈r):l.length≤count r:=by
 unfold count
 induction r with
 |nil=>simp at h
 |cons a r ih=>
  rcases List.mem_cons.1 h with rfl|h
  ·simp
  ·have:=ih h
   simp;omega
theorem len_count {r:Rule} (h: ∀l∈r,l≠ []):r.length≤count r:=by
 unfold count
 induction r with
 |nil=>simp
 |cons a r ih=>
  have:=ih (fun l hl=>h l (by simp[hl]))
  have:=List.length_pos_iff.2 (h a (by simp))
  simp;omega
/-- the texts of a right rule are short -/
theorem ok_totals {r:Rule} (h:ruleE r=0) (hm: ∀l∈r,∀x∈l,x.rs.length≤100000001):
  Lst.total (r.map partT) [32,111,114,32]≤2000000000000∧ ∀l∈r,l.length≤4000000001∧Lst.total (l.map relT) [32,97,110,100,32]≤2000000000000∧ ∀x∈l,Lst.total (x.rs.map rngT) [44]≤2000000000000:=by
 obtain⟨hs,hc⟩:=ruleE_zero.1 h
 obtain⟨hr,hp⟩:=shape_parts hs
 have hlen:r.length≤20:=Nat.le_trans (len_count (fun l hl=>(part_parts (hp l hl)).1)) hc
 have part: ∀l∈r,Lst.total (l.map relT) [32,97,110,100,32]≤34000001000:=by
  intro l hl
  have t:=total_le (l:=l.map relT) (sep:= [32,97,110,100,32]) (k:=1700000032) (fun x hx=>by
   obtain⟨q,hq,rfl⟩:=List.mem_map.1 hx
   exact relT_len ((part_parts (hp l hl)).2 q hq) (hm l hl q hq))
  rw[List.length_map] at t
  have:l.length≤20:=Nat.le_trans (count_mem hl) hc
  have:l.length*(1700000032+([32,97,110,100,32]:List UInt8).length)≤20*(1700000032+([32,97,110,100,32]:List UInt8).length):=Nat.mul_le_mul_right _ this
  simp only[List.length_cons,List.length_nil] at*
  omega
 refine⟨?_,fun l hl=>⟨?_,?_,fun x hx=>?_⟩⟩
 ·have t:=total_le (l:=r.map partT) (sep:= [32,111,114,32]) (k:=34000001000) (fun x hx=>by
   obtain⟨l,hl,rfl⟩:=List.mem_map.1 hx
   exact Nat.le_trans (Lst.join_le _ _) (part l hl))
  rw[List.length_map] at t
  have:r.length*(34000001000+([32,111,114,32]:List UInt8).length)≤20*(34000001000+([32,111,114,32]:List UInt8).length):=Nat.mul_le_mul_right _ hlen
  simp only[List.length_cons,List.length_nil] at*
  omega
 ·have:=count_mem hl;omega
 ·have:=part l hl;omega
 ·have t:=total_le (l:=x.rs.map rngT) (sep:= [44]) (k:=16) (fun y hy=>by
   obtain⟨p,hp',rfl⟩:=List.mem_map.1 hy
   exact rngT_len ((relOk_parts ((part_parts (hp l hl)).2 x hx)).2.2.2.2 p hp'))
  rw[List.length_map] at t
  have:x.rs.length*(16+([44]:List UInt8).length)≤100000001*(16+([44]:List UInt8).length):=Nat.mul_le_mul_right _ (hm l hl x hx)
  simp only[List.length_cons,List.length_nil] at*
  omega

/-- of what is read: is it a rule's text? -/
def parseOk (s:List UInt8):Bool:=decide (ruleE (ruleP s)=0)&&(ruleT (ruleP s)==s)
theorem parseOk_iff {s:List UInt8}:parseOk s=true↔ruleE (ruleP s)=0∧ruleT (ruleP s)=s:=by
 unfold parseOk
 simp
theorem parse_text {r:Rule} (h:ruleE r=0):parseOk (ruleT r)=true∧ruleP (ruleT r)=r:=by
 have e:=ruleP_T r (ruleE_zero.1 h).1
 exact⟨parseOk_iff.2 (by rw[e];exact⟨h,rfl⟩),e⟩

/-- the operands -/
structure Op5 where
 i:Int
 v:Int
 w:Int
 f:Int
 t:Int
/-- an operand by its name -/
def opv (c:UInt8) (o:Op5):Int:=if c=110 then o.i else if c=105 then o.i else if c=118 then o.v else if c=119 then o.w else if c=102 then o.f else if c=116 then o.t else 0
def opx (r:Rl) (o:Op5):Int:=if r.mod=0 then opv r.op o else (opv r.op o).tmod r.mod
def rngHas (x:Int) (p:Int×Int):Bool:=decide (p.1≤x)&&decide (x≤p.2)
def relH (r:Rl) (o:Op5):Bool:=(r.rs.any (rngHas (opx r o))&&(!decide (r.op=110)||decide (o.t=0))) !=r.no
def partH (l:List Rl) (o:Op5):Bool:=l.all (relH · o)
def ruleH (r:Rule) (o:Op5):Bool:=r.any (partH · o)
end Rul
namespace Rul
open Go Go.Lib Go.Proofs.YtldbfkccieipjaaGreatDoor

/-- the operands of a right number -/
def opsD (c s:Int):Op5:=⟨Dcm.mag c/Dcm.P10 s,s,((Dcm.strip s.toNat (Dcm.mag c%Dcm.P10 s)).1:Int),Dcm.mag c%Dcm.P10 s,(Dcm.strip s.toNat (Dcm.mag c%Dcm.P10 s)).2⟩
/-- a text that is none, or a rule's -/
def textOk (t:List UInt8):Bool:=t.isEmpty||parseOk t
def setOk (l:List (List UInt8)):Bool:=l.all textOk
/-- a text that is a rule that holds -/
def hits (o:Op5) (t:List UInt8):Bool:=!t.isEmpty&&ruleH (ruleP t) o
def kindL:List (List UInt8):= [[122,101,114,111],[111,110,101],[116,119,111],[102,101,119],[109,97,110,121]]
def other:List UInt8:= [111,116,104,101,114]
def kindAt (i:Nat):List UInt8:=(kindL[i]?).getD other
/-- the first kind whose text holds -/
def kindS:List (List UInt8)→Op5→Nat→List UInt8
 | [],_,_=>other
 |t::r,o,i=>if hits o t then kindAt i else kindS r o (i+1)
theorem kindS_hit {o:Op5} {x:List UInt8}: ∀{l:List (List UInt8)} {k i:Nat},l[k]?=some x→(∀y∈l.take k,hits o y=false)→hits o x=true→kindS l o i=kindAt (i+k)
 | [],k,i,h,_,_=>by simp at h
 |t::r,0,i,h,_,hx=>by
  simp at h
  subst h
  unfold kindS
  rw[hx]
  rfl
 |t::r,k+1,i,h,ha,hx=>by
  have h0:=ha t (by simp)
  unfold kindS
  rw[h0]
  have:=kindS_hit (l:=r) (k:=k) (i:=i+1) (by simpa using h) (fun y hy=>ha y (by simp[hy])) hx
  rw[show i+1+k=i+(k+1) by omega] at this
  simpa using this
theorem kindS_none {o:Op5}: ∀{l:List (List UInt8)} {i:Nat},(∀y∈l,hits o y=false)→kindS l o i=other
 | [],_,_=>rfl
 |t::r,i,h=>by
  unfold kindS
  rw[h t (by simp)]
  simpa using kindS_none (l:=r) (i:=i+1) (fun y hy=>h y (by simp[hy]))
theorem take_hits {o:Op5} {l:List (List UInt8)} {k:Nat} {x:List UInt8} (h:l[k]?=some x) (ha: ∀y∈l.take k,hits o y=false) (hx:hits o x=false): ∀y∈l.take (k+1),hits o y=false:=by
 intro y hy
 rw[List.take_add_one,h] at hy
 rcases List.mem_append.1 hy with hy|hy
 ·exact ha y hy
 ·simp at hy;subst hy;exact hx
theorem take_ok {l:List (List UInt8)} {k:Nat} {x:List UInt8} (h:l[k]?=some x) (ha:(l.take k).all textOk=true) (hx:textOk x=true):(l.take (k+1)).all textOk=true:=by
 rw[List.take_add_one,h,List.all_append,ha]
 simp[hx]
theorem not_ok {l:List (List UInt8)} {x:List UInt8} (h:x∈l) (hx:textOk x=false):setOk l=false:=by
 unfold setOk
 rw[List.all_eq_false]
 exact⟨x,h,by rw[hx];decide⟩
theorem mem_ok {l:List (List UInt8)} {x:List UInt8} (h:setOk l=true) (hx:x∈l):textOk x=true:=List.all_eq_true.1 h x hx
end Rul
namespace Go.Proofs.YtldbfkccieipjaaGreatDoor
open Go.RowKit

set_option maxHeartbeats 1000000 in
theorem number_any (x:List UInt8) (w:World) (hN:NumW w) (hx:x.length≤4000000000):
  Calls Tryz.prog 98 #[.string ⟨x.toArray⟩] w fun e w'=>e= .returned (.int .i64 (Rul.num x))∧Below w.heap.size w w':=by
 by_cases h: ∃v,Lib.atoiAll x= .ok v
 ·obtain⟨v,h⟩:=h
  have e:Rul.num x=v:=by unfold Rul.num;rw[h]
  have CA:=Lib.hid fun w=>atoi_yes x v w hx h
  rw[e]
  clear h e
  go_enter Tryz.func98,Tryz.ntmps98
  go_wp2_with fail
  refine(CA.out _).mono ?_
  rintro e w1 ⟨rfl,hb⟩
  go_wp2_with fail
  go_ret
  exact⟨rfl,hb⟩
 ·have e:Rul.num x= -1:=by
   unfold Rul.num
   split
   ·rename_i v h';exact absurd ⟨v,h'⟩ h
   ·rfl
  have CA:=Lib.hid fun w hW=>atoi_no x w hW hx (fun v g=>h ⟨v,g⟩)
  rw[e]
  clear h e
  go_enter Tryz.func98,Tryz.ntmps98
  go_wp2_with fail
  refine(CA.out _ hN).mono ?_
  rintro e w1 ⟨u,N,rfl,hb⟩
  go_wp2_with fail
  go_ret
  exact⟨rfl,hb⟩
open Go.RowKit

variable {F:Fence} {n:Nat} {P:Program}

/-- what is said of a world stands when the one block b turns, or new ones come -/
def Turns {β:Type} (b:Nat) (J:β→World→Prop):Prop:= ∀s A B,J s A→A.grownBy B (some b)→J s B
/-- an iterator that hands over L, one by one; the one block that it turns is b; what a round keeps is Kp -/
def ListAt {α:Type} (F:Fence) (n:Nat) (P:Program) (g:Nat) (lb:Array Value) (encs:α→Array Value) (Kp:World→World→Prop) (b:Nat) (L:List α) (w:World):Prop:=
 ∀(l:Nat) (J:List α→World→Prop) (W:World),Below w.heap.size w W→Turns b J→
  (∀pre x W1,J pre W1→pre++ [x]<+:L→YieldAt F (n-1) P l (encs x) W1 fun e W'=>e= .returned (.bool true)∧J (pre++ [x]) W'∧Kp W1 W')→
  J [] W→
  CallsIn F n P g (#[.func (.yield l) #[] #[]]++lb) W fun e W'=>(∃v,e= .returned v)∧J L W'
/-- a round goes on -/
def onPost {α:Type} (B:Nat) (Kp:World→World→Prop) (I:List α→World→Prop) (xs:List α) (W:World):Exit→Act→World→Prop
 | .normal,_,W'=>KeepsFrom B W W'∧Kp W W'∧I xs W'
 |_,_,_=>False
theorem ListAt.inRound {α:Type} {g:Nat} {lb:Array Value} {encs:α→Array Value} {Kp:World→World→Prop} {b:Nat} {L:List α} {w:World} (l:Nat)
  (h:ListAt F n P g lb encs Kp b L w):ListAt (F.inRound l) n P g lb encs Kp b L w:=h
theorem rec_kept {A B:World} {b k:Nat} {o:Obj} (hg:A.grownBy B (some b)) (h:A.heap[k]?=some o) (hne:k≠b):B.heap[k]?=some o:=
 (hg.block k (Array.getElem?_eq_some_iff.1 h).1 (fun e=>hne (Option.some.inj e))).trans h

/-- the loop, outermost -/
theorem wpIn_range_out {α:Type} {g:Operand} {ps:Array Tmp} {assign body:Code} {Q:Exit→Act→World→Prop} {a:Act} {w:World}
  (hro:F.round=none) (h1:1≤n) {gf:Nat} {lb:Array Value} (hg:a.eval g= .func (.func gf) #[] lb) (hFg:F.fn gf) (eg: ∀args w,(callFunc gf args).run P w= .ok (.enter gf args) w)
  {encs:α→Array Value} {Kp:World→World→Prop} {b:Nat} {L:List α} (hseq:ListAt F (n-1) P gf lb encs Kp b L w) (hbw:b<w.heap.size)
  (hKt: ∀{A B C:World},Kp A B→Kp B C→Kp A C) (hKb: ∀(W:World) (l:Nat) (o o':Obj),w.heap.size≤l→W.heap[l]?=some o→o.isCells=false→o.isWalk=false→Kp W (W.putObj l o')) (hps: ∀x,(encs x).size=ps.size)
  (I:List α→World→Prop) (hI:OwnFrom w.heap.size I) (hIb:Turns b I) (h0:I [] w) (Ax:α→Act→World→Prop) (hAx: ∀x a',OwnFrom w.heap.size (fun (_:Unit) W=>Ax x a' W))
  (hassign: ∀(l:Nat) (pre:List α) (x:α) (W:World) (K:Act→World→Prop),I pre W→(∀a' W',KeepsFrom w.heap.size W W'→Kp W W'→I pre W'→Ax x a' W'→K a' W')→
   assign.wpIn (F.inRound l) (n-1-1) P (Exit.then K (fun _ _ _=>False)) {tmps:=(ps.zip (encs x)).foldl (fun t (p,v)=>t.setIfInBounds p v) a.tmps,defers:= []} W)
  (hbody: ∀(l:Nat) (pre:List α) (x:α) (a':Act) (W:World),w.heap.size≤l→(∃r,W.heap[l]?=some (.loop r))→I pre W→Ax x a' W→pre++ [x]<+:L→body.wpIn (F.inRound l) (n-1-1) P (onPost w.heap.size Kp I (pre++ [x]) W) a' W)
  (hdone: ∀(D:Nat) (W:World),w.heap.size≤D→I L W→W.heap[D]?=some (.deferred (some []))→Q .normal {a with defers:={target:= .collected D,args:= #[]}::a.defers} W):
  (Code.rangeFunc g ps assign body).wpIn F n P Q a w:=by
 refine wpIn_rangeFunc ?_
 intro fn hfn
 rw[hro]
 obtain⟨rec,hrec⟩: ∃rec:LoopState→Loop,rec=fun st=>{state:=st,pending:=none,fn,tmps:=a.tmps,params:=ps,assign,body,defers:=w.heap.size}:=⟨_,rfl⟩
 obtain⟨W1,hW1⟩: ∃W1,(w.alloc (.deferred (some []))).alloc (.loop (rec .ready))=W1:=⟨_,rfl⟩
 have hL1:W1.heap[w.heap.size+1]?=some (.loop (rec .ready)):=by
  rw[←hW1];have:=World.alloc_heap_new (w.alloc (.deferred (some []))) (.loop (rec .ready));rwa [World.size_alloc] at this
 have hK1:W1.heap[w.heap.size]?=some (.deferred (some [])):=by
  rw[←hW1];exact(Below.heap_alloc _ _ _ (by simp)).trans (World.alloc_heap_new w _)
 have hI1:I [] W1:=by rw[←hW1];exact hI.alloc _ (hI.alloc _ h0)
 have hb1:Below w.heap.size w W1:=by
  rw[←hW1];exact((Below.refl _ w).alloc (Nat.le_refl _) _).alloc (by simp) _
 refine⟨w.heap.size+1,[{target:= .collected w.heap.size,args:= #[]}],W1,{target:= .fn (.func gf) lb,args:= #[.func (.yield (w.heap.size+1)) #[] #[]]},W1,gf,
  #[.func (.yield (w.heap.size+1)) #[] #[]]++lb,W1,?_,?_,?_,?_,fun _=>h1,?_⟩
 ·rw[←hW1,hrec];exact run_enterLoop_outer _ _ _ _ _
 ·simp only[resolve,hg]
  simp[go_sem]
 ·intro f' hf';simp[Target.leads] at hf';subst hf';exact hFg
 ·simp[invoke,go_sem,eg]
 refine(hseq (w.heap.size+1)
  (fun pre W=>I pre W∧W.heap[w.heap.size+1]?=some (.loop (rec .ready))∧W.heap[w.heap.size]?=some (.deferred (some [])))
  W1 hb1 (fun s A B hs hg'=>⟨hIb s A B hs.1 hg',rec_kept hg' hs.2.1 (by omega),rec_kept hg' hs.2.2 (by omega)⟩) ?_ ⟨hI1,hL1,hK1⟩).mono ?_
 ·rintro pre x W ⟨hi,hl,hk⟩ hlen
  have hy:=run_yield (P:=P) (args:=encs x) hl (by rw[hrec];exact hps x)
  rw[hrec] at hy
  refine⟨fn,_,assign,body,hy,roundIn_of_wpIn hfn (hassign _ pre x W _ hi ?_)⟩
  clear hy
  intro a' Wa hkfa hkpa hia hax
  have hla:=hkfa.same _ _ (by omega) hl rfl
  have hka:=hkfa.same _ _ (Nat.le_refl _) hk rfl
  have hlt:=(Array.getElem?_eq_some_iff.1 hla).1
  refine⟨_,run_beginRound hla (by rw[hrec]),?_⟩
  obtain⟨W2,hW2⟩: ∃W2,Wa.putObj (w.heap.size+1) (.loop {rec .ready with state:= .busy})=W2:=⟨_,rfl⟩
  have hl2:W2.heap[w.heap.size+1]?=some (.loop {rec .ready with state:= .busy}):=by rw[←hW2];exact World.putObj_heap_same hlt
  have hk2:W2.heap[w.heap.size]?=some (.deferred (some [])):=by rw[←hW2];exact(World.putObj_heap_other (by omega)).trans hka
  have hw2:Kp Wa W2:=by rw[←hW2];exact hKb _ _ _ _ (by omega) hla rfl rfl
  have hi2:I pre W2:=by rw[←hW2];exact hI.putObj _ hia (by omega) hla rfl
  have ha2:Ax x a' W2:=by rw[←hW2];exact(hAx x a').putObj (s:=()) _ hax (by omega) hla rfl
  rw[hW2]
  refine wpIn_mono (hbody _ pre x a' W2 (by omega) ⟨_,hl2⟩ hi2 ha2 hlen) ?_
  rintro e a3 W3 hp
  cases e with
  |normal=>
   obtain⟨hk3,hkp3,hi3⟩:=hp
   have hl3:=hk3.same _ _ (by omega) hl2 rfl
   have hd3:=hk3.same _ _ (Nat.le_refl _) hk2 rfl
   have hr:=run_endRound (P:=P) none hl3
   exact⟨_,_,hr,rfl,⟨hI.putObj _ hi3 (by omega) hl3 rfl,by
    rw[World.putObj_heap_same (Array.getElem?_eq_some_iff.1 hl3).1];rw[hrec];rfl,(World.putObj_heap_other (by omega)).trans hd3⟩,hKt hkpa (hKt (hKt hw2 hkp3) (hKb _ _ _ _ (by omega) hl3 rfl rfl))⟩
  |ret=>exact hp.elim
  |exit id=>exact hp.elim
  |goto t=>exact hp.elim
  |panic ch=>exact hp.elim
  |outgrown=>exact hp.elim
 ·rintro e W2 ⟨⟨v,rfl⟩,hi,hl,hk⟩
  exact⟨none,_,by have:=run_endLoop (P:=P) hl (by rw[hrec];simp);rw[hrec] at this;exact this,hdone _ _ (Nat.le_refl _) (hI.putObj _ hi (by omega) hl rfl) ((World.putObj_heap_other (by omega)).trans hk)⟩

/-- the loop, within a round of another one -/
theorem wpIn_range_in {α:Type} {g:Operand} {ps:Array Tmp} {assign body:Code} {Q:Exit→Act→World→Prop} {a:Act} {w:World}
  {l₀:Nat} {r₀:Loop} (hro:F.round=some l₀) (hl₀:w.heap[l₀]?=some (.loop r₀)) (h1:1≤n) {gf:Nat} {lb:Array Value} (hg:a.eval g= .func (.func gf) #[] lb) (hFg:F.fn gf) (eg: ∀args w,(callFunc gf args).run P w= .ok (.enter gf args) w)
  {encs:α→Array Value} {Kp:World→World→Prop} {b:Nat} {L:List α} (hseq:ListAt F (n-1) P gf lb encs Kp b L w) (hbw:b<w.heap.size)
  (hKt: ∀{A B C:World},Kp A B→Kp B C→Kp A C) (hKb: ∀(W:World) (l:Nat) (o o':Obj),w.heap.size≤l→W.heap[l]?=some o→o.isCells=false→o.isWalk=false→Kp W (W.putObj l o')) (hps: ∀x,(encs x).size=ps.size)
  (I:List α→World→Prop) (hI:OwnFrom w.heap.size I) (hIb:Turns b I) (h0:I [] w) (Ax:α→Act→World→Prop) (hAx: ∀x a',OwnFrom w.heap.size (fun (_:Unit) W=>Ax x a' W))
  (hassign: ∀(l:Nat) (pre:List α) (x:α) (W:World) (K:Act→World→Prop),I pre W→(∀a' W',KeepsFrom w.heap.size W W'→Kp W W'→I pre W'→Ax x a' W'→K a' W')→
   assign.wpIn (F.inRound l) (n-1-1) P (Exit.then K (fun _ _ _=>False)) {tmps:=(ps.zip (encs x)).foldl (fun t (p,v)=>t.setIfInBounds p v) a.tmps,defers:= []} W)
  (hbody: ∀(l:Nat) (pre:List α) (x:α) (a':Act) (W:World),w.heap.size≤l→(∃r,W.heap[l]?=some (.loop r))→I pre W→Ax x a' W→pre++ [x]<+:L→body.wpIn (F.inRound l) (n-1-1) P (onPost w.heap.size Kp I (pre++ [x]) W) a' W)
  (hdone: ∀(W:World),I L W→Q .normal a W):
  (Code.rangeFunc g ps assign body).wpIn F n P Q a w:=by
 refine wpIn_rangeFunc ?_
 intro fn hfn
 rw[hro]
 obtain⟨rec,hrec⟩: ∃rec:LoopState→Loop,rec=fun st=>{state:=st,pending:=none,fn,tmps:=a.tmps,params:=ps,assign,body,defers:=r₀.defers}:=⟨_,rfl⟩
 obtain⟨W1,hW1⟩: ∃W1,w.alloc (.loop (rec .ready))=W1:=⟨_,rfl⟩
 have hL1:W1.heap[w.heap.size]?=some (.loop (rec .ready)):=by rw[←hW1];exact World.alloc_heap_new w _
 have hI1:I [] W1:=by rw[←hW1];exact hI.alloc _ h0
 have hb1:Below w.heap.size w W1:=by rw[←hW1];exact(Below.refl _ w).alloc (Nat.le_refl _) _
 refine⟨w.heap.size,[],W1,{target:= .fn (.func gf) lb,args:= #[.func (.yield w.heap.size) #[] #[]]},W1,gf,
  #[.func (.yield w.heap.size) #[] #[]]++lb,W1,?_,?_,?_,?_,fun _=>h1,?_⟩
 ·rw[←hW1,hrec];exact run_enterLoop_inner hl₀ _ _ _ _ _
 ·simp only[resolve,hg]
  simp[go_sem]
 ·intro f' hf';simp[Target.leads] at hf';subst hf';exact hFg
 ·simp[invoke,go_sem,eg]
 refine(hseq w.heap.size (fun pre W=>I pre W∧W.heap[w.heap.size]?=some (.loop (rec .ready)))
  W1 hb1 (fun s A B hs hg'=>⟨hIb s A B hs.1 hg',rec_kept hg' hs.2 (by omega)⟩) ?_ ⟨hI1,hL1⟩).mono ?_
 ·rintro pre x W ⟨hi,hl⟩ hlen
  have hy:=run_yield (P:=P) (args:=encs x) hl (by rw[hrec];exact hps x)
  rw[hrec] at hy
  refine⟨fn,_,assign,body,hy,roundIn_of_wpIn hfn (hassign _ pre x W _ hi ?_)⟩
  clear hy
  intro a' Wa hkfa hkpa hia hax
  have hla:=hkfa.same _ _ (Nat.le_refl _) hl rfl
  have hlt:=(Array.getElem?_eq_some_iff.1 hla).1
  refine⟨_,run_beginRound hla (by rw[hrec]),?_⟩
  obtain⟨W2,hW2⟩: ∃W2,Wa.putObj w.heap.size (.loop {rec .ready with state:= .busy})=W2:=⟨_,rfl⟩
  have hl2:W2.heap[w.heap.size]?=some (.loop {rec .ready with state:= .busy}):=by rw[←hW2];exact World.putObj_heap_same hlt
  have hw2:Kp Wa W2:=by rw[←hW2];exact hKb _ _ _ _ (Nat.le_refl _) hla rfl rfl
  have hi2:I pre W2:=by rw[←hW2];exact hI.putObj _ hia (Nat.le_refl _) hla rfl
  have ha2:Ax x a' W2:=by rw[←hW2];exact(hAx x a').putObj (s:=()) _ hax (Nat.le_refl _) hla rfl
  rw[hW2]
  refine wpIn_mono (hbody _ pre x a' W2 (Nat.le_refl _) ⟨_,hl2⟩ hi2 ha2 hlen) ?_
  rintro e a3 W3 hp
  cases e with
  |normal=>
   obtain⟨hk3,hkp3,hi3⟩:=hp
   have hl3:=hk3.same _ _ (Nat.le_refl _) hl2 rfl
   have hr:=run_endRound (P:=P) none hl3
   exact⟨_,_,hr,rfl,⟨hI.putObj _ hi3 (Nat.le_refl _) hl3 rfl,by
    rw[World.putObj_heap_same (Array.getElem?_eq_some_iff.1 hl3).1];rw[hrec];rfl⟩,hKt hkpa (hKt (hKt hw2 hkp3) (hKb _ _ _ _ (Nat.le_refl _) hl3 rfl rfl))⟩
  |ret=>exact hp.elim
  |exit id=>exact hp.elim
  |goto t=>exact hp.elim
  |panic ch=>exact hp.elim
  |outgrown=>exact hp.elim
 ·rintro e W2 ⟨⟨v,rfl⟩,hi,hl⟩
  exact⟨none,_,by have:=run_endLoop (P:=P) hl (by rw[hrec];simp);rw[hrec] at this;exact this,hdone _ (hI.putObj _ hi (Nat.le_refl _) hl rfl)⟩
/-- the same, at one value a round, kept in slot d -/
theorem wpIn_range_out1 {α:Type} {g:Operand} {q d:Nat} {assign body:Code} {Q:Exit→Act→World→Prop} {a:Act} {w:World}
  (hro:F.round=none) (h1:1≤n) {gf:Nat} {lb:Array Value} (hg:a.eval g= .func (.func gf) #[] lb) (hFg:F.fn gf) (eg: ∀args w,(callFunc gf args).run P w= .ok (.enter gf args) w)
  {val:α→Value} {Kp:World→World→Prop} {b:Nat} {L:List α} (hseq:ListAt F (n-1) P gf lb (fun x=> #[val x]) Kp b L w) (hbw:b<w.heap.size)
  (hKt: ∀{A B C:World},Kp A B→Kp B C→Kp A C) (hKb: ∀(W:World) (l:Nat) (o o':Obj),w.heap.size≤l→W.heap[l]?=some o→o.isCells=false→o.isWalk=false→Kp W (W.putObj l o'))
  (I:List α→World→Prop) (hI:OwnFrom w.heap.size I) (hIb:Turns b I) (h0:I [] w)
  (hassign: ∀(l:Nat) (pre:List α) (x:α) (W:World) (K:Act→World→Prop),I pre W→(∀W',KeepsFrom w.heap.size W W'→Kp W W'→I pre W'→K {tmps:=(a.tmps.setIfInBounds q (val x)).setIfInBounds d (val x),defers:= []} W')→
   assign.wpIn (F.inRound l) (n-1-1) P (Exit.then K (fun _ _ _=>False)) {tmps:=a.tmps.setIfInBounds q (val x),defers:= []} W)
  (hbody: ∀(l:Nat) (pre:List α) (x:α) (W:World),w.heap.size≤l→(∃r,W.heap[l]?=some (.loop r))→I pre W→pre++ [x]<+:L→body.wpIn (F.inRound l) (n-1-1) P (onPost w.heap.size Kp I (pre++ [x]) W) {tmps:=(a.tmps.setIfInBounds q (val x)).setIfInBounds d (val x),defers:= []} W)
  (hdone: ∀(D:Nat) (W:World),w.heap.size≤D→I L W→W.heap[D]?=some (.deferred (some []))→Q .normal {a with defers:={target:= .collected D,args:= #[]}::a.defers} W):
  (Code.rangeFunc g #[q] assign body).wpIn F n P Q a w:=
 wpIn_range_out hro h1 hg hFg eg hseq hbw hKt hKb (fun _=>rfl) I hI hIb h0 (fun x a' _=>a'={tmps:=(a.tmps.setIfInBounds q (val x)).setIfInBounds d (val x),defers:= []}) (fun _ _=>ownFrom_pure _ _)
  (fun l pre x W K hi hK=>by
   have h:=hassign l pre x W K hi (fun W' k1 k2 k3=>hK _ W' k1 k2 k3 rfl)
   simpa using h)
  (fun l pre x a' W h1 h2 h3 h4 h5=>by subst h4;exact hbody l pre x W h1 h2 h3 h5) hdone
/-- the same, at one value a round, kept in slot d -/
theorem wpIn_range_in1 {α:Type} {g:Operand} {q d:Nat} {assign body:Code} {Q:Exit→Act→World→Prop} {a:Act} {w:World}
  {l₀:Nat} {r₀:Loop} (hro:F.round=some l₀) (hl₀:w.heap[l₀]?=some (.loop r₀)) (h1:1≤n) {gf:Nat} {lb:Array Value} (hg:a.eval g= .func (.func gf) #[] lb) (hFg:F.fn gf) (eg: ∀args w,(callFunc gf args).run P w= .ok (.enter gf args) w)
  {val:α→Value} {Kp:World→World→Prop} {b:Nat} {L:List α} (hseq:ListAt F (n-1) P gf lb (fun x=> #[val x]) Kp b L w) (hbw:b<w.heap.size)
  (hKt: ∀{A B C:World},Kp A B→Kp B C→Kp A C) (hKb: ∀(W:World) (l:Nat) (o o':Obj),w.heap.size≤l→W.heap[l]?=some o→o.isCells=false→o.isWalk=false→Kp W (W.putObj l o'))
  (I:List α→World→Prop) (hI:OwnFrom w.heap.size I) (hIb:Turns b I) (h0:I [] w)
  (hassign: ∀(l:Nat) (pre:List α) (x:α) (W:World) (K:Act→World→Prop),I pre W→(∀W',KeepsFrom w.heap.size W W'→Kp W W'→I pre W'→K {tmps:=(a.tmps.setIfInBounds q (val x)).setIfInBounds d (val x),defers:= []} W')→
   assign.wpIn (F.inRound l) (n-1-1) P (Exit.then K (fun _ _ _=>False)) {tmps:=a.tmps.setIfInBounds q (val x),defers:= []} W)
  (hbody: ∀(l:Nat) (pre:List α) (x:α) (W:World),w.heap.size≤l→(∃r,W.heap[l]?=some (.loop r))→I pre W→pre++ [x]<+:L→body.wpIn (F.inRound l) (n-1-1) P (onPost w.heap.size Kp I (pre++ [x]) W) {tmps:=(a.tmps.setIfInBounds q (val x)).setIfInBounds d (val x),defers:= []} W)
  (hdone: ∀(W:World),I L W→Q .normal a W):
  (Code.rangeFunc g #[q] assign body).wpIn F n P Q a w:=
 wpIn_range_in hro hl₀ h1 hg hFg eg hseq hbw hKt hKb (fun _=>rfl) I hI hIb h0 (fun x a' _=>a'={tmps:=(a.tmps.setIfInBounds q (val x)).setIfInBounds d (val x),defers:= []}) (fun _ _=>ownFrom_pure _ _)
  (fun l pre x W K hi hK=>by
   have h:=hassign l pre x W K hi (fun W' k1 k2 k3=>hK _ W' k1 k2 k3 rfl)
   simpa using h)
  (fun l pre x a' W h1 h2 h3 h4 h5=>by subst h4;exact hbody l pre x W h1 h2 h3 h5) hdone
open Go.RowKit Go.Shelf

attribute [local go_sem] Oper.semAt_some

/-- what a round over pieces keeps: what lay below n₀, and the iterator's own three boxes -/
structure KpS (n₀ bp bs bv:Nat) (W W':World):Prop where
 low:Below n₀ W W'
 p:W'.heap[bp]?=W.heap[bp]?
 s:W'.heap[bs]?=W.heap[bs]?
 v:W'.heap[bv]?=W.heap[bv]?
theorem KpS.trans {n₀ bp bs bv:Nat} {A B C:World} (h:KpS n₀ bp bs bv A B) (k:KpS n₀ bp bs bv B C):KpS n₀ bp bs bv A C:=
 ⟨h.low.trans k.low,k.p.trans h.p,k.s.trans h.s,k.v.trans h.v⟩
theorem KpS.put {n₀ bp bs bv:Nat} {w:World} (hn:n₀≤w.heap.size) (hp:bp<w.heap.size) (hs:bs<w.heap.size) (hv:bv<w.heap.size) (W:World) (l:Nat) (o o':Obj) (hl:w.heap.size≤l) (h:W.heap[l]?=some o) (ho:o.isCells=false) (hw:o.isWalk=false):KpS n₀ bp bs bv W (W.putObj l o'):=
 ⟨belowK_b hn W l o o' hl h ho hw,World.putObj_heap_other (by omega),World.putObj_heap_other (by omega),World.putObj_heap_other (by omega)⟩
theorem max_low {n₀:Nat} {W W':World} (hg: 4<n₀) (h:MaxW W) (hb:Below n₀ W W'):MaxW W':=by
 obtain⟨m,hm⟩:=h
 exact⟨m,(hb.cell (p:=⟨4,0,none⟩) hg).trans hm⟩
/-- how much of the text is left -/
def leftS (b:Nat) (w:World):Nat:=match w.cell? ⟨b,0,none⟩ with|some (.string x)=>x.size|_=>0
theorem leftS_eq {b:Nat} {w:World} {x:List UInt8} (h:w.cell? ⟨b,0,none⟩=some (.string ⟨x.toArray⟩)):leftS b w=x.length:=by
 unfold leftS;rw[h];exact size_mkl x

set_option maxHeartbeats 2000000 in
theorem split_iter (s sep:List UInt8) (bp bs bv n₀ n:Nat) (w:World) (hn:1≤n) (hsep:sep≠ []) (hs:s.length≤4000000000) (hl:sep.length≤1000)
  (hg: 4<n₀) (h0:n₀≤bs) (hm:MaxW w) (hps:bp≠bs) (hvs:bv≠bs) (hbp:bp<w.heap.size) (hbs:bs<w.heap.size) (hbv:bv<w.heap.size)
  (cp:w.cell? ⟨bp,0,none⟩=some (.string ⟨sep.toArray⟩)) (cs:w.cell? ⟨bs,0,none⟩=some (.string ⟨s.toArray⟩)) (cv:w.cell? ⟨bv,0,none⟩=some (.int .i64 0)) (fs:w.frozen? ⟨bs,0,none⟩=false):
  ListAt Fence.wide n Tryz.prog 136 #[.pointer (some ⟨bp,0,none⟩),.pointer (some ⟨bs,0,none⟩),.pointer (some ⟨bv,0,none⟩)] (fun x:List UInt8=> #[.string ⟨x.toArray⟩]) (KpS n₀ bp bs bv) bs (Lib.split s sep) w:=by
 intro l J W hW hJ hY hJ0
 have HY:=Lib.hid hY
 have HJ:=Lib.hid hJ
 have kp:W.cell? ⟨bp,0,none⟩=some (.string ⟨sep.toArray⟩):=(hW.cell (p:=⟨bp,0,none⟩) hbp).trans cp
 have ks:W.cell? ⟨bs,0,none⟩=some (.string ⟨s.toArray⟩):=(hW.cell (p:=⟨bs,0,none⟩) hbs).trans cs
 have kv:W.cell? ⟨bv,0,none⟩=some (.int .i64 0):=(hW.cell (p:=⟨bv,0,none⟩) hbv).trans cv
 have gs:W.frozen? ⟨bs,0,none⟩=false:=(hW.frozen (p:=⟨bs,0,none⟩) hbs).trans fs
 have hM:=Lib.hid (hm.below hW)
 have dl:((sep.length:Int)==0)=false:=beq_no (by have:=List.length_pos_iff.2 hsep;omega)
 clear hY hJ cp cs cv fs hW hm
 refine callsIn_of_wp Tryz.func136 rfl trivial ?_ rfl
 simp only[Tryz.ntmps136,List.size_toArray,List.length_cons,List.length_nil,Nat.reduceAdd,Nat.reduceSub,Array.replicate_succ,Array.replicate_zero,List.push_toArray,List.append_toArray,List.nil_append,List.cons_append]
 have KS:=Lib.hid ks
 gi_wp2
 gi_loopw [7,8] (fun _ _ wr=> ∃(pre:List (List UInt8)) (rest:List UInt8),Hid (Lib.split s sep=pre++Lib.split rest sep)∧rest.length≤s.length∧Hid (J pre wr)∧Hid (MaxW wr)∧Hid (wr.cell? ⟨bp,0,none⟩=some (.string ⟨sep.toArray⟩))∧Hid (wr.cell? ⟨bs,0,none⟩=some (.string ⟨rest.toArray⟩))∧Hid (wr.cell? ⟨bv,0,none⟩=some (.int .i64 0))∧Hid (wr.frozen? ⟨bs,0,none⟩=false)) (fun _ _ wr=>leftS bs wr)
 case atStart=>exact⟨[],s,Lib.hid rfl,Nat.le_refl _,Lib.hid hJ0,hM,Lib.hid kp,KS,Lib.hid kv,Lib.hid gs⟩
 case round=>
  obtain⟨pre,rest,HL,hrl,HJ0,HM,HP,HS,HV,HF⟩:=hrel
  clear kp ks kv gs hM KS hJ0
  have kp:=HP.out
  have ks:=HS.out
  have kv:=HV.out
  have gs:=HF.out
  obtain⟨m,hm⟩:=HM.out
  have CI:=Lib.hid fun wx hm=> Tryz.strings_Index ⟨rest.toArray⟩ ⟨sep.toArray⟩ m wx (by rw[size_mkl];omega) hm
  have HLf:=Lib.hid (leftS_eq ks)
  by_cases hi:Lib.index rest sep<0
  ·have HE:=Lib.hid (show Lib.split s sep=pre++ [rest] by rw[HL.out,Spl.split_miss (by have:=Lib.index_ge rest sep;omega)])
   obtain⟨fn,tmps,assign,body,hy,hR⟩:=HY.out pre rest wr HJ0.out (by rw[HE.out];exact List.prefix_refl _)
   have HX:=Lib.hid (show Lib.index (⟨rest.toArray⟩:ByteArray).data.toList (⟨sep.toArray⟩:ByteArray).data.toList= -1 from by have:=Lib.index_ge rest sep;show Lib.index rest sep= -1;omega)
   rw[HX.out] at CI
   have HJE:=Lib.hid (show pre++ [rest]=Lib.split s sep from HE.out.symm)
   clear hi HL HLf
   gi_wp2_with (refine⟨trivial,?_⟩;gi_at_call 138;refine(callsIn_wide.2 (CI.out _ hm)).mono ?_;rintro e w' ⟨rfl,rfl⟩)
   refine hR.mono ?_
   rintro e W3 ⟨rfl,hJ3,hk3⟩
   gi_wp2
   go_end0
   exact⟨⟨_,rfl⟩,by rw[←HJE.out];exact hJ3⟩
  ·obtain⟨i,hi'⟩: ∃i:Nat,Lib.index rest sep=i:=⟨(Lib.index rest sep).toNat,by omega⟩
   have room:=Lib.index_room rest sep (by omega)
   have HE:=Lib.hid (show Lib.split s sep=(pre++ [rest.take i])++Lib.split (rest.drop (i+sep.length)) sep by rw[HL.out,Spl.split_hit hsep hi'];simp)
   have HX:=Lib.hid (show Lib.index (⟨rest.toArray⟩:ByteArray).data.toList (⟨sep.toArray⟩:ByteArray).data.toList=(i:Int) from hi')
   rw[HX.out] at CI
   obtain⟨fn,tmps,assign,body,hy,hR⟩:=HY.out pre (rest.take i) wr HJ0.out (by rw[HE.out];exact List.prefix_append _ _)
   have hsl:1≤sep.length:=List.length_pos_iff.2 hsep
   have S1:=fun w=>slice_to (P:= Tryz.prog) 9 Tryz.underlying9 rest .i64 i (by omega) w
   have S2: ∀w,(Instr.slice 9 (.string ⟨rest.toArray⟩) (some (.int .i64 ((i:Int)+(sep.length:Int)))) none none).run Tryz.prog w= .ok (.string ⟨(rest.drop (i+sep.length)).toArray⟩) w:=fun w=>slice_from (P:= Tryz.prog) 9 Tryz.underlying9 rest .i64 (i+sep.length) (by omega) w
   have room':(i:Int)+(sep.length:Int)≤(rest.length:Int):=by omega
   have hlen:(rest.drop (i+sep.length)).length<rest.length:=by rw[List.length_drop];omega
   clear hi hi' HL room
   generalize rest.drop (i+sep.length)=R2 at*
   generalize rest.take i=R1 at*
   gi_wp2_with (refine⟨trivial,?_⟩;gi_at_call 138;refine(callsIn_wide.2 (CI.out _ hm)).mono ?_;rintro e w' ⟨rfl,rfl⟩)
   refine hR.mono ?_
   rintro e W3 ⟨rfl,hJ3,hk3⟩
   have kp3:W3.cell? ⟨bp,0,none⟩=some (.string ⟨sep.toArray⟩):=(World.cell?_of_block hk3.p).trans kp
   have ks3:W3.cell? ⟨bs,0,none⟩=some (.string ⟨rest.toArray⟩):=(World.cell?_of_block hk3.s).trans ks
   have kv3:W3.cell? ⟨bv,0,none⟩=some (.int .i64 0):=(World.cell?_of_block hk3.v).trans kv
   have gs3:W3.frozen? ⟨bs,0,none⟩=false:=(World.frozen?_of_block hk3.s).trans gs
   have HM3:=Lib.hid (max_low hg HM.out hk3.low)
   have HJ3:=Lib.hid hJ3
   clear kp ks kv gs hm hJ3 HJ0 HM HP HS HV HF CI hk3
   gi_wp2
   go_roundw
   case rel=>
    refine⟨pre++ [R1],R2,HE,by omega,Lib.hid (HJ.out _ _ _ HJ3.out (grownBy_setCell' W3 bs _)),Lib.hid ?_,Lib.hid ?_,Lib.hid (World.cell?_setCell_same _ _ _ ks3),Lib.hid ?_,Lib.hid (by rw[World.frozen?_setCell];exact gs3)⟩
    ·obtain⟨m,hm⟩:=HM3.out
     exact⟨m,by rw[World.cell?_setCell_other _ _ _ _ (fun e=>by injection e with e;omega)];exact hm⟩
    ·rw[World.cell?_setCell_other _ _ _ _ (fun e=>hps (by injection e with e;exact e.symm))];exact kp3
    ·rw[World.cell?_setCell_other _ _ _ _ (fun e=>hvs (by injection e with e;exact e.symm))];exact kv3
   case measure=>
    rw[HLf.out,leftS_eq (x:=R2) (World.cell?_setCell_same _ _ _ ks3)]
    exact hlen

set_option maxHeartbeats 1000000 in
/-- strings.SplitSeq: the text, the separator and what it keeps of that are boxed; the function value captures the boxes -/
theorem splitseq_any (s sep:List UInt8) (w:World):
  Calls Tryz.prog 68 #[.string ⟨s.toArray⟩,.string ⟨sep.toArray⟩] w fun e w'=>e= .returned (.func (.func 136) #[] #[.pointer (some ⟨w.heap.size+1,0,none⟩),.pointer (some ⟨w.heap.size,0,none⟩),.pointer (some ⟨w.heap.size+2,0,none⟩)])∧
   w'=((w.alloc (.cells #[.string ⟨s.toArray⟩] 9)).alloc (.cells #[.string ⟨sep.toArray⟩] 9)).alloc (.cells #[.int .i64 0] 3):=by
 go_enter Tryz.func68,Tryz.ntmps68
 go_wp2
 go_ret
 exact⟨rfl,rfl⟩
open Go

variable {P:Program} {ops:Array Oper} {Q:Exit→Act→World→Prop} {md:Region.Mode}

theorem upon_round {l n:Nat} {o:Oper} {a:Act} {K:Act→World→Prop} (r:Result Next) (h:o.upon P a K Q r):o.uponIn (Fence.wide.inRound l) n P a K Q r:=by
 match r,h with
 | .ok (.value _) _,h=>exact h
 | .ok .skip _,h=>exact h
 | .ok (.defer _) _,h=>exact h
 | .ok (.enter _ _) _,h=>
  refine⟨(fun g=>by cases g),CallsIn.inRound l (callsIn_wide.2 ?_)⟩
  exact h
 | .ok (.row _ _) _,h=>
  refine⟨(fun g=>by cases g),fun c cs _=>?_⟩
  obtain⟨v,w',hv,hs⟩:=h c cs
  exact⟨v,w',hv,stepsIn_wide.2 hs⟩
 | .halt (.panic _) _,h=>exact h
theorem oper_round {l n:Nat} {o:Oper} {a:Act} {w:World} {K:Act→World→Prop} (hd: ∀c,o.op≠ .defer c) (h:o.wp P a w K Q):o.wpIn (Fence.wide.inRound l) n P a w K Q:=by
 refine⟨fun _ _=>trivial,?_⟩
 show o.uponIn _ n P a K Q ((Oper.semAt (some l) a.eval o).run P w)
 rw[Oper.semAt_some l _ o hd]
 exact upon_round _ h
theorem any_round {l n:Nat} (hQ: ∀a w,¬Q .outgrown a w) (hd: ∀(i:Nat) (o:Oper),ops[i]?=some o→ ∀c,o.op≠ .defer c): ∀(fuel:Nat) (listed:Array Bool) (a:Act) (w:World),wpAny P md ops Q fuel listed a w→wpAnyIn (Fence.wide.inRound l) n P md ops Q fuel listed a w
 |0,_,_,_,h=>h
 |fuel+1,listed,a,w,h=>⟨h.1,fun i hi=>by
   have g:=h.2 i hi
   unfold wpOp at g
   unfold wpOpIn
   split
   ·rename_i ho
    simp only[ho] at g
    exact any_round hQ hd fuel _ _ _ g
   ·rename_i o ho
    simp only[ho] at g
    split
    ·rename_i hw
     simp only[hw,if_true] at g
     rcases g with g|⟨_,a',w',g⟩
     ·exact Oper.wpIn_mono (fun a w h=>any_round hQ hd fuel _ a w h) (oper_round (hd i o ho) g)
     ·exact absurd g (hQ a' w')
    ·rename_i hw
     simp only[hw] at g
     exact⟨fun _ _=>trivial,any_round hQ hd fuel _ _ _ g⟩⟩
/-- is nothing in a list of operations deferred? -/
def calm (l:List Oper):Bool:=l.all fun o=>match o.op with| .defer _=>false|_=>true
theorem calm_spec {l:List Oper} (h:calm l=true): ∀(i:Nat) (o:Oper),l.toArray[i]?=some o→ ∀c,o.op≠ .defer c:=fun i o ho c e=>by
 have:=List.all_eq_true.1 h o (List.mem_of_getElem? (by simpa using ho))
 rw[e] at this
 simp at this
/-- the beginning of a region in a round -/
theorem region_round {S:World→Prop} {l:List Oper} {l₀ n id:Nat} {a:Act} {w:World} (hm:P.follows .mixedOrders=true) (hc:calm l=true) (hQ: ∀a w,¬Q .outgrown a w) (hS:S w.drew)
  (h:S w.drew→wpAnyH P .any l.toArray Q S l.toArray.size (Array.replicate l.toArray.size false) a w.drew):(Code.region id l.toArray true).wpIn (Fence.wide.inRound l₀) n P Q a w:=
 wpIn_region_any hm (any_round hQ (calm_spec hc) _ _ _ _ (wpAny_of_held _ _ _ _ (h hS)))
end Go.Proofs.YtldbfkccieipjaaGreatDoor
