/- The walk of msg.check. Conditions: the package's list of kinds, the library's table of powers and its errors are there; the message is one, of lists of at most 2000000. -/
import Derived.Test.YtldbfkccieipjaaGreatDoorEf8
import Derived.Test.YtldbfkccieipjaaGreatDoorEf5
import Derived.Maps.AppendAt
import Derived.OwnWalk
import Derived.LoopTactic
import Derived.Test.YtldbfkccieipjaaGreatDoorEf4
namespace Go.Proofs.YtldbfkccieipjaaGreatDoor
set_option maxRecDepth 100000
open Go.RowKit
theorem infoStrM:(Tryz.prog.info? 9).map (fun i=>(i.zero,i.size,i.bytes))=some (some (.string ByteArray.empty),1,16):=by kernel_rfl
theorem mgrown_below {w w':World} (hb:Below w.heap.size w w') (row:Option Nat):w.grownBy w' row:=
 ⟨hb.os,hb.tape,hb.output,hb.size,fun k hk _=>hb.block k hk⟩
theorem mrow_below {w w':World} {base n k:Nat} {e:TypeId} {v:Value} {xs:List Value} (h:w.ownsRow base e k v n xs) (hb:Below w.heap.size w w'):w'.ownsRow base e k v n xs:=
 h.kept (mgrown_below hb none) (by cases v.ownBlock<;>simp)
theorem mboxed_grown {A C:World} {r:Option Nat} {p:Nat} {vs:Array Value} (h:Boxed A p vs) (g:A.grownBy C r) (hr:some p≠r):Boxed C p vs:=
 ⟨Nat.lt_of_lt_of_le h.lt g.size,fun j v hv=>g.cell (h.cell j v hv) hr,fun j hj=>(World.frozen?_of_block (g.block p h.lt hr)).trans (h.free j hj)⟩
theorem mrow_slice {w:World} {base n k:Nat} {e:TypeId} {v:Value} {xs:List Value} (h:w.ownsRow base e k v n xs): ∃a c,v= .slice a n c:=by
 rcases h.2 with⟨rfl,rfl⟩|⟨g,cap,cur,rfl,_⟩
 ·exact⟨_,_,rfl⟩
 ·exact⟨_,_,rfl⟩
/-- what check tells of bodies -/
def ChkOf (f:Nat) (w0:World):Prop:= ∀(v:Value) (m:List Ms.Nd) (mark:Bool) (w:World),Below w0.heap.size w0 w→Ms.MsgAt f w v m→m.length≤2000000→
  Calls Tryz.prog 95 #[v,.bool mark] w fun e w'=>e= .returned (errN (Ms.chk f mark m))∧Below w.heap.size w w'

set_option maxHeartbeats 4000000 in
theorem mcs_any (f:Nat) (x:Ms.Nd) {a:Option Addr} {n c:Nat} (mark:Bool) (w:World) (hw:MW w) (hG:ChkOf f w) (h:Ms.CassAt f w (.slice a n c) x.cases) (hl:x.cases.length≤2000000):
  Calls Tryz.prog 135 #[.agg #[.int .i64 x.kind,.string ⟨x.text.toArray⟩,.int .i64 x.off,.slice a n c],.bool mark] w fun e w'=>e= .returned (errN (Ms.csE (Ms.chk f) x mark [] x.cases))∧Below w.heap.size w w':=by
 obtain⟨i0,hi,hz0,hz1,hz2⟩:=info_parts infoStrM
 obtain⟨A0,C0,e0,_,hel⟩:=h.spread
 injection e0 with e1 e2 e3
 subst e1 e2 e3
 have hcap:x.cases.length≤c∨x.cases.length=0:=by
  rcases h with⟨e,_⟩|⟨_,_,_,e,_,q,_,_⟩
  ·exact .inr (by rw[e];rfl)
  ·injection e with _ _ e;exact .inl (by omega)
 have HEL:=Lib.hid fun (k:Nat) y (hk:x.cases[k]?=some y) (wx:World) (hb:Below w.heap.size w wx)=>(show ∃bb oo,a=some ⟨bb,oo,none⟩∧Ms.CsC f wx bb (oo+k*2) y from by
  obtain⟨bb,oo,e,q⟩:=hel k y hk
  exact⟨bb,oo,e,q.below hb⟩)
 clear hel h
 obtain⟨RES,hRES⟩: ∃RES,RES=Ms.csE (Ms.chk f) x mark [] x.cases:=⟨_,rfl⟩
 rw[←hRES]
 have HRES:=Lib.hid hRES.symm
 clear hRES
 have CK:=Lib.hid fun (k:List UInt8) (hk:k.length≤2000000) (wx:World) (hb:Below w.heap.size w wx)=>mkey_any x (a:=a) (n:=x.cases.length) (c:=c) k wx (hw.below hb) hk
 have CC:=Lib.hid fun (l:List (List UInt8)) V k (wx:World) (hs:StrsAt wx V l)=>scontains_any l V k wx hs
 have CG:=Lib.hid hG
 generalize hcs:x.cases=cs at*
 generalize hlc:cs.length=LC at*
 have bx:=Boxed.made w #[.int .i64 x.kind,.string ⟨x.text.toArray⟩,.int .i64 x.off,.slice a LC c] 34
 have W0:=Lib.hid (blw_alloc w (.cells #[.int .i64 x.kind,.string ⟨x.text.toArray⟩,.int .i64 x.off,.slice a LC c] 34))
 have BX0:=Lib.hid bx
 clear bx hw hG
 go_enter Tryz.func135,Tryz.ntmps135
 go_wp2_with fail
 generalize hw1:w.alloc (.cells #[.int .i64 x.kind,.string ⟨x.text.toArray⟩,.int .i64 x.off,.slice a LC c] 34)=w1 at*
 have hs1:w1.heap.size=w.heap.size+1:=by rw[←hw1];simp
 clear hw1
 go_loopw [5,12] (fun vs vk wr=> ∃(k:Nat) (seen:List (List UInt8)),vk= .int .i64 (k:Int)∧k≤LC∧seen.length=k∧Hid (wr.ownsRow w1.heap.size 9 1 vs seen.length (seen.map txtV))∧Hid (Ms.csE (Ms.chk f) x mark seen (cs.drop k)=RES)∧Hid (Below w1.heap.size w1 wr)) (fun _ vk _=>LC-(RowKit.intOf vk).toNat)
 case atStart=>exact⟨0,[],rfl,Nat.zero_le _,rfl,Lib.hid ⟨rfl,.inl ⟨rfl,rfl⟩⟩,HRES,Lib.hid (Below.refl _ _)⟩
 case round=>
  obtain⟨k,seen,rfl,hk,hsl,HO,HL,HB⟩:=hrel
  have HSL:=Lib.hid hsl
  have hsl2:seen.length≤LC:=by omega
  clear HRES hsl
  have WB:=Lib.hid (blw_trans W0.out HB.out)
  have BX:=Lib.hid (BX0.out.below HB.out)
  have sz1:=HB.out.size
  obtain⟨va,vc,rfl⟩:=mrow_slice HO.out
  have hx0:=BX.out.cell 0 _ rfl
  have hx1:=BX.out.cell 1 _ rfl
  have hx2:=BX.out.cell 2 _ rfl
  have hx3:=BX.out.cell 3 _ rfl
  have hxl:=BX.out.lt
  by_cases hlt:k<LC
  ·have hk':(k:Int)<(LC:Int):=by omega
   obtain⟨y,hy⟩: ∃y,cs[k]?=some y:=⟨cs[k]'(by omega),List.getElem?_eq_getElem (by omega)⟩
   obtain⟨bb,oo,rfl,a9,n9,c9,p0,p1,q2,q3,q4⟩:=HEL.out k y hy w (Below.refl _ _)
   have q0:=cell_keep p0 WB.out
   have q1:=cell_keep p1 WB.out
   clear p0 p1
   have lb:=World.block_lt_of_cell? _ _ q0
   have hcc:LC≤c:=by omega
   have hst:=HL.out
   rw[show cs.drop k=y::cs.drop (k+1) from by
    obtain⟨hi',e⟩:=List.getElem?_eq_some_iff.1 hy
    rw[List.drop_eq_getElem_cons hi',e]] at hst
   unfold Ms.csE at hst
   have wk:IntKind.i64.wrap ((k:Int)+1)=(k:Int)+1:=IntWalk.i64_in _ (by omega)
   have BY:=Lib.hid (Boxed.made wr #[.string ⟨y.1.toArray⟩,.slice a9 n9 c9] 41)
   have XB:=Lib.hid (blw_alloc wr (.cells #[.string ⟨y.1.toArray⟩,.slice a9 n9 c9] 41))
   have CKh:=Lib.hid (CK.out y.1 q3)
   have HQ2:=Lib.hid q2
   clear HL q2 hy
   generalize hKB:Ms.keyB x y.1=KB at*
   clear hKB
   go_wp2_with fail
   refine(CKh.out _ (blw_trans WB.out XB.out)).mono ?_
   rintro e w2 ⟨rfl,hb⟩
   have B2:=Lib.hid (blw_trans XB.out hb)
   have BY2:=Lib.hid (BY.out.below hb)
   clear hb CKh BY XB hx0 hx1 hx2 hx3 hxl
   have BX2:=Lib.hid (BX.out.below B2.out)
   have hx0:=BX2.out.cell 0 _ rfl
   have hx1:=BX2.out.cell 1 _ rfl
   have hx2:=BX2.out.cell 2 _ rfl
   have hx3:=BX2.out.cell 3 _ rfl
   have hxl:=BX2.out.lt
   have hy0:=BY2.out.cell 0 _ rfl
   have hy1:=BY2.out.cell 1 _ rfl
   have hyl:=BY2.out.lt
   cases KB with
   |false=>
    simp only[Bool.not_false,if_true] at hst
    subst hst
    clear CK CC CG HEL
    go_wp2_with fail
    go_ret
    exact⟨rfl,blw_trans WB.out B2.out⟩
   |true=>
    rw[if_neg (by simp)] at hst
    have HO2:=Lib.hid (mrow_below HO.out B2.out)
    have CCh:=Lib.hid (CC.out seen (.slice va seen.length vc) y.1 w2 (StrsAt.of_row HO2.out))
    generalize hSC:seen.contains y.1=SC at*
    clear hSC
    go_wp2_with fail
    refine CCh.out.mono ?_
    rintro e w' ⟨rfl,rfl⟩
    clear CCh CC
    cases SC with
    |true=>
     simp only[if_true] at hst
     subst hst
     clear CK CG HEL
     go_wp2_with fail
     go_ret
     exact⟨rfl,blw_trans WB.out B2.out⟩
    |false=>
     rw[if_neg (by simp)] at hst
     obtain⟨MK,hMK⟩: ∃MK,(mark||decide (x.kind=4))=MK:=⟨_,rfl⟩
     rw[hMK] at hst
     have HM:=Lib.hid (show(mark=true→MK=true)∧(mark=false→(x.kind==4)=MK) from by
      rw[←hMK]
      refine⟨fun e=>by rw[e];rfl,fun e=>?_⟩
      rw[e,Bool.false_or,Bool.eq_iff_iff];simp)
     have CGh:=Lib.hid fun w3 (hb:Below w.heap.size w w3)=>CG.out (.slice a9 n9 c9) y.2 MK w3 hb (Ms.msg_below HQ2.out hb) q4
     have HST:=Lib.hid hst
     clear hst hMK
     generalize Ms.chk f MK y.2=EE at*
     have hown:=HO2.out
     have szB:=B2.out.size
     have nyb:some wr.heap.size≠(Value.slice va seen.length vc).ownBlock:=fun e=>by have:=(HO.out.lt wr.heap.size e.symm).2;omega
     have nxb:some w.heap.size≠(Value.slice va seen.length vc).ownBlock:=fun e=>by have:=(HO.out.lt w.heap.size e.symm).1;omega
     cases mark with
     |true=>
      obtain rfl:=HM.out.1 rfl
      go_wp2_with (at_builtin;refine wpList_append_own_at _ rfl _ _ 45 rfl w1.heap.size 9 i0 (.string ByteArray.empty) 1 16 Tryz.underlying45 hi hz0 hz1 hz2 rfl (by decide) _ _ _ rfl (hown.alloc _) ⟨w2.heap.size,0,none⟩ 1 1 [txtV y.1] rfl rfl (cell_one_new _ _ _) (fun u hu=>by simp at hu;subst hu;rfl) (by unfold maxLen;omega) (by omega) (by simp;omega) ?_;intro v' w3 hown' hgrow _ _;have HO3:=Lib.hid (show w3.ownsRow w1.heap.size 9 1 v' (seen++ [y.1]).length ((seen++ [y.1]).map txtV) by simpa using hown');have HB3:=Lib.hid (show Below w1.heap.size w1 w3 from((blw_trans HB.out B2.out).alloc (by omega) _).grown hgrow (by simp;omega) (fun k hk=>(hown.lt k hk).1));have BX3:=Lib.hid (mboxed_grown (BX2.out.alloc _) hgrow nxb);have BY3:=Lib.hid (mboxed_grown (BY2.out.alloc _) hgrow nyb);clear hown hown' hgrow nyb nxb HO HO2 B2 BX2 BY2 BX hx0 hx1 hx2 hx3 hxl hy0 hy1 hyl HB;obtain⟨va',vc',rfl⟩:=mrow_slice HO3.out;have hx0:=BX3.out.cell 0 _ rfl;have hxl:=BX3.out.lt;have hy0:=BY3.out.cell 0 _ rfl;have hy1:=BY3.out.cell 1 _ rfl;have hyl:=BY3.out.lt)
      refine(CGh.out _ (blw_trans W0.out HB3.out)).mono ?_
      rintro e w4 ⟨rfl,hb⟩
      have HB4:=Lib.hid (blw_trans HB3.out hb)
      have HO4:=Lib.hid (mrow_below HO3.out hb)
      clear hb CGh
      have hst:=HST.out
      by_cases hE:EE=0
      ·subst hE
       rw[if_neg (by simp)] at hst
       have HST2:=Lib.hid hst
       clear hst HST
       rw[show errN 0= .nilIface from rfl]
       go_wp2_with fail
       go_roundw
       case rel=>exact⟨k+1,seen++ [y.1],by go_num,by omega,by rw[List.length_append,HSL.out];rfl,by simpa using HO4,HST2,HB4⟩
       case measure=>simp[RowKit.intOf];omega
      ·rw[if_pos hE] at hst
       subst hst
       have hEV:errN EE=errV EE:=if_neg hE
       rw[hEV]
       go_wp2_with fail
       go_ret
       exact⟨by first|(rw[hEV];done)|(rw[hEV];rfl),blw_trans W0.out HB4.out⟩
     |false=>
      have e4:=HM.out.2 rfl
      go_wp2_with (at_builtin;refine wpList_append_own_at _ rfl _ _ 45 rfl w1.heap.size 9 i0 (.string ByteArray.empty) 1 16 Tryz.underlying45 hi hz0 hz1 hz2 rfl (by decide) _ _ _ rfl (hown.alloc _) ⟨w2.heap.size,0,none⟩ 1 1 [txtV y.1] rfl rfl (cell_one_new _ _ _) (fun u hu=>by simp at hu;subst hu;rfl) (by unfold maxLen;omega) (by omega) (by simp;omega) ?_;intro v' w3 hown' hgrow _ _;have HO3:=Lib.hid (show w3.ownsRow w1.heap.size 9 1 v' (seen++ [y.1]).length ((seen++ [y.1]).map txtV) by simpa using hown');have HB3:=Lib.hid (show Below w1.heap.size w1 w3 from((blw_trans HB.out B2.out).alloc (by omega) _).grown hgrow (by simp;omega) (fun k hk=>(hown.lt k hk).1));have BX3:=Lib.hid (mboxed_grown (BX2.out.alloc _) hgrow nxb);have BY3:=Lib.hid (mboxed_grown (BY2.out.alloc _) hgrow nyb);clear hown hown' hgrow nyb nxb HO HO2 B2 BX2 BY2 BX hx0 hx1 hx2 hx3 hxl hy0 hy1 hyl HB;obtain⟨va',vc',rfl⟩:=mrow_slice HO3.out;have hx0:=BX3.out.cell 0 _ rfl;have hxl:=BX3.out.lt;have hy0:=BY3.out.cell 0 _ rfl;have hy1:=BY3.out.cell 1 _ rfl;have hyl:=BY3.out.lt)
      refine(CGh.out _ (blw_trans W0.out HB3.out)).mono ?_
      rintro e w4 ⟨rfl,hb⟩
      have HB4:=Lib.hid (blw_trans HB3.out hb)
      have HO4:=Lib.hid (mrow_below HO3.out hb)
      clear hb CGh
      have hst:=HST.out
      by_cases hE:EE=0
      ·subst hE
       rw[if_neg (by simp)] at hst
       have HST2:=Lib.hid hst
       clear hst HST
       rw[show errN 0= .nilIface from rfl]
       go_wp2_with fail
       go_roundw
       case rel=>exact⟨k+1,seen++ [y.1],by go_num,by omega,by rw[List.length_append,HSL.out];rfl,by simpa using HO4,HST2,HB4⟩
       case measure=>simp[RowKit.intOf];omega
      ·rw[if_pos hE] at hst
       subst hst
       have hEV:errN EE=errV EE:=if_neg hE
       rw[hEV]
       go_wp2_with fail
       go_ret
       exact⟨by first|(rw[hEV];done)|(rw[hEV];rfl),blw_trans W0.out HB4.out⟩
  ·have hk': ¬(k:Int)<(LC:Int):=by omega
   have hst:=HL.out
   rw[List.drop_of_length_le (by omega)] at hst
   unfold Ms.csE at hst
   have CCh:=Lib.hid (CC.out seen (.slice va seen.length vc) Ms.other wr (StrsAt.of_row HO.out))
   clear CK CC CG HEL HL HO
   unfold Ms.other at CCh
   generalize hSO:seen.contains Ms.other=SO at*
   have e5:seen.contains [111,116,104,101,114]=SO:=hSO
   rw[e5] at CCh
   clear hSO e5
   go_wp2_with fail
   refine CCh.out.mono ?_
   rintro e w' ⟨rfl,rfl⟩
   cases SO with
   |true=>
    simp only[if_true] at hst
    subst hst
    go_wp2_with fail
    go_ret
    exact⟨rfl,WB.out⟩
   |false=>
    rw[if_neg (by simp)] at hst
    subst hst
    go_wp2_with fail
    go_ret
    exact⟨rfl,WB.out⟩
open Go.RowKit
/-- what stands ahead of a place -/
def Ahead (m:List Ms.Nd) (i:Nat) (prev:Option Int):Prop:=(i=0∧prev=none)∨(0<i∧ ∃x,m[i-1]?=some x∧prev=some x.kind)

set_option maxHeartbeats 4000000 in
theorem mcheck_any (f:Nat): ∀(w0:World),MW w0→ChkOf f w0:=by
 induction f with
 |zero=>
  intro w0 _ v m mark w _ h hl
  rcases h with⟨rfl,A,cap,rfl⟩|⟨b,off,cap,_,hpos,_,_,hx⟩
  ·rw[show Ms.chk 0 mark []=0 from rfl,show errN 0= .nilIface from rfl]
   go_enter Tryz.func95,Tryz.ntmps95
   go_wp2_with fail
   go_loopw [10] (fun vi wr=>vi= .int .i64 0∧w=wr) (fun _ _=>0)
   case atStart=>exact⟨rfl,rfl⟩
   case round=>
    obtain⟨rfl,rfl⟩:=hrel
    go_wp2_with fail
    go_ret
    exact⟨rfl,Below.refl _ _⟩
  ·exact absurd (hx 0 _ (List.getElem?_eq_getElem hpos)) (by simp[Ms.NdC])
 |succ f ih=>
  intro w0 hw v m mark w hb0 h hl
  have HW:=Lib.hid (hw.below hb0)
  clear hw hb0
  have IH:=Lib.hid fun (wx:World) (hb:Below w.heap.size w wx)=>ih wx (HW.out.below hb)
  obtain⟨RES,hRES⟩: ∃RES,RES=Ms.chk (f+1) mark m:=⟨_,rfl⟩
  rw[←hRES]
  have HRES:=Lib.hid (show Ms.msE (Ms.chk f) mark none (m.drop 0)=RES by rw[List.drop_zero,hRES];rfl)
  clear hRES ih
  obtain⟨A,cap,rfl,_,hel⟩:=h.spread
  have hcap:m.length≤cap∨m.length=0:=by
   rcases h with⟨e,_⟩|⟨_,_,_,e,_,q,_,_⟩
   ·exact .inr (by rw[e];rfl)
   ·injection e with _ _ e;exact .inl (by omega)
  have hcm:cap≤9223372036854775807∨m.length=0:=by
   rcases h with⟨e,_⟩|⟨_,_,_,e,_,_,q,_⟩
   ·exact .inr (by rw[e];rfl)
   ·injection e with _ _ e;unfold maxLen at q;exact .inl (by omega)
  have HX:=Lib.hid fun (j:Nat) (x:Ms.Nd) (hj:m[j]?=some x) (wr:World) (hb:Below w.heap.size w wr)=>(show ∃b off,A=some ⟨b,off,none⟩∧Ms.NdC (f+1) wr b (off+j*4) x from by
   obtain⟨b,off,e,q⟩:=hel j x hj
   exact⟨b,off,e,Ms.NdC.below (f+1) q hb⟩)
  clear hel h
  generalize hlm:m.length=L at*
  go_enter Tryz.func95,Tryz.ntmps95
  go_wp2_with fail
  go_loopw [10] (fun vi wr=> ∃(i:Nat) (prev:Option Int),vi= .int .i64 (i:Int)∧i≤L∧Hid (Ahead m i prev)∧Hid (Ms.msE (Ms.chk f) mark prev (m.drop i)=RES)∧Hid (Below w.heap.size w wr)) (fun vi _=>L-(RowKit.intOf vi).toNat)
  case atStart=>exact⟨0,none,rfl,Nat.zero_le _,Lib.hid (.inl ⟨rfl,rfl⟩),HRES,Lib.hid (Below.refl _ _)⟩
  case round=>
   obtain⟨i,prev,rfl,hi,HA,HL,HB⟩:=hrel
   clear HRES
   by_cases hlt:i<L
   ·have hi':(i:Int)<(L:Int):=by omega
    have hcc:L≤cap:=by omega
    have hcm':cap≤9223372036854775807:=by omega
    obtain⟨x,hxi⟩: ∃x,m[i]?=some x:=⟨m[i]'(by omega),List.getElem?_eq_getElem (by omega)⟩
    obtain⟨b,off,rfl,a0,n0,c0,p0,p1,p2,p3,p4,p5,p6⟩:=HX.out i x hxi w (Below.refl _ _)
    have g0:=cell_keep p0 HB.out
    have g1:=cell_keep p1 HB.out
    have g2:=cell_keep p2 HB.out
    have g3:=cell_keep p3 HB.out
    have lb:=World.block_lt_of_cell? _ _ g0
    have CF:=Lib.hid fun (wx:World) (hb:Below w.heap.size w wx)=>mfine_any x (a:=a0) (n:=n0) (c:=c0) (some ⟨b,off,none⟩) i cap prev mark wx p5 (by omega) hcm' (by
     rcases HA.out with h|⟨h1,y,h2,h3⟩
     ·exact .inl h
     ·obtain⟨b',off',e,a1,n1,c1,q0,_⟩:=HX.out (i-1) y h2 wx hb
      injection e with e
      injection e with e4 e5
      subst e4 e5
      exact .inr ⟨b,off,y.kind,rfl,h3,h1,q0⟩)
    have CD:=Lib.hid fun (wx:World) (hb:Below w.heap.size w wx)=>mcs_any f x (a:=a0) (n:=n0) (c:=c0) mark wx (HW.out.below hb) (IH.out wx hb) (Ms.cass_below (f:=f) (w:=w) (show Ms.CassAt f w (.slice a0 n0 c0) x.cases from p4) hb) p6
    have hst:=HL.out
    rw[show m.drop i=x::m.drop (i+1) from by
     obtain⟨hi',e⟩:=List.getElem?_eq_some_iff.1 hxi
     rw[List.drop_eq_getElem_cons hi',e]] at hst
    unfold Ms.msE at hst
    have HND:=Lib.hid (show Ms.ndE (Ms.chk f) x prev mark=if !Ms.fineB x prev mark then 3 else if x.kind=4∧(x.off<0∨9<x.off) then 1 else if x.kind=4∨x.kind=5 then Ms.csE (Ms.chk f) x mark [] x.cases else 0 from rfl)
    have HA2:=Lib.hid (show Ahead m (i+1) (some x.kind) from .inr ⟨by omega,x,hxi,rfl⟩)
    have wi:IntKind.i64.wrap ((i:Int)+1)=(i:Int)+1:=IntWalk.i64_in _ (by omega)
    have HST:=Lib.hid hst
    clear HL hst p0 p1 p2 p3 p4 p5 p6 hxi HA
    generalize Ms.ndE (Ms.chk f) x prev mark=NE at*
    generalize Ms.fineB x prev mark=FB at*
    generalize Ms.csE (Ms.chk f) x mark [] x.cases=CE at*
    generalize x.text=T at*
    generalize x.off=O at*
    have BX:=Lib.hid (Boxed.made wr #[.int .i64 x.kind,.string ⟨T.toArray⟩,.int .i64 O,.slice a0 n0 c0] 34)
    have XB:=Lib.hid (blw_trans HB.out (blw_alloc wr (.cells #[.int .i64 x.kind,.string ⟨T.toArray⟩,.int .i64 O,.slice a0 n0 c0] 34)))
    have k0:=BX.out.cell 0 _ rfl
    have k1:=BX.out.cell 1 _ rfl
    have k2:=BX.out.cell 2 _ rfl
    have k3:=BX.out.cell 3 _ rfl
    obtain⟨N,hN⟩: ∃N,N=wr.heap.size:=⟨_,rfl⟩
    rw[←hN] at k0 k1 k2 k3 BX
    have hci:(i:Int)≤(cap:Int):=by omega
    have HN:=Lib.hid hN
    clear hN
    go_wp2_with fail
    rw[←HN.out]
    refine wp_region_held_drew (S:=fun w'=>w'.cell? ⟨N,0,none⟩=some (.int .i64 x.kind)∧w'.cell? ⟨N,1,none⟩=some (.string ⟨T.toArray⟩)∧w'.cell? ⟨N,2,none⟩=some (.int .i64 O)∧w'.cell? ⟨N,3,none⟩=some (.slice a0 n0 c0)∧Hid (Boxed w' N #[.int .i64 x.kind,.string ⟨T.toArray⟩,.int .i64 O,.slice a0 n0 c0])∧Hid (Below w.heap.size w w')) (by kernel_rfl) (⟨k0,k1,k2,k3,Lib.hid BX.out.drew,Lib.hid (blw_drewN XB.out 1)⟩) (fun hHeld=>?_)
    refine tkr (d:=(some 15)) (v:=?v1) 0 rfl rfl hHeld ?hy1 ?rs1
    case hy1=>(intro w hSw;(try dsimp only at hSw);go_simp)<;>(try with_reducible rfl)
    (try simp only[Act.put,List.setIfInBounds_toArray,List.set_cons_zero,List.set_cons_succ])
    refine tkr (d:=(some 16)) (v:=?v2) 1 rfl rfl hHeld ?hy2 ?rs2
    case hy2=>(intro w hSw;(try dsimp only at hSw);go_simp)<;>(try with_reducible rfl)
    (try simp only[Act.put,List.setIfInBounds_toArray,List.set_cons_zero,List.set_cons_succ])
    refine tkr (d:=(some 17)) (v:=?v3) 2 rfl rfl hHeld ?hy3 ?rs3
    case hy3=>(intro w hSw;(try dsimp only at hSw);go_simp)<;>(try with_reducible rfl)
    (try simp only[Act.put,List.setIfInBounds_toArray,List.set_cons_zero,List.set_cons_succ])
    refine tkr (d:=(some 18)) (v:=?v4) 3 rfl rfl hHeld ?hy4 ?rs4
    case hy4=>(intro w hSw;(try dsimp only at hSw);go_simp)<;>(try with_reducible rfl)
    (try simp only[Act.put,List.setIfInBounds_toArray,List.set_cons_zero,List.set_cons_succ])
    refine tkr (d:=(some 19)) (v:=?v5) 4 rfl rfl hHeld ?hy5 ?rs5
    case hy5=>(intro w hSw;(try dsimp only at hSw);go_simp)<;>(try with_reducible rfl)
    (try simp only[Act.put,List.setIfInBounds_toArray,List.set_cons_zero,List.set_cons_succ])
    refine take_call 5 rfl (by kernel_rfl) (by rfl) (fun K hK=>?_)
    go_simp
    refine(CF.out _ (by obtain⟨_,_,_,_,_,h6⟩:=hHeld;exact h6.out)).mono ?_
    rintro e w' ⟨rfl,hb⟩
    refine hK.out _ _ (by obtain⟨h0,h1,h2,h3,h4,hw⟩:=hHeld;exact⟨cell_keep h0 hb,cell_keep h1 hb,cell_keep h2 hb,cell_keep h3 hb,Lib.hid (h4.out.below hb),Lib.hid (blw_trans hw.out hb)⟩) (fun hHeld=>?_)
    clear hK K
    (try simp only[Act.put,List.setIfInBounds_toArray,List.set_cons_zero,List.set_cons_succ])
    refine tkr (d:=(some 21)) (v:=?v7) 6 rfl rfl hHeld ?hy7 ?rs7
    case hy7=>(intro w hSw;(try dsimp only at hSw);go_simp)<;>(try with_reducible rfl)
    (try simp only[Act.put,List.setIfInBounds_toArray,List.set_cons_zero,List.set_cons_succ])
    refine wpAnyH_done (by kernel_rfl) ?_ _
    obtain⟨z0,z1,z2,z3,z4,zW⟩:=hHeld
    clear k0 k1 k2 k3 BX XB CF hb g0 g1 g2 g3 lb
    generalize hww:w'=wz at*
    clear hww
    have k0:=z0
    have kl:=z4.out.lt
    clear z0
    generalize hK:x.kind=K at*
    have HND2:=HND.out
    cases FB with
    |false=>
     simp only[Bool.not_false,if_true] at HND2
     subst HND2
     have hst:=HST.out
     rw[if_pos (by decide)] at hst
     subst hst
     clear HST HND CD
     go_wp2_with fail
     go_ret
     exact⟨rfl,by repeat(first|exact zW.out|refine blw_drewN ?_ _)⟩
    |true=>
     rw[if_neg (by simp)] at HND2
     by_cases k4:K=4
     ·subst k4
      by_cases o0:O<0
      ·have d0:decide (O<0)=true:=dec_yes o0
       rw[if_pos ⟨rfl,.inl o0⟩] at HND2
       subst HND2
       have hst:=HST.out
       rw[if_pos (by decide)] at hst
       subst hst
       clear HST HND CD o0
       go_wp2_with fail
       go_ret
       exact⟨rfl,by repeat(first|exact zW.out|refine blw_drewN ?_ _)⟩
      ·have d0:decide (O<0)=false:=dec_no o0
       by_cases o9:9<O
       ·have d1:decide (9<O)=true:=dec_yes o9
        rw[if_pos ⟨rfl,.inr o9⟩] at HND2
        subst HND2
        have hst:=HST.out
        rw[if_pos (by decide)] at hst
        subst hst
        clear HST HND CD o0 o9
        go_wp2_with fail
        go_ret
        exact⟨rfl,by repeat(first|exact zW.out|refine blw_drewN ?_ _)⟩
       ·have d1:decide (9<O)=false:=dec_no o9
        rw[if_neg (by rintro⟨_,h|h⟩;exact o0 h;exact o9 h),if_pos (.inl rfl)] at HND2
        subst HND2
        clear HND o0 o9
        go_wp2_with fail
        refine(CD.out _ (by repeat(first|exact zW.out|refine blw_drewN ?_ _))).mono ?_
        rintro e wy ⟨rfl,hb⟩
        have WY:=Lib.hid (blw_trans (show Below w.heap.size w _ by repeat(first|exact zW.out|refine blw_drewN ?_ _)) hb)
        clear hb CD
        have hst:=HST.out
        by_cases hE:NE=0
        ·subst hE
         rw[if_neg (by simp)] at hst
         have HST2:=Lib.hid hst
         clear HST hst
         rw[show errN 0= .nilIface from rfl]
         go_wp2_with fail
         go_roundw
         case rel=>exact⟨i+1,_,by go_num,by omega,HA2,HST2,WY⟩
         case measure=>simp[RowKit.intOf];omega
        ·rw[if_pos hE] at hst
         subst hst
         have hEV:errN NE=errV NE:=if_neg hE
         rw[hEV]
         go_wp2_with fail
         go_ret
         exact⟨by first|(rw[hEV];done)|(rw[hEV];rfl),WY.out⟩
     ·have b4:(K==4)=false:=beq_no k4
      rw[if_neg (fun h=>k4 h.1)] at HND2
      by_cases k5:K=5
      ·subst k5
       rw[if_pos (.inr rfl)] at HND2
       subst HND2
       clear HND k4
       go_wp2_with fail
       refine(CD.out _ (by repeat(first|exact zW.out|refine blw_drewN ?_ _))).mono ?_
       rintro e wy ⟨rfl,hb⟩
       have WY:=Lib.hid (blw_trans (show Below w.heap.size w _ by repeat(first|exact zW.out|refine blw_drewN ?_ _)) hb)
       clear hb CD
       have hst:=HST.out
       by_cases hE:NE=0
       ·subst hE
        rw[if_neg (by simp)] at hst
        have HST2:=Lib.hid hst
        clear HST hst
        rw[show errN 0= .nilIface from rfl]
        go_wp2_with fail
        go_roundw
        case rel=>exact⟨i+1,_,by go_num,by omega,HA2,HST2,WY⟩
        case measure=>simp[RowKit.intOf];omega
       ·rw[if_pos hE] at hst
        subst hst
        have hEV:errN NE=errV NE:=if_neg hE
        rw[hEV]
        go_wp2_with fail
        go_ret
        exact⟨by first|(rw[hEV];done)|(rw[hEV];rfl),WY.out⟩
      ·have b5:(K==5)=false:=beq_no k5
       rw[if_neg (by rintro(h|h);exact k4 h;exact k5 h)] at HND2
       subst HND2
       have hst:=HST.out
       rw[if_neg (by simp)] at hst
       have HST2:=Lib.hid hst
       clear HST hst HND CD k4 k5
       go_wp2_with fail
       go_roundw
       case rel=>exact⟨i+1,_,by go_num,by omega,HA2,HST2,Lib.hid (by repeat(first|exact zW.out|refine blw_drewN ?_ _))⟩
       case measure=>simp[RowKit.intOf];omega
   ·have hi': ¬(i:Int)<(L:Int):=by omega
    have hst:=HL.out
    rw[List.drop_of_length_le (by omega)] at hst
    unfold Ms.msE at hst
    subst hst
    clear HL HA
    go_wp2_with fail
    go_ret
    exact⟨rfl,HB.out⟩
end Go.Proofs.YtldbfkccieipjaaGreatDoor
