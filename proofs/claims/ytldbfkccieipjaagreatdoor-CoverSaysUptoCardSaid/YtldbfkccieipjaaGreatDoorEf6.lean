/- Plain law: what linguisterref1.NumberOf, DecText and DecOf tell: digits as a number, a number's text in two pieces, there and back. No program. -/
import Derived.Test.YtldbfkccieipjaaGreatDoorEf5
import Derived.Test.YtldbfkccieipjaaGreatDoorEf4
import Derived.Deep.DeepCutAuto
import Derived.Deep.CutRange
import Derived.Test.YtldbfkccieipjaaGreatDoorRows
import Derived.OpenShut
import Derived.Deep.Slices
import Derived.Deep.Fields
import Derived.ChangeSame
import Derived.Test.YtldbfkccieipjaaGreatDoorEf0
import Derived.Laws.AppendOwn
import Derived.SliceStrings
import Derived.Lib.Join
import Derived.Lib.SplitLaws
import Derived.Lib.Replace
namespace Go.Proofs.YtldbfkccieipjaaGreatDoor
set_option maxRecDepth 100000
open Go.RowKit Ms

theorem infoNeed:(Tryz.prog.info? 126).map (fun i=>(i.zero,i.size,i.bytes))=some (some (.agg #[.string ByteArray.empty,.bool false,.bool false]),3,24):=by kernel_rfl
section
variable {P:Program} {md:Region.Mode} {l:List Oper} {Q:Exit→Act→World→Prop} {S:World→Prop}
theorem takeN_two {oi oj:Oper} {fuel:Nat} {listed:Array Bool} {a:Act} {w:World} (i j:Nat) (hi:l[i]?=some oi) (hj:l[j]?=some oj) (hr:Region.ready md l.toArray listed= [i,j])
  (hwi:Region.wanted oi (yielded l.toArray a.tmps)=true) (hwj:Region.wanted oj (yielded l.toArray a.tmps)=true)
  (h1: ∀K':Act→World→Prop,Shut (∀a w,S w→(S w→wpAnyH P md l.toArray Q S fuel (listed.setIfInBounds i true) a w)→K' a w)→Oper.wp P oi a w K' Q)
  (h2: ∀K':Act→World→Prop,Shut (∀a w,S w→(S w→wpAnyH P md l.toArray Q S fuel (listed.setIfInBounds j true) a w)→K' a w)→Oper.wp P oj a w K' Q):wpAnyH P md l.toArray Q S (fuel+1) listed a w:=
 wpAnyH_ready hr (by simp) (AllReadyH.cons (by simpa using hi) (fun K' hK=>by rw[if_pos hwi];exact h1 K' hK) (AllReadyH.cons (by simpa using hj) (fun K' hK=>by rw[if_pos hwj];exact h2 K' hK) AllReadyH.nil))
end

/-- two blocks -/
structure Bx2 (k:Nat) (us:Array Value) (w:World) (q:Nat) (vs:Array Value):Prop where
 a:Boxed w q vs
 b:Boxed w k us
section
variable {k q:Nat} {us vs:Array Value} {w:World}
theorem Bx2.below {C:World} (h:Bx2 k us w q vs) (hb:Below w.heap.size w C):Bx2 k us C q vs:=⟨h.a.below hb,h.b.below hb⟩
theorem Bx2.alloc (h:Bx2 k us w q vs) (o:Obj):Bx2 k us (w.alloc o) q vs:=⟨h.a.alloc o,h.b.alloc o⟩
theorem Bx2.drew (h:Bx2 k us w q vs):Bx2 k us w.drew q vs:=⟨h.a.drew,h.b.drew⟩
theorem Bx2.grown {C:World} {r:Option Nat} (h:Bx2 k us w q vs) (g:w.grownBy C r) (h1:some q≠r) (h2:some k≠r):Bx2 k us C q vs:=⟨nboxed_grown h.a g h1,nboxed_grown h.b g h2⟩
theorem Bx2.far {p':Nat} (h:Bx2 k us w q vs) (h1:p'≠q) (h2:p'≠k) (j:Nat) (v:Value):Bx2 k us (w.setCell ⟨p',j,none⟩ v) q vs:=⟨h.a.far h1 j v,h.b.far h2 j v⟩
end

set_option maxHeartbeats 4000000 in
theorem nadd_any (x:Nd) (a:Option Addr) (n c:Nat) (W0 w:World) (p:Nat) (v:Value) (xs:List Need) (k:Nat) (us:Array Value) (h:NI W0.heap.size p v xs w) (hb:Below W0.heap.size W0 w) (hl:xs.length≤1000000) (hk:Boxed w k us) (hkp:k≠p) (hkv:v.ownBlock≠some k):
  Calls Tryz.prog 116 #[.pointer (some ⟨p,0,none⟩),.agg #[.int .i64 x.kind,.string ⟨x.text.toArray⟩,.int .i64 x.off,.slice a n c]] w fun e w'=>e= .returned (.tuple #[])∧(∃v',NI W0.heap.size p v' (addN xs x) w')∧Below W0.heap.size W0 w'∧Boxed w' k us:=by
 have HK0:=Lib.hid hk
 have HKP:=Lib.hid hkp
 obtain⟨iN,hiN,hN0,hN1,hN2⟩:=info_parts infoNeed
 obtain⟨K0,T,O0,cs⟩:=x
 obtain⟨RES,hRES⟩: ∃RES,RES=addN xs (.mk K0 T O0 cs):=⟨_,rfl⟩
 rw[←hRES]
 have HRES:=Lib.hid (show RES=if K0=1∨K0=6 then xs else (grownN xs T).modify (xs.findIdx (fun n=>n.1==T)) (orN (decide (K0=3)||decide (K0=4)) (decide (K0=5))) from hRES)
 clear hRES
 simp only[Nd.kind,Nd.text,Nd.off]
 have hB:=hb.size
 have HW:=Lib.hid hb
 have HP:=Lib.hid h
 have hpB:=h.ge
 have hpw:=h.box.lt
 obtain⟨av,cv,rfl⟩:=h.isSlice
 have hvq:(Value.slice av xs.length cv).ownBlock≠some w.heap.size:=fun e=>by have:=(h.row.lt _ e).2;omega
 have HKV:=Lib.hid hkv
 clear h hb hk hkp hkv
 generalize W0.heap.size=B at*
 obtain⟨q,hq⟩: ∃q,w.heap.size=q:=⟨_,rfl⟩
 obtain⟨w1,hw1⟩: ∃w1,w.alloc (.cells #[.int .i64 K0,.string ⟨T.toArray⟩,.int .i64 O0,.slice a n c] 34)=w1:=⟨_,rfl⟩
 have P1:=Lib.hid (show NI B p (.slice av xs.length cv) xs w1 by rw[←hw1];exact HP.out.below (blw_alloc _ _))
 have W1:=Lib.hid (show Below B W0 w1 by rw[←hw1];exact HW.out.alloc hB _)
 have Q1:=Lib.hid (show Bx2 k us w1 q #[.int .i64 K0,.string ⟨T.toArray⟩,.int .i64 O0,.slice a n c] by rw[←hw1,←hq];exact⟨Boxed.made _ _ _,HK0.out.alloc _⟩)
 rw[hq] at hvq hB hpw
 have HQ:=Lib.hid hvq
 have hqp:q≠p:=by omega
 have hB1:B≤w1.heap.size:=by have:=Q1.out.a.lt;omega
 clear HP HW hvq HK0
 have q0:w1.cell? ⟨q,0,none⟩=some (.int .i64 K0):=Q1.out.a.cell 0 _ rfl
 have q1:w1.cell? ⟨q,1,none⟩=some (.string ⟨T.toArray⟩):=Q1.out.a.cell 1 _ rfl
 have p0:w1.cell? ⟨p,0,none⟩=some (.slice av xs.length cv):=P1.out.box.cell 0 _ rfl
 by_cases k1:K0=1
 ·have b1:(K0==1)=true:=beq_yes k1
  obtain rfl:RES=xs:=by rw[HRES.out,if_pos (.inl k1)]
  clear k1
  go_enter Tryz.func116,Tryz.ntmps116
  go_upto_region 1 with fail
  try rw[hq,hw1]
  clear hw1 hq
  go_wp2_with fail
  refine bodyPost_ret (results_none rfl _ _ _) rfl ?_
  exact⟨rfl,⟨_,P1.out⟩,W1.out,Q1.out.b⟩
 by_cases k6:K0=6
 ·have b1:(K0==1)=false:=beq_no k1
  have b6:(K0==6)=true:=beq_yes k6
  obtain rfl:RES=xs:=by rw[HRES.out,if_pos (.inr k6)]
  clear k1 k6
  go_enter Tryz.func116,Tryz.ntmps116
  go_upto_region 1 with fail
  try rw[hq,hw1]
  clear hw1 hq
  go_wp2_with fail
  refine bodyPost_ret (results_none rfl _ _ _) rfl ?_
  exact⟨rfl,⟨_,P1.out⟩,W1.out,Q1.out.b⟩
 have b1:(K0==1)=false:=beq_no k1
 have b6:(K0==6)=false:=beq_no k6
 replace HRES:=Lib.hid (show RES=_ by rw[HRES.out,if_neg (by rintro(h|h);exact k1 h;exact k6 h)])
 clear k1 k6
 have CI:=Lib.hid (idx_need xs (fun n=>n.1==T) 158 #[.pointer (some ⟨q,0,none⟩)] add1_at (.slice av xs.length cv) w1 (needs_of_row P1.out.row) (Lib.hid fun y _ wx hbx=>add1_any y q T wx (cell_keep q1 hbx)))
 have HI:=Lib.hid (show fstV xs (fun n=>n.1==T)=if xs.findIdx (fun n=>n.1==T)<xs.length then (xs.findIdx (fun n=>n.1==T):Int) else-1 from rfl)
 have HG:=Lib.hid (show grownN xs T=if xs.findIdx (fun n=>n.1==T)<xs.length then xs else xs++ [(T,false,false)] from rfl)
 have HGI:=Lib.hid (grownN_idx xs T)
 have HLE:=Lib.hid (List.findIdx_le_length (xs:=xs) (p:=fun n=>n.1==T))
 generalize fstV xs (fun n=>n.1==T)=IV at*
 generalize xs.findIdx (fun n=>n.1==T)=IX at*
 go_enter Tryz.func116,Tryz.ntmps116
 go_upto_region 1 with fail
 try rw[hq,hw1]
 clear hw1 hq
 go_wp2_with fail
 refine CI.out.mono ?_
 rintro e w2 ⟨rfl,hb⟩
 have P2:=Lib.hid (P1.out.below hb)
 have Q2:=Lib.hid (Q1.out.below hb)
 have W2:=Lib.hid (W1.out.trans (hb.mono hB1))
 have hB2:B≤w2.heap.size:=Nat.le_trans hB1 hb.size
 clear hb CI P1 Q1 W1 q0 q1 p0 hB1
 go_upto_if 20 with fail
 go_cut [4] from 20 to 34 (fun s4 wx=> ∃g cap ys,s4= .int .i64 (IX:Int)∧ys=grownN xs T∧g≠q∧g≠k∧Hid (NI B p (.slice (some ⟨g,0,none⟩) ys.length cap) ys wx)∧Hid (Bx2 k us wx q #[.int .i64 K0,.string ⟨T.toArray⟩,.int .i64 O0,.slice a n c])∧Hid (Below B W0 wx))
 case first=>
  by_cases hlt:IX<xs.length
  ·obtain rfl:IV=(IX:Int):=by rw[HI.out,if_pos hlt]
   have d1:decide ((IX:Int)<0)=false:=dec_no (by omega)
   rw[d1]
   obtain⟨g,cap,e⟩:=nrow_some P2.out.row (by omega)
   injection e with e1 _ e3
   subst e1 e3
   have HGG:=Lib.hid (show xs=grownN xs T by rw[HG.out,if_pos hlt])
   clear hlt
   go_wp2_with fail
   go_meet
   exact⟨g,cv,xs,rfl,HGG.out,fun e=>HQ.out (by rw[←e];rfl),fun e=>HKV.out (by rw[←e];rfl),P2,Q2,W2⟩
  ·obtain rfl:IV= -1:=by rw[HI.out,if_neg hlt]
   have HGN:=Lib.hid (show grownN xs T=xs++ [(T,false,false)] by rw[HG.out,if_neg hlt])
   have HIX:=Lib.hid (show(IX:Int)=(xs.length:Int) by have:=HLE.out;omega)
   have p0:w2.cell? ⟨p,0,none⟩=some (.slice av xs.length cv):=P2.out.box.cell 0 _ rfl
   clear hlt
   rw[show decide ((-1:Int)<0)=true from rfl]
   go_wp2_with fail
   have P:=Lib.hid (show NI B p (.slice av xs.length cv) xs w2∧Below B W0 w2∧B≤w2.heap.size∧Bx2 k us w2 q #[.int .i64 K0,.string ⟨T.toArray⟩,.int .i64 O0,.slice a n c] from⟨P2.out,W2.out,hB2,Q2.out⟩)
   refine wp_region_held_drew (S:=fun w'=>w'.cell? ⟨q,1,none⟩=some (.string ⟨T.toArray⟩)) (by kernel_rfl) (by exact Q2.out.a.cell 1 _ rfl) (fun hHeld=>?_)
   replace P:=Lib.hid (show NI B p (.slice av xs.length cv) xs (World.drew w2)∧Below B W0 (World.drew w2)∧B≤(World.drew w2).heap.size∧Bx2 k us (World.drew w2) q #[.int .i64 K0,.string ⟨T.toArray⟩,.int .i64 O0,.slice a n c] from⟨P.out.1.below (Below.drew (Below.refl _ _)),Below.drew P.out.2.1,P.out.2.2.1,P.out.2.2.2.drew⟩)
   clear P2 W2 Q2
   generalize World.drew w2=w3 at*
   refine tkr (d:=some 25) (v:=?v1) 0 rfl rfl hHeld ?hy1 ?rs1
   case hy1=>(intro w hSw;(try dsimp only at hSw);go_simp)<;>(try with_reducible rfl)
   (try simp only[Act.put,List.setIfInBounds_toArray,List.set_cons_zero,List.set_cons_succ])
   refine tkr (d:=some 26) (v:=?v2) 1 rfl rfl hHeld ?hy2 ?rs2
   case hy2=>(intro w hSw;(try dsimp only at hSw);go_simp)<;>(try with_reducible rfl)
   (try simp only[Act.put,List.setIfInBounds_toArray,List.set_cons_zero,List.set_cons_succ])
   refine tkr (d:=some 27) (v:=?v3) 2 rfl rfl hHeld ?hy3 ?rs3
   case hy3=>(intro w hSw;(try dsimp only at hSw);go_simp)<;>(try with_reducible rfl)
   (try simp only[Act.put,List.setIfInBounds_toArray,List.set_cons_zero,List.set_cons_succ])
   refine tkr (d:=some 29) (v:=?v4) 4 rfl rfl hHeld ?hy4 ?rs4
   case hy4=>(intro w hSw;(try dsimp only at hSw);go_simp)<;>(try with_reducible rfl)
   (try simp only[Act.put,List.setIfInBounds_toArray,List.set_cons_zero,List.set_cons_succ])
   refine tkr (d:=some 30) (v:=?v5) 5 rfl rfl hHeld ?hy5 ?rs5
   case hy5=>(intro w hSw;(try dsimp only at hSw);go_simp)<;>(try with_reducible rfl)
   (try simp only[Act.put,List.setIfInBounds_toArray,List.set_cons_zero,List.set_cons_succ])
   refine tkr (d:=some 31) (v:=?v6) 6 rfl rfl hHeld ?hy6 ?rs6
   case hy6=>(intro w hSw;(try dsimp only at hSw);go_simp)<;>(try with_reducible rfl)
   (try simp only[Act.put,List.setIfInBounds_toArray,List.set_cons_zero,List.set_cons_succ])
   refine takeN_two 3 7 rfl rfl (by kernel_rfl) (by rfl) (by rfl) (fun K hK=>?_) (fun K hK=>?_)
   ·have k3:World.cell? _ ⟨p,0,none⟩=some (.slice av xs.length cv):=P.out.1.box.cell 0 _ rfl
    go_simp
    clear k3
    refine hK.out _ _ (hHeld) (fun hHeld=>?_)
    clear hK K
    (try simp only[Act.put,List.setIfInBounds_toArray,List.set_cons_zero,List.set_cons_succ])
    refine take_call 7 rfl (by kernel_rfl) (by rfl) (fun K hK=>?_)
    go_simp
    refine hK.out _ _ (cell_keep hHeld (blw_alloc _ _)) (fun hHeld=>?_)
    clear hK K
    (try simp only[Act.put,List.setIfInBounds_toArray,List.set_cons_zero,List.set_cons_succ])
    have BN:=Lib.hid (Boxed.made w3 #[.string ⟨T.toArray⟩,.bool false,.bool false] 126)
    replace P:=Lib.hid (show NI B p (.slice av xs.length cv) xs (w3.alloc (.cells #[.string ⟨T.toArray⟩,.bool false,.bool false] 126))∧Below B W0 (w3.alloc (.cells #[.string ⟨T.toArray⟩,.bool false,.bool false] 126))∧B≤(w3.alloc (.cells #[.string ⟨T.toArray⟩,.bool false,.bool false] 126)).heap.size∧Bx2 k us (w3.alloc (.cells #[.string ⟨T.toArray⟩,.bool false,.bool false] 126)) q #[.int .i64 K0,.string ⟨T.toArray⟩,.int .i64 O0,.slice a n c] from⟨P.out.1.below (blw_alloc _ _),P.out.2.1.alloc P.out.2.2.1 _,by have:=P.out.2.2.1;simp;omega,P.out.2.2.2.alloc _⟩)
    generalize w3.heap.size=qn at*
    generalize World.alloc w3 (.cells #[.string ⟨T.toArray⟩,.bool false,.bool false] 126)=w5 at*
    refine take_call 8 rfl (by kernel_rfl) (by rfl) (fun K hK=>?_)
    refine wp_nappend _ _ _ 119 rfl B 126 iN _ 3 24 Tryz.underlying119 hiN hN0 hN1 hN2 rfl (by decide) (.slice av xs.length cv) xs.length (nflat xs) (by simp[go_sem]) P.out.1.row ⟨qn,0,none⟩ 1 1 [.string ⟨T.toArray⟩,.bool false,.bool false] (by simp[go_sem]) rfl (nboxed_add BN.out) (fun u hu=>by simp at hu;rcases hu with rfl|rfl|rfl<;>rfl) (by unfold maxLen;omega) (by omega) P.out.2.2.1 ?_
    intro v' w6 hown hgrow hat
    obtain⟨g',cap',rfl⟩:=nrow_some hown (by omega)
    have hgq':g'≠q:=fun e'=>hat.elim (fun e=>HQ.out (by rw[←e,←e'];rfl)) (fun e=>by have hlq:=P.out.2.2.2.a.lt;have e2:some g'=some _:=e;injection e2 with e2;omega)
    have hgk':g'≠k:=fun e'=>hat.elim (fun e=>HKV.out (by rw[←e,←e'];rfl)) (fun e=>by have hlq:=P.out.2.2.2.b.lt;have e2:some g'=some _:=e;injection e2 with e2;omega)
    have hbq:=P.out.1.row.lt
    have hqr: ∀j,(Value.slice av xs.length cv).ownBlock=some j→B≤j∧j≠q∧j≠k:=fun j hj=>⟨(hbq j hj).1,fun e=>HQ.out (by rw[hj,e]),fun e=>HKV.out (by rw[hj,e])⟩
    have QS:=Lib.hid (P.out.1.stored (ys:=xs++ [(T,false,false)]) hgrow hat (by rw[List.length_append,nflat_add];exact hown))
    have W6:=Lib.hid (P.out.2.1.grown hgrow P.out.2.2.1 (fun j hj=>(hqr j hj).1))
    have Q6:=Lib.hid (P.out.2.2.2.grown hgrow (fun e=>(hqr q e.symm).2.1 rfl) (fun e=>(hqr k e.symm).2.2 rfl))
    have hHeld2:=Q6.out.a.cell 1 _ rfl
    clear hown hgrow hat hbq hqr P BN
    refine hK.out _ _ (hHeld2) (fun hHeld=>?_)
    clear hK K
    (try simp only[Act.put,List.setIfInBounds_toArray,List.set_cons_zero,List.set_cons_succ])
    clear hHeld2
    refine tkr (d:=some 34) (v:=?v7) 9 rfl rfl hHeld ?hy7 ?rs7
    case hy7=>(intro w hSw;(try dsimp only at hSw);go_simp)<;>(try with_reducible rfl)
    (try simp only[Act.put,List.setIfInBounds_toArray,List.set_cons_zero,List.set_cons_succ])
    refine take_call 10 rfl (by kernel_rfl) (by rfl) (fun K hK=>?_)
    have k3:=QS.out.2.cell 0 _ rfl
    have z3:=QS.out.2.free 0 (by show 0<1;omega)
    have hlt:=QS.out.2.lt
    go_simp
    clear k3 z3 hlt
    refine hK.out _ _ ((Q6.out.far (p':=p) hqp.symm HKP.out.symm 0 _).a.cell 1 _ rfl) (fun hHeld=>?_)
    clear hK K
    (try simp only[Act.put,List.setIfInBounds_toArray,List.set_cons_zero,List.set_cons_succ])
    refine wpAnyH_done (by kernel_rfl) ?_ _
    clear hHeld
    have FIN:=Lib.hid (show NI B p (.slice (some ⟨g',0,none⟩) (xs.length+1) cap') (xs++ [(T,false,false)]) (w6.setCell ⟨p,0,none⟩ (.slice (some ⟨g',0,none⟩) (xs.length+1) cap'))∧Below B W0 (w6.setCell ⟨p,0,none⟩ (.slice (some ⟨g',0,none⟩) (xs.length+1) cap'))∧Bx2 k us (w6.setCell ⟨p,0,none⟩ (.slice (some ⟨g',0,none⟩) (xs.length+1) cap')) q #[.int .i64 K0,.string ⟨T.toArray⟩,.int .i64 O0,.slice a n c] from⟨QS.out.1,W6.out.setCell (p:=⟨p,0,none⟩) hpB _,Q6.out.far (p':=p) hqp.symm HKP.out.symm 0 _⟩)
    clear QS W6 Q6
    generalize World.setCell w6 _ _=w7 at*
    go_wp2_with fail
    go_meet
    exact⟨g',cap',xs++ [(T,false,false)],by rw[HIX.out],by rw[HGN.out],hgq',hgk',Lib.hid (by rw[List.length_append];exact FIN.out.1),Lib.hid FIN.out.2.2,Lib.hid FIN.out.2.1⟩
   ·go_simp
    refine hK.out _ _ (cell_keep hHeld (blw_alloc _ _)) (fun hHeld=>?_)
    clear hK K
    (try simp only[Act.put,List.setIfInBounds_toArray,List.set_cons_zero,List.set_cons_succ])
    have BN:=Lib.hid (Boxed.made w3 #[.string ⟨T.toArray⟩,.bool false,.bool false] 126)
    replace P:=Lib.hid (show NI B p (.slice av xs.length cv) xs (w3.alloc (.cells #[.string ⟨T.toArray⟩,.bool false,.bool false] 126))∧Below B W0 (w3.alloc (.cells #[.string ⟨T.toArray⟩,.bool false,.bool false] 126))∧B≤(w3.alloc (.cells #[.string ⟨T.toArray⟩,.bool false,.bool false] 126)).heap.size∧Bx2 k us (w3.alloc (.cells #[.string ⟨T.toArray⟩,.bool false,.bool false] 126)) q #[.int .i64 K0,.string ⟨T.toArray⟩,.int .i64 O0,.slice a n c] from⟨P.out.1.below (blw_alloc _ _),P.out.2.1.alloc P.out.2.2.1 _,by have:=P.out.2.2.1;simp;omega,P.out.2.2.2.alloc _⟩)
    generalize w3.heap.size=qn at*
    generalize World.alloc w3 (.cells #[.string ⟨T.toArray⟩,.bool false,.bool false] 126)=w5 at*
    refine take_call 3 rfl (by kernel_rfl) (by rfl) (fun K hK=>?_)
    have k3:World.cell? _ ⟨p,0,none⟩=some (.slice av xs.length cv):=P.out.1.box.cell 0 _ rfl
    go_simp
    clear k3
    refine hK.out _ _ (hHeld) (fun hHeld=>?_)
    clear hK K
    (try simp only[Act.put,List.setIfInBounds_toArray,List.set_cons_zero,List.set_cons_succ])
    refine take_call 8 rfl (by kernel_rfl) (by rfl) (fun K hK=>?_)
    refine wp_nappend _ _ _ 119 rfl B 126 iN _ 3 24 Tryz.underlying119 hiN hN0 hN1 hN2 rfl (by decide) (.slice av xs.length cv) xs.length (nflat xs) (by simp[go_sem]) P.out.1.row ⟨qn,0,none⟩ 1 1 [.string ⟨T.toArray⟩,.bool false,.bool false] (by simp[go_sem]) rfl (nboxed_add BN.out) (fun u hu=>by simp at hu;rcases hu with rfl|rfl|rfl<;>rfl) (by unfold maxLen;omega) (by omega) P.out.2.2.1 ?_
    intro v' w6 hown hgrow hat
    obtain⟨g',cap',rfl⟩:=nrow_some hown (by omega)
    have hgq':g'≠q:=fun e'=>hat.elim (fun e=>HQ.out (by rw[←e,←e'];rfl)) (fun e=>by have hlq:=P.out.2.2.2.a.lt;have e2:some g'=some _:=e;injection e2 with e2;omega)
    have hgk':g'≠k:=fun e'=>hat.elim (fun e=>HKV.out (by rw[←e,←e'];rfl)) (fun e=>by have hlq:=P.out.2.2.2.b.lt;have e2:some g'=some _:=e;injection e2 with e2;omega)
    have hbq:=P.out.1.row.lt
    have hqr: ∀j,(Value.slice av xs.length cv).ownBlock=some j→B≤j∧j≠q∧j≠k:=fun j hj=>⟨(hbq j hj).1,fun e=>HQ.out (by rw[hj,e]),fun e=>HKV.out (by rw[hj,e])⟩
    have QS:=Lib.hid (P.out.1.stored (ys:=xs++ [(T,false,false)]) hgrow hat (by rw[List.length_append,nflat_add];exact hown))
    have W6:=Lib.hid (P.out.2.1.grown hgrow P.out.2.2.1 (fun j hj=>(hqr j hj).1))
    have Q6:=Lib.hid (P.out.2.2.2.grown hgrow (fun e=>(hqr q e.symm).2.1 rfl) (fun e=>(hqr k e.symm).2.2 rfl))
    have hHeld2:=Q6.out.a.cell 1 _ rfl
    clear hown hgrow hat hbq hqr P BN
    refine hK.out _ _ (hHeld2) (fun hHeld=>?_)
    clear hK K
    (try simp only[Act.put,List.setIfInBounds_toArray,List.set_cons_zero,List.set_cons_succ])
    clear hHeld2
    refine tkr (d:=some 34) (v:=?v8) 9 rfl rfl hHeld ?hy8 ?rs8
    case hy8=>(intro w hSw;(try dsimp only at hSw);go_simp)<;>(try with_reducible rfl)
    (try simp only[Act.put,List.setIfInBounds_toArray,List.set_cons_zero,List.set_cons_succ])
    refine take_call 10 rfl (by kernel_rfl) (by rfl) (fun K hK=>?_)
    have k3:=QS.out.2.cell 0 _ rfl
    have z3:=QS.out.2.free 0 (by show 0<1;omega)
    have hlt:=QS.out.2.lt
    go_simp
    clear k3 z3 hlt
    refine hK.out _ _ ((Q6.out.far (p':=p) hqp.symm HKP.out.symm 0 _).a.cell 1 _ rfl) (fun hHeld=>?_)
    clear hK K
    (try simp only[Act.put,List.setIfInBounds_toArray,List.set_cons_zero,List.set_cons_succ])
    refine wpAnyH_done (by kernel_rfl) ?_ _
    clear hHeld
    have FIN:=Lib.hid (show NI B p (.slice (some ⟨g',0,none⟩) (xs.length+1) cap') (xs++ [(T,false,false)]) (w6.setCell ⟨p,0,none⟩ (.slice (some ⟨g',0,none⟩) (xs.length+1) cap'))∧Below B W0 (w6.setCell ⟨p,0,none⟩ (.slice (some ⟨g',0,none⟩) (xs.length+1) cap'))∧Bx2 k us (w6.setCell ⟨p,0,none⟩ (.slice (some ⟨g',0,none⟩) (xs.length+1) cap')) q #[.int .i64 K0,.string ⟨T.toArray⟩,.int .i64 O0,.slice a n c] from⟨QS.out.1,W6.out.setCell (p:=⟨p,0,none⟩) hpB _,Q6.out.far (p':=p) hqp.symm HKP.out.symm 0 _⟩)
    clear QS W6 Q6
    generalize World.setCell w6 _ _=w7 at*
    go_wp2_with fail
    go_meet
    exact⟨g',cap',xs++ [(T,false,false)],by rw[HIX.out],by rw[HGN.out],hgq',hgk',Lib.hid (by rw[List.length_append];exact FIN.out.1),Lib.hid FIN.out.2.2,Lib.hid FIN.out.2.1⟩
 case rest=>
  obtain⟨g,cap,ys,rfl,hys,hgq,hgk,P3,Q3,W3⟩:=hcut
  have HYS:=Lib.hid hys
  obtain⟨hix,_,nd,hnd⟩:=HGI.out
  rw[←hys] at hix hnd
  replace HRES:=Lib.hid (show RES=ys.modify IX (orN (decide (K0=3)||decide (K0=4)) (decide (K0=5))) by rw[HRES.out,hys])
  have hq3:=nflat_at hnd
  obtain⟨t0,nb,tb⟩:=nd
  have c1:wc.cell? ⟨g,IX*3+1,none⟩=some (.bool nb):=nrow_cells P3.out.row hq3.2.1
  have c2:wc.cell? ⟨g,IX*3+2,none⟩=some (.bool tb):=nrow_cells P3.out.row hq3.2.2
  have f1:=P3.out.row.frozenAt (IX*3+1)
  have f2:=P3.out.row.frozenAt (IX*3+2)
  have hcap:ys.length≤cap:=by
   rcases P3.out.row.2 with⟨e,_⟩|⟨_,_,_,e,_,_,h,_⟩
   ·cases e
   ·injection e with _ _ e;omega
  have g0:wc.cell? ⟨q,0,none⟩=some (.int .i64 K0):=Q3.out.a.cell 0 _ rfl
  have p0:wc.cell? ⟨p,0,none⟩=some (.slice (some ⟨g,0,none⟩) ys.length cap):=P3.out.box.cell 0 _ rfl
  have hgB:=(P3.out.row.lt g rfl).1
  have HND:=Lib.hid hnd
  have hi0:(0:Int)≤(IX:Int):=by omega
  have hi1:(IX:Int)<(ys.length:Int):=by omega
  clear hys hq3 HYS HGI HG HI HLE hnd HQ P2 Q2 W2
  have FO:=Lib.hid fun a b=>P3.out.ored HND.out a b
  generalize ys.length=N at*
  by_cases k3:K0=3
  ·subst k3
   replace HRES:=Lib.hid (show RES=ys.modify IX (orN true false) from HRES.out)
   cases nb<;>cases tb<;>(go_wp2_with fail)<;>go_end0<;>exact⟨rfl,⟨_,by rw[HRES.out];exact FO.out true false⟩,(W3.out.setCell (p:=⟨g,IX*3+1,none⟩) hgB _).setCell (p:=⟨g,IX*3+2,none⟩) hgB _,(Q3.out.b.far hgk _ _).far hgk _ _⟩
  by_cases k4:K0=4
  ·subst k4
   replace HRES:=Lib.hid (show RES=ys.modify IX (orN true false) from HRES.out)
   cases nb<;>cases tb<;>(go_wp2_with fail)<;>go_end0<;>exact⟨rfl,⟨_,by rw[HRES.out];exact FO.out true false⟩,(W3.out.setCell (p:=⟨g,IX*3+1,none⟩) hgB _).setCell (p:=⟨g,IX*3+2,none⟩) hgB _,(Q3.out.b.far hgk _ _).far hgk _ _⟩
  by_cases k5:K0=5
  ·subst k5
   replace HRES:=Lib.hid (show RES=ys.modify IX (orN false true) from HRES.out)
   cases nb<;>cases tb<;>(go_wp2_with fail)<;>go_end0<;>exact⟨rfl,⟨_,by rw[HRES.out];exact FO.out false true⟩,(W3.out.setCell (p:=⟨g,IX*3+1,none⟩) hgB _).setCell (p:=⟨g,IX*3+2,none⟩) hgB _,(Q3.out.b.far hgk _ _).far hgk _ _⟩
  replace HRES:=Lib.hid (show RES=ys.modify IX (orN false false) by rw[HRES.out,dec_no k3,dec_no k4,dec_no k5];rfl)
  have b3:(K0==3)=false:=beq_no k3
  have b4:(K0==4)=false:=beq_no k4
  have b5:(K0==5)=false:=beq_no k5
  clear k3 k4 k5
  cases nb<;>cases tb<;>(go_wp2_with fail)<;>go_end0<;>exact⟨rfl,⟨_,by rw[HRES.out];exact FO.out false false⟩,(W3.out.setCell (p:=⟨g,IX*3+1,none⟩) hgB _).setCell (p:=⟨g,IX*3+2,none⟩) hgB _,(Q3.out.b.far hgk _ _).far hgk _ _⟩
open Go.RowKit
namespace Ms
/-- an arg -/
structure Ag where
 name:List UInt8
 num:Bool
 co:Int
 sc:Int
 txt:List UInt8
def acells (a:Ag):List Value:= [.string ⟨a.name.toArray⟩,.bool a.num,.int .i64 a.co,.int .i64 a.sc,.string ⟨a.txt.toArray⟩]
def afl (l:List Ag):List Value:=l.flatMap acells
/-- the arg of a name -/
def ofN (n:Need):Ag:=⟨n.1,n.2.1,0,0,[]⟩
def nafl (l:List Need):List Value:=afl (l.map ofN)
theorem afl_add (l:List Ag) (a:Ag):afl (l++ [a])=afl l++acells a:=by unfold afl;rw[List.flatMap_append];simp
theorem nafl_add (l:List Need) (n:Need):nafl (l++ [n])=nafl l++acells (ofN n):=by unfold nafl;rw[List.map_append];exact afl_add _ _
theorem afl_at: ∀{l:List Ag} {j:Nat} {n:Ag},l[j]?=some n→(afl l)[j*5]?=some (.string ⟨n.name.toArray⟩)∧(afl l)[j*5+1]?=some (.bool n.num)∧(afl l)[j*5+2]?=some (.int .i64 n.co)∧(afl l)[j*5+3]?=some (.int .i64 n.sc)∧(afl l)[j*5+4]?=some (.string ⟨n.txt.toArray⟩):=by
 intro l
 induction l with
 |nil=>intro j n h;simp at h
 |cons a l ih=>
  intro j n h
  cases j with
  |zero=>simp at h;subst h;exact⟨rfl,rfl,rfl,rfl,rfl⟩
  |succ j=>
   have h':=ih (j:=j) (n:=n) (by simpa using h)
   have e:(j+1)*5=j*5+1+1+1+1+1:=by omega
   rw[e]
   exact h'
theorem nafl_yes: ∀{l:List Need} {j:Nat} {n:Need} (b:Bool),l[j]?=some n→(nafl l).set (j*5+1) (.bool true)=nafl (l.modify j (orN true b)):=by
 intro l
 induction l with
 |nil=>intro j n b h;simp at h
 |cons x l ih=>
  intro j n b h
  cases j with
  |zero=>simp at h;subst h;show _=acells (ofN (orN true b x))++nafl l;unfold orN ofN;rw[Bool.or_true];rfl
  |succ j=>
   have h':=ih (j:=j) (n:=n) b (by simpa using h)
   have e:(j+1)*5=j*5+1+1+1+1+1:=by omega
   rw[e,List.modify_succ_cons]
   show _=acells (ofN x)++nafl (l.modify j (orN true b))
   rw[←h']
   rfl
theorem nafl_no: ∀(l:List Need) (j:Nat) (b:Bool),nafl (l.modify j (orN false b))=nafl l:=by
 intro l
 induction l with
 |nil=>intro j b;simp
 |cons x l ih=>
  intro j b
  cases j with
  |zero=>show acells (ofN (orN false b x))++nafl l=acells (ofN x)++nafl l;unfold orN ofN;rw[Bool.or_false]
  |succ j=>
   rw[List.modify_succ_cons]
   show acells (ofN x)++nafl (l.modify j (orN false b))=_
   rw[ih];rfl
end Ms
open Ms
def ArgC (w:World) (b k:Nat) (a:Ag):Prop:=w.cell? ⟨b,k,none⟩=some (.string ⟨a.name.toArray⟩)∧w.cell? ⟨b,k+1,none⟩=some (.bool a.num)∧w.cell? ⟨b,k+2,none⟩=some (.int .i64 a.co)∧w.cell? ⟨b,k+3,none⟩=some (.int .i64 a.sc)∧w.cell? ⟨b,k+4,none⟩=some (.string ⟨a.txt.toArray⟩)
abbrev ArgsAt:=SlAt 5 ArgC
theorem ArgC.below {w w':World} {b k:Nat} {n:Ag} (h:ArgC w b k n) (hb:Below w.heap.size w w'):ArgC w' b k n:=⟨cell_keep h.1 hb,cell_keep h.2.1 hb,cell_keep h.2.2.1 hb,cell_keep h.2.2.2.1 hb,cell_keep h.2.2.2.2 hb⟩
theorem args_below {w w':World} {v:Value} {l:List Ag} (h:ArgsAt w v l) (hb:Below w.heap.size w w'):ArgsAt w' v l:=h.imp fun _ _ _ _ q=>q.below hb
theorem args_of_row {w:World} {base:Nat} {e:TypeId} {v:Value} {l:List Ag} (h:w.ownsRow base e 5 v l.length (afl l)):ArgsAt w v l:=by
 have h':=h.2
 rcases h' with⟨rfl,h0⟩|⟨g,cap,cur,rfl,_,_,h1,h2,_,_⟩
 ·exact .inl ⟨List.length_eq_zero_iff.1 h0,none,0,rfl⟩
 ·by_cases h0:l.length=0
  ·exact .inl ⟨List.length_eq_zero_iff.1 h0,_,_,by rw[h0]⟩
  ·refine .inr ⟨g,0,cap,rfl,by omega,h1,h2,fun j x hx=>?_⟩
   rw[Nat.zero_add]
   have q:=afl_at hx
   exact⟨nrow_cells h q.1,nrow_cells h q.2.1,nrow_cells h q.2.2.1,nrow_cells h q.2.2.2.1,nrow_cells h q.2.2.2.2⟩
/-- the row of names' args that grows, beside a block -/
structure AI (B q:Nat) (bx:Array Value) (u:Value) (xs:List Need) (W:World):Prop where
 row:W.ownsRow B 36 5 u xs.length (nafl xs)
 box:Boxed W q bx
 ne:u.ownBlock≠some q
section
variable {B q:Nat} {bx:Array Value} {u:Value} {xs:List Need} {A C:World}
theorem AI.below (h:AI B q bx u xs A) (hb:Below A.heap.size A C):AI B q bx u xs C:=
 ⟨h.row.kept (row:=none) ⟨hb.os,hb.tape,hb.output,hb.size,fun k hk _=>hb.block k hk⟩ (by cases u.ownBlock<;>simp),h.box.below hb,h.ne⟩
theorem AI.app (h:AI B q bx u xs A) {v':Value} {t:List UInt8} (ho:C.ownsRow B 36 5 v' (xs.length+1) (nafl xs++acells ⟨t,false,0,0,[]⟩)) (hg:A.grownBy C u.ownBlock) (hat:v'.ownBlock=u.ownBlock∨v'.ownBlock=some A.heap.size):AI B q bx v' (xs++ [(t,false,false)]) C:=by
 refine⟨by rw[List.length_append,nafl_add];exact ho,nboxed_grown h.box hg (fun e=>h.ne e.symm),?_⟩
 rcases hat with e|e
 ·rw[e];exact h.ne
 ·rw[e];intro g;injection g with g;have:=h.box.lt;omega
theorem AI.yes {g cap:Nat} (h:AI B q bx (.slice (some ⟨g,0,none⟩) xs.length cap) xs A) {j:Nat} {n:Need} (hj:xs[j]?=some n) (b:Bool):AI B q bx (.slice (some ⟨g,0,none⟩) xs.length cap) (xs.modify j (orN true b)) (A.setCell ⟨g,j*5+1,none⟩ (.bool true)):=by
 have hgq:g≠q:=fun e=>h.ne (by rw[e];rfl)
 have h1:=(h.row.stored (j*5+1) (.bool true)).1
 rw[nafl_yes b hj] at h1
 exact⟨by rw[modify_len];exact h1,h.box.far hgq _ _,h.ne⟩
theorem AI.no (h:AI B q bx u xs A) (j:Nat) (b:Bool):AI B q bx u (xs.modify j (orN false b)) A:=⟨by rw[modify_len,nafl_no];exact h.row,h.box,h.ne⟩
theorem AI.isSlice (h:AI B q bx u xs A): ∃a c,u= .slice a xs.length c:=by
 rcases h.row.2 with⟨rfl,h0⟩|⟨g,cap,cur,rfl,_⟩
 ·exact⟨none,0,by rw[h0]⟩
 ·exact⟨_,_,rfl⟩
end
theorem ncells_at (W:World) (xs:List Value) (t:TypeId) (q:Nat) (hq:W.heap.size=q): ∀j u,xs[j]?=some u→(W.alloc (.cells xs.toArray t)).cell? ((⟨q,0,none⟩:Addr).add j)=some u:=by
 subst hq;exact nboxed_add (Boxed.made W xs.toArray t)
theorem acells_one (a:Ag): ∀u∈acells a,u.oneCell'=true:=by
 intro u hu
 simp[acells] at hu
 rcases hu with rfl|rfl|rfl|rfl|rfl<;>rfl
theorem infoArg:(Tryz.prog.info? 36).map (fun i=>(i.zero,i.size,i.bytes))=some (some (.agg #[.string ByteArray.empty,.bool false,.int .i64 0,.int .i64 0,.string ByteArray.empty]),5,56):=by kernel_rfl
open Go.RowKit Go.WideShapes Go.ChangeShapes Go.Deep Ms

theorem bulk_mem {H:Type} {x:DataW H}: ∀{l:List (DataW H)},x∈l→Rows.uptoBulk x≤Rows.uptoBulkAll l
 |y::l,h=>by
  rcases List.mem_cons.1 h with rfl|h
  ·simp only[Rows.uptoBulkAll];omega
  ·have:=bulk_mem h
   simp only[Rows.uptoBulkAll];omega
theorem bulk_pos {H:Type} (d:DataW H):1≤Rows.uptoBulk d:=by
 cases d with
 |lit x=>cases x<;>simp[Rows.uptoBulk]
 |_=>simp[Rows.uptoBulk]
theorem bulk_len {H:Type}: ∀l:List (DataW H),l.length≤Rows.uptoBulkAll l
 | []=>by simp
 |d::l=>by
  have:=bulk_len l
  have:=bulk_pos d
  simp only[Rows.uptoBulkAll,List.length_cons];omega
theorem list_by' {α:Type} {Q:Nat→α→Prop}: ∀(n:Nat),(∀i,i<n→ ∃t,Q i t)→ ∃L:List α,L.length=n∧ ∀i t,L[i]?=some t→Q i t
 |0,_=>⟨[],rfl,fun i t h=>by simp at h⟩
 |n+1,h=>by
  obtain⟨L,hl,hq⟩:=list_by' n fun i hi=>h i (by omega)
  obtain⟨t,ht⟩:=h n (by omega)
  refine⟨L++ [t],by simp[hl],fun i x hx=>?_⟩
  by_cases hi:i<n
  ·rw[List.getElem?_append_left (by omega)] at hx;exact hq i x hx
  ·rw[List.getElem?_append_right (by omega)] at hx
   have hk:i-L.length<1:=(List.getElem?_eq_some_iff.1 hx).1
   obtain rfl:i=n:=by omega
   rw[hl,Nat.sub_self] at hx
   obtain rfl:t=x:=by simpa using hx
   exact ht
section
variable {H:Type} {enc:TypeId×Value→H} {P:Program} {w:World} {base:Nat} {sp:Nat→Bool} {held:Bool}
/-- a slice whose elements are smaller readings -/
theorem sl_less {α:Type} {fuel m:Nat} {t e:TypeId} {C:World→Nat→Nat→α→Prop} (K:Nat) (ht:P.underlying t=some (.slice e)) (hC:P.cellsOf e=m) (hm:0<m)
  (el: ∀(b off:Nat) (cs:List Value) (n:Nat) (y:DataW H×List MemPlace),(∀i,i<m→w.cell? ⟨b,off+i,none⟩=cs[i]?)→cs.length=m→DataW.trod enc P w base sp held n e cs=some y→Rows.uptoBulk y.1<K→ ∃x:α,C w b off x)
  {v:Value} {y:DataW H×List MemPlace} (h:DataW.trod enc P w base sp held fuel t [v]=some y) (hK:Rows.uptoBulk y.1≤K):
  ∃a n c l,v= .slice a n c∧SlAt m C w (.slice a n c) l∧l.length<Rows.uptoBulk y.1:=by
 have hpos:=bulk_pos y.1
 rcases open_slice ht h with⟨hcs,_⟩|⟨a',len,cap,mm,nn,D,Pl,hcs,_,hl,hcm,hmm,hx,hi⟩
 ·exact⟨none,0,0,[],by simpa using hcs,.inl ⟨rfl,none,0,rfl⟩,by simp;omega⟩
 ·have e1:v= .slice (some a') len cap:=by simpa using hcs
  have hd:y.1= .slice ((List.range len).map D) ((List.range (mm-len)).map fun j=>D (len+j)):=congrArg Prod.fst hx
  by_cases hz:len=0
  ·subst hz
   exact⟨some a',0,cap,[],e1,.inl ⟨rfl,_,_,rfl⟩,by simp;omega⟩
  have hlm:len≤mm:=by rw[hmm];split<;>omega
  rw[hC] at hi
  obtain⟨b,off,spot⟩:=a'
  have hsp:spot=none:=by
   obtain⟨cs0,q0,_⟩:=hi 0 (by omega)
   obtain⟨_,q1,q2⟩:=World.cells?_some q0
   have q3:=q2 0 hm
   rw[List.getElem?_eq_getElem (by omega)] at q3
   simpa[Addr.add] using World.cell?_spot q3
  subst hsp
  have hbd: ∀i,i<len→Rows.uptoBulk (D i)<K:=by
   intro i hil
   have:D i∈(List.range len).map D:=List.mem_map.2 ⟨i,by simpa using hil,rfl⟩
   have:=bulk_mem this
   rw[hd] at hK
   simp only[Rows.uptoBulk] at hK
   omega
  obtain⟨L,hL,hQ⟩:=list_by' (Q:=fun i x=>C w b (off+i*m) x) len fun i hil=>by
   obtain⟨cs',q0,q1⟩:=hi i (by omega)
   obtain⟨_,q2,q3⟩:=World.cells?_some q0
   rw[Go.WideShapes.add_plain] at q3
   exact el b (off+i*m) cs' nn _ (fun j hj=>by have:=q3 j hj;rwa [Go.WideShapes.add_plain] at this) q2 q1 (hbd i hil)
  refine⟨_,len,cap,L,e1,.inr ⟨b,off,cap,by rw[hL],by omega,by omega,hcm,fun j x hx=>hQ j x hx⟩,?_⟩
  have:=bulk_len ((List.range len).map D)
  rw[hd,hL]
  simp only[Rows.uptoBulk]
  simp at this
  omega
section
variable {sN sC tN tC:TypeId} {f0 f1 f2 f3 g0 g1:Field}
/-- a node that came in, and all that hangs on it: as deep as it is great -/
theorem node_up (hsN:P.underlying sN=some (.slice tN)) (hsC:P.underlying sC=some (.slice tC)) (htN:P.underlying tN=some (.struct #[f0,f1,f2,f3])) (htC:P.underlying tC=some (.struct #[g0,g1]))
  (cN:P.cellsOf tN=4) (cC:P.cellsOf tC=2) (k0:P.underlying f0.type=some (.int .i64)) (k1:P.underlying f1.type=some .string) (k2:P.underlying f2.type=some (.int .i64)) (k3:f3.type=sC) (j0:P.underlying g0.type=some .string) (j1:g1.type=sN)
  (hN:oneCellFields P #[f0,f1,f2,f3]=true) (hC:oneCellFields P #[g0,g1]=true):
  ∀K,K≤1048576→ ∀(b off:Nat) (cs:List Value) (n:Nat) (y:DataW H×List MemPlace),(∀i,i<4→w.cell? ⟨b,off+i,none⟩=cs[i]?)→cs.length=4→DataW.trod enc P w base sp held n tN cs=some y→Rows.uptoBulk y.1≤K→ ∃x:Nd,NdC K w b off x:=by
 intro K
 induction K with
 |zero=>intro _ b off cs n y _ _ _ hK;have:=bulk_pos y.1;omega
 |succ K ih=>
  intro hK' b off cs n y h1 h2 h hK
  obtain⟨ys,n',_,hy,_,hyl,hf⟩:=DataW.trod_struct htN h
  obtain⟨c0,c1,c2,c3,rfl⟩: ∃c0 c1 c2 c3,cs= [c0,c1,c2,c3]:=by
   match cs,h2 with
   | [c0,c1,c2,c3],_=>exact⟨c0,c1,c2,c3,rfl⟩
  obtain⟨y0,y1,y2,y3,rfl⟩: ∃a0 a1 a2 a3,ys= [a0,a1,a2,a3]:=by
   match ys,hyl with
   | [a0,a1,a2,a3],_=>exact⟨a0,a1,a2,a3,rfl⟩
  have r0:DataW.trod enc P w base sp held n' f0.type [c0]=some y0:=by have:=hf 0 f0 rfl;rwa [(hone_of hN 0 f0 rfl).1,(hone_of hN 0 f0 rfl).2] at this
  have r1:DataW.trod enc P w base sp held n' f1.type [c1]=some y1:=by have:=hf 1 f1 rfl;rwa [(hone_of hN 1 f1 rfl).1,(hone_of hN 1 f1 rfl).2] at this
  have r2:DataW.trod enc P w base sp held n' f2.type [c2]=some y2:=by have:=hf 2 f2 rfl;rwa [(hone_of hN 2 f2 rfl).1,(hone_of hN 2 f2 rfl).2] at this
  have r3:DataW.trod enc P w base sp held n' f3.type [c3]=some y3:=by have:=hf 3 f3 rfl;rwa [(hone_of hN 3 f3 rfl).1,(hone_of hN 3 f3 rfl).2] at this
  rw[k3] at r3
  have hb:Rows.uptoBulk y1.1+Rows.uptoBulk y3.1≤K:=by
   rw[hy] at hK
   simp only[List.map_cons,List.map_nil,Rows.uptoBulk,Rows.uptoBulkAll] at hK
   omega
  obtain⟨a0,e0,_⟩:=DataW.trod_int k0 r0
  obtain⟨t1,e1,ey1,_⟩:=DataW.trod_string k1 r1
  obtain⟨a2,e2,_⟩:=DataW.trod_int k2 r2
  obtain rfl:c0= .int .i64 a0:=by simpa using e0
  obtain rfl:c1= .string t1:=by simpa using e1
  obtain rfl:c2= .int .i64 a2:=by simpa using e2
  have hp1:=bulk_pos y1.1
  obtain⟨a,m,c,l,rfl,hs,hl⟩:=sl_less (w:=w) (C:=fun w b k (y:List UInt8×List Nd)=> ∃a n c,w.cell? ⟨b,k,none⟩=some (.string ⟨y.1.toArray⟩)∧w.cell? ⟨b,k+1,none⟩=some (.slice a n c)∧SlAt 4 (NdC K) w (.slice a n c) y.2∧y.1.length≤2000000∧y.2.length≤2000000) K hsC cC (by omega) (fun b off cs n y u1 u2 u uK=>by
   obtain⟨ys,n',_,hy,_,hyl,hf⟩:=DataW.trod_struct htC u
   obtain⟨c0,c1,rfl⟩: ∃c0 c1,cs= [c0,c1]:=by
    match cs,u2 with
    | [c0,c1],_=>exact⟨c0,c1,rfl⟩
   obtain⟨y0,y1,rfl⟩: ∃a0 a1,ys= [a0,a1]:=by
    match ys,hyl with
    | [a0,a1],_=>exact⟨a0,a1,rfl⟩
   have r0:DataW.trod enc P w base sp held n' g0.type [c0]=some y0:=by have:=hf 0 g0 rfl;rwa [(hone_of hC 0 g0 rfl).1,(hone_of hC 0 g0 rfl).2] at this
   have r1:DataW.trod enc P w base sp held n' g1.type [c1]=some y1:=by have:=hf 1 g1 rfl;rwa [(hone_of hC 1 g1 rfl).1,(hone_of hC 1 g1 rfl).2] at this
   rw[j1] at r1
   have hb:Rows.uptoBulk y0.1+Rows.uptoBulk y1.1<K:=by
    rw[hy] at uK
    simp only[List.map_cons,List.map_nil,Rows.uptoBulk,Rows.uptoBulkAll] at uK
    omega
   obtain⟨t0,e0,ey0,_⟩:=DataW.trod_string j0 r0
   obtain rfl:c0= .string t0:=by simpa using e0
   obtain⟨a,m,c,l,rfl,hs,hl⟩:=sl_less (w:=w) (C:=NdC K) K hsN cN (by omega) (fun b off cs n y q1 q2 q qK=>ih (by omega) b off cs n y q1 q2 q (by omega)) r1 (by omega)
   have ht:t0.data.toList.length+1≤Rows.uptoBulk y0.1:=by rw[ey0];simp[Rows.uptoBulk]
   exact⟨(t0.data.toList,l),a,m,c,u1 0 (by omega),u1 1 (by omega),hs,by show t0.data.toList.length≤_;omega,by show l.length≤_;omega⟩) r3 (by omega)
  have ht:t1.data.toList.length+1≤Rows.uptoBulk y1.1:=by rw[ey1];simp[Rows.uptoBulk]
  exact⟨.mk a0 t1.data.toList a2 l,a,m,c,h1 0 (by omega),h1 1 (by omega),h1 2 (by omega),h1 3 (by omega),hs,by show t1.data.toList.length≤_;omega,by show l.length≤_;omega⟩
theorem msg_open (hsN:P.underlying sN=some (.slice tN)) (hsC:P.underlying sC=some (.slice tC)) (htN:P.underlying tN=some (.struct #[f0,f1,f2,f3])) (htC:P.underlying tC=some (.struct #[g0,g1]))
  (cN:P.cellsOf tN=4) (cC:P.cellsOf tC=2) (k0:P.underlying f0.type=some (.int .i64)) (k1:P.underlying f1.type=some .string) (k2:P.underlying f2.type=some (.int .i64)) (k3:f3.type=sC) (j0:P.underlying g0.type=some .string) (j1:g1.type=sN)
  (hN:oneCellFields P #[f0,f1,f2,f3]=true) (hC:oneCellFields P #[g0,g1]=true) {fuel:Nat} {a:Option Addr} {n c:Nat} {d:DataW H} {p:List MemPlace} (h:DataW.trod enc P w base sp held fuel sN (Value.slice a n c).cells.toList=some (d,p)) (hK:Rows.uptoBulk d≤1048576):
  ∃m:List Nd,MsgAt 1048576 w (.slice a n c) m∧m.length<Rows.uptoBulk d:=by
 obtain⟨a',n',c',l,e,hs,hl⟩:=sl_less (w:=w) (C:=NdC 1048576) 1048576 hsN cN (by omega) (fun b off cs n y q1 q2 q qK=>node_up hsN hsC htN htC cN cC k0 k1 k2 k3 j0 j1 hN hC 1048576 (Nat.le_refl _) b off cs n y q1 q2 q (by omega)) (v:= .slice a n c) (y:=(d,p)) (by simpa[Value.cells] using h) hK
 rw[←e] at hs
 exact⟨l,hs,hl⟩
end
section
variable {s t u:TypeId} {f0 f1 f2 f3 g0 g1:Field}
end
end
open Go.RowKit

abbrev txtV (x:List UInt8):Value:= .string ⟨x.toArray⟩
/-- a slice that holds these texts -/
def StrsAt (w:World) (v:Value) (l:List (List UInt8)):Prop:=
 (l= []∧ ∃a cap,v= .slice a 0 cap)∨
 ∃b off cap,v= .slice (some ⟨b,off,none⟩) l.length cap∧0<l.length∧l.length≤cap∧cap≤maxLen∧ ∀(j:Nat) x,l[j]?=some x→w.cell? ⟨b,off+j,none⟩=some (.string ⟨x.toArray⟩)
theorem StrsAt.below {w w':World} {v:Value} {l:List (List UInt8)} (h:StrsAt w v l) (hb:Below w.heap.size w w'):StrsAt w' v l:=by
 rcases h with h|⟨b,off,cap,h1,h2,h3,h4,h5⟩
 ·exact .inl h
 ·exact .inr ⟨b,off,cap,h1,h2,h3,h4,fun j x hx=>cell_keep (h5 j x hx) hb⟩
theorem StrsAt.alloc {w:World} {v:Value} {l:List (List UInt8)} (h:StrsAt w v l) (o:Obj):StrsAt (w.alloc o) v l:=h.below (blw_alloc w o)
theorem StrsAt.drewN {w:World} {v:Value} {l:List (List UInt8)} (h:StrsAt w v l) (n:Nat):StrsAt (w.drewN n) v l:=h
/-- out of a row that the call owns -/
theorem StrsAt.of_row {w:World} {base:Nat} {e:TypeId} {v:Value} {n:Nat} {l:List (List UInt8)} (h:w.ownsRow base e 1 v n (l.map txtV)):StrsAt w v l:=by
 obtain⟨hl,h⟩:=h
 rw[List.length_map,Nat.mul_one] at hl
 subst hl
 rcases h with⟨rfl,h0⟩|⟨g,cap,cur,rfl,_,hg,h1,h2,h3,h4⟩
 ·exact .inl ⟨List.length_eq_zero_iff.1 h0,none,0,rfl⟩
 ·by_cases h0:l.length=0
  ·exact .inl ⟨List.length_eq_zero_iff.1 h0,_,_,by rw[h0]⟩
  ·refine .inr ⟨g,0,cap,rfl,by omega,h1,h2,fun j x hx=>?_⟩
   have hj:j<l.length:=(List.getElem?_eq_some_iff.1 hx).1
   have hc:cur[j]?=some (txtV x):=by
    have e:(cur.toList.take (l.length*1))[j]?=some (txtV x):=by rw[h4];simp[hx]
    rw[Nat.mul_one,List.getElem?_take,if_pos hj] at e
    simpa using e
   simp[World.cell?,hg,hc]
open Go.RowKit Go.WideShapes Go.ChangeShapes

/-- the reading of these texts -/
def strsD {H:Type} (l:List (List UInt8)) (d:DataW H):Prop:=(d= .nil∧l= [])∨ ∃sp,d= .slice (l.map fun x=> .lit (.string x)) sp
theorem strs_open {H:Type} {enc:TypeId×Value→H} {P:Program} {w:World} {base:Nat} {sp:Nat→Bool} {held:Bool} {fuel:Nat} {t e:TypeId} {a:Option Addr} {n c:Nat} {d:DataW H} {p:List MemPlace}
  (ht:P.underlying t=some (.slice e)) (he:P.underlying e=some .string) (hc:P.cellsOf e=1) (h:DataW.trod enc P w base sp held fuel t (Value.slice a n c).cells.toList=some (d,p)):
  ∃l:List (List UInt8),StrsAt w (.slice a n c) l∧strsD l d:=by
 rcases open_strings ht he hc h with⟨hcs,hx⟩|⟨a',len',cap',ss,hcs,_,hl,hm,hz,hx,hcell,_⟩
 ·have e1:Value.slice a n c= .slice none 0 0:=by simpa[Value.cells] using hcs
  rw[e1]
  exact⟨[],.inl ⟨rfl,none,0,rfl⟩,.inl ⟨(congrArg Prod.fst hx),rfl⟩⟩
 ·have e1:Value.slice a n c= .slice (some a') len' cap':=by simpa[Value.cells] using hcs
  rw[e1]
  have hlen:(ss.take len').length=len':=by
   rw[List.length_take]
   split at hz<;>omega
  refine⟨(ss.take len').map (·.data.toList),?_,.inr ⟨strs (ss.drop len'),?_⟩⟩
  ·by_cases h0:len'=0
   ·subst h0
    exact .inl ⟨by simp,_,_,rfl⟩
   ·obtain⟨b,off,spot⟩:=a'
    have hsp:spot=none:=by simpa[Addr.add] using World.cell?_spot (hcell 0 (by split at hz<;>omega))
    subst hsp
    refine .inr ⟨b,off,cap',by rw[List.length_map,hlen],by rw[List.length_map,hlen];omega,by rw[List.length_map,hlen];exact hl,hm,fun j x hj=>?_⟩
    rw[List.getElem?_map] at hj
    obtain⟨y,hy,rfl⟩:=Option.map_eq_some_iff.1 hj
    have hj':j<(ss.take len').length:=(List.getElem?_eq_some_iff.1 hy).1
    rw[List.getElem?_take,if_pos (by omega)] at hy
    have g:=hcell j (List.getElem?_eq_some_iff.1 hy).1
    rw[Go.WideShapes.add_plain] at g
    rw[g,List.getD,hy]
    rfl
  ·have e2:(d:DataW H)= .slice (strs (ss.take len')) (strs (ss.drop len')):=congrArg Prod.fst hx
   rw[e2,List.map_map]
   rfl

theorem bulk_strs {H:Type} {l:List (List UInt8)} {d:DataW H} (h:strsD l d):(l.map (·.length)).sum+l.length+1≤Rows.uptoBulk d:=by
 rcases h with⟨rfl,rfl⟩|⟨sp,rfl⟩
 ·simp[Rows.uptoBulk]
 ·have g: ∀m:List (List UInt8),(m.map (·.length)).sum+m.length≤Rows.uptoBulkAll (m.map fun x=>(.lit (.string x):DataW H)):=by
   intro m
   induction m with
   |nil=>simp[Rows.uptoBulkAll]
   |cons x m ih=>simp only[List.map_cons,List.sum_cons,List.length_cons,Rows.uptoBulkAll,Rows.uptoBulk];omega
  have:=g l
  simp only[Rows.uptoBulk]
  omega
end Go.Proofs.YtldbfkccieipjaaGreatDoor
namespace Byt
open Go Go.Lib
theorem split_cons {c:UInt8} {X:List UInt8} (Y:List UInt8) (h:c∉X):split (X++c::Y) [c]=X::split Y [c]:=by
 unfold split
 have e:count (X++c::Y) [c]=count Y [c]+1:=by
  rw[count_one,count_one,List.count_append,List.count_cons_self,List.count_eq_zero.2 h];omega
 rw[e,splitK_hit _ _ h]
theorem split_none {c:UInt8} {X:List UInt8} (h:c∉X):split X [c]= [X]:=splitK_miss _ h
end Byt
namespace Byt
open Go Go.Lib
open Go.Proofs.YtldbfkccieipjaaGreatDoor.Dcm (P10 okD mag)

/-- digits as a number, behind acc -/
def foldD (acc:Nat):List UInt8→Nat
 | []=>acc
 |c::r=>foldD (10*acc+(c.toNat-48)) r
theorem foldD_app (x y:List UInt8): ∀a:Nat,foldD a (x++y)=foldD (foldD a x) y:=by
 induction x with
 |nil=>intro a;rfl
 |cons c r ih=>intro a;exact ih _
theorem foldD_step (a x P S:Nat):(10*a+x)*P+S=a*(P*10)+(x*P+S):=by
 have e:(10*a+x)*P=a*(P*10)+x*P:=by rw[Nat.add_mul,Nat.mul_comm 10 a,Nat.mul_assoc,Nat.mul_comm 10 P]
 rw[e,Nat.add_assoc]
theorem foldD_pow: ∀(l:List UInt8) (a:Nat),foldD a l=a*10^l.length+foldD 0 l
 | [],a=>(Nat.mul_one a).symm
 |c::r,a=>by
  have h1:=foldD_pow r (10*a+(c.toNat-48))
  have h2:=foldD_pow r (10*0+(c.toNat-48))
  have h3:10^(c::r).length=10^r.length*10:=Nat.pow_succ 10 r.length
  rw[h3]
  have e1:foldD a (c::r)=foldD (10*a+(c.toNat-48)) r:=rfl
  have e2:foldD 0 (c::r)=foldD (10*0+(c.toNat-48)) r:=rfl
  rw[e1,e2,h1,h2,Nat.mul_zero,Nat.zero_add]
  exact foldD_step _ _ _ _
theorem foldD_dec: ∀(k u:Nat),u<k→foldD 0 (decDigits u)=u
 |0,u,h=>by omega
 |k+1,u,h=>by
  by_cases hu:u<10
  ·rw[Dtx.dd1 hu]
   show 10*0+((UInt8.ofNat (48+u)).toNat-48)=u
   rw[dig_byte hu];omega
  ·rw[Dtx.dd2 hu,foldD_app,foldD_dec k (u/10) (by omega)]
   show 10*(u/10)+((UInt8.ofNat (48+u%10)).toNat-48)=u
   rw[dig_byte (by omega)];omega
theorem foldD_digits (u:Nat):foldD 0 (decDigits u)=u:=foldD_dec (u+1) u (by omega)
def isDig (c:UInt8):Bool:=decide (48≤(c.toNat:Int))&&decide ((c.toNat:Int)≤57)
theorem isDig_iff {c:UInt8}:isDig c=true↔48≤c.toNat∧c.toNat≤57:=by
 unfold isDig
 rw[Bool.and_eq_true,decide_eq_true_eq,decide_eq_true_eq];omega
/-- what linguisterref1.NumberOf tells -/
def numP (l:List UInt8):Int:=
 if l.length=0∨16<l.length then-1
 else if l.all isDig=true then (if decDigits (foldD 0 l)=l∧(foldD 0 l:Int)≤1000000000000000 then (foldD 0 l:Int) else-1) else-1
theorem numP_dec (u:Nat) (h:u≤1000000000000000):numP (decDigits u)=u:=by
 unfold numP
 have h1:=List.length_pos_iff.2 (digits_ne u)
 have h2:=digits_short 16 u (by omega) (by omega)
 rw[if_neg (by omega),if_pos (List.all_eq_true.2 fun c hc=>isDig_iff.2 (digits_all u c hc)),foldD_digits,if_pos ⟨rfl,by omega⟩]
theorem numP_some {l:List UInt8} (h:0≤numP l):decDigits (numP l).toNat=l∧numP l≤1000000000000000:=by
 unfold numP at*
 split at h
 ·omega
 ·rename_i h1
  rw[if_neg h1]
  split at h
  ·rename_i h2
   rw[if_pos h2]
   split at h
   ·rename_i h3
    rw[if_pos h3]
    exact⟨by rw[Int.toNat_natCast];exact h3.1,h3.2⟩
   ·omega
  ·omega
theorem numP_bd (l:List UInt8): -1≤numP l∧numP l≤1000000000000000:=by
 unfold numP
 split
 ·omega
 ·split
  ·split
   ·rename_i h;omega
   ·omega
  ·omega
theorem foldD_bd: ∀(l:List UInt8),(∀c∈l,48≤c.toNat∧c.toNat≤57)→foldD 0 l<10^l.length:=by
 intro l
 induction l with
 |nil=>intro _;decide
 |cons c r ih=>
  intro h
  have h1:=ih fun x hx=>h x (List.mem_cons_of_mem _ hx)
  have h2:=h c List.mem_cons_self
  show foldD (10*0+(c.toNat-48)) r<_
  rw[foldD_pow,List.length_cons,Nat.pow_succ]
  generalize 10^r.length=P at*
  have:(10*0+(c.toNat-48))*P≤9*P:=Nat.mul_le_mul_right P (by omega)
  omega

theorem pad_succ (k u:Nat) (hk:0<k):Dtx.pad (k+1) u=Dtx.pad k (u/10)++ [UInt8.ofNat (48+u%10)]:=by
 unfold Dtx.pad
 by_cases h:u<10
 ·obtain⟨j,rfl⟩: ∃j,k=j+1:=⟨k-1,by omega⟩
  rw[Dtx.dd1 h,show u/10=0 by omega,Dtx.dd1 (show 0<10 by omega),Nat.mod_eq_of_lt h]
  show List.replicate (j+1) 48++_=List.replicate j 48++ [48]++_
  rw[List.replicate_succ']
 ·rw[Dtx.dd2 h,List.length_append,List.length_singleton,show k+1-((decDigits (u/10)).length+1)=k-(decDigits (u/10)).length by omega,List.append_assoc]
theorem pad_len {k u:Nat} (hk:0<k) (h:u<10^k):(Dtx.pad k u).length=k:=by
 have:=digits_short k u h hk
 unfold Dtx.pad
 rw[List.length_append,List.length_replicate];omega
theorem pad_one (u:Nat):Dtx.pad 1 u=decDigits u:=by
 have:=List.length_pos_iff.2 (digits_ne u)
 unfold Dtx.pad
 rw[show 1-(decDigits u).length=0 by omega];rfl
theorem pad_split: ∀(s u:Nat),0<s→Dtx.pad (s+1) u=decDigits (u/10^s)++Dtx.pad s (u%10^s)
 |0,u,h=>by omega
 |1,u,_=>by
  rw[pad_succ 1 u (by omega),pad_one,pad_one,Nat.pow_one,Dtx.dd1 (show u%10<10 by omega)]
 |s+2,u,_=>by
  rw[pad_succ (s+2) u (by omega),pad_split (s+1) (u/10) (by omega),pad_succ (s+1) (u%10^(s+2)) (by omega)]
  have e:10^(s+2)=10^(s+1)*10:=Nat.pow_succ 10 (s+1)
  rw[e,Nat.mod_mul_left_div_self,Nat.mod_mul_left_mod,Nat.div_div_eq_div_mul,Nat.mul_comm 10 (10^(s+1)),List.append_assoc]
theorem P10_pow (s:Nat) (h:s≤9):P10 (s:Int)=((10^s:Nat):Int):=by
 have:s=0∨s=1∨s=2∨s=3∨s=4∨s=5∨s=6∨s=7∨s=8∨s=9:=by omega
 rcases this with rfl|rfl|rfl|rfl|rfl|rfl|rfl|rfl|rfl|rfl<;>rfl
theorem mag_abs (c:Int):mag c=(c.natAbs:Int):=by unfold mag;split<;>omega
/-- a number's text in two pieces -/
def magT (n s:Int):List UInt8:=if s≤0 then decDigits n.toNat else decDigits (n/P10 s).toNat++46::Dtx.pad s.toNat (n%P10 s).toNat
theorem decText_two (c s:Int) (h:okD c s):decText c s=sgn c++magT (mag c) s:=by
 obtain⟨s0,s9,_,_⟩:=h
 unfold decText magT
 by_cases hs:s≤0
 ·rw[if_pos hs,if_pos hs,mag_abs,Int.toNat_natCast]
 ·rw[if_neg hs,if_neg hs]
  obtain⟨k,rfl⟩: ∃k:Nat,s=(k:Int):=⟨s.toNat,by omega⟩
  have e:zdig (zn c k) c.natAbs=decDigits (c.natAbs/10^k)++Dtx.pad k (c.natAbs%10^k):=pad_split k c.natAbs (by omega)
  have hp:0<10^k:=Nat.pow_pos (by omega)
  have l:=pad_len (k:=k) (u:=c.natAbs%10^k) (by omega) (Nat.mod_lt _ hp)
  rw[e,Int.toNat_natCast,mag_abs,P10_pow k (by omega)]
  rw[←Int.natCast_ediv,←Int.natCast_emod,Int.toNat_natCast,Int.toNat_natCast]
  generalize Dtx.pad k (c.natAbs%10^k)=P at*
  generalize decDigits (c.natAbs/10^k)=D at*
  rw[List.length_append,l,Nat.add_sub_cancel,List.take_left,List.drop_left]
  simp
/-- without the minus ahead -/
def bare (t:List UInt8):List UInt8:=if t.take 1= [45] then t.drop 1 else t
end Byt
