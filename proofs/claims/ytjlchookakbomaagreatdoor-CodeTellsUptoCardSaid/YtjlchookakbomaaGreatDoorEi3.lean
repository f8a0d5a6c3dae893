/- The walks of npat.affix. Conditions: none. -/
import Derived.Test.YtjlchookakbomaaGreatDoorEi2
import Derived.Deep.DeepCutAuto
import Derived.Deep.CutRange
set_option maxHeartbeats 4000000
set_option maxRecDepth 100000
namespace Go.Proofs.YtjlchookakbomaaGreatDoor
open Go.RowKit Ms

theorem infoNeed:(Tryz.prog.info? 117).map (fun i=>(i.zero,i.size,i.bytes))=some (some (.agg #[.string ByteArray.empty,.bool false,.bool false]),3,24):=by kernel_rfl
section
variable {P:Program} {md:Region.Mode} {l:List Oper} {Q:Exit→Act→World→Prop} {S:World→Prop}
theorem zI5 {oi oj:Oper} {fuel:Nat} {listed:Array Bool} {a:Act} {w:World} (i j:Nat) (hi:l[i]?=some oi) (hj:l[j]?=some oj) (hr:Region.ready md l.toArray listed= [i,j])
  (hwi:Region.wanted oi (yielded l.toArray a.tmps)=true) (hwj:Region.wanted oj (yielded l.toArray a.tmps)=true)
  (h1: ∀K':Act→World→Prop,Shut (∀a w,S w→(S w→wpAnyH P md l.toArray Q S fuel (listed.setIfInBounds i true) a w)→K' a w)→Oper.wp P oi a w K' Q)
  (h2: ∀K':Act→World→Prop,Shut (∀a w,S w→(S w→wpAnyH P md l.toArray Q S fuel (listed.setIfInBounds j true) a w)→K' a w)→Oper.wp P oj a w K' Q):wpAnyH P md l.toArray Q S (fuel+1) listed a w:=
 wpAnyH_ready hr (by simp) (AllReadyH.cons (by simpa using hi) (fun K' hK=>by rw[if_pos hwi];exact h1 K' hK) (AllReadyH.cons (by simpa using hj) (fun K' hK=>by rw[if_pos hwj];exact h2 K' hK) AllReadyH.nil))
end

structure Bx2 (k:Nat) (us:Array Value) (w:World) (q:Nat) (vs:Array Value):Prop where
 a:Boxed w q vs
 b:Boxed w k us
section
variable {k q:Nat} {us vs:Array Value} {w:World}
theorem Bx2.below {C:World} (h:Bx2 k us w q vs) (hb:Below w.heap.size w C):Bx2 k us C q vs:=⟨h.a.below hb,h.b.below hb⟩
theorem Bx2.alloc (h:Bx2 k us w q vs) (o:Obj):Bx2 k us (w.alloc o) q vs:=⟨h.a.alloc o,h.b.alloc o⟩
theorem Bx2.drew (h:Bx2 k us w q vs):Bx2 k us w.drew q vs:=⟨h.a.drew,h.b.drew⟩
theorem Bx2.grown {C:World} {r:Option Nat} (h:Bx2 k us w q vs) (g:w.grownBy C r) (h1:some q≠r) (h2:some k≠r):Bx2 k us C q vs:=⟨zA5 h.a g h1,zA5 h.b g h2⟩
theorem Bx2.far {p':Nat} (h:Bx2 k us w q vs) (h1:p'≠q) (h2:p'≠k) (j:Nat) (v:Value):Bx2 k us (w.setCell ⟨p',j,none⟩ v) q vs:=⟨h.a.far h1 j v,h.b.far h2 j v⟩
end

theorem zKi (x:Nd) (a:Option Addr) (n c:Nat) (W0 w:World) (p:Nat) (v:Value) (xs:List Need) (k:Nat) (us:Array Value) (h:NI W0.heap.size p v xs w) (hb:Below W0.heap.size W0 w) (hl:xs.length≤1000000) (hk:Boxed w k us) (hkp:k≠p) (hkv:v.ownBlock≠some k):
  Calls Tryz.prog 123 #[.pointer (some ⟨p,0,none⟩),.agg #[.int .i64 x.kind,.string ⟨x.text.toArray⟩,.int .i64 x.off,.slice a n c]] w fun e w'=>e= .returned (.tuple #[])∧(∃v',NI W0.heap.size p v' (addN xs x) w')∧Below W0.heap.size W0 w'∧Boxed w' k us:=by
 have HK0:=lH hk
 have HKP:=lH hkp
 obtain⟨iN,hiN,hN0,hN1,hN2⟩:=info_parts infoNeed
 obtain⟨K0,T,O0,cs⟩:=x
 obtain⟨RES,hRES⟩: ∃RES,RES=addN xs (.mk K0 T O0 cs):=⟨_,rfl⟩
 rw[←hRES]
 have HRES:=lH (show RES=if K0=1∨K0=6 then xs else (grownN xs T).modify (xs.findIdx (fun n=>n.1==T)) (orN (decide (K0=3)||decide (K0=4)) (decide (K0=5))) from hRES)
 clear hRES
 simp only[Nd.kind,Nd.text,Nd.off]
 have hB:=hb.size
 have HW:=lH hb
 have HP:=lH h
 have hpB:=h.ge
 have hpw:=h.box.lt
 obtain⟨av,cv,rfl⟩:=h.isSlice
 have hvq:(Value.slice av xs.length cv).ownBlock≠some w.heap.size:=fun e=>by have:=(h.row.lt _ e).2;omega
 have HKV:=lH hkv
 clear h hb hk hkp hkv
 generalize W0.heap.size=B at*
 obtain⟨q,hq⟩: ∃q,w.heap.size=q:=⟨_,rfl⟩
 obtain⟨w1,hw1⟩: ∃w1,w.alloc (.cells #[.int .i64 K0,.string ⟨T.toArray⟩,.int .i64 O0,.slice a n c] 51)=w1:=⟨_,rfl⟩
 have P1:=lH (show NI B p (.slice av xs.length cv) xs w1 by rw[←hw1];exact HP.out.below (bA _ _))
 have W1:=lH (show Below B W0 w1 by rw[←hw1];exact HW.out.alloc hB _)
 have Q1:=lH (show Bx2 k us w1 q #[.int .i64 K0,.string ⟨T.toArray⟩,.int .i64 O0,.slice a n c] by rw[←hw1,←hq];exact⟨Boxed.made _ _ _,HK0.out.alloc _⟩)
 rw[hq] at hvq hB hpw
 have HQ:=lH hvq
 have hqp:q≠p:=by omega
 have hB1:B≤w1.heap.size:=by have:=Q1.out.a.lt;omega
 clear HP HW hvq HK0
 have q0:w1.cell? ⟨q,0,none⟩=some (.int .i64 K0):=Q1.out.a.cell 0 _ rfl
 have q1:w1.cell? ⟨q,1,none⟩=some (.string ⟨T.toArray⟩):=Q1.out.a.cell 1 _ rfl
 have p0:w1.cell? ⟨p,0,none⟩=some (.slice av xs.length cv):=P1.out.box.cell 0 _ rfl
 by_cases k1:K0=1
 ·have b1:(K0==1)=true:=zAo k1
  obtain rfl:RES=xs:=by rw[HRES.out,if_pos (.inl k1)]
  clear k1
  go_enter Tryz.func123,Tryz.ntmps123
  go_upto_region 1 with fail
  try rw[hq,hw1]
  clear hw1 hq
  go_wp2_with fail
  refine bodyPost_ret (results_none rfl _ _ _) rfl ?_
  exact⟨rfl,⟨_,P1.out⟩,W1.out,Q1.out.b⟩
 by_cases k6:K0=6
 ·have b1:(K0==1)=false:=zAe k1
  have b6:(K0==6)=true:=zAo k6
  obtain rfl:RES=xs:=by rw[HRES.out,if_pos (.inr k6)]
  clear k1 k6
  go_enter Tryz.func123,Tryz.ntmps123
  go_upto_region 1 with fail
  try rw[hq,hw1]
  clear hw1 hq
  go_wp2_with fail
  refine bodyPost_ret (results_none rfl _ _ _) rfl ?_
  exact⟨rfl,⟨_,P1.out⟩,W1.out,Q1.out.b⟩
 have b1:(K0==1)=false:=zAe k1
 have b6:(K0==6)=false:=zAe k6
 replace HRES:=lH (show RES=_ by rw[HRES.out,if_neg (by rintro(h|h);exact k1 h;exact k6 h)])
 clear k1 k6
 have CI:=lH (zFZ xs (fun n=>n.1==T) 163 #[.pointer (some ⟨q,0,none⟩)] zLU (.slice av xs.length cv) w1 (zBY P1.out.row) (lH fun y _ wx hbx=>zKh y q T wx (cK q1 hbx)))
 have HI:=lH (show fstV xs (fun n=>n.1==T)=if xs.findIdx (fun n=>n.1==T)<xs.length then (xs.findIdx (fun n=>n.1==T):Int) else-1 from rfl)
 have HG:=lH (show grownN xs T=if xs.findIdx (fun n=>n.1==T)<xs.length then xs else xs++ [(T,false,false)] from rfl)
 have HGI:=lH (zCC xs T)
 have HLE:=lH (List.findIdx_le_length (xs:=xs) (p:=fun n=>n.1==T))
 generalize fstV xs (fun n=>n.1==T)=IV at*
 generalize xs.findIdx (fun n=>n.1==T)=IX at*
 go_enter Tryz.func123,Tryz.ntmps123
 go_upto_region 1 with fail
 try rw[hq,hw1]
 clear hw1 hq
 go_wp2_with fail
 refine CI.out.mono ?_
 rintro e w2 ⟨rfl,hb⟩
 have P2:=lH (P1.out.below hb)
 have Q2:=lH (Q1.out.below hb)
 have W2:=lH (W1.out.trans (hb.mono hB1))
 have hB2:B≤w2.heap.size:=Nat.le_trans hB1 hb.size
 clear hb CI P1 Q1 W1 q0 q1 p0 hB1
 go_upto_if 20 with fail
 go_cut [4] from 20 to 34 (fun s4 wx=> ∃g cap ys,s4= .int .i64 (IX:Int)∧ys=grownN xs T∧g≠q∧g≠k∧Hid (NI B p (.slice (some ⟨g,0,none⟩) ys.length cap) ys wx)∧Hid (Bx2 k us wx q #[.int .i64 K0,.string ⟨T.toArray⟩,.int .i64 O0,.slice a n c])∧Hid (Below B W0 wx))
 case first=>
  by_cases hlt:IX<xs.length
  ·obtain rfl:IV=(IX:Int):=by rw[HI.out,if_pos hlt]
   have d1:decide ((IX:Int)<0)=false:=zAa (by omega)
   rw[d1]
   obtain⟨g,cap,e⟩:=zBj P2.out.row (by omega)
   injection e with e1 _ e3
   subst e1 e3
   have HGG:=lH (show xs=grownN xs T by rw[HG.out,if_pos hlt])
   clear hlt
   go_wp2_with fail
   go_meet
   exact⟨g,cv,xs,rfl,HGG.out,fun e=>HQ.out (by rw[←e];rfl),fun e=>HKV.out (by rw[←e];rfl),P2,Q2,W2⟩
  obtain rfl:IV= -1:=by rw[HI.out,if_neg hlt]
  have HGN:=lH (show grownN xs T=xs++ [(T,false,false)] by rw[HG.out,if_neg hlt])
  have HIX:=lH (show(IX:Int)=(xs.length:Int) by have:=HLE.out;omega)
  have p0:w2.cell? ⟨p,0,none⟩=some (.slice av xs.length cv):=P2.out.box.cell 0 _ rfl
  clear hlt
  rw[show decide ((-1:Int)<0)=true from rfl]
  go_wp2_with fail
  have P:=lH (show NI B p (.slice av xs.length cv) xs w2∧Below B W0 w2∧B≤w2.heap.size∧Bx2 k us w2 q #[.int .i64 K0,.string ⟨T.toArray⟩,.int .i64 O0,.slice a n c] from⟨P2.out,W2.out,hB2,Q2.out⟩)
  refine wp_region_held_drew (S:=fun w'=>w'.cell? ⟨q,1,none⟩=some (.string ⟨T.toArray⟩)) (by kernel_rfl) (by exact Q2.out.a.cell 1 _ rfl) (fun hY9=>?_)
  replace P:=lH (show NI B p (.slice av xs.length cv) xs (World.drew w2)∧Below B W0 (World.drew w2)∧B≤(World.drew w2).heap.size∧Bx2 k us (World.drew w2) q #[.int .i64 K0,.string ⟨T.toArray⟩,.int .i64 O0,.slice a n c] from⟨P.out.1.below (Below.drew (Below.refl _ _)),Below.drew P.out.2.1,P.out.2.2.1,P.out.2.2.2.drew⟩)
  clear P2 W2 Q2
  generalize World.drew w2=w3 at*
  refine tkr (d:=some 25) (v:=?v1) 0 rfl rfl hY9 ?hy1 ?rs1
  case hy1=>(intro w hSw;(try dsimp only at hSw);go_simp)<;>(try with_reducible rfl)
  (try simp only[Act.put,aI,aO,aS])
  refine tkr (d:=some 26) (v:=?v2) 1 rfl rfl hY9 ?hy2 ?rs2
  case hy2=>(intro w hSw;(try dsimp only at hSw);go_simp)<;>(try with_reducible rfl)
  (try simp only[Act.put,aI,aO,aS])
  refine tkr (d:=some 27) (v:=?v3) 2 rfl rfl hY9 ?hy3 ?rs3
  case hy3=>(intro w hSw;(try dsimp only at hSw);go_simp)<;>(try with_reducible rfl)
  (try simp only[Act.put,aI,aO,aS])
  refine tkr (d:=some 29) (v:=?v4) 4 rfl rfl hY9 ?hy4 ?rs4
  case hy4=>(intro w hSw;(try dsimp only at hSw);go_simp)<;>(try with_reducible rfl)
  (try simp only[Act.put,aI,aO,aS])
  refine tkr (d:=some 30) (v:=?v5) 5 rfl rfl hY9 ?hy5 ?rs5
  case hy5=>(intro w hSw;(try dsimp only at hSw);go_simp)<;>(try with_reducible rfl)
  (try simp only[Act.put,aI,aO,aS])
  refine tkr (d:=some 31) (v:=?v6) 6 rfl rfl hY9 ?hy6 ?rs6
  case hy6=>(intro w hSw;(try dsimp only at hSw);go_simp)<;>(try with_reducible rfl)
  (try simp only[Act.put,aI,aO,aS])
  refine zI5 3 7 rfl rfl (by kernel_rfl) (by rfl) (by rfl) (fun K hK=>?_) (fun K hK=>?_)
  ·have k3:World.cell? _ ⟨p,0,none⟩=some (.slice av xs.length cv):=P.out.1.box.cell 0 _ rfl
   go_simp
   clear k3
   refine hK.out _ _ (hY9) (fun hY9=>?_)
   clear hK K
   (try simp only[Act.put,aI,aO,aS])
   refine zAc 7 rfl (by kernel_rfl) (by rfl) (fun K hK=>?_)
   go_simp
   refine hK.out _ _ (cK hY9 (bA _ _)) (fun hY9=>?_)
   clear hK K
   (try simp only[Act.put,aI,aO,aS])
   have BN:=lH (Boxed.made w3 #[.string ⟨T.toArray⟩,.bool false,.bool false] 117)
   replace P:=lH (show NI B p (.slice av xs.length cv) xs (w3.alloc (.cells #[.string ⟨T.toArray⟩,.bool false,.bool false] 117))∧Below B W0 (w3.alloc (.cells #[.string ⟨T.toArray⟩,.bool false,.bool false] 117))∧B≤(w3.alloc (.cells #[.string ⟨T.toArray⟩,.bool false,.bool false] 117)).heap.size∧Bx2 k us (w3.alloc (.cells #[.string ⟨T.toArray⟩,.bool false,.bool false] 117)) q #[.int .i64 K0,.string ⟨T.toArray⟩,.int .i64 O0,.slice a n c] from⟨P.out.1.below (bA _ _),P.out.2.1.alloc P.out.2.2.1 _,by have:=P.out.2.2.1;simp;omega,P.out.2.2.2.alloc _⟩)
   generalize w3.heap.size=qn at*
   generalize World.alloc w3 (.cells #[.string ⟨T.toArray⟩,.bool false,.bool false] 117)=w5 at*
   refine zAc 8 rfl (by kernel_rfl) (by rfl) (fun K hK=>?_)
   refine zD6 _ _ _ 110 rfl B 117 iN _ 3 24 Tryz.underlying110 hiN hN0 hN1 hN2 rfl (by decide) (.slice av xs.length cv) xs.length (nflat xs) (by simp[go_sem]) P.out.1.row ⟨qn,0,none⟩ 1 1 [.string ⟨T.toArray⟩,.bool false,.bool false] (by simp[go_sem]) rfl (zCD BN.out) (fun u hu=>by simp at hu;rcases hu with rfl|rfl|rfl<;>rfl) (by unfold maxLen;omega) (by omega) P.out.2.2.1 ?_
   intro v' w6 hown hgrow hat
   obtain⟨g',cap',rfl⟩:=zBj hown (by omega)
   have hgq':g'≠q:=fun e'=>hat.elim (fun e=>HQ.out (by rw[←e,←e'];rfl)) (fun e=>by have hlq:=P.out.2.2.2.a.lt;have e2:some g'=some _:=e;injection e2 with e2;omega)
   have hgk':g'≠k:=fun e'=>hat.elim (fun e=>HKV.out (by rw[←e,←e'];rfl)) (fun e=>by have hlq:=P.out.2.2.2.b.lt;have e2:some g'=some _:=e;injection e2 with e2;omega)
   have hbq:=P.out.1.row.lt
   have hqr: ∀j,(Value.slice av xs.length cv).ownBlock=some j→B≤j∧j≠q∧j≠k:=fun j hj=>⟨(hbq j hj).1,fun e=>HQ.out (by rw[hj,e]),fun e=>HKV.out (by rw[hj,e])⟩
   have QS:=lH (P.out.1.stored (ys:=xs++ [(T,false,false)]) hgrow hat (by rw[List.length_append,zEX];exact hown))
   have W6:=lH (P.out.2.1.grown hgrow P.out.2.2.1 (fun j hj=>(hqr j hj).1))
   have Q6:=lH (P.out.2.2.2.grown hgrow (fun e=>(hqr q e.symm).2.1 rfl) (fun e=>(hqr k e.symm).2.2 rfl))
   have hHeld2:=Q6.out.a.cell 1 _ rfl
   clear hown hgrow hat hbq hqr P BN
   refine hK.out _ _ (hHeld2) (fun hY9=>?_)
   clear hK K
   (try simp only[Act.put,aI,aO,aS])
   clear hHeld2
   refine tkr (d:=some 34) (v:=?v7) 9 rfl rfl hY9 ?hy7 ?rs7
   case hy7=>(intro w hSw;(try dsimp only at hSw);go_simp)<;>(try with_reducible rfl)
   (try simp only[Act.put,aI,aO,aS])
   refine zAc 10 rfl (by kernel_rfl) (by rfl) (fun K hK=>?_)
   have k3:=QS.out.2.cell 0 _ rfl
   have z3:=QS.out.2.free 0 (by show 0<1;omega)
   have hlt:=QS.out.2.lt
   go_simp
   clear k3 z3 hlt
   refine hK.out _ _ ((Q6.out.far (p':=p) hqp.symm HKP.out.symm 0 _).a.cell 1 _ rfl) (fun hY9=>?_)
   clear hK K
   (try simp only[Act.put,aI,aO,aS])
   refine wpAnyH_done (by kernel_rfl) ?_ _
   clear hY9
   have FIN:=lH (show NI B p (.slice (some ⟨g',0,none⟩) (xs.length+1) cap') (xs++ [(T,false,false)]) (w6.setCell ⟨p,0,none⟩ (.slice (some ⟨g',0,none⟩) (xs.length+1) cap'))∧Below B W0 (w6.setCell ⟨p,0,none⟩ (.slice (some ⟨g',0,none⟩) (xs.length+1) cap'))∧Bx2 k us (w6.setCell ⟨p,0,none⟩ (.slice (some ⟨g',0,none⟩) (xs.length+1) cap')) q #[.int .i64 K0,.string ⟨T.toArray⟩,.int .i64 O0,.slice a n c] from⟨QS.out.1,W6.out.setCell (p:=⟨p,0,none⟩) hpB _,Q6.out.far (p':=p) hqp.symm HKP.out.symm 0 _⟩)
   clear QS W6 Q6
   generalize World.setCell w6 _ _=w7 at*
   go_wp2_with fail
   go_meet
   exact⟨g',cap',xs++ [(T,false,false)],by rw[HIX.out],by rw[HGN.out],hgq',hgk',lH (by rw[List.length_append];exact FIN.out.1),lH FIN.out.2.2,lH FIN.out.2.1⟩
  go_simp
  refine hK.out _ _ (cK hY9 (bA _ _)) (fun hY9=>?_)
  clear hK K
  (try simp only[Act.put,aI,aO,aS])
  have BN:=lH (Boxed.made w3 #[.string ⟨T.toArray⟩,.bool false,.bool false] 117)
  replace P:=lH (show NI B p (.slice av xs.length cv) xs (w3.alloc (.cells #[.string ⟨T.toArray⟩,.bool false,.bool false] 117))∧Below B W0 (w3.alloc (.cells #[.string ⟨T.toArray⟩,.bool false,.bool false] 117))∧B≤(w3.alloc (.cells #[.string ⟨T.toArray⟩,.bool false,.bool false] 117)).heap.size∧Bx2 k us (w3.alloc (.cells #[.string ⟨T.toArray⟩,.bool false,.bool false] 117)) q #[.int .i64 K0,.string ⟨T.toArray⟩,.int .i64 O0,.slice a n c] from⟨P.out.1.below (bA _ _),P.out.2.1.alloc P.out.2.2.1 _,by have:=P.out.2.2.1;simp;omega,P.out.2.2.2.alloc _⟩)
  generalize w3.heap.size=qn at*
  generalize World.alloc w3 (.cells #[.string ⟨T.toArray⟩,.bool false,.bool false] 117)=w5 at*
  refine zAc 3 rfl (by kernel_rfl) (by rfl) (fun K hK=>?_)
  have k3:World.cell? _ ⟨p,0,none⟩=some (.slice av xs.length cv):=P.out.1.box.cell 0 _ rfl
  go_simp
  clear k3
  refine hK.out _ _ (hY9) (fun hY9=>?_)
  clear hK K
  (try simp only[Act.put,aI,aO,aS])
  refine zAc 8 rfl (by kernel_rfl) (by rfl) (fun K hK=>?_)
  refine zD6 _ _ _ 110 rfl B 117 iN _ 3 24 Tryz.underlying110 hiN hN0 hN1 hN2 rfl (by decide) (.slice av xs.length cv) xs.length (nflat xs) (by simp[go_sem]) P.out.1.row ⟨qn,0,none⟩ 1 1 [.string ⟨T.toArray⟩,.bool false,.bool false] (by simp[go_sem]) rfl (zCD BN.out) (fun u hu=>by simp at hu;rcases hu with rfl|rfl|rfl<;>rfl) (by unfold maxLen;omega) (by omega) P.out.2.2.1 ?_
  intro v' w6 hown hgrow hat
  obtain⟨g',cap',rfl⟩:=zBj hown (by omega)
  have hgq':g'≠q:=fun e'=>hat.elim (fun e=>HQ.out (by rw[←e,←e'];rfl)) (fun e=>by have hlq:=P.out.2.2.2.a.lt;have e2:some g'=some _:=e;injection e2 with e2;omega)
  have hgk':g'≠k:=fun e'=>hat.elim (fun e=>HKV.out (by rw[←e,←e'];rfl)) (fun e=>by have hlq:=P.out.2.2.2.b.lt;have e2:some g'=some _:=e;injection e2 with e2;omega)
  have hbq:=P.out.1.row.lt
  have hqr: ∀j,(Value.slice av xs.length cv).ownBlock=some j→B≤j∧j≠q∧j≠k:=fun j hj=>⟨(hbq j hj).1,fun e=>HQ.out (by rw[hj,e]),fun e=>HKV.out (by rw[hj,e])⟩
  have QS:=lH (P.out.1.stored (ys:=xs++ [(T,false,false)]) hgrow hat (by rw[List.length_append,zEX];exact hown))
  have W6:=lH (P.out.2.1.grown hgrow P.out.2.2.1 (fun j hj=>(hqr j hj).1))
  have Q6:=lH (P.out.2.2.2.grown hgrow (fun e=>(hqr q e.symm).2.1 rfl) (fun e=>(hqr k e.symm).2.2 rfl))
  have hHeld2:=Q6.out.a.cell 1 _ rfl
  clear hown hgrow hat hbq hqr P BN
  refine hK.out _ _ (hHeld2) (fun hY9=>?_)
  clear hK K
  (try simp only[Act.put,aI,aO,aS])
  clear hHeld2
  refine tkr (d:=some 34) (v:=?v8) 9 rfl rfl hY9 ?hy8 ?rs8
  case hy8=>(intro w hSw;(try dsimp only at hSw);go_simp)<;>(try with_reducible rfl)
  (try simp only[Act.put,aI,aO,aS])
  refine zAc 10 rfl (by kernel_rfl) (by rfl) (fun K hK=>?_)
  have k3:=QS.out.2.cell 0 _ rfl
  have z3:=QS.out.2.free 0 (by show 0<1;omega)
  have hlt:=QS.out.2.lt
  go_simp
  clear k3 z3 hlt
  refine hK.out _ _ ((Q6.out.far (p':=p) hqp.symm HKP.out.symm 0 _).a.cell 1 _ rfl) (fun hY9=>?_)
  clear hK K
  (try simp only[Act.put,aI,aO,aS])
  refine wpAnyH_done (by kernel_rfl) ?_ _
  clear hY9
  have FIN:=lH (show NI B p (.slice (some ⟨g',0,none⟩) (xs.length+1) cap') (xs++ [(T,false,false)]) (w6.setCell ⟨p,0,none⟩ (.slice (some ⟨g',0,none⟩) (xs.length+1) cap'))∧Below B W0 (w6.setCell ⟨p,0,none⟩ (.slice (some ⟨g',0,none⟩) (xs.length+1) cap'))∧Bx2 k us (w6.setCell ⟨p,0,none⟩ (.slice (some ⟨g',0,none⟩) (xs.length+1) cap')) q #[.int .i64 K0,.string ⟨T.toArray⟩,.int .i64 O0,.slice a n c] from⟨QS.out.1,W6.out.setCell (p:=⟨p,0,none⟩) hpB _,Q6.out.far (p':=p) hqp.symm HKP.out.symm 0 _⟩)
  clear QS W6 Q6
  generalize World.setCell w6 _ _=w7 at*
  go_wp2_with fail
  go_meet
  exact⟨g',cap',xs++ [(T,false,false)],by rw[HIX.out],by rw[HGN.out],hgq',hgk',lH (by rw[List.length_append];exact FIN.out.1),lH FIN.out.2.2,lH FIN.out.2.1⟩
 case rest=>
  obtain⟨g,cap,ys,rfl,hys,hgq,hgk,P3,Q3,W3⟩:=hcut
  have HYS:=lH hys
  obtain⟨hix,_,nd,hnd⟩:=HGI.out
  rw[←hys] at hix hnd
  replace HRES:=lH (show RES=ys.modify IX (orN (decide (K0=3)||decide (K0=4)) (decide (K0=5))) by rw[HRES.out,hys])
  have hq3:=zFN hnd
  obtain⟨t0,nb,tb⟩:=nd
  have c1:wc.cell? ⟨g,IX*3+1,none⟩=some (.bool nb):=zAr P3.out.row hq3.2.1
  have c2:wc.cell? ⟨g,IX*3+2,none⟩=some (.bool tb):=zAr P3.out.row hq3.2.2
  have f1:=P3.out.row.frozenAt (IX*3+1)
  have f2:=P3.out.row.frozenAt (IX*3+2)
  have hcap:ys.length≤cap:=by
   rcases P3.out.row.2 with⟨e,_⟩|⟨_,_,_,e,_,_,h,_⟩
   ·cases e
   injection e with _ _ e;omega
  have g0:wc.cell? ⟨q,0,none⟩=some (.int .i64 K0):=Q3.out.a.cell 0 _ rfl
  have p0:wc.cell? ⟨p,0,none⟩=some (.slice (some ⟨g,0,none⟩) ys.length cap):=P3.out.box.cell 0 _ rfl
  have hgB:=(P3.out.row.lt g rfl).1
  have HND:=lH hnd
  have hi0:(0:Int)≤(IX:Int):=by omega
  have hi1:(IX:Int)<(ys.length:Int):=by omega
  clear hys hq3 HYS HGI HG HI HLE hnd HQ P2 Q2 W2
  have FO:=lH fun a b=>P3.out.ored HND.out a b
  generalize ys.length=N at*
  by_cases k3:K0=3
  ·subst k3
   replace HRES:=lH (show RES=ys.modify IX (orN true false) from HRES.out)
   cases nb<;>cases tb<;>(go_wp2_with fail)<;>go_end0<;>exact⟨rfl,⟨_,by rw[HRES.out];exact FO.out true false⟩,(W3.out.setCell (p:=⟨g,IX*3+1,none⟩) hgB _).setCell (p:=⟨g,IX*3+2,none⟩) hgB _,(Q3.out.b.far hgk _ _).far hgk _ _⟩
  by_cases k4:K0=4
  ·subst k4
   replace HRES:=lH (show RES=ys.modify IX (orN true false) from HRES.out)
   cases nb<;>cases tb<;>(go_wp2_with fail)<;>go_end0<;>exact⟨rfl,⟨_,by rw[HRES.out];exact FO.out true false⟩,(W3.out.setCell (p:=⟨g,IX*3+1,none⟩) hgB _).setCell (p:=⟨g,IX*3+2,none⟩) hgB _,(Q3.out.b.far hgk _ _).far hgk _ _⟩
  by_cases k5:K0=5
  ·subst k5
   replace HRES:=lH (show RES=ys.modify IX (orN false true) from HRES.out)
   cases nb<;>cases tb<;>(go_wp2_with fail)<;>go_end0<;>exact⟨rfl,⟨_,by rw[HRES.out];exact FO.out false true⟩,(W3.out.setCell (p:=⟨g,IX*3+1,none⟩) hgB _).setCell (p:=⟨g,IX*3+2,none⟩) hgB _,(Q3.out.b.far hgk _ _).far hgk _ _⟩
  replace HRES:=lH (show RES=ys.modify IX (orN false false) by rw[HRES.out,zAa k3,zAa k4,zAa k5];rfl)
  have b3:(K0==3)=false:=zAe k3
  have b4:(K0==4)=false:=zAe k4
  have b5:(K0==5)=false:=zAe k5
  clear k3 k4 k5
  cases nb<;>cases tb<;>(go_wp2_with fail)<;>go_end0<;>exact⟨rfl,⟨_,by rw[HRES.out];exact FO.out false false⟩,(W3.out.setCell (p:=⟨g,IX*3+1,none⟩) hgB _).setCell (p:=⟨g,IX*3+2,none⟩) hgB _,(Q3.out.b.far hgk _ _).far hgk _ _⟩
open Go.RowKit
namespace Ms
structure Ag where
 name:List UInt8
 num:Bool
 co:Int
 sc:Int
 txt:List UInt8
def acells (a:Ag):List Value:= [.string ⟨a.name.toArray⟩,.bool a.num,.int .i64 a.co,.int .i64 a.sc,.string ⟨a.txt.toArray⟩]
def afl (l:List Ag):List Value:=l.flatMap acells
def ofN (n:Need):Ag:=⟨n.1,n.2.1,0,0,[]⟩
def nafl (l:List Need):List Value:=afl (l.map ofN)
theorem zLV (l:List Ag) (a:Ag):afl (l++ [a])=afl l++acells a:=by unfold afl;rw[List.flatMap_append];simp
theorem zCG (l:List Need) (n:Need):nafl (l++ [n])=nafl l++acells (ofN n):=by unfold nafl;rw[List.map_append];exact zLV _ _
theorem zCw: ∀{l:List Ag} {j:Nat} {n:Ag},l[j]?=some n→(afl l)[j*5]?=some (.string ⟨n.name.toArray⟩)∧(afl l)[j*5+1]?=some (.bool n.num)∧(afl l)[j*5+2]?=some (.int .i64 n.co)∧(afl l)[j*5+3]?=some (.int .i64 n.sc)∧(afl l)[j*5+4]?=some (.string ⟨n.txt.toArray⟩):=by
 intro l
 induction l with
 |nil=>intro j n h;simp at h
 |cons a l ih=>
  intro j n h
  cases j with
  |zero=>simp at h;subst h;exact⟨rfl,rfl,rfl,rfl,rfl⟩
  |succ j=>
   have h':=ih (j:=j) (n:=n) (by simpa using h)
   have e:(j+1)*5=j*5+1+1+1+1+1:=by omega
   rw[e]
   exact h'
theorem zKj: ∀{l:List Need} {j:Nat} {n:Need} (b:Bool),l[j]?=some n→(nafl l).set (j*5+1) (.bool true)=nafl (l.modify j (orN true b)):=by
 intro l
 induction l with
 |nil=>intro j n b h;simp at h
 |cons x l ih=>
  intro j n b h
  cases j with
  |zero=>simp at h;subst h;show _=acells (ofN (orN true b x))++nafl l;unfold orN ofN;rw[Bool.or_true];rfl
  |succ j=>
   have h':=ih (j:=j) (n:=n) b (by simpa using h)
   have e:(j+1)*5=j*5+1+1+1+1+1:=by omega
   rw[e,List.modify_succ_cons]
   show _=acells (ofN x)++nafl (l.modify j (orN true b))
   rw[←h']
   rfl
theorem zLW: ∀(l:List Need) (j:Nat) (b:Bool),nafl (l.modify j (orN false b))=nafl l:=by
 intro l
 induction l with
 |nil=>intro j b;simp
 |cons x l ih=>
  intro j b
  cases j with
  |zero=>show acells (ofN (orN false b x))++nafl l=acells (ofN x)++nafl l;unfold orN ofN;rw[Bool.or_false]
  |succ j=>
   rw[List.modify_succ_cons]
   show acells (ofN x)++nafl (l.modify j (orN false b))=_
   rw[ih];rfl
end Ms
open Ms
def ArgC (w:World) (b k:Nat) (a:Ag):Prop:=w.cell? ⟨b,k,none⟩=some (.string ⟨a.name.toArray⟩)∧w.cell? ⟨b,k+1,none⟩=some (.bool a.num)∧w.cell? ⟨b,k+2,none⟩=some (.int .i64 a.co)∧w.cell? ⟨b,k+3,none⟩=some (.int .i64 a.sc)∧w.cell? ⟨b,k+4,none⟩=some (.string ⟨a.txt.toArray⟩)
abbrev ArgsAt:=SlAt 5 ArgC
theorem ArgC.below {w w':World} {b k:Nat} {n:Ag} (h:ArgC w b k n) (hb:Below w.heap.size w w'):ArgC w' b k n:=⟨cK h.1 hb,cK h.2.1 hb,cK h.2.2.1 hb,cK h.2.2.2.1 hb,cK h.2.2.2.2 hb⟩
theorem zAv {w w':World} {v:Value} {l:List Ag} (h:ArgsAt w v l) (hb:Below w.heap.size w w'):ArgsAt w' v l:=h.imp fun _ _ _ _ q=>q.below hb
theorem zDF {w:World} {base:Nat} {e:TypeId} {v:Value} {l:List Ag} (h:w.ownsRow base e 5 v l.length (afl l)):ArgsAt w v l:=by
 have h':=h.2
 rcases h' with⟨rfl,h0⟩|⟨g,cap,cur,rfl,_,_,h1,h2,_,_⟩
 ·exact .inl ⟨List.length_eq_zero_iff.1 h0,none,0,rfl⟩
 by_cases h0:l.length=0
 ·exact .inl ⟨List.length_eq_zero_iff.1 h0,_,_,by rw[h0]⟩
 refine .inr ⟨g,0,cap,rfl,by omega,h1,h2,fun j x hx=>?_⟩
 rw[Nat.zero_add]
 have q:=zCw hx
 exact⟨zAr h q.1,zAr h q.2.1,zAr h q.2.2.1,zAr h q.2.2.2.1,zAr h q.2.2.2.2⟩
structure AI (B q:Nat) (bx:Array Value) (u:Value) (xs:List Need) (W:World):Prop where
 row:W.ownsRow B 70 5 u xs.length (nafl xs)
 box:Boxed W q bx
 ne:u.ownBlock≠some q
section
variable {B q:Nat} {bx:Array Value} {u:Value} {xs:List Need} {A C:World}
theorem AI.below (h:AI B q bx u xs A) (hb:Below A.heap.size A C):AI B q bx u xs C:=
 ⟨h.row.kept (row:=none) ⟨hb.os,hb.tape,hb.output,hb.size,fun k hk _=>hb.block k hk⟩ (by cases u.ownBlock<;>simp),h.box.below hb,h.ne⟩
theorem AI.app (h:AI B q bx u xs A) {v':Value} {t:List UInt8} (ho:C.ownsRow B 70 5 v' (xs.length+1) (nafl xs++acells ⟨t,false,0,0,[]⟩)) (hg:A.grownBy C u.ownBlock) (hat:v'.ownBlock=u.ownBlock∨v'.ownBlock=some A.heap.size):AI B q bx v' (xs++ [(t,false,false)]) C:=by
 refine⟨by rw[List.length_append,zCG];exact ho,zA5 h.box hg (fun e=>h.ne e.symm),?_⟩
 rcases hat with e|e
 ·rw[e];exact h.ne
 rw[e];intro g;injection g with g;have:=h.box.lt;omega
theorem AI.yes {g cap:Nat} (h:AI B q bx (.slice (some ⟨g,0,none⟩) xs.length cap) xs A) {j:Nat} {n:Need} (hj:xs[j]?=some n) (b:Bool):AI B q bx (.slice (some ⟨g,0,none⟩) xs.length cap) (xs.modify j (orN true b)) (A.setCell ⟨g,j*5+1,none⟩ (.bool true)):=by
 have hgq:g≠q:=fun e=>h.ne (by rw[e];rfl)
 have h1:=(h.row.stored (j*5+1) (.bool true)).1
 rw[zKj b hj] at h1
 exact⟨by rw[zAB];exact h1,h.box.far hgq _ _,h.ne⟩
theorem AI.no (h:AI B q bx u xs A) (j:Nat) (b:Bool):AI B q bx u (xs.modify j (orN false b)) A:=⟨by rw[zAB,zLW];exact h.row,h.box,h.ne⟩
theorem AI.isSlice (h:AI B q bx u xs A): ∃a c,u= .slice a xs.length c:=by
 rcases h.row.2 with⟨rfl,h0⟩|⟨g,cap,cur,rfl,_⟩
 ·exact⟨none,0,by rw[h0]⟩
 exact⟨_,_,rfl⟩
end
theorem zC9 (W:World) (xs:List Value) (t:TypeId) (q:Nat) (hq:W.heap.size=q): ∀j u,xs[j]?=some u→(W.alloc (.cells xs.toArray t)).cell? ((⟨q,0,none⟩:Addr).add j)=some u:=by
 subst hq;exact zCD (Boxed.made W xs.toArray t)
theorem zCH (a:Ag): ∀u∈acells a,u.oneCell'=true:=by
 intro u hu
 simp[acells] at hu
 rcases hu with rfl|rfl|rfl|rfl|rfl<;>rfl
theorem infoArg:(Tryz.prog.info? 70).map (fun i=>(i.zero,i.size,i.bytes))=some (some (.agg #[.string ByteArray.empty,.bool false,.int .i64 0,.int .i64 0,.string ByteArray.empty]),5,56):=by kernel_rfl
open Go.RowKit
namespace Ms
def badA (a:Ag):Bool:=!decide (Dcm.okD a.co a.sc)
def hasA (l:List Ag) (t:List UInt8):Bool:=l.any fun a=>a.name==t
def argE:List Ag→List Ag→Int
 |_,[]=>0
 |d,a::r=>if !nameB a.name then 3 else if a.num&&badA a then 1 else if hasA d a.name then 5 else argE (d++ [a]) r
def askE (args:List Ag):List Need→Int
 | []=>0
 |n::r=>match args.find? (fun a=>a.name==n.1) with
  |none=>2
  |some a=>if (n.2.1&&!a.num)||(n.2.2&&a.num) then 7 else askE args r
def fitE (f:Nat) (m:List Nd) (args:List Ag):Int:=if namE f m≠0 then namE f m else if argE [] args≠0 then argE [] args else askE args (allN f [] m)
end Ms
open Go.RowKit
namespace Ms
theorem zCI {G:Bool→List Nd→Int} {x:Nd} {mark:Bool}: ∀(l:List (List UInt8×List Nd)) (seen:List (List UInt8)),csE G x mark seen l=0→ ∀y∈l,G (mark||decide (x.kind=4)) y.2=0
 | [],_,_,y,hy=>by simp at hy
 |z::r,seen,h,y,hy=>by
  unfold csE at h
  split at h
  ·cases h
  split at h
  ·cases h
  split at h
  ·rename_i h1;exact absurd h h1
  rename_i h1
  rcases List.mem_cons.1 hy with rfl|hy
  ·exact Decidable.not_not.1 h1
  exact zCI r _ h y hy
theorem zCe {f:Nat} {m:List Nd} (h:namE f m=0):msgE f m=0∧((allN f [] m).any fun n=>n.2.1&&n.2.2)=false∧lstN f m=allN f [] m:=by
 have hl:lstN f m=allN f [] m:=by unfold lstN;rw[if_pos h]
 unfold namE at h
 split at h
 ·rename_i h1;exact absurd h h1
 rename_i h1
 refine⟨Decidable.not_not.1 h1,?_,hl⟩
 split at h
 ·cases h
 rename_i h2;simpa using h2
theorem zCJ (f:Nat) (m:List Nd):Dist (allN f [] m):=zFY f [] m (by simp[Dist])
theorem zDa (A:List Ag) (n:Need) (r:List Need):askE A (n::r)=match A.find? (fun a=>a.name==n.1) with
  |none=>2
  |some a=>if (n.2.1&&!a.num)||(n.2.2&&a.num) then 7 else askE A r:=rfl
theorem zF0 {α:Type} (p:α→Bool): ∀l:List α,l.find? p=l[l.findIdx p]?
 | []=>rfl
 |a::l=>by cases h:p a<;>simp[List.findIdx_cons,h,zF0 p l]
def idxA (l:List Ag) (t:List UInt8):Int:=if l.findIdx (fun a=>a.name==t)<l.length then (l.findIdx (fun a=>a.name==t):Int) else-1
theorem zEC (l:List Ag) (t:List UInt8):idxA l t<0↔hasA l t=false:=by
 have e:=List.findIdx_lt_length (xs:=l) (p:=fun a=>a.name==t)
 unfold idxA hasA
 constructor
 ·intro h
  split at h
  ·omega
  rename_i h1
  rw[e] at h1
  cases hc:l.any fun a=>a.name==t with
  |false=>rfl
  |true=>exact absurd (List.any_eq_true.1 hc) h1
 intro h
 rw[if_neg]
 ·omega
 intro h1
 rw[List.any_eq_true.2 (e.1 h1)] at h;cases h
theorem zE7 (l:List Ag) (t:List UInt8):(hasA l t=false∧l.find? (fun a=>a.name==t)=none∧idxA l t= -1)∨ ∃(k:Nat) (a:Ag),l[k]?=some a∧l.find? (fun a=>a.name==t)=some a∧idxA l t=(k:Int)∧k<l.length:=by
 by_cases h:l.findIdx (fun a=>a.name==t)<l.length
 ·exact .inr ⟨l.findIdx (fun a=>a.name==t),l[l.findIdx (fun a=>a.name==t)],List.getElem?_eq_getElem h,(zF0 _ l).trans (List.getElem?_eq_getElem h),by unfold idxA;rw[if_pos h],h⟩
 have h0:idxA l t= -1:=by unfold idxA;rw[if_neg h]
 have h1:=(zEC l t).1 (by omega)
 refine .inl ⟨h1,?_,h0⟩
 rw[List.find?_eq_none]
 intro a ha e
 unfold hasA at h1
 rw[List.any_eq_true.2 ⟨a,ha,e⟩] at h1;cases h1
end Ms
open Go.RowKit
structure Ev where
 num:Int→Int→List UInt8
 dtx:Int→Int→List UInt8
 kind:Int→Int→List UInt8
 less:Int→Int→Int→Option (Int×Int)
 same:Int→Int→Int→Bool
namespace Ms
abbrev Cs:=List (List UInt8×List Nd)
def keyI (cs:Cs) (k:List UInt8):Option Nat:=cs.findIdx? fun y=>y.1==k
def exI (E:Ev) (cs:Cs) (c s:Int):Option Nat:=cs.findIdx? fun y=>decide (0≤exV y.1)&&E.same c s (exV y.1)
def cntI (E:Ev) (cs:Cs) (c s lc ls:Int):Nat:=((exI E cs c s).or ((keyI cs (E.kind lc ls)).or (keyI cs other))).getD 0
def choI (cs:Cs) (t:List UInt8):Nat:=((keyI cs t).or (keyI cs other)).getD 0
def rnk (E:Ev) (k:List UInt8) (c s:Int) (y:List UInt8×List Nd):Nat:=if (decide (0≤exV y.1)&&E.same c s (exV y.1))=true then 3 else if (y.1==k)=true then 2 else if (y.1==other)=true then 1 else 0
def bestL (R:List UInt8×List Nd→Nat):Cs→Nat→Nat×Nat→Nat×Nat
 | [],_,p=>p
 |y::cs,i,p=>bestL R cs (i+1) (if p.2<R y then (i,R y) else p)
theorem zEc (R:List UInt8×List Nd→Nat): ∀(cs:Cs) (y:List UInt8×List Nd) (i:Nat) (p:Nat×Nat),bestL R (cs++ [y]) i p=(if (bestL R cs i p).2<R y then (i+cs.length,R y) else bestL R cs i p)
 | [],y,i,p=>by
  show(if p.2<R y then (i,R y) else p)=(if p.2<R y then (i+0,R y) else p)
  rfl
 |z::cs,y,i,p=>by
  show bestL R (cs++ [y]) (i+1) _=_
  rw[zEc R cs y (i+1)]
  show(if (bestL R cs (i+1) _).2<R y then (i+1+cs.length,R y) else _)=(if (bestL R cs (i+1) _).2<R y then (i+(cs.length+1),R y) else _)
  rw[show i+1+cs.length=i+(cs.length+1) by omega]
  rfl
theorem zI6 (R:List UInt8×List Nd→Nat) {cs:Cs} {k:Nat} {y:List UInt8×List Nd} (h:cs[k]?=some y):bestL R (cs.take (k+1)) 0 (0,0)=(if (bestL R (cs.take k) 0 (0,0)).2<R y then (k,R y) else bestL R (cs.take k) 0 (0,0)):=by
 have hk:=(List.getElem?_eq_some_iff.1 h).1
 rw[List.take_add_one,h,Option.toList_some,zEc,List.length_take,Nat.min_eq_left (by omega),Nat.zero_add]
def atR (R:List UInt8×List Nd→Nat) (cs:Cs) (n:Nat):Option Nat:=cs.findIdx? fun y=>R y==n
theorem zED (R:List UInt8×List Nd→Nat) (hR: ∀y,R y≤3): ∀(cs:Cs) (i b r:Nat),r≤3→
  bestL R cs i (b,r)=(((if r<3 then atR R cs 3 else none).map fun j=>(i+j,3)).or (((if r<2 then atR R cs 2 else none).map fun j=>(i+j,2)).or ((if r<1 then atR R cs 1 else none).map fun j=>(i+j,1)))).getD (b,r)
 | [],i,b,r,_=>by
  have e: ∀n,atR R [] n=none:=fun _=>rfl
  simp only[e,ite_self,Option.map_none,Option.or_none]
  rfl
 |y::cs,i,b,r,hr=>by
  have hy:=hR y
  have st: ∀n,atR R (y::cs) n=if (R y==n)=true then some 0 else (atR R cs n).map (· +1):=fun n=>List.findIdx?_cons
  have mv: ∀(o:Option Nat) (n:Nat),(o.map (· +1)).map (fun j=>(i+j,n))=o.map fun j=>(i+1+j,n):=fun o n=>by cases o<;>simp;omega
  show bestL R cs (i+1) (if r<R y then (i,R y) else (b,r))=_
  rw[st 3,st 2,st 1]
  split
  ·rename_i h
   rw[zED R hR cs (i+1) i (R y) hy]
   generalize R y=q at*
   have hq:q=1∨q=2∨q=3:=by omega
   rcases hq with rfl|rfl|rfl
   ·obtain rfl:r=0:=by omega
    cases atR R cs 3<;>cases atR R cs 2<;>cases atR R cs 1<;>simp<;>omega
   ·have h1:r=0∨r=1:=by omega
    rcases h1 with rfl|rfl<;>cases atR R cs 3<;>cases atR R cs 2<;>cases atR R cs 1<;>simp<;>omega
   have h1:r=0∨r=1∨r=2:=by omega
   rcases h1 with rfl|rfl|rfl<;>cases atR R cs 3<;>cases atR R cs 2<;>cases atR R cs 1<;>simp
  rename_i h
  rw[zED R hR cs (i+1) b r hr]
  generalize R y=q at*
  have hq:q=0∨q=1∨q=2∨q=3:=by omega
  have h1:r=0∨r=1∨r=2∨r=3:=by omega
  rcases hq with rfl|rfl|rfl|rfl<;>rcases h1 with rfl|rfl|rfl|rfl<;>first|omega|(cases atR R cs 3<;>cases atR R cs 2<;>cases atR R cs 1<;>simp<;>omega)|(cases atR R cs 3<;>cases atR R cs 2<;>cases atR R cs 1<;>simp)
theorem zBQ {p q:List UInt8×List Nd→Bool}: ∀{cs:Cs},(∀y∈cs,p y=q y)→cs.findIdx? p=cs.findIdx? q
 | [],_=>rfl
 |y::cs,h=>by
  rw[List.findIdx?_cons,List.findIdx?_cons,h y (by simp),zBQ (cs:=cs) fun z hz=>h z (by simp[hz])]
theorem zNa (E:Ev) (k:List UInt8) (c s:Int) (y:List UInt8×List Nd):rnk E k c s y≤3:=by
 unfold rnk
 split
 ·omega
 split
 ·omega
 split<;>omega
theorem zKk (E:Ev) (cs:Cs) (c s lc ls:Int):(bestL (rnk E (E.kind lc ls) c s) cs 0 (0,0)).1=cntI E cs c s lc ls:=by
 rw[zED _ (zNa E _ c s) cs 0 0 0 (by omega)]
 have e3:atR (rnk E (E.kind lc ls) c s) cs 3=exI E cs c s:=by
  refine zBQ fun y _=>?_
  unfold rnk
  split
  ·rename_i h;rw[h];rfl
  rename_i h
  have:(decide (0≤exV y.1)&&E.same c s (exV y.1))=false:=by simpa using h
  rw[this]
  split
  ·rfl
  split<;>rfl
 unfold cntI
 rw[e3]
 cases h3:exI E cs c s with
 |some j=>simp
 |none=>
  have h3': ∀y∈cs,(decide (0≤exV y.1)&&E.same c s (exV y.1))=false:=by
   intro y hy
   have:=List.findIdx?_eq_none_iff.1 h3 y hy
   simpa using this
  have e2:atR (rnk E (E.kind lc ls) c s) cs 2=keyI cs (E.kind lc ls):=by
   refine zBQ fun y hy=>?_
   unfold rnk
   rw[h3' y hy,if_neg (by simp)]
   split
   ·rename_i h;rw[h];rfl
   rename_i h
   have:(y.1==E.kind lc ls)=false:=by simpa using h
   rw[this]
   split<;>rfl
  rw[e2]
  cases h2:keyI cs (E.kind lc ls) with
  |some j=>simp
  |none=>
   have h2': ∀y∈cs,(y.1==E.kind lc ls)=false:=by
    intro y hy
    have:=List.findIdx?_eq_none_iff.1 h2 y hy
    simpa using this
   have e1:atR (rnk E (E.kind lc ls) c s) cs 1=keyI cs other:=by
    refine zBQ fun y hy=>?_
    unfold rnk
    rw[h3' y hy,if_neg (by simp),h2' y hy,if_neg (by simp)]
    split
    ·rename_i h;rw[h];rfl
    rename_i h
    have:(y.1==other)=false:=by simpa using h
    rw[this];rfl
   rw[e1]
   cases keyI cs other<;>simp
def catM (F:Nd→Option (List UInt8)):List Nd→Option (List UInt8)
 | []=>some []
 |x::r=>match F x with
  |none=>none
  |some t=>(catM F r).map (t++ ·)
def bodyI (x:Nd) (i:Nat):List Nd:=((x.cases[i]?).map (·.2)).getD []
def saidX (E:Ev) (val:List UInt8→Bool×Int×Int×List UInt8) (G:Int→Int→List Nd→Option (List UInt8)) (mc ms:Int) (x:Nd):Option (List UInt8):=
 if x.kind=1 then some x.text else if x.kind=6 then some (E.num mc ms) else
  if x.kind=3 then some (E.num (val x.text).2.1 (val x.text).2.2.1)
  else if x.kind=4 then match E.less (val x.text).2.1 (val x.text).2.2.1 x.off with
   |none=>none
   |some l=>G l.1 l.2 (bodyI x (cntI E x.cases (val x.text).2.1 (val x.text).2.2.1 l.1 l.2))
  else if x.kind=5 then G mc ms (bodyI x (choI x.cases (val x.text).2.2.2))
  else some (if (val x.text).1 then E.dtx (val x.text).2.1 (val x.text).2.2.1 else (val x.text).2.2.2)
def saidM (E:Ev) (val:List UInt8→Bool×Int×Int×List UInt8):Nat→Int→Int→List Nd→Option (List UInt8)
 |0,_,_,_=>some []
 |f+1,mc,ms,m=>catM (saidX E val (saidM E val f) mc ms) m
end Ms
open Go.RowKit
namespace Ms
def numB (l:List Need) (t:List UInt8):Bool:=l.any fun n=>n.1==t&&n.2.1
def nms:Nat→List Nd→List UInt8→Bool
 |0,_,_=>false
 |f+1,m,t=>m.any fun x=>((x.kind==3||x.kind==4)&&x.text==t)||(casesOf x).any fun y=>nms f y.2 t
def hasN (l:List Need) (t:List UInt8):Bool:=l.any fun n=>n.1==t
def mnt:Nat→List Nd→List UInt8→Bool
 |0,_,_=>false
 |f+1,m,t=>m.any fun x=>(!(x.kind==1||x.kind==6)&&x.text==t)||(casesOf x).any fun y=>mnt f y.2 t
theorem zF1: ∀{l:List Need} {i:Nat} {n:Need} (a b:Bool) (t:List UInt8),l[i]?=some n→numB (l.modify i (orN a b)) t=(numB l t||(n.1==t&&a))
 | [],i,n,a,b,t,h=>by simp at h
 |x::r,0,n,a,b,t,h=>by
  simp at h;subst h
  show(x.1==t&&(x.2.1||a)||numB r t)=(x.1==t&&x.2.1||numB r t||(x.1==t&&a))
  cases x.1==t<;>cases x.2.1<;>cases a<;>cases numB r t<;>rfl
 |x::r,i+1,n,a,b,t,h=>by
  have h':=zF1 (l:=r) (i:=i) a b t (by simpa using h)
  rw[List.modify_succ_cons]
  show(x.1==t&&x.2.1||numB (r.modify i (orN a b)) t)=(x.1==t&&x.2.1||numB r t||(n.1==t&&a))
  rw[h',Bool.or_assoc]
theorem zH1 (l:List Need) (t s:List UInt8):numB (grownN l t) s=numB l s:=by
 unfold grownN
 split
 ·rfl
 unfold numB;simp
theorem zKl (l:List Need) (x:Nd) (t:List UInt8):numB (addN l x) t=(numB l t||((x.kind==3||x.kind==4)&&x.text==t)):=by
 unfold addN
 split
 ·rename_i h
  have:(x.kind==3||x.kind==4)=false:=by rcases h with h|h<;>rw[h]<;>rfl
  rw[this];simp
 obtain⟨n,hn,e⟩:=zE6 l x.text
 rw[zF1 _ _ t hn,zH1,e]
 congr 1
 rw[Bool.and_comm]
 congr 1
theorem zHp {F:List Need→List Nd→List Need} {c:List Nd→Bool} {t:List UInt8} (hF: ∀l b,numB (F l b) t=(numB l t||c b)): ∀(bs:List (List Nd)) (l:List Need),numB (goN F l bs) t=(numB l t||bs.any c)
 | [],l=>by simp[goN]
 |b::r,l=>by
  show numB (goN F (F l b) r) t=_
  rw[zHp hF r (F l b),hF,List.any_cons,Bool.or_assoc]
theorem zF2: ∀(f:Nat) (l:List Need) (m:List Nd) (t:List UInt8),numB (allN f l m) t=(numB l t||nms f m t)
 |0,l,m,t=>by simp[allN,nms]
 |f+1,l,m,t=>by
  induction m generalizing l with
  |nil=>simp[allN,nms]
  |cons x r ih=>
   show numB (allN (f+1) (goN (allN f) (addN l x) ((casesOf x).map (·.2))) r) t=_
   rw[ih,zHp (c:=fun b=>nms f b t) (fun l b=>zF2 f l b t),zKl]
   show _=(numB l t||(((x.kind==3||x.kind==4)&&x.text==t||(casesOf x).any fun y=>nms f y.2 t)||nms (f+1) r t))
   rw[List.any_map]
   simp only[Bool.or_assoc]
   rfl
theorem zKm {l k:List Need} (e:k.map (·.1)=l.map (·.1)) (t:List UInt8):hasN k t=hasN l t:=by
 have key: ∀l:List Need,hasN l t=(l.map (·.1)).contains t:=by
  intro l
  unfold hasN
  induction l with
  |nil=>rfl
  |cons x r ih=>
   rw[List.any_cons,List.map_cons,List.contains_cons,ih]
   congr 1
   rw[Bool.eq_iff_iff,beq_iff_eq,beq_iff_eq]
   exact eq_comm
 rw[key,key,e]
theorem zH2 (l:List Need) (t s:List UInt8):hasN (grownN l t) s=(hasN l s||t==s):=by
 unfold grownN
 split
 ·rename_i h
  cases ht:t==s with
  |false=>rw[Bool.or_false]
  |true=>
   have e:t=s:=by simpa using ht
   subst e
   have:=List.findIdx_lt_length.1 h
   rw[show hasN l t=true from List.any_eq_true.2 this];rfl
 unfold hasN;rw[List.any_append];simp
theorem zKn (l:List Need) (x:Nd) (t:List UInt8):hasN (addN l x) t=(hasN l t||(!(x.kind==1||x.kind==6)&&x.text==t)):=by
 unfold addN
 split
 ·rename_i h
  have:(x.kind==1||x.kind==6)=true:=by rcases h with h|h<;>rw[h]<;>rfl
  rw[this];simp
 rename_i h
 have:(x.kind==1||x.kind==6)=false:=by
  rw[Bool.or_eq_false_iff,beq_eq_false_iff_ne,beq_eq_false_iff_ne]
  exact⟨fun e=>h (.inl e),fun e=>h (.inr e)⟩
 rw[this,zKm (zEB _ _ _ _),zH2]
 rfl
theorem zHq {F:List Need→List Nd→List Need} {c:List Nd→Bool} {t:List UInt8} (hF: ∀l b,hasN (F l b) t=(hasN l t||c b)): ∀(bs:List (List Nd)) (l:List Need),hasN (goN F l bs) t=(hasN l t||bs.any c)
 | [],l=>by simp[goN]
 |b::r,l=>by
  show hasN (goN F (F l b) r) t=_
  rw[zHq hF r (F l b),hF,List.any_cons,Bool.or_assoc]
theorem zDU: ∀(f:Nat) (l:List Need) (m:List Nd) (t:List UInt8),hasN (allN f l m) t=(hasN l t||mnt f m t)
 |0,l,m,t=>by simp[allN,mnt]
 |f+1,l,m,t=>by
  induction m generalizing l with
  |nil=>simp[allN,mnt]
  |cons x r ih=>
   show hasN (allN (f+1) (goN (allN f) (addN l x) ((casesOf x).map (·.2))) r) t=_
   rw[ih,zHq (c:=fun b=>mnt f b t) (fun l b=>zDU f l b t),zKn]
   show _=(hasN l t||((!(x.kind==1||x.kind==6)&&x.text==t||(casesOf x).any fun y=>mnt f y.2 t)||mnt (f+1) r t))
   rw[List.any_map]
   simp only[Bool.or_assoc]
   rfl
theorem zNb {l:List Need} (h:Dist l) {n:Need} (hn:n∈l):numB l n.1=n.2.1:=by
 induction l with
 |nil=>cases hn
 |cons x r ih=>
  rw[show Dist (x::r)=List.Nodup (x.1::r.map (·.1)) from rfl,List.nodup_cons] at h
  show(x.1==n.1&&x.2.1||numB r n.1)=_
  rcases List.mem_cons.1 hn with rfl|hm
  ·have:numB r n.1=false:=by
    cases hs:numB r n.1 with
    |false=>rfl
    |true=>
     obtain⟨y,hy,e⟩:=List.any_eq_true.1 hs
     simp at e
     exact absurd (List.mem_map.2 ⟨y,hy,e.1⟩) h.1
   rw[this];simp
  have:(x.1==n.1)=false:=by
   rw[beq_eq_false_iff_ne]
   intro e
   exact h.1 (List.mem_map.2 ⟨n,hm,e.symm⟩)
  rw[this,ih h.2 hm];simp
theorem zDb {A:List Ag}: ∀{l:List Need},askE A l=0↔ ∀n∈l,∃a,A.find? (fun a=>a.name==n.1)=some a∧((n.2.1&&!a.num)||(n.2.2&&a.num))=false
 | []=>by simp[askE]
 |n::r=>by
  have ih:=zDb (A:=A) (l:=r)
  rw[zDa]
  cases hf:A.find? (fun a=>a.name==n.1) with
  |none=>
   constructor
   ·intro h;cases h
   intro h
   obtain⟨a,ha,_⟩:=h n (by simp)
   rw[hf] at ha;cases ha
  |some a=>
   show(if ((n.2.1&&!a.num)||(n.2.2&&a.num))=true then (7:Int) else askE A r)=0↔_
   constructor
   ·intro h
    split at h
    ·cases h
    rename_i hc
    intro k hk
    rcases List.mem_cons.1 hk with rfl|hk
    ·exact⟨a,hf,by simpa using hc⟩
    exact ih.1 h k hk
   intro h
   obtain⟨a',ha,hc⟩:=h n (by simp)
   rw[hf] at ha
   obtain rfl:a=a':=by simpa using ha
   rw[if_neg (by rw[hc];simp)]
   exact ih.2 fun k hk=>h k (by simp[hk])
structure Less (f:Nat) (p m:List Nd):Prop where
 c: ∀t,chs f p t=true→chs f m t=true
 n: ∀t,nms f p t=true→nms f m t=true
 h: ∀t,mnt f p t=true→mnt f m t=true
theorem zLX (f:Nat) (m:List Nd) {n:Need} (hn:n∈allN f [] m):n.2.1=nms f m n.1∧n.2.2=chs f m n.1∧mnt f m n.1=true:=by
 have hd:=zCJ f m
 refine⟨?_,?_,?_⟩
 ·rw[←zNb hd hn,zF2];rfl
 ·rw[←zEb hd hn,zDT];rfl
 have h1:hasN (allN f [] m) n.1=true:=List.any_eq_true.2 ⟨n,hn,by simp⟩
 rw[zDU] at h1
 exact h1
theorem zEd (f:Nat) (m:List Nd) {t:List UInt8} (h:mnt f m t=true): ∃n∈allN f [] m,n.1=t:=by
 have h1:hasN (allN f [] m) t=true:=by rw[zDU,h];simp
 obtain⟨n,hn,e⟩:=List.any_eq_true.1 h1
 exact⟨n,hn,by simpa using e⟩
end Ms
open Go.RowKit
namespace Ms
def valA (args:List Ag) (t:List UInt8):Bool×Int×Int×List UInt8:=match args.find? (fun a=>a.name==t) with
 |some a=>(a.num,a.co,a.sc,a.txt)
 |none=>(false,0,0,[])
end Ms
open Go.RowKit
namespace Ms
structure WfX (nm:List UInt8→Bool) (G:List Nd→Prop) (x:Nd):Prop where
 kind:x.kind=1∨x.kind=2∨x.kind=3∨x.kind=4∨x.kind=5∨x.kind=6
 off:x.kind=4→0≤x.off∧x.off≤9
 num:x.kind=3∨x.kind=4→nm x.text=true
 some:x.kind=4∨x.kind=5→x.cases≠ []
 once:x.kind=4∨x.kind=5→(x.cases.map (·.1)).Nodup
 body:x.kind=4∨x.kind=5→ ∀y∈x.cases,G y.2
def WfM (nm:List UInt8→Bool):Nat→List Nd→Prop
 |0,_=>True
 |f+1,m=> ∀x∈m,WfX nm (WfM nm f) x
theorem zCK {G:Bool→List Nd→Int} {x:Nd} {mark:Bool}: ∀(l:List (List UInt8×List Nd)) (seen:List (List UInt8)),csE G x mark seen l=0→(∀k∈seen,k∉l.map (·.1))∧(l.map (·.1)).Nodup∧(seen++l.map (·.1)).contains other=true
 | [],seen,h=>by
  unfold csE at h
  refine⟨by simp,by simp,?_⟩
  cases hc:seen.contains other with
  |true=>simpa using hc
  |false=>rw[hc] at h;simp at h
 |y::r,seen,h=>by
  unfold csE at h
  split at h
  ·simp at h
  split at h
  ·simp at h
  rename_i _ h1
  split at h
  ·rename_i h2;exact absurd h h2
  obtain⟨a1,a2,a3⟩:=zCK r (seen++ [y.1]) h
  have h1':y.1∉seen:=by simpa using h1
  refine⟨fun k hk=>?_,?_,?_⟩
  ·rw[List.map_cons,List.mem_cons]
   rintro(e|e)
   ·exact h1' (e▸hk)
   exact a1 k (by simp[hk]) e
  ·rw[List.map_cons,List.nodup_cons]
   exact⟨a1 y.1 (by simp),a2⟩
  rw[List.append_assoc] at a3
  exact a3
theorem zHr {G:Bool→List Nd→Int} {x:Nd} {prev:Option Int} {mark:Bool} (h:ndE G x prev mark=0):
  (x.kind=1∨x.kind=2∨x.kind=3∨x.kind=4∨x.kind=5∨x.kind=6)∧(x.kind=4→0≤x.off∧x.off≤9)∧(x.kind=4∨x.kind=5→csE G x mark [] x.cases=0):=by
 unfold ndE at h
 split at h
 ·simp at h
 rename_i h1
 split at h
 ·simp at h
 rename_i h2
 refine⟨?_,fun h4=>?_,fun h45=>?_⟩
 ·have h1':fineB x prev mark=true:=by simpa using h1
  unfold fineB at h1'
  split at h1'
  ·rename_i e;exact .inl e
  split at h1'
  ·rename_i e;rcases e with e|e|e|e<;>simp[e]
  have:x.kind=6:=by
   rw[Bool.and_eq_true] at h1'
   exact of_decide_eq_true h1'.1
  simp[this]
 ·omega
 rwa [if_pos h45] at h
theorem zEE {G:Bool→List Nd→Int} {mark:Bool}: ∀{m:List Nd} {prev:Option Int},msE G mark prev m=0→ ∀x∈m,∃p,ndE G x p mark=0
 | [],_,_,x,hx=>by simp at hx
 |y::r,prev,h,x,hx=>by
  unfold msE at h
  split at h
  ·rename_i h1;exact absurd h h1
  rename_i h1
  rcases List.mem_cons.1 hx with rfl|hx
  ·exact⟨prev,by simpa using h1⟩
  exact zEE h x hx
theorem zLD (nm:List UInt8→Bool): ∀(f:Nat) (mark:Bool) (m:List Nd),chk f mark m=0→(∀t,nms f m t=true→nm t=true)→WfM nm f m
 |0,_,_,_,_=>trivial
 |f+1,mark,m,h,hn=>by
  intro x hx
  obtain⟨p,hp⟩:=zEE (show msE (chk f) mark none m=0 from h) x hx
  obtain⟨h1,h2,h3⟩:=zHr hp
  refine⟨h1,h2,fun h34=>hn _ ?_,fun h45=>?_,fun h45=>(zCK _ _ (h3 h45)).2.1,fun h45 y hy=>?_⟩
  ·unfold nms
   rw[List.any_eq_true]
   refine⟨x,hx,?_⟩
   rcases h34 with e|e<;>simp[e]
  ·intro e
   have:=(zCK _ _ (h3 h45)).2.2
   rw[e] at this
   exact absurd this (by decide)
  refine zLD nm f (mark||decide (x.kind=4)) y.2 (zCI _ _ (h3 h45) y hy) fun t ht=>hn t ?_
  unfold nms
  rw[List.any_eq_true]
  refine⟨x,hx,?_⟩
  rw[Bool.or_eq_true]
  refine .inr (List.any_eq_true.2 ⟨y,?_,ht⟩)
  unfold casesOf
  rwa [if_pos h45]
theorem zHs: ∀(A d:List Ag),argE d A=0→ ∀a∈A,a.num=true→Dcm.okD a.co a.sc
 | [],_,_,a,ha,_=>by simp at ha
 |b::r,d,h,a,ha,hn=>by
  unfold argE at h
  split at h
  ·simp at h
  split at h
  ·simp at h
  rename_i h2
  split at h
  ·simp at h
  rcases List.mem_cons.1 ha with rfl|ha
  ·have:badA a=false:=by simpa[hn] using h2
   unfold badA at this
   simpa using this
  exact zHs r _ h a ha hn
theorem zF3: ∀(A d:List Ag),argE d A=0→(∀a∈d,a.name∉A.map (·.name))∧(A.map (·.name)).Nodup
 | [],_,_=>by simp
 |b::r,d,h=>by
  unfold argE at h
  split at h
  ·simp at h
  split at h
  ·simp at h
  split at h
  ·simp at h
  rename_i h3
  obtain⟨h4,h5⟩:=zF3 r _ h
  have h3': ∀a∈d,a.name≠b.name:=by
   intro a ha e
   apply h3
   unfold hasA
   exact List.any_eq_true.2 ⟨a,ha,by simp[e]⟩
  refine⟨fun a ha=>?_,?_⟩
  ·rw[List.map_cons,List.mem_cons]
   rintro(e|e)
   ·exact h3' a ha e
   exact h4 a (by simp[ha]) e
  rw[List.map_cons,List.nodup_cons]
  exact⟨h4 b (by simp),h5⟩
theorem zHt: ∀(f:Nat) (m:List Nd) (t:List UInt8),nms f m t=true→mnt f m t=true
 |0,m,t,h=>by simp[nms] at h
 |f+1,m,t,h=>by
  unfold nms at h
  unfold mnt
  rw[List.any_eq_true] at h⊢
  obtain⟨x,hx,hxt⟩:=h
  refine⟨x,hx,?_⟩
  rw[Bool.or_eq_true] at hxt⊢
  rcases hxt with hxt|hxt
  ·refine .inl ?_
   simp only[Bool.and_eq_true,Bool.or_eq_true,beq_iff_eq] at hxt
   rcases hxt with⟨e|e,e2⟩<;>simp[e,e2]
  refine .inr ?_
  rw[List.any_eq_true] at hxt⊢
  obtain⟨y,hy,hyt⟩:=hxt
  exact⟨y,hy,zHt f y.2 t hyt⟩
theorem zI7 {f:Nat} {m:List Nd} {args:List Ag} (h:fitE f m args=0):WfM (fun t=>(valA args t).1) f m∧argE [] args=0∧cnt f m≤60:=by
 unfold fitE at h
 split at h
 ·rename_i h1;exact absurd h h1
 rename_i h1
 have h1':namE f m=0:=by simpa using h1
 split at h
 ·rename_i h2;exact absurd h h2
 rename_i h2
 have h2':argE [] args=0:=by simpa using h2
 obtain⟨hm,_,_⟩:=zCe h1'
 refine⟨?_,h2',zBa hm⟩
 unfold msgE at hm
 split at hm
 ·simp at hm
 refine zLD _ f false m hm fun t ht=>?_
 have hmt:mnt f m t=true:=zHt f m t ht
 obtain⟨n,hn,e⟩:=zEd f m hmt
 obtain⟨a,ha,hb⟩:=zDb.1 h n hn
 have hq:=(zLX f m hn).1
 rw[e,ht] at hq
 rw[hq] at hb
 unfold valA
 rw[e] at ha
 rw[ha]
 show a.num=true
 cases hz:a.num with
 |true=>rfl
 |false=>rw[hz] at hb;simp at hb
end Ms
end Go.Proofs.YtjlchookakbomaaGreatDoor
namespace Go.Proofs.YtjlchookakbomaaGreatDoor.Nt
open Go Go.Lib
structure Pt where
 pre:List UInt8
 suf:List UInt8
 mi:Int
 nf:Int
 mf:Int
 g:Int
 g2:Int
def affL:List UInt8:= [97,98,99,100,101,102,103,104,105,106,107,108,109,110,111,112,113,114,115,116,117,118,119,120,121,122,65,66,67,68,69,70,71,72,73,74,75,76,77,78,79,80,81,82,83,84,85,86,87,88,89,90,32,36,37]
def affB (l:List UInt8):Bool:=l.all (fun c=>affL.contains c)&&decide (l.length≤5)
def sizeB (p:Pt):Bool:=decide (1≤p.mi)&&decide (p.mi≤9)&&decide (0≤p.mf)&&decide (p.mf≤6)&&decide (0≤p.nf)&&decide (p.nf≤p.mf)&&decide (0≤p.g)&&decide (p.g≤4)&&decide (0≤p.g2)&&decide (p.g2≤4)
def patE (p:Pt):Int:=if affB p.pre&&affB p.suf then (if sizeB p then (if p.g2≠0∧p.g=0 then 3 else 0) else 1) else 3
theorem zAV {p:Pt} (h:sizeB p=true):1≤p.mi∧p.mi≤9∧0≤p.mf∧p.mf≤6∧0≤p.nf∧p.nf≤p.mf∧0≤p.g∧p.g≤4∧0≤p.g2∧p.g2≤4:=by
 unfold sizeB at h;simpa[Bool.and_eq_true,and_assoc] using h
end Go.Proofs.YtjlchookakbomaaGreatDoor.Nt
namespace Go.Proofs.YtjlchookakbomaaGreatDoor
open Go.RowKit
theorem zI8: ∀b∈Nt.affL,b.toNat<128:=by decide
theorem zI9 (s:List UInt8) (w:World) (hs:s.length≤4000000000):
  Calls Tryz.prog 83 #[.string ⟨s.toArray⟩,.string ⟨#[97,98,99,100,101,102,103,104,105,106,107,108,109,110,111,112,113,114,115,116,117,118,119,120,121,122,65,66,67,68,69,70,71,72,73,74,75,76,77,78,79,80,81,82,83,84,85,86,87,88,89,90,32,36,37]⟩] w fun e w'=>e= .returned (.string ⟨(Lib.trimS s Nt.affL).toArray⟩)∧Below w.heap.size w w':=
 Any.strings_Trim_laid Tryz.lays160 (by kernel_rfl) ⟨s.toArray⟩ ⟨Nt.affL.toArray⟩ w (by rw[zAO];omega) (by decide) (fun j b hb=>zI8 b (List.mem_of_getElem? (i:=j) hb))

theorem zE8 (s:List UInt8) (w:World) (hs:s.length≤4000000000):
  Calls Tryz.prog 169 #[.string ⟨s.toArray⟩] w fun e w'=>e= .returned (.bool (Nt.affB s))∧Below w.heap.size w w':=by
 have CT:=lH fun w=>zI9 s w hs
 have HD:Hid (s.all (fun c=>Nt.affL.contains c)=decide (Lib.trimS s Nt.affL= [])):=lH (by
   rw[Bool.eq_iff_iff,decide_eq_true_iff,zEY])
 unfold Nt.affB
 generalize s.all (fun c=>Nt.affL.contains c)=B at*
 generalize Lib.trimS s Nt.affL=T at*
 by_cases h5:s.length≤5
 ·rw[decide_eq_true h5]
  have h6:(s.length:Int)≤5:=by omega
  clear hs h5
  cases T with
  |nil=>
   go_enter Tryz.func169,Tryz.ntmps169
   go_wp2_with fail
   refine(CT.out _).mono ?_
   rintro e w' ⟨rfl,hb⟩
   have W:=lH hb
   clear hb
   go_wp2_with fail
   go_ret
   exact⟨zAg (by rw[HD.out];simp),W.out⟩
  |cons x y=>
   go_enter Tryz.func169,Tryz.ntmps169
   go_wp2_with fail
   refine(CT.out _).mono ?_
   rintro e w' ⟨rfl,hb⟩
   have W:=lH hb
   clear hb
   go_wp2_with fail
   go_ret
   exact⟨zAg (by rw[HD.out];simp),W.out⟩
 rw[decide_eq_false h5]
 have h6: ¬(s.length:Int)≤5:=by omega
 clear hs h5 CT HD
 go_enter Tryz.func169,Tryz.ntmps169
 go_wp2_with fail
 go_ret
 exact⟨zAg (by simp),Below.refl _ _⟩
end Go.Proofs.YtjlchookakbomaaGreatDoor
