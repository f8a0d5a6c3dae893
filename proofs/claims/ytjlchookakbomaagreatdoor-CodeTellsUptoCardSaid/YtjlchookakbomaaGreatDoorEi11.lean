/- The walks of msg.cases and msg.check. Conditions: the package's list of kinds, the library's table of powers and its errors are there; the message is one, of lists of at most 2000000. -/
import Derived.Test.YtjlchookakbomaaGreatDoorEi10
import Derived.Test.YtjlchookakbomaaGreatDoorShelfT
set_option maxHeartbeats 16000000
set_option maxRecDepth 100000
namespace Go.Proofs.YtjlchookakbomaaGreatDoor
open Go.RowKit Ms
theorem infoStep:(Tryz.prog.info? 81).map (fun i=>(i.zero,i.size,i.bytes))=some (some (.agg #[.int .i64 0,.string ByteArray.empty,.int .i64 0,.slice none 0 0,.slice none 0 0,.int .i64 0]),6,88):=by kernel_rfl
theorem infoInt:(Tryz.prog.info? 3).map (fun i=>(i.zero,i.size,i.bytes))=some (some (.int .i64 0),1,8):=by kernel_rfl
theorem zHJ {α:Type} {l:List α} {k:Nat} {y:α} (h:l[k]?=some y):l.drop k=y::l.drop (k+1):=by
 obtain⟨hl,e⟩:=List.getElem?_eq_some_iff.1 h
 rw[List.drop_eq_getElem_cons hl,e]
theorem AdI.start {W0 wo w1 w6:World} {p q:Nat} {X:Nat→Prop} {ui u2:Value} {li:List Sx} {x:Nd} (h:CoI W0.heap.size p X ui li wo) (hb:Below W0.heap.size W0 wo) (b1:Below wo.heap.size wo w1) (hq:w1.heap[q]?=some (.cells #[.int .i64 x.kind,.string ⟨x.text.toArray⟩,.int .i64 x.off,.slice none 0 0] 51 (0,0))) (hqo:wo.heap.size≤q)
  (hown:w6.ownsRow W0.heap.size 81 6 u2 (li.length+1) (li.flatMap sEnc++sEnc zeroS)) (hg:w1.grownBy w6 ui.ownBlock) (hat:u2.ownBlock=ui.ownBlock∨u2.ownBlock=some w1.heap.size):AdI W0 wo p q X ui x u2 (.slice none 0 0) (.slice none 0 0) (li++ [zeroS]) [] [] (w6.setCell ⟨p,0,none⟩ u2):=by
 have hf:CoI W0.heap.size p (fun b=>(X b∨wo.heap.size≤b)∧b≠q∧some b≠(Value.slice none 0 0).ownBlock∧some b≠(Value.slice none 0 0).ownBlock) ui li wo:=h.free fun b hl hx=>⟨.inl hx,by omega,by simp[Value.ownBlock],by simp[Value.ownBlock]⟩
 have h1:=hf.below b1
 have ha:=h1.app zeroS zJu hown hg hat
 have hpl:=zAf h.bx
 have hql:=zAf hq
 have hqp:q≠p:=by omega
 have hou: ∀g,ui.ownBlock=some g→W0.heap.size≤g∧g<wo.heap.size:=fun g hg=>⟨(h.gr.own hg).1,h.gr.own_lt hg⟩
 refine⟨ha,?_,?_,World.ownsRow_nil _ _ _ _,World.ownsRow_nil _ _ _ _,hqo,hpl,hb.size,⟨?_,fun b hbl hbp hbu=>?_⟩,?_⟩
 ·rcases hat with hat|hat
  ·exact .inl hat
  exact .inr fun g hg'=>by rw[hat] at hg';injection hg' with hg';have:=b1.size;omega
 ·rw[Below.heap_setCell _ _ _ _ hqp,hg.block q hql (fun e=>by have:=(hou q e.symm).2;omega)]
  exact hq
 ·have:=b1.size;have:=hg.size;simp[World.setCell];omega
 ·rw[Below.heap_setCell _ _ _ _ hbp,hg.block b (Nat.lt_of_lt_of_le hbl b1.size) hbu,b1.block b hbl]
 refine Below.setCell (p:=⟨p,0,none⟩) ?_ h.lo _
 exact(hb.trans (b1.mono hb.size)).grown hg (Nat.le_trans hb.size b1.size) (fun g hg'=>(hou g hg').1)
theorem AdP.trans {W0 w wo w':World} {p:Nat} {X:Nat→Prop} {u ui:Value} {L:List Stp} (ho:OwnNew w.heap.size u ui) (hk:KpC p u w wo) (h:AdP W0 wo p (fun b=>X b∨w.heap.size≤b) ui L w'):AdP W0 w p X u L w':=by
 obtain⟨u',l',hc,hl,ho',hk',hb⟩:=h
 have hs:=hk.size
 exact⟨u',l',hc.free fun b _ hb=>by rcases hb with(hb|hb)|hb<;>first|exact .inl hb|exact .inr (by omega),hl,ho.trans ho' hs,hk.trans hk' ho,hb⟩
def AddOf (f:Nat):Prop:= ∀(v:Value) (m:List Nd) (W0 w:World) (p:Nat) (X:Nat→Prop) (u:Value) (l:List Sx),MsgAt f W0 v m→m.length≤2000000→CoI W0.heap.size p X u l w→Below W0.heap.size W0 w→l.length+cnt f m≤1000000→
  Calls Tryz.prog 16 #[.pointer (some ⟨p,0,none⟩),v] w fun e w'=>e= .returned (.tuple #[])∧AdP W0 w p X u (l.map (·.s)++flat f l.length m) w'
def AdTo (f:Nat) (W0 w:World) (p:Nat) (X:Nat→Prop) (u:Value) (FIN:List Stp) (r:List Nd) (wr:World):Prop:= ∃LL,AdP W0 w p X u LL wr∧LL++flatM (flat f) (cnt f) LL.length r=FIN∧LL.length+cnt (f+1) r≤1000000
def AdIn (f:Nat) (W0 wo:World) (p q:Nat) (X:Nat→Prop) (ui:Value) (x:Nd) (BEG:List Nat) (MID:List Stp) (KS:List (List UInt8)) (R:Nat) (r:List (List Nd)) (vb:Value) (wx:World):Prop:=
 ∃u kv l bs,AdI W0 wo p q X ui x u kv vb l KS bs wx∧bs++begs (cnt f) l.length r=BEG∧l.map (·.s)++flatB (flat f) (cnt f) l.length r=MID∧l.length+(r.map (cnt f)).sum+R≤1000000∧bs.length+r.length≤2000000
theorem zMi (f:Nat):AddOf f:=by
 induction f with
 |zero=>
  intro v m W0 w p X u l h hl hc hb _
  rcases h with⟨rfl,A,cap,rfl⟩|⟨b,off,cap,_,hpos,_,_,hx⟩
  ·have HP:=lH (show AdP W0 w p X u (l.map (·.s)++flat 0 l.length []) w from⟨u,l,hc.free fun b _ hx=> .inl hx,by simp[flat],.inl rfl,⟨Nat.le_refl _,fun _ _ _ _=>rfl⟩,hb⟩)
   clear hc hb
   go_enter Tryz.func16,Tryz.ntmps16
   go_wp2_with fail
   go_loopw [13] (fun vi wr=>vi= .int .i64 0∧w=wr) (fun _ _=>0)
   case atStart=>exact⟨rfl,rfl⟩
   case round=>
    obtain⟨rfl,rfl⟩:=hrel
    go_wp2_with fail
    go_end0
    exact⟨rfl,HP.out⟩
  exact absurd (hx 0 _ (List.getElem?_eq_getElem hpos)) (by simp[NdC])
 |succ f ih=>
  intro v m W0 w p X u l h hl hc hb hbd
  have IH:=lH ih
  clear ih
  obtain⟨iS,hiS,hiS3⟩:=Option.map_eq_some_iff.1 infoStep
  obtain⟨hS0,hS12⟩:=Prod.mk.inj hiS3
  obtain⟨hS1,hS2⟩:=Prod.mk.inj hS12
  obtain⟨iC,hiC,hiC3⟩:=Option.map_eq_some_iff.1 infoCase
  obtain⟨hC0,hC12⟩:=Prod.mk.inj hiC3
  obtain⟨hC1,hC2⟩:=Prod.mk.inj hC12
  obtain⟨iI,hiI,hiI3⟩:=Option.map_eq_some_iff.1 infoInt
  obtain⟨hI0,hI12⟩:=Prod.mk.inj hiI3
  obtain⟨hI1,hI2⟩:=Prod.mk.inj hI12
  clear hiS3 hS12 hiC3 hC12 hiI3 hI12
  obtain⟨FIN,hFIN⟩: ∃FIN,FIN=l.map (·.s)++flat (f+1) l.length m:=⟨_,rfl⟩
  rw[←hFIN]
  have P0:=lH (show AdTo f W0 w p X u FIN (m.drop 0) w from⟨l.map (·.s),⟨u,l,hc.free fun b _ hx=> .inl hx,rfl,.inl rfl,⟨Nat.le_refl _,fun _ _ _ _=>rfl⟩,hb⟩,by rw[List.drop_zero,List.length_map,hFIN];rfl,by rw[List.drop_zero,List.length_map];exact hbd⟩)
  clear hFIN hc hb hbd
  obtain⟨A,cap,rfl,_,hel⟩:=h.spread
  have hcap:m.length≤cap∨m.length=0:=by
   rcases h with⟨e,_⟩|⟨_,_,_,e,_,q,_,_⟩
   ·exact .inr (by rw[e];rfl)
   injection e with _ _ e;exact .inl (by omega)
  have HX:=lH hel
  clear hel h
  generalize hlm:m.length=L at*
  have HLM:=lH hlm
  go_enter Tryz.func16,Tryz.ntmps16
  go_wp2_with fail
  go_loopw [13] (fun vi wr=> ∃i:Nat,vi= .int .i64 (i:Int)∧i≤L∧Hid (AdTo f W0 w p X u FIN (m.drop i) wr)) (fun vi _=>L-(intOf vi).toNat)
  case atStart=>exact⟨0,rfl,Nat.zero_le _,P0⟩
  case round=>
   obtain⟨i,rfl,hi,HP⟩:=hrel
   clear P0
   rename World=>wo
   by_cases hlt:i<L
   ·have hi':(i:Int)<(L:Int):=by omega
    have hcc:L≤cap:=by omega
    obtain⟨x,hxi⟩: ∃x,m[i]?=some x:=⟨m[i]'(by omega),List.getElem?_eq_getElem (by omega)⟩
    obtain⟨LL,⟨ui,li,hco,hli,how,hkp,hbel⟩,hF,hC⟩:=HP.out
    have hdr:m.drop i=x::m.drop (i+1):=zHJ hxi
    have hll:li.length=LL.length:=by rw[←hli,List.length_map]
    have HF:=lH (show LL++(stpOf (cnt f) LL.length x::(flatB (flat f) (cnt f) (LL.length+1) ((casesOf x).map (·.2))++flatM (flat f) (cnt f) (LL.length+1+inC (cnt f) x) (m.drop (i+1))))=FIN by rw[←hF,hdr];rfl)
    have HC:=lH (show LL.length+(1+(((casesOf x).map (·.2)).map (cnt f)).sum+cnt (f+1) (m.drop (i+1)))≤1000000 by rw[zCV f hxi] at hC;exact hC)
    obtain⟨b,off,rfl,hnd⟩:=HX.out i x hxi
    obtain⟨a0,n0,c0,p0,p1,p2,p3,p4,p5,p6⟩:=hnd
    have g0:=cK p0 hbel
    have g1:=cK p1 hbel
    have g2:=cK p2 hbel
    have g3:=cK p3 hbel
    have lb:=World.block_lt_of_cell? _ _ g0
    have wi:IntKind.i64.wrap ((i:Int)+1)=(i:Int)+1:=IntWalk.i64_in _ (by omega)
    have HTL:=lH p5
    have h4:CassAt f W0 (.slice a0 n0 c0) x.cases:=p4
    have H4:=lH h4
    have CC:=lH fun (wx:World) (hb:Below W0.heap.size W0 wx)=>zDl (f:=f) x wx (zAm h4 hb)
    have lcs:(casesOf x).length≤2000000:=by
     unfold casesOf;split
     ·exact p6
     simp
    obtain⟨au,cu,rfl⟩:=hco.gr.slice
    have HCO:=lH hco
    have HOW:=lH how
    have HKP:=lH hkp
    have HBL:=lH hbel
    have HLI:=lH hli
    obtain⟨cp0,_,_,_,cpl⟩:=hco.cells
    have B1:=lH (bT (bA wo (.cells #[.int .i64 x.kind,.string ⟨x.text.toArray⟩,.int .i64 x.off,.slice a0 n0 c0] 51)) (bA (wo.alloc (.cells #[.int .i64 x.kind,.string ⟨x.text.toArray⟩,.int .i64 x.off,.slice a0 n0 c0] 51)) (.cells #[.int .i64 x.kind,.string ⟨x.text.toArray⟩,.int .i64 x.off,.slice none 0 0] 51)))
    have XB:=lH ((Boxed.made wo #[.int .i64 x.kind,.string ⟨x.text.toArray⟩,.int .i64 x.off,.slice a0 n0 c0] 51).alloc (.cells #[.int .i64 x.kind,.string ⟨x.text.toArray⟩,.int .i64 x.off,.slice none 0 0] 51))
    have YB:=lH (show((wo.alloc (.cells #[.int .i64 x.kind,.string ⟨x.text.toArray⟩,.int .i64 x.off,.slice a0 n0 c0] 51)).alloc (.cells #[.int .i64 x.kind,.string ⟨x.text.toArray⟩,.int .i64 x.off,.slice none 0 0] 51)).heap[wo.heap.size+1]?=some (.cells #[.int .i64 x.kind,.string ⟨x.text.toArray⟩,.int .i64 x.off,.slice none 0 0] 51 (0,0)) by have:=zBc (wo.alloc (.cells #[.int .i64 x.kind,.string ⟨x.text.toArray⟩,.int .i64 x.off,.slice a0 n0 c0] 51)) #[.int .i64 x.kind,.string ⟨x.text.toArray⟩,.int .i64 x.off,.slice none 0 0] 51;simpa using this)
    clear p0 p1 p2 p3 p4 p5 p6 h4 hxi hlt hco how hkp hbel hli hF hC HP hdr hll
    go_upto_region 5 with fail
    generalize (wo.alloc (.cells #[.int .i64 x.kind,.string ⟨x.text.toArray⟩,.int .i64 x.off,.slice a0 n0 c0] 51)).alloc (.cells #[.int .i64 x.kind,.string ⟨x.text.toArray⟩,.int .i64 x.off,.slice none 0 0] 51)=w1 at*
    clear cp0 cpl g0 g1 g2 g3 lb
    have x0:w1.cell? ⟨wo.heap.size,0,none⟩=some (.int .i64 x.kind):=XB.out.cell 0 _ rfl
    have x1:w1.cell? ⟨wo.heap.size,1,none⟩=some (.string ⟨x.text.toArray⟩):=XB.out.cell 1 _ rfl
    have x2:w1.cell? ⟨wo.heap.size,2,none⟩=some (.int .i64 x.off):=XB.out.cell 2 _ rfl
    have x3:w1.cell? ⟨wo.heap.size,3,none⟩=some (.slice a0 n0 c0):=XB.out.cell 3 _ rfl
    have xl:=XB.out.lt
    obtain⟨Q,hQ⟩: ∃Q,Q=wo.heap.size+1:=⟨_,rfl⟩
    rw[←hQ] at YB
    rw[←hQ]
    have HQ:=lH hQ
    clear hQ
    have C1:=lH (HCO.out.below B1.out)
    obtain⟨cp0,_,_,_,cpl⟩:=C1.out.cells
    have HZ:=lH (Boxed.made w1 #[.int .i64 0,.string ⟨#[]⟩,.int .i64 0,.slice none 0 0,.slice none 0 0,.int .i64 0] 81)
    have AB:=lH (bA w1 (.cells #[.int .i64 0,.string ⟨#[]⟩,.int .i64 0,.slice none 0 0,.slice none 0 0,.int .i64 0] 81))
    have HLL:=lH (show li.length≤1000000 from by have:=HC.out;have:=congrArg List.length HLI.out;rw[List.length_map] at this;omega)
    have HYA:=lH ((AB.out.block Q (zAf YB.out)).trans YB.out)
    have hpx: ¬p=wo.heap.size:=by have:=zAf HCO.out.bx;omega
    go_upto_region 6 with(at_builtin;go_loud (refine wpList_append_own_at _ rfl _ _ 24 rfl W0.heap.size 81 iS _ 6 88 Tryz.underlying24 hiS hS0 hS1 hS2 rfl (by decide) (.slice au li.length cu) li.length (li.flatMap sEnc) rfl (C1.out.below AB.out).gr.row ⟨_,0,none⟩ 1 1 [.int .i64 0,.string ⟨#[]⟩,.int .i64 0,.slice none 0 0,.slice none 0 0,.int .i64 0] rfl rfl (zAJ HZ.out) (fun u hu=>by simp at hu;rcases hu with rfl|rfl|rfl|rfl|rfl<;>rfl) (by have:=HLL.out;unfold maxLen;omega) (by have:=HLL.out;omega) (Nat.le_trans HBL.out.size (Nat.le_trans B1.out.size AB.out.size)) ?_;intro u2 w6 hown hgrow _ hat;obtain⟨a2,c2,rfl⟩:=zAG hown;have P2:=lH (AdI.start HCO.out HBL.out (bT B1.out AB.out) HYA.out (by have:=HQ.out;omega) hown hgrow hat);have qc:=lH ((hgrow.block p (zAf (C1.out.below AB.out).bx) (fun e=>(C1.out.below AB.out).own_ne e.symm rfl)).trans (C1.out.below AB.out).bx);have hxk:=hgrow.block wo.heap.size (Nat.lt_of_lt_of_le xl AB.out.size) (fun e=>by have:=HCO.out.gr.own_lt e.symm;omega);replace x0:=(World.cell?_of_block (a:=⟨wo.heap.size,0,none⟩) hxk).trans (cK x0 AB.out);replace x1:=(World.cell?_of_block (a:=⟨wo.heap.size,1,none⟩) hxk).trans (cK x1 AB.out);replace x2:=(World.cell?_of_block (a:=⟨wo.heap.size,2,none⟩) hxk).trans (cK x2 AB.out);replace x3:=(World.cell?_of_block (a:=⟨wo.heap.size,3,none⟩) hxk).trans (cK x3 AB.out);clear hown hgrow hat cp0 cpl hxk;have cp0:World.cell? w6 ⟨p,0,none⟩=some (.slice au li.length cu):=(by rw[Lib.cell_of_heap qc.out];rfl);have fp0:=Lib.frozen_of_heap qc.out 0;have cpl:=zAf qc.out))
    replace x0:=(World.cell?_setCell_far w6 ⟨p,0,none⟩ ⟨wo.heap.size,0,none⟩ (.slice a2 (li.length+1) c2) hpx).trans x0
    replace x1:=(World.cell?_setCell_far w6 ⟨p,0,none⟩ ⟨wo.heap.size,1,none⟩ (.slice a2 (li.length+1) c2) hpx).trans x1
    replace x2:=(World.cell?_setCell_far w6 ⟨p,0,none⟩ ⟨wo.heap.size,2,none⟩ (.slice a2 (li.length+1) c2) hpx).trans x2
    replace x3:=(World.cell?_setCell_far w6 ⟨p,0,none⟩ ⟨wo.heap.size,3,none⟩ (.slice a2 (li.length+1) c2) hpx).trans x3
    generalize World.setCell w6 ⟨p,0,none⟩ (.slice a2 (li.length+1) c2)=w2 at*
    clear qc cp0 fp0 cpl C1 HZ AB HYA YB XB
    replace xl:=World.block_lt_of_cell? _ _ x0
    go_wp2_with fail
    refine(CC.out w2 P2.out.bel).mono ?_
    rintro e w3 ⟨A1,C1,rfl,hto,hb⟩
    have P3:=lH (P2.out.below hb)
    have HCS:=hto W0 H4.out
    clear hto hb CC P2 B1 H4 x0 x1 x2 x3 xl hpx
    obtain⟨cs,hcs⟩: ∃cs,cs=casesOf x:=⟨_,rfl⟩
    have hic:inC (cnt f) x=((cs.map (·.2)).map (cnt f)).sum:=by rw[hcs];rfl
    have hst:stpOf (cnt f) LL.length x=⟨x.kind,x.text,x.off,cs.map (·.1),begs (cnt f) (LL.length+1) (cs.map (·.2)),LL.length+1+((cs.map (·.2)).map (cnt f)).sum⟩:=by rw[←hic,hcs];rfl
    rw[hic,hst,←hcs] at HF
    rw[←hcs] at HCS lcs HC
    rw[←hcs]
    clear hcs hic hst
    obtain⟨A2,C2,e2,_,hel⟩:=HCS.spread
    injection e2 with e3 e4 e5
    subst e3 e5
    have hcapc:cs.length≤C1∨cs.length=0:=by
     rcases HCS with⟨e,_⟩|⟨_,_,_,e,_,q,_,_⟩
     ·exact .inr (by rw[e];rfl)
     injection e with _ _ e;exact .inl (by omega)
    have HEL:=lH hel
    clear hel HCS e4
    obtain⟨BEG,hBEG⟩: ∃BEG,BEG=begs (cnt f) (LL.length+1) (cs.map (·.2)):=⟨_,rfl⟩
    obtain⟨FB,hFB⟩: ∃FB,FB=flatB (flat f) (cnt f) (LL.length+1) (cs.map (·.2)):=⟨_,rfl⟩
    obtain⟨R,hR⟩: ∃R,R=cnt (f+1) (m.drop (i+1)):=⟨_,rfl⟩
    have hll:li.length=LL.length:=by have:=congrArg List.length HLI.out;rwa [List.length_map] at this
    have P4:=lH (show AdIn f W0 wo p Q (fun b=>X b∨w.heap.size≤b) (.slice au li.length cu) x BEG ((LL++ [zeroS.s])++FB) ((cs.take 0).map (·.1)) R ((cs.drop 0).map (·.2)) (.slice none 0 0) w3 from
     ⟨_,_,li++ [zeroS],[],P3.out,by rw[List.drop_zero,List.length_append,hll,hBEG];rfl,by rw[List.drop_zero,List.length_append,hll,List.map_append,HLI.out,hFB];rfl,by rw[List.drop_zero,List.length_append,hll,hR];have:=HC.out;show LL.length+1+_+_≤_;omega,by rw[List.drop_zero,List.length_map];show 0+cs.length≤_;omega⟩)
    rw[←hBEG,←hFB] at HF
    have HFBL:=lH (show FB.length=((cs.map (·.2)).map (cnt f)).sum from by rw[hFB];exact zCi (zBm f) _ _)
    have HRR:=lH hR
    have HLB:=lH hll
    clear hBEG hFB hR hll P3
    generalize hlc:cs.length=LC at*
    have HLC:=lH hlc
    clear hlc
    rename World=>w3
    go_wp2_with fail
    go_loopw [8,42] (fun vb vk wx=> ∃k:Nat,vk= .int .i64 (k:Int)∧k≤LC∧Hid (AdIn f W0 wo p Q (fun b=>X b∨w.heap.size≤b) (.slice au li.length cu) x BEG ((LL++ [zeroS.s])++FB) ((cs.take k).map (·.1)) R ((cs.drop k).map (·.2)) vb wx)) (fun _ vk _=>LC-(intOf vk).toNat)
    case atStart=>exact⟨0,rfl,Nat.zero_le _,P4⟩
    case round=>
     obtain⟨k,rfl,hk,HA⟩:=hrel
     clear P4
     obtain⟨us,kv,l2,bs,hAI,hbe,hmi,hbd,hbl⟩:=HA.out
     clear HA
     obtain⟨KS,hKS⟩: ∃KS,KS=(cs.take k).map (·.1):=⟨_,rfl⟩
     rw[←hKS] at hAI
     have hksl:KS.length=k:=by rw[hKS,List.length_map,List.length_take];have:=HLC.out;omega
     obtain⟨ak,ck,rfl⟩:=zAG hAI.kr
     obtain⟨as_,c_s,rfl⟩:=hAI.co.gr.slice
     obtain⟨ab,cb,rfl⟩:=zAG hAI.br
     have HKS:=lH hKS
     have HKL:=lH hksl
     have HBL2:=lH (show bs.length≤2000000 by omega)
     have HBL3:=lH hbl
     clear hKS hksl hbl
     by_cases hltk:k<LC
     ·have hk':(k:Int)<(LC:Int):=by omega
      have hccc:LC≤C1:=by omega
      obtain⟨y,hyk⟩: ∃y,cs[k]?=some y:=⟨cs[k]'(by have:=HLC.out;omega),List.getElem?_eq_getElem (by have:=HLC.out;omega)⟩
      obtain⟨bb,oo,rfl,a9,n9,c9,q0,q1,q2,q3,q4⟩:=HEL.out k y hyk
      have hdk:(cs.drop k).map (·.2)=y.2::(cs.drop (k+1)).map (·.2):=by rw[zHJ hyk];rfl
      rw[hdk] at hbe hmi hbd
      have hbl3:=HBL3.out
      rw[hdk,List.length_cons] at hbl3
      replace HBL3:=lH hbl3
      clear hbl3
      rw[List.map_cons,List.sum_cons] at hbd
      have HBE:=lH (show bs++(l2.length::begs (cnt f) (l2.length+cnt f y.2) ((cs.drop (k+1)).map (·.2)))=BEG from hbe)
      have HMI:=lH (show l2.map (·.s)++(flat f l2.length y.2++flatB (flat f) (cnt f) (l2.length+cnt f y.2) ((cs.drop (k+1)).map (·.2)))=_ from hmi)
      have HBD:=lH hbd
      have HKT:=lH (show(cs.take (k+1)).map (·.1)=KS++ [y.1] from by rw[List.take_add_one,hyk,HKS.out];simp)
      have j0:=cK q0 hAI.bel
      have j1:=cK q1 hAI.bel
      have lb:=World.block_lt_of_cell? _ _ j0
      have wk:IntKind.i64.wrap ((k:Int)+1)=(k:Int)+1:=IntWalk.i64_in _ (by omega)
      have HAI:=lH hAI
      have HQ2:=lH (And.intro q2 q4)
      obtain⟨key,body⟩:=y
      dsimp only at j0 j1 HBE HMI HBD HKT HQ2
      have KB:=lH (Boxed.made wr #[.string ⟨key.toArray⟩,.slice a9 n9 c9] 53)
      have P5:=lH (hAI.below (bA wr (.cells #[.string ⟨key.toArray⟩,.slice a9 n9 c9] 53)))
      clear q0 q1 q2 q3 q4 hyk hdk hbe hmi hbd hAI
      go_upto_region 10 with fail
      generalize wr.alloc (.cells #[.string ⟨key.toArray⟩,.slice a9 n9 c9] 53)=wd at*
      clear j0 j1 lb
      have k0:wd.cell? ⟨wr.heap.size,0,none⟩=some (.string ⟨key.toArray⟩):=KB.out.cell 0 _ rfl
      have k1:wd.cell? ⟨wr.heap.size,1,none⟩=some (.slice a9 n9 c9):=KB.out.cell 1 _ rfl
      have kl:=KB.out.lt
      have OWK:=lH (fun g (hg:(Value.slice ak KS.length ck).ownBlock=some g)=>(zAk HAI.out.kr hg).2.1)
      have OWB:=lH (fun g (hg:(Value.slice ab bs.length cb).ownBlock=some g)=>(zAk HAI.out.br hg).2.1)
      have HQK:=lH (zAf HAI.out.bx)
      clear KB HAI
      generalize wr.heap.size=kb at*
      obtain⟨_,_,_,c3,_,ql⟩:=P5.out.cells
      have HC5:=lH (Boxed.made wd #[.string ⟨key.toArray⟩,.slice none 0 0] 53)
      have AB:=lH (bA wd (.cells #[.string ⟨key.toArray⟩,.slice none 0 0] 53))
      go_upto_region 11 with(at_builtin;go_loud (refine wpList_append_own_at _ rfl _ _ 49 rfl wo.heap.size 53 iC _ 2 40 Tryz.underlying49 hiC hC0 hC1 hC2 rfl (by decide) (.slice ak KS.length ck) KS.length (KS.flatMap fun k=> [.string ⟨k.toArray⟩,.slice none 0 0]) rfl (P5.out.below AB.out).kr ⟨_,0,none⟩ 1 1 [.string ⟨key.toArray⟩,.slice none 0 0] rfl rfl (zAJ HC5.out) (fun u hu=>by simp at hu;rcases hu with rfl|rfl<;>rfl) (by have:=HKL.out;unfold maxLen;omega) (by have:=HKL.out;omega) (P5.out.below AB.out).kp.size ?_;intro kv' w6 hown hgrow _ hat;obtain⟨ak',ck',rfl⟩:=zAG hown;have P6:=lH ((P5.out.below AB.out).key key hown hgrow hat);have qc:=lH ((hgrow.block Q (zAf (P5.out.below AB.out).bx) (fun e=>((P5.out.below AB.out).ne_kq e.symm).1 rfl)).trans (P5.out.below AB.out).bx);have hxk:=hgrow.block kb (Nat.lt_of_lt_of_le kl AB.out.size) (fun e=>by have:=OWK.out kb e.symm;omega);replace k0:=(World.cell?_of_block (a:=⟨kb,0,none⟩) hxk).trans (cK k0 AB.out);replace k1:=(World.cell?_of_block (a:=⟨kb,1,none⟩) hxk).trans (cK k1 AB.out);clear hown hgrow hat c3 ql hxk;have c3:World.cell? w6 ⟨Q,3,none⟩=some (.slice ak KS.length ck):=(by rw[Lib.cell_of_heap qc.out];rfl);have f3:=Lib.frozen_of_heap qc.out 3;have ql:=zAf qc.out))
      have hqk: ¬Q=kb:=by have:=HQK.out;omega
      replace k1:=(World.cell?_setCell_far w6 ⟨Q,3,none⟩ ⟨kb,1,none⟩ (.slice ak' (KS.length+1) ck') hqk).trans k1
      generalize World.setCell w6 ⟨Q,3,none⟩ (.slice ak' (KS.length+1) ck')=w7 at*
      clear qc c3 f3 ql HC5 AB k0 kl P5 OWK
      have kl:=World.block_lt_of_cell? _ _ k1
      obtain⟨cp0,_,_,_,cpl⟩:=P6.out.co.cells
      have HC6:=lH (Boxed.made w7 #[.int .i64 (l2.length:Int)] 3)
      have AB:=lH (bA w7 (.cells #[.int .i64 (l2.length:Int)] 3))
      go_upto_region 12 with(at_builtin;go_loud (refine wpList_append_own_at _ rfl _ _ 79 rfl wo.heap.size 3 iI _ 1 8 Tryz.underlying79 hiI hI0 hI1 hI2 rfl (by decide) (.slice ab bs.length cb) bs.length (bs.map fun n:Nat=>Value.int .i64 (n:Int)) rfl (P6.out.below AB.out).br ⟨_,0,none⟩ 1 1 [.int .i64 (l2.length:Int)] rfl rfl (zAJ HC6.out) (fun u hu=>by simp at hu;rcases hu with rfl;rfl) (by have:=HBL2.out;unfold maxLen;omega) (by have:=HBL2.out;omega) (P6.out.below AB.out).kp.size ?_;intro bv' w8 hown hgrow _ hat;obtain⟨ab',cb',rfl⟩:=zAG hown;have P7:=lH ((P6.out.below AB.out).beg l2.length hown hgrow hat);have hxk:=hgrow.block kb (Nat.lt_of_lt_of_le kl AB.out.size) (fun e=>by have:=OWB.out kb e.symm;omega);replace k1:=(World.cell?_of_block (a:=⟨kb,1,none⟩) hxk).trans (cK k1 AB.out);clear hown hgrow hat hxk cp0 cpl kl))
      generalize (Value.slice ak' (KS.length+1) ck')=kv' at*
      have hb7:l2.length+cnt f body≤1000000:=by have:=HBD.out;omega
      have CR:=lH (IH.out (.slice a9 n9 c9) body W0 w8 p _ _ l2 HQ2.out.1 HQ2.out.2 P7.out.co P7.out.bel hb7)
      clear P6 HC6 AB HQ2 OWB hb7 hqk
      go_wp2_with fail
      refine CR.out.mono ?_
      rintro e w9 ⟨rfl,hap⟩
      obtain⟨u',l',hw,hl'⟩:=P7.out.walked hap
      have P8:=lH (show AdIn f W0 wo p Q (fun b=>X b∨w.heap.size≤b) (.slice au li.length cu) x BEG ((LL++ [zeroS.s])++FB) ((cs.take (k+1)).map (·.1)) R ((cs.drop (k+1)).map (·.2)) (.slice ab' (bs.length+1) cb') w9 from by
       have hlen:l'.length=l2.length+cnt f body:=by
        have:=congrArg List.length hl'
        rwa [List.length_map,List.length_append,List.length_map,zBm] at this
       refine⟨u',kv',l',bs++ [l2.length],by rw[HKT.out];exact hw,?_,?_,?_,?_⟩
       ·rw[hlen,List.append_assoc];exact HBE.out
       ·rw[hlen,hl',List.append_assoc];exact HMI.out
       ·rw[hlen];have:=HBD.out;omega
       rw[List.length_append];have:=HBD.out;have:=HBL3.out;show bs.length+1+_≤_;omega)
      clear hap hw hl' CR P7 k1 HBE HMI HBD HKT HBL2 HBL3 HKL HKS HQK
      go_wp2_with fail
      go_roundw
      case rel=>exact⟨k+1,by go_num,by omega,P8⟩
      case measure=>simp[intOf];omega
     have hk': ¬(k:Int)<(LC:Int):=by omega
     rw[List.drop_of_length_le (by have:=HLC.out;omega)] at hbe hmi
     have HBE:=lH (show bs++ [l2.length]=BEG from hbe)
     have HMI:=lH (show l2.map (·.s)=(LL++ [zeroS.s])++FB from by rw[←hmi];exact(List.append_nil _).symm)
     have HKA:=lH (show KS=cs.map (·.1) from by rw[HKS.out,List.take_of_length_le (by have:=HLC.out;omega)])
     have hl2:l2.length=LL.length+1+FB.length:=by
      have:=congrArg List.length HMI.out
      rw[List.length_map,List.length_append,List.length_append] at this
      exact this
     have hat2:li.length<l2.length:=by have:=HLB.out;omega
     have HL2:=lH hl2
     have hl2b:l2.length≤1000000:=by omega
     obtain⟨g,rfl⟩: ∃g,as_=some ⟨g,0,none⟩:=by
      rcases hAI.co.gr.row.2 with⟨_,h0⟩|⟨g,cap,cur,e,_⟩
      ·omega
      injection e with e _ _;exact⟨g,e⟩
     have HKEY:=lH (show ∀y∈KS,y.length≤2000000 from fun y hy=>by
      rw[HKA.out] at hy
      obtain⟨z,hz,rfl⟩:=List.mem_map.1 hy
      obtain⟨j,hj,ej⟩:=List.getElem_of_mem hz
      obtain⟨bb,oo,_,a9,n9,c9,q0,q1,q2,q3,q4⟩:=HEL.out j z (by rw[List.getElem?_eq_getElem hj,ej])
      exact q3)
     obtain⟨d0,d1,d2,d3,_,dl⟩:=hAI.cells
     obtain⟨cp0,_,_,_,cpl⟩:=hAI.co.cells
     have HAI:=lH hAI
     clear hbe hmi hbd hl2 hAI HBL3 HKS
     have hi0:(0:Int)≤(li.length:Int):=by omega
     have hi1:(li.length:Int)<(l2.length:Int):=by omega
     go_upto_region 14 with fail
     refine wp_region_held_drew (S:=fun w'=>w'.cell? ⟨p,0,none⟩=some (.slice (some ⟨g,0,none⟩) l2.length c_s)∧w'.cell? ⟨Q,0,none⟩=some (.int .i64 x.kind)∧w'.cell? ⟨Q,1,none⟩=some (.string ⟨x.text.toArray⟩)∧w'.cell? ⟨Q,2,none⟩=some (.int .i64 x.off)∧w'.cell? ⟨Q,3,none⟩=some (.slice ak KS.length ck)) (by kernel_rfl) ⟨cp0,d0,d1,d2,d3⟩ (fun hY9=>?_)
     have P:=lH (HAI.out.below (Below.drew (Below.refl _ _)))
     generalize wr.drew=wz at*
     clear d0 d1 d2 d3 dl cp0 cpl HAI
     refine tkr (d:=some 67) (v:=?v1) 0 rfl rfl hY9 ?hy1 ?rs1
     case hy1=>(intro w hSw;(try dsimp only at hSw);go_simp)<;>(try with_reducible rfl)
     (try simp only[Act.put,aI,aO,aS])
     refine tkr (d:=some 68) (v:=?v2) 1 rfl rfl hY9 ?hy2 ?rs2
     case hy2=>(intro w hSw;(try dsimp only at hSw);go_simp)<;>(try with_reducible rfl)
     (try simp only[Act.put,aI,aO,aS])
     refine tkr (d:=some 69) (v:=?v3) 2 rfl rfl hY9 ?hy3 ?rs3
     case hy3=>(intro w hSw;(try dsimp only at hSw);go_simp)<;>(try with_reducible rfl)
     (try simp only[Act.put,aI,aO,aS])
     refine tkr (d:=some 70) (v:=?v4) 3 rfl rfl hY9 ?hy4 ?rs4
     case hy4=>(intro w hSw;(try dsimp only at hSw);go_simp)<;>(try with_reducible rfl)
     (try simp only[Act.put,aI,aO,aS])
     refine tkr (d:=some 71) (v:=?v5) 4 rfl rfl hY9 ?hy5 ?rs5
     case hy5=>(intro w hSw;(try dsimp only at hSw);go_simp)<;>(try with_reducible rfl)
     (try simp only[Act.put,aI,aO,aS])
     refine tkr (d:=some 72) (v:=?v6) 5 rfl rfl hY9 ?hy6 ?rs6
     case hy6=>(intro w hSw;(try dsimp only at hSw);go_simp)<;>(try with_reducible rfl)
     (try simp only[Act.put,aI,aO,aS])
     refine tkr (d:=some 73) (v:=?v7) 6 rfl rfl hY9 ?hy7 ?rs7
     case hy7=>(intro w hSw;(try dsimp only at hSw);go_simp)<;>(try with_reducible rfl)
     (try simp only[Act.put,aI,aO,aS])
     refine tkr (d:=some 74) (v:=?v8) 7 rfl rfl hY9 ?hy8 ?rs8
     case hy8=>(intro w hSw;(try dsimp only at hSw);go_simp)<;>(try with_reducible rfl)
     (try simp only[Act.put,aI,aO,aS])
     refine tkr (d:=some 75) (v:=?v9) 8 rfl rfl hY9 ?hy9 ?rs9
     case hy9=>(intro w hSw;(try dsimp only at hSw);go_simp)<;>(try with_reducible rfl)
     (try simp only[Act.put,aI,aO,aS])
     refine tkr (d:=some 76) (v:=?v10) 9 rfl rfl hY9 ?hy10 ?rs10
     case hy10=>(intro w hSw;(try dsimp only at hSw);go_simp)<;>(try with_reducible rfl)
     (try simp only[Act.put,aI,aO,aS])
     refine tkr (d:=some 77) (v:=?v11) 10 rfl rfl hY9 ?hy11 ?rs11
     case hy11=>(intro w hSw;(try dsimp only at hSw);go_simp)<;>(try with_reducible rfl)
     (try simp only[Act.put,aI,aO,aS])
     refine tkr (d:=some 78) (v:=?v12) 11 rfl rfl hY9 ?hy12 ?rs12
     case hy12=>(intro w hSw;(try dsimp only at hSw);go_simp)<;>(try with_reducible rfl)
     (try simp only[Act.put,aI,aO,aS])
     refine tkr (d:=some 81) (v:=?v13) 14 rfl rfl hY9 ?hy13 ?rs13
     case hy13=>(intro w hSw;(try dsimp only at hSw);go_simp)<;>(try with_reducible rfl)
     (try simp only[Act.put,aI,aO,aS])
     refine tkr (d:=some 82) (v:=?v14) 15 rfl rfl hY9 ?hy14 ?rs14
     case hy14=>(intro w hSw;(try dsimp only at hSw);go_simp)<;>(try with_reducible rfl)
     (try simp only[Act.put,aI,aO,aS])
     refine tkr (d:=some 83) (v:=?v15) 16 rfl rfl hY9 ?hy15 ?rs15
     case hy15=>(intro w hSw;(try dsimp only at hSw);go_simp)<;>(try with_reducible rfl)
     (try simp only[Act.put,aI,aO,aS])
     refine tkr (d:=some 84) (v:=?v16) 17 rfl rfl hY9 ?hy16 ?rs16
     case hy16=>(intro w hSw;(try dsimp only at hSw);go_simp)<;>(try with_reducible rfl)
     (try simp only[Act.put,aI,aO,aS])
     refine tkr (d:=some 85) (v:=?v17) 18 rfl rfl hY9 ?hy17 ?rs17
     case hy17=>(intro w hSw;(try dsimp only at hSw);go_simp)<;>(try with_reducible rfl)
     (try simp only[Act.put,aI,aO,aS])
     refine zAc 12 rfl (by kernel_rfl) (by rfl) (fun K hK=>?_)
     go_simp
     have HCN:=lH (Boxed.made wz #[.int .i64 (l2.length:Int)] 3)
     replace P:=lH (P.out.below (bA wz (.cells #[.int .i64 (l2.length:Int)] 3)))
     refine hK.out _ _ (⟨cK hY9.1 (bA _ _),cK hY9.2.1 (bA _ _),cK hY9.2.2.1 (bA _ _),cK hY9.2.2.2.1 (bA _ _),cK hY9.2.2.2.2 (bA _ _)⟩) (fun hY9=>?_)
     clear hK K
     (try simp only[Act.put,aI,aO,aS])
     generalize World.alloc wz (.cells #[.int .i64 (l2.length:Int)] 3)=wd at*
     refine zAc 13 rfl (by kernel_rfl) (by rfl) (fun K hK=>?_)
     refine zA6 _ _ _ 79 rfl wo.heap.size 3 iI _ 1 8 Tryz.underlying79 hiI hI0 hI1 hI2 rfl (by decide) (.slice ab bs.length cb) bs.length (bs.map fun n:Nat=>Value.int .i64 (n:Int)) (by simp[go_sem]) P.out.br ⟨_,0,none⟩ 1 1 [.int .i64 (l2.length:Int)] (by simp[go_sem]) rfl (zAJ HCN.out) (fun u hu=>by simp at hu;rcases hu with rfl;rfl) (by have:=HBL2.out;unfold maxLen;omega) (by have:=HBL2.out;omega) P.out.kp.size ?_
     intro bv' w6 hown hgrow hat
     obtain⟨ab',cb',rfl⟩:=zAG hown
     have P7:=lH (P.out.beg l2.length hown hgrow hat)
     have hpk:=hgrow.block p (zAf P.out.co.bx) (fun e=>(P.out.ne_bq e.symm).2.1 rfl)
     have hqk:=hgrow.block Q (zAf P.out.bx) (fun e=>(P.out.ne_bq e.symm).1 rfl)
     have hb1:World.cell? w6 ⟨p,0,none⟩=some (.slice (some ⟨g,0,none⟩) l2.length c_s)∧World.cell? w6 ⟨Q,0,none⟩=some (.int .i64 x.kind)∧World.cell? w6 ⟨Q,1,none⟩=some (.string ⟨x.text.toArray⟩)∧World.cell? w6 ⟨Q,2,none⟩=some (.int .i64 x.off)∧World.cell? w6 ⟨Q,3,none⟩=some (.slice ak KS.length ck):=⟨(World.cell?_of_block (a:=⟨p,0,none⟩) hpk).trans hY9.1,(World.cell?_of_block (a:=⟨Q,0,none⟩) hqk).trans hY9.2.1,(World.cell?_of_block (a:=⟨Q,1,none⟩) hqk).trans hY9.2.2.1,(World.cell?_of_block (a:=⟨Q,2,none⟩) hqk).trans hY9.2.2.2.1,(World.cell?_of_block (a:=⟨Q,3,none⟩) hqk).trans hY9.2.2.2.2⟩
     clear hown hgrow hat hpk hqk hY9
     refine hK.out _ _ hb1 (fun hY9=>?_)
     clear hK K hb1 P HCN
     (try simp only[Act.put,aI,aO,aS])
     refine tkr (d:=some 86) (v:=?v19) 19 rfl rfl hY9 ?hy19 ?rs19
     case hy19=>(intro w hSw;(try dsimp only at hSw);go_simp)<;>(try with_reducible rfl)
     (try simp only[Act.put,aI,aO,aS])
     refine tkr (d:=some 87) (v:=?v18) 20 rfl rfl hY9 ?hy18 ?rs18
     case hy18=>(intro w hSw;(try dsimp only at hSw);go_simp)<;>(try with_reducible rfl)
     (try simp only[Act.put,aI,aO,aS])
     refine zAc 21 rfl (by kernel_rfl) (by rfl) (fun K hK=>?_)
     obtain⟨o0,o1,o2,o3,o4,o5,s0,s1,s2,s3,s4,s5,z0,z1,z2,z3,z4,z5,sl⟩:=zMf P7.out.co.gr.row hat2
     go_simp
     have hgp:=P7.out.co.own_ne (g:=g) rfl
     have hgq:g≠Q:=fun e=>P7.out.ne_uq (by rw[←e];rfl)
     have PS:=lH (P7.out.shut li.length l2.length hat2 ⟨_,_,_,rfl⟩ ⟨_,_,_,rfl⟩ HTL.out (by have:=HKL.out;omega) HKEY.out)
     have hpk:=zB8 w6 g (li.length*6) (.int .i64 x.kind) (.string ⟨x.text.toArray⟩) (.int .i64 x.off) (.slice ak KS.length ck) (.slice ab' (bs.length+1) cb') (.int .i64 (l2.length:Int)) (Ne.symm hgp)
     have hqk:=zB8 w6 g (li.length*6) (.int .i64 x.kind) (.string ⟨x.text.toArray⟩) (.int .i64 x.off) (.slice ak KS.length ck) (.slice ab' (bs.length+1) cb') (.int .i64 (l2.length:Int)) (Ne.symm hgq)
     have hb2:World.cell? (put6 w6 g (li.length*6) (.int .i64 x.kind) (.string ⟨x.text.toArray⟩) (.int .i64 x.off) (.slice ak KS.length ck) (.slice ab' (bs.length+1) cb') (.int .i64 (l2.length:Int))) ⟨p,0,none⟩=some (.slice (some ⟨g,0,none⟩) l2.length c_s)∧World.cell? (put6 w6 g (li.length*6) (.int .i64 x.kind) (.string ⟨x.text.toArray⟩) (.int .i64 x.off) (.slice ak KS.length ck) (.slice ab' (bs.length+1) cb') (.int .i64 (l2.length:Int))) ⟨Q,0,none⟩=some (.int .i64 x.kind)∧World.cell? (put6 w6 g (li.length*6) (.int .i64 x.kind) (.string ⟨x.text.toArray⟩) (.int .i64 x.off) (.slice ak KS.length ck) (.slice ab' (bs.length+1) cb') (.int .i64 (l2.length:Int))) ⟨Q,1,none⟩=some (.string ⟨x.text.toArray⟩)∧World.cell? (put6 w6 g (li.length*6) (.int .i64 x.kind) (.string ⟨x.text.toArray⟩) (.int .i64 x.off) (.slice ak KS.length ck) (.slice ab' (bs.length+1) cb') (.int .i64 (l2.length:Int))) ⟨Q,2,none⟩=some (.int .i64 x.off)∧World.cell? (put6 w6 g (li.length*6) (.int .i64 x.kind) (.string ⟨x.text.toArray⟩) (.int .i64 x.off) (.slice ak KS.length ck) (.slice ab' (bs.length+1) cb') (.int .i64 (l2.length:Int))) ⟨Q,3,none⟩=some (.slice ak KS.length ck):=⟨(World.cell?_of_block (a:=⟨p,0,none⟩) hpk).trans hY9.1,(World.cell?_of_block (a:=⟨Q,0,none⟩) hqk).trans hY9.2.1,(World.cell?_of_block (a:=⟨Q,1,none⟩) hqk).trans hY9.2.2.1,(World.cell?_of_block (a:=⟨Q,2,none⟩) hqk).trans hY9.2.2.2.1,(World.cell?_of_block (a:=⟨Q,3,none⟩) hqk).trans hY9.2.2.2.2⟩
     clear o0 o1 o2 o3 o4 o5 s0 s1 s2 s3 s4 s5 z0 z1 z2 z3 z4 z5 sl hY9 hgp hgq hpk hqk
     refine hK.out _ _ hb2 (fun hY9=>?_)
     clear hK K hb2 hY9
     (try simp only[Act.put,aI,aO,aS])
     refine wpAnyH_done (by kernel_rfl) ?_ _
     have P9:=lH (show AdTo f W0 w p X u FIN (m.drop (i+1)) (put6 w6 g (li.length*6) (.int .i64 x.kind) (.string ⟨x.text.toArray⟩) (.int .i64 x.off) (.slice ak KS.length ck) (.slice ab' (bs.length+1) cb') (.int .i64 (l2.length:Int))) from by
      have e1:(l2.map (·.s)).set li.length ⟨x.kind,x.text,x.off,KS,bs++ [l2.length],l2.length⟩=LL++(⟨x.kind,x.text,x.off,cs.map (·.1),BEG,LL.length+1+((cs.map (·.2)).map (cnt f)).sum⟩::FB):=by
       rw[HMI.out,HLB.out,HBE.out,HKA.out,HL2.out,HFBL.out,List.append_assoc,List.set_append_right _ _ (Nat.le_refl _),Nat.sub_self]
       rfl
      have hp:=AdP.trans HOW.out HKP.out PS.out
      rw[e1] at hp
      have hln:(LL++((⟨x.kind,x.text,x.off,cs.map (·.1),BEG,LL.length+1+((cs.map (·.2)).map (cnt f)).sum⟩:Stp)::FB)).length=LL.length+1+((cs.map (·.2)).map (cnt f)).sum:=by
       rw[List.length_append,List.length_cons,HFBL.out];omega
      refine⟨_,hp,?_,?_⟩
      ·rw[hln,List.append_assoc];exact HF.out
      rw[hln];have:=HC.out;omega)
     clear PS P7 HBE HMI HKA HL2 HKEY HBL2 HKL hat2 hl2b hi0 hi1
     unfold put6 at P9
     generalize (World.setCell (World.setCell (World.setCell (World.setCell (World.setCell (World.setCell w6 ⟨g,li.length*6,none⟩ (.int .i64 x.kind)) ⟨g,li.length*6+1,none⟩ (.string ⟨x.text.toArray⟩)) ⟨g,li.length*6+2,none⟩ (.int .i64 x.off)) ⟨g,li.length*6+3,none⟩ (.slice ak KS.length ck)) ⟨g,li.length*6+4,none⟩ (.slice ab' (bs.length+1) cb')) ⟨g,li.length*6+5,none⟩ (.int .i64 (l2.length:Int)))=w7 at*
     go_wp2_with fail
     go_roundw
     case rel=>exact⟨i+1,by go_num,by omega,P9⟩
     case measure=>simp[intOf];omega
   have hi': ¬(i:Int)<(L:Int):=by omega
   obtain⟨LL,hA,hF,hC⟩:=HP.out
   rw[List.drop_of_length_le (by have:=HLM.out;omega)] at hF
   have hF':LL=FIN:=by rw[←hF];exact(List.append_nil _).symm
   subst hF'
   have HA:=lH hA
   clear hA hF hC HP
   go_wp2_with fail
   go_end0
   exact⟨rfl,HA.out⟩
open Go.RowKit
theorem zFA (l:List (List UInt8)) (b off k cap:Nat) (x:List UInt8) (w:World) (hk:k≤l.length) (hl:k≤9223372036854775807) (hc: ∀(j:Nat) x,l[j]?=some x→w.cell? ⟨b,off+j,none⟩=some (.string ⟨x.toArray⟩)):
  Calls Tryz.prog 108 #[.slice (some ⟨b,off,none⟩) k cap,.string ⟨x.toArray⟩] w fun e w'=>e= .returned (.bool ((l.take k).contains x))∧w=w':=by
 have c:= Tryz.slices_Contains_string b off k cap (l.map fun x=>⟨x.toArray⟩) ⟨x.toArray⟩ w (by rw[List.length_map];exact hk) hl (fun j hj=>by
  rw[List.length_map] at hj
  rw[hc j l[j] (List.getElem?_eq_getElem hj),List.getD_eq_getElem?_getD,List.getElem?_map,List.getElem?_eq_getElem hj];rfl)
 refine c.mono ?_
 rintro e w' ⟨rfl,rfl⟩
 refine⟨zAg ?_,rfl⟩
 rw[Bool.eq_iff_iff,Lib.containsS_iff,List.contains_iff_mem,←List.map_take,List.mem_map]
 constructor
 ·rintro⟨y,hy,e⟩
  have:y=x:=by have:=congrArg (fun z:ByteArray=>z.data.toList) e;simpa using this
  exact this▸hy
 exact fun h=>⟨x,h,rfl⟩
theorem zC3 (l:List (List UInt8)) (V:Value) (x:List UInt8) (w:World) (h:StrsAt w V l):
  Calls Tryz.prog 108 #[V,.string ⟨x.toArray⟩] w fun e w'=>e= .returned (.bool (l.contains x))∧w=w':=by
 rcases h with⟨rfl,a,cap,rfl⟩|⟨b,off,cap,rfl,_,h3,h4,h5⟩
 ·exact(Tryz.slices_Contains_string_empty a cap ⟨x.toArray⟩ w).mono fun e w' g=>⟨g.1,g.2.symm⟩
 have:=zFA l b off l.length cap x w (Nat.le_refl _) (by unfold maxLen at h4;omega) h5
 rw[List.take_length] at this
 exact this
theorem zMj (l:List (List UInt8)) (b off k cap:Nat) (x:List UInt8) (w:World) (hk:k≤l.length) (hkc:k≤cap) (hm:cap≤maxLen) (hc: ∀(j:Nat) x,l[j]?=some x→w.cell? ⟨b,off+j,none⟩=some (.string ⟨x.toArray⟩)):
  Calls Tryz.prog 38 #[.slice (some ⟨b,off,none⟩) k cap,.string ⟨x.toArray⟩] w fun e w'=>e= .returned (.bool ((l.take k).contains x))∧w=w':=by
 generalize HPOST:(l.take k).contains x=POST
 have HP:=lH HPOST
 have HC:=lH hc
 unfold maxLen at hm
 clear HPOST hc
 go_enter Tryz.func38,Tryz.ntmps38
 go_wp2_with fail
 go_loop [5] (fun i=> ∃m:Nat,i= .int .i64 m∧m≤k∧Hid ((l.take m).contains x=false)) (fun i=>k-(intOf i).toNat)
 case atStart=>exact⟨0,rfl,Nat.zero_le _,lH (by simp)⟩
 case round=>
  obtain⟨m,rfl,hmk,HN⟩:=hrel
  by_cases hlt:m<k
  ·obtain⟨y,hy⟩: ∃y,l[m]?=some y:=⟨l[m]'(by omega),List.getElem?_eq_getElem (by omega)⟩
   have yc:=HC.out m y hy
   have HT:=lH (show(l.take (m+1)).contains x=(x==y) by
    rw[List.take_add_one,hy,Bool.eq_iff_iff,List.contains_iff_mem]
    have hn:=HN.out
    simp at hn
    simp[hn])
   have HY:=lH hy
   clear hy
   by_cases e:y=x
   ·subst e
    have HR:=lH (show POST=true by
     rw[←HP.out,List.contains_iff_mem]
     have h1:y∈l.take (m+1):=by rw[List.take_add_one,HY.out];simp
     exact List.take_subset_take_left l (by omega) h1)
    go_wp2_with fail
    go_ret
    exact⟨zAg HR.out.symm,rfl⟩
   have q1:(y==x)=false:=beq_eq_false_iff_ne.2 e
   have HN2:=lH (show(l.take (m+1)).contains x=false by rw[HT.out];exact beq_eq_false_iff_ne.2 (fun g=>e g.symm))
   clear HT e
   go_wp2_with fail
   go_round
   case rel=>exact⟨m+1,by go_num,by omega,HN2⟩
   case measure=>simp[intOf];omega
  obtain rfl:m=k:=by omega
  go_wp2_with fail
  go_ret
  exact⟨zAg (by rw[←HP.out,HN.out]),rfl⟩
theorem zEK (l:List (List UInt8)) (V:Value) (x:List UInt8) (w:World) (h:StrsAt w V l):
  Calls Tryz.prog 38 #[V,.string ⟨x.toArray⟩] w fun e w'=>e= .returned (.bool (l.contains x))∧w=w':=by
 rcases h with⟨rfl,a,cap,rfl⟩|⟨b,off,cap,rfl,_,h3,h4,h5⟩
 ·simp only[List.contains_nil]
  go_enter Tryz.func38,Tryz.ntmps38
  go_wp2_with fail
  go_loop [5] (fun i=>i= .int .i64 0) (fun _=>0)
  case atStart=>exact rfl
  case round=>
   obtain rfl:=hrel
   go_wp2_with fail
   go_ret
   exact⟨rfl,rfl⟩
 have:=zMj l b off l.length cap x w (Nat.le_refl _) h3 h4 h5
 rw[List.take_length] at this
 exact this
open Go.RowKit

theorem zJw (x:Ms.Nd) {a:Option Addr} {n c:Nat} (A:Option Addr) (i C:Nat) (prev:Option Int) (mark:Bool) (w:World) (ht:x.text.length≤2000000) (hC:i≤C) (hC2:C≤9223372036854775807)
  (hp:(i=0∧prev=none)∨ ∃b off q,A=some ⟨b,off,none⟩∧prev=some q∧0<i∧w.cell? ⟨b,off+(i-1)*4,none⟩=some (.int .i64 q)):
  Calls Tryz.prog 63 #[.agg #[.int .i64 x.kind,.string ⟨x.text.toArray⟩,.int .i64 x.off,.slice a n c],.slice A i C,.bool mark] w fun e w'=>e= .returned (.bool (Ms.fineB x prev mark))∧Below w.heap.size w w':=by
 have CN:=lH fun wx=>zC5 x.text wx (by omega)
 unfold Ms.fineB
 generalize x.kind=K at*
 generalize x.off=O at*
 generalize Ms.nameB x.text=NB at*
 generalize x.text=T at*
 have W0:=lH (bA w (.cells #[.int .i64 K,.string ⟨T.toArray⟩,.int .i64 O,.slice a n c] 51))
 by_cases k1:K=1
 ·subst k1
  rw[if_pos rfl]
  clear CN
  cases T with
  |nil=>
   go_enter Tryz.func63,Tryz.ntmps63
   go_wp2_with fail
   go_ret
   exact⟨zAg (by simp),W0.out⟩
  |cons t0 tr=>
   have e1:(t0::tr).isEmpty=false:=rfl
   have e2:((t0::tr)== [])=false:=rfl
   generalize t0::tr=T at*
   rcases hp with⟨rfl,rfl⟩|⟨b,off,q,rfl,rfl,hi,hc⟩
   ·go_enter Tryz.func63,Tryz.ntmps63
    go_wp2_with fail
    go_ret
    exact⟨zAg (by rw[e1];rfl),W0.out⟩
   have b0:((i:Int)==0)=false:=zAe (by omega)
   obtain⟨j,hj⟩: ∃j,j=i-1:=⟨_,rfl⟩
   rw[←hj] at hc
   have hc2:=cK hc W0.out
   have wj:IntKind.i64.wrap ((i:Int)-1)=(j:Int):=by rw[IntWalk.i64_in _ (by omega)];omega
   have ej:(i:Int)-1=(j:Int):=by omega
   have hlt:(j:Int)<(i:Int):=by omega
   have hlt2:j<i:=by omega
   clear hj hi hc
   by_cases hq:q=1
   ·subst hq
    go_enter Tryz.func63,Tryz.ntmps63
    go_wp2_with fail
    go_ret
    exact⟨zAg (by rw[e1];rfl),W0.out⟩
   have q1:(q==1)=false:=zAe hq
   have q2:(q !=1)=true:=by rw[bne,q1];rfl
   have q3:((some q:Option Int)==some 1)=false:=by simpa using hq
   clear hq
   go_enter Tryz.func63,Tryz.ntmps63
   go_wp2_with fail
   go_ret
   exact⟨zAg (by rw[e1,q3];rfl),W0.out⟩
 have b1:(K==1)=false:=zAe k1
 rw[if_neg k1]
 clear hp
 by_cases k2:K=2
 ·subst k2
  rw[if_pos (.inl rfl)]
  clear k1 b1
  go_enter Tryz.func63,Tryz.ntmps63
  go_wp2_with fail
  refine(CN.out _).mono ?_
  rintro e w1 ⟨rfl,hb⟩
  go_wp2_with fail
  go_ret
  exact⟨rfl,bT W0.out hb⟩
 have b2:(K==2)=false:=zAe k2
 by_cases k3:K=3
 ·subst k3
  rw[if_pos (.inr (.inl rfl))]
  clear k1 b1 b2 k2
  go_enter Tryz.func63,Tryz.ntmps63
  go_wp2_with fail
  refine(CN.out _).mono ?_
  rintro e w1 ⟨rfl,hb⟩
  go_wp2_with fail
  go_ret
  exact⟨rfl,bT W0.out hb⟩
 have b3:(K==3)=false:=zAe k3
 by_cases k4:K=4
 ·subst k4
  rw[if_pos (.inr (.inr (.inl rfl)))]
  clear k1 b1 b2 k2 b3 k3
  go_enter Tryz.func63,Tryz.ntmps63
  go_wp2_with fail
  refine(CN.out _).mono ?_
  rintro e w1 ⟨rfl,hb⟩
  go_wp2_with fail
  go_ret
  exact⟨rfl,bT W0.out hb⟩
 have b4:(K==4)=false:=zAe k4
 by_cases k5:K=5
 ·subst k5
  rw[if_pos (.inr (.inr (.inr rfl)))]
  clear k1 b1 b2 k2 b3 k3 b4 k4
  go_enter Tryz.func63,Tryz.ntmps63
  go_wp2_with fail
  refine(CN.out _).mono ?_
  rintro e w1 ⟨rfl,hb⟩
  go_wp2_with fail
  go_ret
  exact⟨rfl,bT W0.out hb⟩
 have b5:(K==5)=false:=zAe k5
 rw[if_neg (by omega)]
 clear CN
 by_cases k6:K=6
 ·subst k6
  clear k1 k2 k3 k4 k5 b1 b2 b3 b4 b5
  go_enter Tryz.func63,Tryz.ntmps63
  go_wp2_with fail
  go_ret
  exact⟨zAg (by simp),W0.out⟩
 have b6:(K==6)=false:=zAe k6
 rw[decide_eq_false k6,Bool.false_and]
 clear k1 k2 k3 k4 k5 k6
 go_enter Tryz.func63,Tryz.ntmps63
 go_wp2_with fail
 go_ret
 exact⟨rfl,W0.out⟩

theorem zKL (w:World):Calls Tryz.prog 67 #[] w fun e w'=> ∃V,e= .returned V∧StrsAt w' V Ms.five∧Below w.heap.size w w':=by
 go_enter Tryz.func67,Tryz.ntmps67
 go_wp2_with fail
 go_ret
 refine⟨_,rfl,.inr ⟨w.heap.size,0,5,rfl,by decide,by decide,by decide,fun j x hx=>?_⟩,bA _ _⟩
 match j,hx with
 |0,hx=>cases hx;simp[go_sem]
 |1,hx=>cases hx;simp[go_sem]
 |2,hx=>cases hx;simp[go_sem]
 |3,hx=>cases hx;simp[go_sem]
 |4,hx=>cases hx;simp[go_sem]

theorem zKM (x:Ms.Nd) {a:Option Addr} {n c:Nat} (k:List UInt8) (w:World) (hk:k.length≤2000000):
  Calls Tryz.prog 37 #[.agg #[.int .i64 x.kind,.string ⟨x.text.toArray⟩,.int .i64 x.off,.slice a n c],.string ⟨k.toArray⟩] w fun e w'=>e= .returned (.bool (!Ms.keyB x k))∧Below w.heap.size w w':=by
 have CN:=lH fun wx=>zC6 k wx (by omega)
 have CX:=lH fun wx=>zEa k wx (by omega)
 have CI:=lH fun V wx (h:StrsAt wx V Ms.five)=>zEK Ms.five V k wx h
 unfold Ms.keyB
 generalize x.kind=K at*
 generalize x.off=O at*
 generalize x.text=T at*
 generalize Ms.nameB k=NB at*
 generalize Ms.exV k=EX at*
 generalize Ms.five.contains k=FB at*
 have W0:=lH (bA w (.cells #[.int .i64 K,.string ⟨T.toArray⟩,.int .i64 O,.slice a n c] 51))
 by_cases k5:K=5
 ·subst k5
  rw[if_pos rfl]
  go_enter Tryz.func37,Tryz.ntmps37
  go_wp2_with fail
  refine(CN.out _).mono ?_
  rintro e w1 ⟨rfl,hb⟩
  go_wp2_with fail
  go_ret
  exact⟨rfl,bT W0.out hb⟩
 have b5:(K==5)=false:=zAe k5
 rw[if_neg k5]
 by_cases ho:k=Ms.other
 ·subst ho
  unfold Ms.other at*
  clear CN CX CI
  go_enter Tryz.func37,Tryz.ntmps37
  go_wp2_with fail
  go_ret
  exact⟨zAg (by simp),W0.out⟩
 have o0:(k==Ms.other)=false:=beq_eq_false_iff_ne.2 ho
 have o1:(k== [111,116,104,101,114])=false:=o0
 have o2:(k != [111,116,104,101,114])=true:=by rw[bne,o1];rfl
 rw[o0]
 clear o0 ho CN k5
 go_enter Tryz.func37,Tryz.ntmps37
 go_wp2_with fail
 refine(zKL _).mono ?_
 rintro e w1 ⟨V,rfl,hV,hb⟩
 have W1:=lH (bT W0.out hb)
 clear hb
 obtain⟨va,vn,vc,rfl⟩: ∃a n c,V= .slice a n c:=by
  rcases hV with⟨_,a,cap,e⟩|⟨b,off,cap,e,_⟩
  ·exact⟨_,_,_,e⟩
  exact⟨_,_,_,e⟩
 go_wp2_with fail
 refine(CI.out _ _ hV).mono ?_
 rintro e w' ⟨rfl,rfl⟩
 clear hV CI
 cases FB with
 |true=>
  go_wp2_with fail
  go_ret
  exact⟨zAg (by simp),W1.out⟩
 |false=>
  go_wp2_with fail
  refine(CX.out _).mono ?_
  rintro e w2 ⟨rfl,hb⟩
  go_wp2_with fail
  go_ret
  exact⟨zAg (by rw[Bool.eq_iff_iff];simp),bT W1.out hb⟩
open Go.RowKit
namespace Ms
def six:List (List UInt8):=five++ [other]
end Ms
def KdW (w:World):Prop:= ∃a n c,w.cell? ⟨4,0,none⟩=some (.slice a n c)∧StrsAt w (.slice a n c) Ms.six
theorem KdW.below {w w':World} (h:KdW w) (hb:Below w.heap.size w w'):KdW w':=by
 obtain⟨a,n,c,h1,h2⟩:=h
 exact⟨a,n,c,cK h1 hb,h2.below hb⟩
structure MW (w:World):Prop where
 p:PowW w
 n:NumW w
 k:KdW w
theorem MW.below {w w':World} (h:MW w) (hb:Below w.heap.size w w'):MW w':=⟨h.p.below hb,h.n.below hb,h.k.below hb⟩

theorem zKN (x:Ms.Nd) {a:Option Addr} {n c:Nat} (k:List UInt8) (w:World) (hw:MW w) (hk:k.length≤2000000):
  Calls Tryz.prog 107 #[.agg #[.int .i64 x.kind,.string ⟨x.text.toArray⟩,.int .i64 x.off,.slice a n c],.string ⟨k.toArray⟩] w fun e w'=>e= .returned (.bool (Ms.keyB x k))∧Below w.heap.size w w':=by
 have CN:=lH fun wx=>zC5 k wx (by omega)
 have CX:=lH fun (wx:World) (hb:Below w.heap.size w wx)=>zE5 k wx (hw.p.below hb) (hw.n.below hb) (by omega)
 obtain⟨ka,kn,kc,hkc,hks⟩:=hw.k
 have CI:=lH fun (wx:World) (hb:Below w.heap.size w wx)=>zC3 Ms.six (.slice ka kn kc) k wx (hks.below hb)
 have e6:Ms.six.contains k=(Ms.five.contains k||k==Ms.other):=by rw[Bool.eq_iff_iff];simp[Ms.six]
 rw[e6] at CI
 unfold Ms.keyB
 generalize x.kind=K at*
 generalize x.off=O at*
 generalize x.text=T at*
 generalize Ms.nameB k=NB at*
 generalize Ms.exV k=EX at*
 generalize (Ms.five.contains k||k==Ms.other)=FB at*
 have W0:=lH (bA w (.cells #[.int .i64 K,.string ⟨T.toArray⟩,.int .i64 O,.slice a n c] 51))
 have hkc2:=cK hkc W0.out
 clear e6 hks hw hkc
 by_cases k5:K=5
 ·subst k5
  rw[if_pos rfl]
  go_enter Tryz.func107,Tryz.ntmps107
  go_wp2_with fail
  refine(CN.out _).mono ?_
  rintro e w1 ⟨rfl,hb⟩
  go_wp2_with fail
  go_ret
  exact⟨rfl,bT W0.out hb⟩
 have b5:(K==5)=false:=zAe k5
 rw[if_neg k5]
 clear CN k5
 cases FB with
 |true=>
  go_enter Tryz.func107,Tryz.ntmps107
  go_wp2_with fail
  refine(CI.out _ W0.out).mono ?_
  rintro e w' ⟨rfl,rfl⟩
  go_wp2_with fail
  go_ret
  exact⟨zAg (by simp),W0.out⟩
 |false=>
  go_enter Tryz.func107,Tryz.ntmps107
  go_wp2_with fail
  refine(CI.out _ W0.out).mono ?_
  rintro e w' ⟨rfl,rfl⟩
  go_wp2_with fail
  refine(CX.out _ W0.out).mono ?_
  rintro e w2 ⟨rfl,hb⟩
  go_wp2_with fail
  go_ret
  exact⟨zAg (by simp),bT W0.out hb⟩
open Go.RowKit
theorem infoStrM:(Tryz.prog.info? 9).map (fun i=>(i.zero,i.size,i.bytes))=some (some (.string ByteArray.empty),1,16):=by kernel_rfl
theorem zGk {w w':World} (hb:Below w.heap.size w w') (row:Option Nat):w.grownBy w' row:=
 ⟨hb.os,hb.tape,hb.output,hb.size,fun k hk _=>hb.block k hk⟩
theorem zAq {w w':World} {base n k:Nat} {e:TypeId} {v:Value} {xs:List Value} (h:w.ownsRow base e k v n xs) (hb:Below w.heap.size w w'):w'.ownsRow base e k v n xs:=
 h.kept (zGk hb none) (by cases v.ownBlock<;>simp)
theorem zA7 {A C:World} {r:Option Nat} {p:Nat} {vs:Array Value} (h:Boxed A p vs) (g:A.grownBy C r) (hr:some p≠r):Boxed C p vs:=
 ⟨Nat.lt_of_lt_of_le h.lt g.size,fun j v hv=>g.cell (h.cell j v hv) hr,fun j hj=>(World.frozen?_of_block (g.block p h.lt hr)).trans (h.free j hj)⟩
theorem zAw {w:World} {base n k:Nat} {e:TypeId} {v:Value} {xs:List Value} (h:w.ownsRow base e k v n xs): ∃a c,v= .slice a n c:=by
 rcases h.2 with⟨rfl,rfl⟩|⟨g,cap,cur,rfl,_⟩
 ·exact⟨_,_,rfl⟩
 exact⟨_,_,rfl⟩
def ChkOf (f:Nat) (w0:World):Prop:= ∀(v:Value) (m:List Ms.Nd) (mark:Bool) (w:World),Below w0.heap.size w0 w→Ms.MsgAt f w v m→m.length≤2000000→
  Calls Tryz.prog 33 #[v,.bool mark] w fun e w'=>e= .returned (errN (Ms.chk f mark m))∧Below w.heap.size w w'

theorem zMk (f:Nat) (x:Ms.Nd) {a:Option Addr} {n c:Nat} (mark:Bool) (w:World) (hw:MW w) (hG:ChkOf f w) (h:Ms.CassAt f w (.slice a n c) x.cases) (hl:x.cases.length≤2000000):
  Calls Tryz.prog 64 #[.agg #[.int .i64 x.kind,.string ⟨x.text.toArray⟩,.int .i64 x.off,.slice a n c],.bool mark] w fun e w'=>e= .returned (errN (Ms.csE (Ms.chk f) x mark [] x.cases))∧Below w.heap.size w w':=by
 obtain⟨i0,hi,hz0,hz1,hz2⟩:=info_parts infoStrM
 obtain⟨A0,C0,e0,_,hel⟩:=h.spread
 injection e0 with e1 e2 e3
 subst e1 e2 e3
 have hcap:x.cases.length≤c∨x.cases.length=0:=by
  rcases h with⟨e,_⟩|⟨_,_,_,e,_,q,_,_⟩
  ·exact .inr (by rw[e];rfl)
  injection e with _ _ e;exact .inl (by omega)
 have HEL:=lH fun (k:Nat) y (hk:x.cases[k]?=some y) (wx:World) (hb:Below w.heap.size w wx)=>(show ∃bb oo,a=some ⟨bb,oo,none⟩∧Ms.CsC f wx bb (oo+k*2) y from by
  obtain⟨bb,oo,e,q⟩:=hel k y hk
  exact⟨bb,oo,e,q.below hb⟩)
 clear hel h
 obtain⟨RES,hRES⟩: ∃RES,RES=Ms.csE (Ms.chk f) x mark [] x.cases:=⟨_,rfl⟩
 rw[←hRES]
 have HRES:=lH hRES.symm
 clear hRES
 have CK:=lH fun (k:List UInt8) (hk:k.length≤2000000) (wx:World) (hb:Below w.heap.size w wx)=>zKN x (a:=a) (n:=x.cases.length) (c:=c) k wx (hw.below hb) hk
 have CC:=lH fun (l:List (List UInt8)) V k (wx:World) (hs:StrsAt wx V l)=>zC3 l V k wx hs
 have CG:=lH hG
 generalize hcs:x.cases=cs at*
 generalize hlc:cs.length=LC at*
 have bx:=Boxed.made w #[.int .i64 x.kind,.string ⟨x.text.toArray⟩,.int .i64 x.off,.slice a LC c] 51
 have W0:=lH (bA w (.cells #[.int .i64 x.kind,.string ⟨x.text.toArray⟩,.int .i64 x.off,.slice a LC c] 51))
 have BX0:=lH bx
 clear bx hw hG
 go_enter Tryz.func64,Tryz.ntmps64
 go_wp2_with fail
 generalize hw1:w.alloc (.cells #[.int .i64 x.kind,.string ⟨x.text.toArray⟩,.int .i64 x.off,.slice a LC c] 51)=w1 at*
 have hs1:w1.heap.size=w.heap.size+1:=by rw[←hw1];simp
 clear hw1
 go_loopw [5,12] (fun vs vk wr=> ∃(k:Nat) (seen:List (List UInt8)),vk= .int .i64 (k:Int)∧k≤LC∧seen.length=k∧Hid (wr.ownsRow w1.heap.size 9 1 vs seen.length (seen.map txtV))∧Hid (Ms.csE (Ms.chk f) x mark seen (cs.drop k)=RES)∧Hid (Below w1.heap.size w1 wr)) (fun _ vk _=>LC-(intOf vk).toNat)
 case atStart=>exact⟨0,[],rfl,Nat.zero_le _,rfl,lH ⟨rfl,.inl ⟨rfl,rfl⟩⟩,HRES,lH (Below.refl _ _)⟩
 case round=>
  obtain⟨k,seen,rfl,hk,hsl,HO,HL,HB⟩:=hrel
  have HSL:=lH hsl
  have hsl2:seen.length≤LC:=by omega
  clear HRES hsl
  have WB:=lH (bT W0.out HB.out)
  have BX:=lH (BX0.out.below HB.out)
  have sz1:=HB.out.size
  obtain⟨va,vc,rfl⟩:=zAw HO.out
  have hx0:=BX.out.cell 0 _ rfl
  have hx1:=BX.out.cell 1 _ rfl
  have hx2:=BX.out.cell 2 _ rfl
  have hx3:=BX.out.cell 3 _ rfl
  have hxl:=BX.out.lt
  by_cases hlt:k<LC
  ·have hk':(k:Int)<(LC:Int):=by omega
   obtain⟨y,hy⟩: ∃y,cs[k]?=some y:=⟨cs[k]'(by omega),List.getElem?_eq_getElem (by omega)⟩
   obtain⟨bb,oo,rfl,a9,n9,c9,p0,p1,q2,q3,q4⟩:=HEL.out k y hy w (Below.refl _ _)
   have q0:=cK p0 WB.out
   have q1:=cK p1 WB.out
   clear p0 p1
   have lb:=World.block_lt_of_cell? _ _ q0
   have hcc:LC≤c:=by omega
   have hst:=HL.out
   rw[show cs.drop k=y::cs.drop (k+1) from by
    obtain⟨hi',e⟩:=List.getElem?_eq_some_iff.1 hy
    rw[List.drop_eq_getElem_cons hi',e]] at hst
   unfold Ms.csE at hst
   have wk:IntKind.i64.wrap ((k:Int)+1)=(k:Int)+1:=IntWalk.i64_in _ (by omega)
   have BY:=lH (Boxed.made wr #[.string ⟨y.1.toArray⟩,.slice a9 n9 c9] 53)
   have XB:=lH (bA wr (.cells #[.string ⟨y.1.toArray⟩,.slice a9 n9 c9] 53))
   have CKh:=lH (CK.out y.1 q3)
   have HQ2:=lH q2
   clear HL q2 hy
   generalize hKB:Ms.keyB x y.1=KB at*
   clear hKB
   go_wp2_with fail
   refine(CKh.out _ (bT WB.out XB.out)).mono ?_
   rintro e w2 ⟨rfl,hb⟩
   have B2:=lH (bT XB.out hb)
   have BY2:=lH (BY.out.below hb)
   clear hb CKh BY XB hx0 hx1 hx2 hx3 hxl
   have BX2:=lH (BX.out.below B2.out)
   have hx0:=BX2.out.cell 0 _ rfl
   have hx1:=BX2.out.cell 1 _ rfl
   have hx2:=BX2.out.cell 2 _ rfl
   have hx3:=BX2.out.cell 3 _ rfl
   have hxl:=BX2.out.lt
   have hy0:=BY2.out.cell 0 _ rfl
   have hy1:=BY2.out.cell 1 _ rfl
   have hyl:=BY2.out.lt
   cases KB with
   |false=>
    simp only[Bool.not_false,if_true] at hst
    subst hst
    clear CK CC CG HEL
    go_wp2_with fail
    go_ret
    exact⟨rfl,bT WB.out B2.out⟩
   |true=>
    rw[if_neg (by simp)] at hst
    have HO2:=lH (zAq HO.out B2.out)
    have CCh:=lH (CC.out seen (.slice va seen.length vc) y.1 w2 (StrsAt.of_row HO2.out))
    generalize hSC:seen.contains y.1=SC at*
    clear hSC
    go_wp2_with fail
    refine CCh.out.mono ?_
    rintro e w' ⟨rfl,rfl⟩
    clear CCh CC
    cases SC with
    |true=>
     simp only[if_true] at hst
     subst hst
     clear CK CG HEL
     go_wp2_with fail
     go_ret
     exact⟨rfl,bT WB.out B2.out⟩
    |false=>
     rw[if_neg (by simp)] at hst
     obtain⟨MK,hMK⟩: ∃MK,(mark||decide (x.kind=4))=MK:=⟨_,rfl⟩
     rw[hMK] at hst
     have HM:=lH (show(mark=true→MK=true)∧(mark=false→(x.kind==4)=MK) from by
      rw[←hMK]
      refine⟨fun e=>by rw[e];rfl,fun e=>?_⟩
      rw[e,Bool.false_or,Bool.eq_iff_iff];simp)
     have CGh:=lH fun w3 (hb:Below w.heap.size w w3)=>CG.out (.slice a9 n9 c9) y.2 MK w3 hb (Ms.zAi HQ2.out hb) q4
     have HST:=lH hst
     clear hst hMK
     generalize Ms.chk f MK y.2=EE at*
     have hown:=HO2.out
     have szB:=B2.out.size
     have nyb:some wr.heap.size≠(Value.slice va seen.length vc).ownBlock:=fun e=>by have:=(HO.out.lt wr.heap.size e.symm).2;omega
     have nxb:some w.heap.size≠(Value.slice va seen.length vc).ownBlock:=fun e=>by have:=(HO.out.lt w.heap.size e.symm).1;omega
     cases mark with
     |true=>
      obtain rfl:=HM.out.1 rfl
      go_wp2_with (at_builtin;refine wpList_append_own_at _ rfl _ _ 97 rfl w1.heap.size 9 i0 (.string ByteArray.empty) 1 16 Tryz.underlying97 hi hz0 hz1 hz2 rfl (by decide) _ _ _ rfl (hown.alloc _) ⟨w2.heap.size,0,none⟩ 1 1 [txtV y.1] rfl rfl (cell_one_new _ _ _) (fun u hu=>by simp at hu;subst hu;rfl) (by unfold maxLen;omega) (by omega) (by simp;omega) ?_;intro v' w3 hown' hgrow _ _;have HO3:=lH (show w3.ownsRow w1.heap.size 9 1 v' (seen++ [y.1]).length ((seen++ [y.1]).map txtV) by simpa using hown');have HB3:=lH (show Below w1.heap.size w1 w3 from((bT HB.out B2.out).alloc (by omega) _).grown hgrow (by simp;omega) (fun k hk=>(hown.lt k hk).1));have BX3:=lH (zA7 (BX2.out.alloc _) hgrow nxb);have BY3:=lH (zA7 (BY2.out.alloc _) hgrow nyb);clear hown hown' hgrow nyb nxb HO HO2 B2 BX2 BY2 BX hx0 hx1 hx2 hx3 hxl hy0 hy1 hyl HB;obtain⟨va',vc',rfl⟩:=zAw HO3.out;have hx0:=BX3.out.cell 0 _ rfl;have hxl:=BX3.out.lt;have hy0:=BY3.out.cell 0 _ rfl;have hy1:=BY3.out.cell 1 _ rfl;have hyl:=BY3.out.lt)
      refine(CGh.out _ (bT W0.out HB3.out)).mono ?_
      rintro e w4 ⟨rfl,hb⟩
      have HB4:=lH (bT HB3.out hb)
      have HO4:=lH (zAq HO3.out hb)
      clear hb CGh
      have hst:=HST.out
      by_cases hE:EE=0
      ·subst hE
       rw[if_neg (by simp)] at hst
       have HST2:=lH hst
       clear hst HST
       rw[show errN 0= .nilIface from rfl]
       go_wp2_with fail
       go_roundw
       case rel=>exact⟨k+1,seen++ [y.1],by go_num,by omega,by rw[List.length_append,HSL.out];rfl,by simpa using HO4,HST2,HB4⟩
       case measure=>simp[intOf];omega
      rw[if_pos hE] at hst
      subst hst
      have hEV:errN EE=errV EE:=if_neg hE
      rw[hEV]
      go_wp2_with fail
      go_ret
      exact⟨by first|(rw[hEV];done)|(rw[hEV];rfl),bT W0.out HB4.out⟩
     |false=>
      have e4:=HM.out.2 rfl
      go_wp2_with (at_builtin;refine wpList_append_own_at _ rfl _ _ 97 rfl w1.heap.size 9 i0 (.string ByteArray.empty) 1 16 Tryz.underlying97 hi hz0 hz1 hz2 rfl (by decide) _ _ _ rfl (hown.alloc _) ⟨w2.heap.size,0,none⟩ 1 1 [txtV y.1] rfl rfl (cell_one_new _ _ _) (fun u hu=>by simp at hu;subst hu;rfl) (by unfold maxLen;omega) (by omega) (by simp;omega) ?_;intro v' w3 hown' hgrow _ _;have HO3:=lH (show w3.ownsRow w1.heap.size 9 1 v' (seen++ [y.1]).length ((seen++ [y.1]).map txtV) by simpa using hown');have HB3:=lH (show Below w1.heap.size w1 w3 from((bT HB.out B2.out).alloc (by omega) _).grown hgrow (by simp;omega) (fun k hk=>(hown.lt k hk).1));have BX3:=lH (zA7 (BX2.out.alloc _) hgrow nxb);have BY3:=lH (zA7 (BY2.out.alloc _) hgrow nyb);clear hown hown' hgrow nyb nxb HO HO2 B2 BX2 BY2 BX hx0 hx1 hx2 hx3 hxl hy0 hy1 hyl HB;obtain⟨va',vc',rfl⟩:=zAw HO3.out;have hx0:=BX3.out.cell 0 _ rfl;have hxl:=BX3.out.lt;have hy0:=BY3.out.cell 0 _ rfl;have hy1:=BY3.out.cell 1 _ rfl;have hyl:=BY3.out.lt)
      refine(CGh.out _ (bT W0.out HB3.out)).mono ?_
      rintro e w4 ⟨rfl,hb⟩
      have HB4:=lH (bT HB3.out hb)
      have HO4:=lH (zAq HO3.out hb)
      clear hb CGh
      have hst:=HST.out
      by_cases hE:EE=0
      ·subst hE
       rw[if_neg (by simp)] at hst
       have HST2:=lH hst
       clear hst HST
       rw[show errN 0= .nilIface from rfl]
       go_wp2_with fail
       go_roundw
       case rel=>exact⟨k+1,seen++ [y.1],by go_num,by omega,by rw[List.length_append,HSL.out];rfl,by simpa using HO4,HST2,HB4⟩
       case measure=>simp[intOf];omega
      rw[if_pos hE] at hst
      subst hst
      have hEV:errN EE=errV EE:=if_neg hE
      rw[hEV]
      go_wp2_with fail
      go_ret
      exact⟨by first|(rw[hEV];done)|(rw[hEV];rfl),bT W0.out HB4.out⟩
  have hk': ¬(k:Int)<(LC:Int):=by omega
  have hst:=HL.out
  rw[List.drop_of_length_le (by omega)] at hst
  unfold Ms.csE at hst
  have CCh:=lH (CC.out seen (.slice va seen.length vc) Ms.other wr (StrsAt.of_row HO.out))
  clear CK CC CG HEL HL HO
  unfold Ms.other at CCh
  generalize hSO:seen.contains Ms.other=SO at*
  have e5:seen.contains [111,116,104,101,114]=SO:=hSO
  rw[e5] at CCh
  clear hSO e5
  go_wp2_with fail
  refine CCh.out.mono ?_
  rintro e w' ⟨rfl,rfl⟩
  cases SO with
  |true=>
   simp only[if_true] at hst
   subst hst
   go_wp2_with fail
   go_ret
   exact⟨rfl,WB.out⟩
  |false=>
   rw[if_neg (by simp)] at hst
   subst hst
   go_wp2_with fail
   go_ret
   exact⟨rfl,WB.out⟩
end Go.Proofs.YtjlchookakbomaaGreatDoor
