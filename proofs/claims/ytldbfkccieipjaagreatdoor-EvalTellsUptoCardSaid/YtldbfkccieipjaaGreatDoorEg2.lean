/- The walk of linguisterref1.RelOf: what the reference reads of a relation's text. Condition: the text is short. -/
import Derived.Test.YtldbfkccieipjaaGreatDoorEh
import Derived.Test.YtldbfkccieipjaaGreatDoorEg1
import Derived.Test.YtldbfkccieipjaaGreatDoorEf7
import Derived.Test.YtldbfkccieipjaaGreatDoorEf4
import Derived.Deep.DeepCutAuto
import Derived.Deep.CutRange
namespace Go.Proofs.YtldbfkccieipjaaGreatDoor
set_option maxRecDepth 100000
open Go.RowKit

attribute [local go_sem] Oper.semAt_some

theorem grown_two {A C:World} {r:Option Nat} {g i j:Nat} {u v:Value} (h:A.grownBy C r) (h1:A.cell? ⟨g,i,none⟩=some u) (h2:A.cell? ⟨g,j,none⟩=some v) (hr: ∀k,r=some k→k<g):
  C.cell? ⟨g,i,none⟩=some u∧C.cell? ⟨g,j,none⟩=some v:=
 ⟨h.cell h1 (fun e=>by have:=hr g e.symm;omega),h.cell h2 (fun e=>by have:=hr g e.symm;omega)⟩
theorem store_two {A:World} {g p i j k:Nat} {u v x:Value} (hg:g≠p) (h1:A.cell? ⟨g,i,none⟩=some u) (h2:A.cell? ⟨g,j,none⟩=some v):
  (A.setCell ⟨p,k,none⟩ x).cell? ⟨g,i,none⟩=some u∧(A.setCell ⟨p,k,none⟩ x).cell? ⟨g,j,none⟩=some v:=
 ⟨(World.cell?_setCell_other _ _ _ _ (fun e=>hg (by injection e with e;exact e.symm))).trans h1,(World.cell?_setCell_other _ _ _ _ (fun e=>hg (by injection e with e;exact e.symm))).trans h2⟩

set_option maxHeartbeats 8000000 in
theorem relof_any (s:List UInt8) (w:World) (hs:s.length≤100000000):
  Calls Tryz.prog 182 #[.string ⟨s.toArray⟩] w fun e w'=> ∃a n c,e= .returned (.agg #[.int .u8 ((Rul.relQ s).op.toNat:Int),.int .i64 (Rul.relQ s).mod,.bool (Rul.relQ s).no,.slice a n c])∧SlAt 2 RngC w' (.slice a n c) (Rul.relQ s).rs∧(∀b,(Value.slice a n c).ownBlock=some b→w.heap.size≤b)∧Below w.heap.size w w':=by
 have CW:=lH fun w=>cut_own s [32] w (by simp) (by omega) (by simp)
 have hsl:=Rul.split_short (s:=s) (sub:= [32]) (by simp)
 have HPL:=lH fun x (hx:x∈Lib.split s [32])=>piece_le hx
 have hR:Rul.relQ s=Rul.wordsQ (Lib.split s [32]):=rfl
 rw[hR]
 clear hR
 generalize Lib.split s [32]=L at*
 generalize hRQ:Rul.wordsQ L=RQ at*
 have HRQ:=lH hRQ
 clear hRQ
 go_enter Tryz.func182,Tryz.ntmps182
 go_wp2_with fail
 refine(CW.out _).mono ?_
 rintro e w1 ⟨v3,rfl,hown,hb⟩
 have W1:=lH (bT (bA w (.cells #[.int .u8 0,.int .i64 0,.bool false,.slice none 0 0] 143)) hb)
 have B1:=lH ((Boxed.made w #[.int .u8 0,.int .i64 0,.bool false,.slice none 0 0] 143).below hb)
 have hz1:w.heap.size<w1.heap.size:=by have:=hb.size;simp at this;omega
 obtain⟨w2,hw2⟩: ∃w2,w1.alloc (.cells #[.int .u8 0,.int .i64 0,.bool false,.slice none 0 0] 143)=w2:=⟨_,rfl⟩
 have W2:=lH (show Below w.heap.size w w2 by rw[←hw2];exact bT W1.out (bA _ _))
 have B2:=lH (show Boxed w2 w.heap.size _ by rw[←hw2];exact B1.out.alloc _)
 have A2:=lH (show Boxed w2 w1.heap.size _ by rw[←hw2];exact Boxed.made w1 #[.int .u8 0,.int .i64 0,.bool false,.slice none 0 0] 143)
 have O2:=lH (show w2.ownsRow _ _ _ _ _ _ by rw[←hw2];exact hown.alloc (.cells #[.int .u8 0,.int .i64 0,.bool false,.slice none 0 0] 143))
 have hgl:=fun g h=>(hown.lt g h).2
 clear hown hb W1 B1 CW
 by_cases h3:L.length<3
 ·obtain⟨a3,c3,rfl⟩:=row_any O2.out
  have d3:decide ((L.length:Int)<3)=true:=dec_yes (by omega)
  obtain rfl:RQ=⟨0,0,false,[]⟩:=by rw[←HRQ.out];exact words_short h3
  clear h3 O2 hgl HPL hsl
  have k0:=A2.out.cell 0 _ rfl
  have k1:=A2.out.cell 1 _ rfl
  have k2:=A2.out.cell 2 _ rfl
  have k3:=A2.out.cell 3 _ rfl
  have q0:=B2.out.free 0 (by show 0<4;omega)
  have q1:=B2.out.free 1 (by show 1<4;omega)
  have q2:=B2.out.free 2 (by show 2<4;omega)
  have q3:=B2.out.free 3 (by show 3<4;omega)
  have c0:=B2.out.cell 0 _ rfl
  have c1:=B2.out.cell 1 _ rfl
  have c2:=B2.out.cell 2 _ rfl
  have c3:=B2.out.cell 3 _ rfl
  have s0:=B2.out.lt
  have s1:=A2.out.lt
  go_wp2_with fail
  have BD:=lH ((((B2.out.set 0 (.int .u8 0) (by show 0<4;omega)).set 1 (.int .i64 0) (by show 1<4;omega)).set 2 (.bool false) (by show 2<4;omega)).set 3 (.slice none 0 0) (by show 3<4;omega))
  have WD:=lH (show Below w.heap.size w ((((w2.setCell ⟨w.heap.size,0,none⟩ (.int .u8 0)).setCell ⟨w.heap.size,1,none⟩ (.int .i64 0)).setCell ⟨w.heap.size,2,none⟩ (.bool false)).setCell ⟨w.heap.size,3,none⟩ (.slice none 0 0)) from((((W2.out.setCell (p:=⟨w.heap.size,0,none⟩) (Nat.le_refl _) (.int .u8 0)).setCell (p:=⟨w.heap.size,1,none⟩) (Nat.le_refl _) (.int .i64 0)).setCell (p:=⟨w.heap.size,2,none⟩) (Nat.le_refl _) (.bool false)).setCell (p:=⟨w.heap.size,3,none⟩) (Nat.le_refl _) (.slice none 0 0)))
  have y0:=BD.out.cell 0 _ rfl
  have y1:=BD.out.cell 1 _ rfl
  have y2:=BD.out.cell 2 _ rfl
  have y3:=BD.out.cell 3 _ rfl
  generalize ((((w2.setCell ⟨w.heap.size,0,none⟩ (.int .u8 0)).setCell ⟨w.heap.size,1,none⟩ (.int .i64 0)).setCell ⟨w.heap.size,2,none⟩ (.bool false)).setCell ⟨w.heap.size,3,none⟩ (.slice none 0 0))=Z at*
  try simp only[Exit.inBlock,Exit.then]
  refine bodyPost_ret (by simp[results,Tryz.results182,go_sem,y0,y1,y2,y3];try rfl) rfl ?_
  exact⟨_,_,_,rfl,.inl ⟨rfl,_,_,rfl⟩,(fun b hb=>by cases hb),WD.out⟩
 ·obtain⟨c,u,v,r,rfl⟩: ∃c u v r,L=c::u::v::r:=by
   rcases L with _|⟨a,_|⟨b,_|⟨c,r⟩⟩⟩
   ·simp at h3
   ·simp at h3
   ·simp at h3
   ·exact⟨_,_,_,_,rfl⟩
  obtain⟨g3,cap3,rfl,hg3,_,hc3,hm3,hcell⟩:=row_txt O2.out (by simp)
  have hg3':=hgl g3 rfl
  have x0:=hcell 0 c rfl
  have x1:=hcell 1 u rfl
  have x2:=hcell 2 v rfl
  have x3:=hcell 3
  have x4:=hcell 4
  have d3:decide (((c::u::v::r).length:Int)<3)=false:=dec_no (by simp;omega)
  by_cases h1:c.length=1
  ·obtain⟨ch,rfl⟩:=List.length_eq_one_iff.1 h1
   have IX: ∀w,(Instr.index 9 (.string ⟨[ch].toArray⟩) (.int .i64 0)).run Tryz.prog w= .ok (.int .u8 (ch.toNat:Int)) w:=fun w=>index_str (P:= Tryz.prog) 9 Tryz.underlying9 [ch] .i64 0 ch rfl w
   have q1:((([ch]:List UInt8).length:Int) !=1)=false:=rfl
   have hvl:=HPL.out v (by simp)
   obtain⟨MO,X,Y,bx,hrq,hbx,hyes,hno⟩:=words_any ch u v r
   have HBX:=lH hbx
   clear hbx
   obtain rfl:RQ=⟨ch,MO,bx,(Lib.split Y [44]).map Rul.rngQ⟩:=HRQ.out.symm.trans hrq
   have hYl:Y.length≤s.length:=by
    by_cases hc:u= [37]∧r.length=2
    ·have:=(hyes hc).2
     exact HPL.out Y (by rw[this];simp)
    ·rw[(hno hc).2.2];exact hvl
   have HYes:=lH hyes
   have HNo:=lH hno
   obtain⟨w3,hw3⟩: ∃w3,w2.setCell ⟨w1.heap.size,0,none⟩ (.int .u8 (ch.toNat:Int))=w3:=⟨_,rfl⟩
   have hne:w1.heap.size≠g3:=by omega
   have KP:=lH (show ∀j x,w2.cell? ⟨g3,j,none⟩=some x→w3.cell? ⟨g3,j,none⟩=some x from fun j x hx=>by rw[←hw3];exact(World.cell?_setCell_other _ _ _ _ (fun e=>hne (by injection e))).trans hx)
   have W3:=lH (show Below w.heap.size w w3 by rw[←hw3];exact W2.out.setCell (p:=⟨w1.heap.size,0,none⟩) (show w.heap.size≤w1.heap.size by omega) _)
   have B3:=lH (show Boxed w3 w.heap.size _ by rw[←hw3];exact B2.out.far (by omega) 0 _)
   have A3:=lH (show Boxed w3 w1.heap.size #[.int .u8 (ch.toNat:Int),.int .i64 0,.bool false,.slice none 0 0] by rw[←hw3];exact A2.out.set 0 (.int .u8 (ch.toNat:Int)) (by show 0<4;omega))
   have y1:=KP.out _ _ x1
   have X2:=lH (KP.out _ _ x2)
   have X3:=lH fun x h=>KP.out _ _ (x3 x h)
   have X4:=lH fun x h=>KP.out _ _ (x4 x h)
   have z0:=A2.out.free 0 (by show 0<4;omega)
   have z1:=A2.out.lt
   have k0:=A2.out.cell 0 _ rfl
   have i0:0<([ch]::u::v::r).length:=by simp
   have i1:1<([ch]::u::v::r).length:=by simp
   have HN3:=lH (show([ch]::u::v::r).length=r.length+3 from rfl)
   clear h3 h1 O2 hgl HPL hsl x1 x2 x3 x4 hcell hrq hyes hno hg3 HRQ
   generalize ([ch]::u::v::r).length=n3 at*
   generalize [ch]=nm at*
   go_upto_region 6 with fail
   obtain⟨bq,hbq⟩: ∃bq,bq=decide (u= [37]∧r.length=2):=⟨_,rfl⟩
   go_cut [34] from 26 to 33 (fun f wx=>f= .bool bq∧wx=w3)
   case first=>
    obtain⟨bu,hbu⟩: ∃bu,(u== [37])=bu:=⟨_,rfl⟩
    obtain⟨b5,hb5⟩: ∃b5,((n3:Int)==5)=b5:=⟨_,rfl⟩
    have HB:=lH (show bq=(bu&&b5) by
     have hn:=HN3.out
     rw[hbq,←hbu,←hb5]
     by_cases hu:u= [37]
     ·by_cases hr:r.length=2
      ·have e:((n3:Int)==5)=true:=beq_yes (by omega)
       simp[hu,hr,e]
      ·have e:((n3:Int)==5)=false:=beq_no (by omega)
       simp[hr,e]
     ·simp[hu])
    clear hbq
    go_wp2_with fail
    ·rename_i hh
     go_meet
     exact⟨by rw[HB.out,hh];rfl,rfl⟩
    ·rename_i hh
     go_meet
     exact⟨by rw[HB.out];simp[hh],rfl⟩
   case rest=>
   obtain⟨rfl,rfl⟩:=hcut
   have HBQ:=lH hbq
   clear hbq
   go_upto_if 34 with fail
   go_cut [3] from 34 (fun s3 wx=> ∃o N C,s3= .slice (some ⟨g3,o,none⟩) N C∧3≤N∧Hid (wx.cell? ⟨g3,o+1,none⟩=some (.string ⟨X.toArray⟩))∧Hid (wx.cell? ⟨g3,o+2,none⟩=some (.string ⟨Y.toArray⟩))∧Hid (Boxed wx w1.heap.size #[.int .u8 (ch.toNat:Int),.int .i64 MO,.bool false,.slice none 0 0])∧Hid (Boxed wx w.heap.size #[.int .u8 0,.int .i64 0,.bool false,.slice none 0 0])∧Hid (Below w.heap.size w wx))
   case first=>
    cases bq with
    |false=>
     obtain⟨rfl,rfl,rfl⟩:=HNo.out (fun h=>by have:=HBQ.out;simp[h] at this)
     go_wp2_with fail
     go_meet
     exact⟨0,n3,cap3,rfl,by have:=HN3.out;omega,lH (by exact y1),X2,A3,B3,W3⟩
    |true=>
     obtain⟨hMO,hr2⟩:=HYes.out (of_decide_eq_true HBQ.out.symm)
     have CV:=lH fun w=>numof_any v w (by omega)
     rw[←hMO] at CV
     obtain rfl:n3=5:=by have:=HN3.out;rw[hr2] at this;exact this
     obtain⟨ce,rfl⟩: ∃ce,cap3=ce+5:=⟨cap3-5,by omega⟩
     have y2:=X2.out
     have hcx:=X3.out X (by rw[hr2];rfl)
     have hcy:=X4.out Y (by rw[hr2];rfl)
     have HCX:=lH hcx
     have HCY:=lH hcy
     clear hr2 hMO HYes HNo hcx hcy X2 X3 X4 y1
     go_wp2_with fail
     refine(CV.out _).mono ?_
     rintro e w4 ⟨rfl,hb⟩
     have A4:=lH (A3.out.below hb)
     have B4:=lH (B3.out.below hb)
     have W4:=lH (bT W3.out hb)
     replace HCX:=lH (cK HCX.out hb)
     replace HCY:=lH (cK HCY.out hb)
     have f1:=A4.out.free 1 (by show 1<4;omega)
     have f2:=A4.out.lt
     have f3:=A4.out.cell 1 _ rfl
     clear hb CV y2 A3 B3 W3 KP
     go_wp2_with fail
     go_meet
     exact⟨2,3,ce+3,rfl,by omega,lH ((World.cell?_setCell_other _ _ _ _ (fun e=>hne (by injection e))).trans HCX.out),lH ((World.cell?_setCell_other _ _ _ _ (fun e=>hne (by injection e))).trans HCY.out),lH (by exact A4.out.set 1 (.int .i64 MO) (by show 1<4;omega)),lH (by exact B4.out.far (by omega) 1 _),lH (by exact W4.out.setCell (p:=⟨w1.heap.size,1,none⟩) (show w.heap.size≤w1.heap.size by omega) _)⟩
   case rest=>
    obtain⟨o,N,C,rfl,hN,HX,HY,A5,B5,W5⟩:=hcut
    have cx:=HX.out
    have HQ:=lH (show bx=(X== [33,61]) from HBX.out.symm)
    have xb:=HBX.out
    have j1:1<N:=by omega
    have j2:2<N:=by omega
    obtain⟨p,hp⟩: ∃p,w1.heap.size=p:=⟨_,rfl⟩
    rw[hp] at A5 hz1 hne⊢
    have f2:=A5.out.free 2 (by show 2<4;omega)
    have f3:=A5.out.lt
    have f4:=A5.out.cell 2 _ rfl
    obtain⟨w6,hw6⟩: ∃w6,wc.setCell ⟨p,2,none⟩ (.bool bx)=w6:=⟨_,rfl⟩
    have cy:=(World.cell?_setCell_other wc ⟨p,2,none⟩ _ (.bool bx) (fun e=>hne (by injection e))).trans HY.out
    have A6:=lH (A5.out.set 2 (.bool bx) (by show 2<4;omega))
    have B6:=lH (B5.out.far (q:=p) (by omega) 2 (.bool bx))
    have W6:=lH (W5.out.setCell (p:=⟨p,2,none⟩) (show w.heap.size≤p by omega) (.bool bx))
    rw[hw6] at cy A6 B6 W6
    have CY:=lH fun w=>cut_own Y [44] w (by simp) (by omega) (by simp)
    have hL0:0<(Lib.split Y [44]).length:=by rw[Spl.split_len (by simp)];omega
    have hLm:=Rul.split_short (s:=Y) (sub:= [44]) (by simp)
    have HLS:=lH fun x (hx:x∈Lib.split Y [44])=>Nat.le_trans (piece_le hx) hYl
    generalize hL2:Lib.split Y [44]=L2 at*
    have HL2:=lH hL2
    clear hL2
    clear A3 B3 W3 A5 B5 W5 HX HY KP X2 X3 X4 HBQ HNo HYes HQ HBX hp
    go_wp2_with fail
    clear hw6
    refine(CY.out _).mono ?_
    rintro e w7 ⟨v5,rfl,hown5,hb⟩
    obtain⟨g5,cap5,rfl,hg5,hg5',hc5,hm5,hcell5⟩:=row_txt hown5 hL0
    have A7:=lH (A6.out.below hb)
    have B7:=lH (B6.out.below hb)
    have W7:=lH (bT W6.out hb)
    have hp6:p<w6.heap.size:=A6.out.lt
    have QX0:=lH (show QX w w7.heap.size p (.int .u8 (ch.toNat:Int)) (.int .i64 MO) (.bool bx) (.slice none 0 0) (.slice none 0 0) g5 L2 (L2.take 0) w7 from⟨A7.out,⟨rfl,.inl ⟨rfl,by simp⟩⟩,B7.out,W7.out,Nat.le_refl _,hcell5⟩)
    have hpB:p<w7.heap.size:=Nat.lt_of_lt_of_le hp6 hb.size
    have h5p:g5≠p:=by omega
    obtain⟨m,hm⟩: ∃m,L2.length=m:=⟨_,rfl⟩
    rw[hm] at hL0 hLm hc5⊢
    have HM:=lH hm
    generalize w7.heap.size=B at*
    clear hb hown5 hcell5 A6 B6 W6 A7 B7 W7 CY cx cy f2 f3 f4 xb hm hm5 hw3 hw2 hp6 hg5
    go_wp2_with fail
    go_loopw [6,7] (fun i _ wx=> ∃(k:Nat) (v:Value),i= .int .i64 k∧k≤m∧Hid (QX w B p (.int .u8 (ch.toNat:Int)) (.int .i64 MO) (.bool bx) v v g5 L2 (L2.take k) wx)) (fun i _ _=>m-(intOf i).toNat)
    case atStart=>exact⟨0,_,rfl,Nat.zero_le _,QX0⟩
    case round=>
     obtain⟨k,v,rfl,hk,P⟩:=hrel
     clear QX0
     by_cases hlt:k<m
     ·obtain⟨x,hx⟩: ∃x,L2[k]?=some x:=⟨L2[k]'(by have:=HM.out;omega),List.getElem?_eq_getElem (by have:=HM.out;omega)⟩
      have cz:=P.out.strs k x hx
      have hxl:=HLS.out x (List.mem_of_getElem? hx)
      have CX:=lH fun w=>cut_own x [46,46] w (by simp) (by omega) (by simp)
      have hx0:0<(Lib.split x [46,46]).length:=by rw[Spl.split_len (by simp)];omega
      have hxm:=Rul.split_short (s:=x) (sub:= [46,46]) (by simp)
      have er:Rul.rngQ x=(Byt.numP (((Lib.split x [46,46])[0]?).getD []),Byt.numP (((Lib.split x [46,46]).getLast?).getD [])):=rfl
      have HXS:=lH fun y (hy:y∈Lib.split x [46,46])=>Nat.le_trans (piece_le hy) hxl
      generalize Lib.split x [46,46]=L7 at*
      have hvk:=fun k h=>(P.out.row.lt k h).2
      have HTK:=lH (show L2.take (k+1)=L2.take k++ [x] by rw[List.take_add_one,hx];rfl)
      have hpl:(L2.take k).length=k:=by rw[List.length_take,HM.out];omega
      obtain⟨pre,hpre⟩: ∃pre,L2.take k=pre:=⟨_,rfl⟩
      rw[hpre] at HTK P hpl
      have k0:(0:Int)≤(k:Int):=by omega
      have k1:(k:Int)<(m:Int):=by omega
      clear hx hpre
      go_wp2_with fail
      refine(CX.out _).mono ?_
      rintro e w8 ⟨v7,rfl,hown7,hb⟩
      obtain⟨g7,cap7,rfl,hg7,_,hc7,hm7,hcell7⟩:=row_txt hown7 hx0
      have P1:=lH (P.out.below hb)
      have hv7: ∀j,v.ownBlock=some j→j<g7:=fun j h=>by have:=hvk j h;omega
      have hsz:=P.out.sz
      obtain⟨mm,hmm⟩: ∃mm,L7.length=mm+1:=⟨L7.length-1,by omega⟩
      obtain⟨xa,hxa⟩: ∃xa,L7[0]?=some xa:=⟨_,List.getElem?_eq_getElem hx0⟩
      obtain⟨xb,hxb⟩: ∃xb,L7[mm]?=some xb:=⟨_,List.getElem?_eq_getElem (by omega)⟩
      have y0:=hcell7 0 xa hxa
      have y1:=hcell7 mm xb hxb
      have CN1:=lH fun w=>numof_any xa w (by have:=HXS.out xa (List.mem_of_getElem? hxa);omega)
      have CN2:=lH fun w=>numof_any xb w (by have:=HXS.out xb (List.mem_of_getElem? hxb);omega)
      have HER:=lH (show Rul.rngQ x=(Byt.numP xa,Byt.numP xb) by rw[er,hxa,List.getLast?_eq_getElem?,hmm,Nat.add_sub_cancel,hxb];rfl)
      rw[hmm] at hc7⊢
      generalize Byt.numP xa=N1 at*
      generalize Byt.numP xb=N2 at*
      have hmb:mm≤200000000:=by omega
      have hp7:g7≠p:=by omega
      have hwB:w.heap.size<B:=by omega
      have m1:(mm:Int)<(mm:Int)+1:=by omega
      have m2:(0:Int)≤(mm:Int):=by omega
      have m3:IntKind.i64.wrap (mm:Int)=(mm:Int):=IntWalk.i64_in _ (by omega)
      clear hb hown7 hcell7 CX hmm hxa hxb cz hvk er P hx0 hxm HXS
      obtain⟨iR,hiR,hR0,hR1,hR2⟩:=info_parts infoRng
      go_wp2_with fail
      refine wp_region_held_drew (S:=fun w'=>w'.cell? ⟨g7,0,none⟩=some (.string ⟨xa.toArray⟩)∧w'.cell? ⟨g7,mm,none⟩=some (.string ⟨xb.toArray⟩)) (by kernel_rfl) (by exact⟨y0,y1⟩) (fun hY9=>?_)
      have P:=lH (P1.out.below (Below.drew (Below.refl _ _)))
      clear P1 y0 y1
      generalize World.drew _=w3 at*
      refine tkr (d:=some 62) (v:=?v1) 0 rfl rfl hY9 ?hy1 ?rs1
      case hy1=>(intro w hSw;(try dsimp only at hSw);go_simp)<;>(try with_reducible rfl)
      (try simp only[Act.put,aI,aO,aS])
      refine tkr (d:=some 64) (v:=?v2) 2 rfl rfl hY9 ?hy2 ?rs2
      case hy2=>(intro w hSw;(try dsimp only at hSw);go_simp)<;>(try with_reducible rfl)
      (try simp only[Act.put,aI,aO,aS])
      refine tkr (d:=some 65) (v:=?v3) 3 rfl rfl hY9 ?hy3 ?rs3
      case hy3=>(intro w hSw;(try dsimp only at hSw);go_simp)<;>(try with_reducible rfl)
      (try simp only[Act.put,aI,aO,aS])
      refine tkr (d:=some 66) (v:=?v4) 4 rfl rfl hY9 ?hy4 ?rs4
      case hy4=>(intro w hSw;(try dsimp only at hSw);go_simp)<;>(try with_reducible rfl)
      (try simp only[Act.put,aI,aO,aS])
      refine tkr (d:=some 68) (v:=?v12) 6 rfl rfl hY9 ?hy12 ?rs12
      case hy12=>(intro w hSw;(try dsimp only at hSw);go_simp)<;>(try with_reducible rfl)
      (try simp only[Act.put,aI,aO,aS])
      refine tkr (d:=some 69) (v:=?v13) 7 rfl rfl hY9 ?hy13 ?rs13
      case hy13=>(intro w hSw;(try dsimp only at hSw);go_simp)<;>(try with_reducible rfl)
      (try simp only[Act.put,aI,aO,aS])
      refine tkr (d:=some 70) (v:=?v14) 8 rfl rfl hY9 ?hy14 ?rs14
      case hy14=>(intro w hSw;(try dsimp only at hSw);go_simp)<;>(try with_reducible rfl)
      (try simp only[Act.put,aI,aO,aS])
      refine tkr (d:=some 71) (v:=?v15) 9 rfl rfl hY9 ?hy15 ?rs15
      case hy15=>(intro w hSw;(try dsimp only at hSw);go_simp)<;>(try with_reducible rfl)
      (try simp only[Act.put,aI,aO,aS])
      refine tkr (d:=some 72) (v:=?v16) 10 rfl rfl hY9 ?hy16 ?rs16
      case hy16=>(intro w hSw;(try dsimp only at hSw);go_simp)<;>(try with_reducible rfl)
      (try simp only[Act.put,aI,aO,aS])
      refine tkr (d:=some 73) (v:=?v17) 11 rfl rfl hY9 ?hy17 ?rs17
      case hy17=>(intro w hSw;(try dsimp only at hSw);go_simp)<;>(try with_reducible rfl)
      (try simp only[Act.put,aI,aO,aS])
      refine take_two 1 5 rfl rfl (by kernel_rfl) (by rfl) (by rfl) (fun K hK=>?_) (fun K hK=>?_)
      ·have k3:=P.out.box.cell 3 _ rfl
       go_simp
       clear k3
       refine hK.out _ _ (hY9) (fun hY9=>?_)
       clear hK K
       (try simp only[Act.put,aI,aO,aS])
       refine take_call 5 rfl (by kernel_rfl) (by rfl) (fun K hK=>?_)
       go_simp
       refine(CN1.out _).mono ?_
       rintro e w' ⟨rfl,hb⟩
       replace P:=lH (P.out.below hb)
       refine hK.out _ _ (⟨cK hY9.1 hb,cK hY9.2 hb⟩) (fun hY9=>?_)
       clear hK K
       (try simp only[Act.put,aI,aO,aS])
       clear hb
       refine take_call 12 rfl (by kernel_rfl) (by rfl) (fun K hK=>?_)
       go_simp
       refine(CN2.out _).mono ?_
       rintro e w' ⟨rfl,hb⟩
       replace P:=lH (P.out.below hb)
       refine hK.out _ _ (⟨cK hY9.1 hb,cK hY9.2 hb⟩) (fun hY9=>?_)
       clear hK K
       (try simp only[Act.put,aI,aO,aS])
       clear hb
       refine tkr (d:=some 75) (v:=?v18) 13 rfl rfl hY9 ?hy18 ?rs18
       case hy18=>(intro w hSw;(try dsimp only at hSw);go_simp)<;>(try with_reducible rfl)
       (try simp only[Act.put,aI,aO,aS])
       refine take_call 14 rfl (by kernel_rfl) (by rfl) (fun K hK=>?_)
       go_simp
       refine hK.out _ _ (⟨cK hY9.1 (bA _ _),cK hY9.2 (bA _ _)⟩) (fun hY9=>?_)
       clear hK K
       (try simp only[Act.put,aI,aO,aS])
       replace P:=lH (P.out.below (bA _ (.cells #[.int .i64 N1,.int .i64 N2] 176)))
       have BN:=lH (Boxed.made _ #[.int .i64 N1,.int .i64 N2] 176:Boxed (World.alloc w' (.cells #[.int .i64 N1,.int .i64 N2] 176)) w'.heap.size _)
       generalize hq:w'.heap.size=q at*
       generalize World.alloc w' (.cells #[.int .i64 N1,.int .i64 N2] 176)=w5 at*
       clear hq
       refine take_call 15 rfl (by kernel_rfl) (by rfl) (fun K hK=>?_)
       refine wp_append_own _ _ _ 141 rfl B 176 iR _ 2 16 Tryz.underlying141 hiR hR0 hR1 hR2 rfl (by decide) v pre.length (qrf pre) (by simp[go_sem]) P.out.row ⟨q,0,none⟩ 1 1 [.int .i64 N1,.int .i64 N2] (by simp[go_sem]) rfl (boxed_add BN.out) (fun u hu=>by simp at hu;rcases hu with rfl|rfl<;>rfl) (by unfold maxLen;omega) (by omega) P.out.sz ?_
       intro v' w6 hown hgrow hnil
       clear hnil
       obtain⟨g',cap',rfl⟩:=row_some hown (by omega)
       have hHeld2:=grown_two hgrow hY9.1 hY9.2 hv7
       replace P:=lH (P.out.append (x:=x) (by rw[HER.out];exact hown) hgrow hwB hpB hg5')
       clear hown hgrow
       refine hK.out _ _ (hHeld2) (fun hY9=>?_)
       clear hK K
       (try simp only[Act.put,aI,aO,aS])
       clear hHeld2
       refine tkr (d:=some 78) (v:=?v19) 16 rfl rfl hY9 ?hy19 ?rs19
       case hy19=>(intro w hSw;(try dsimp only at hSw);go_simp)<;>(try with_reducible rfl)
       (try simp only[Act.put,aI,aO,aS])
       refine take_call 17 rfl (by kernel_rfl) (by rfl) (fun K hK=>?_)
       have k3:=P.out.box.cell 3 _ rfl
       have z3:=P.out.box.free 3 (by show 3<4;omega)
       have hlt:=P.out.box.lt
       go_simp
       clear k3 z3 hlt
       refine hK.out _ _ (store_two hp7 hY9.1 hY9.2) (fun hY9=>?_)
       clear hK K
       (try simp only[Act.put,aI,aO,aS])
       replace P:=lH (P.out.stored hz1 hpB h5p)
       refine wpAnyH_done (by kernel_rfl) ?_ _
       clear hY9
       rw[hpl] at P
       go_wp2_with fail
       go_roundw
       case rel=>exact⟨k+1,_,by go_num,by omega,by rw[HTK.out];exact P⟩
       case measure=>simp[intOf];omega
      ·go_simp
       refine(CN1.out _).mono ?_
       rintro e w' ⟨rfl,hb⟩
       replace P:=lH (P.out.below hb)
       refine hK.out _ _ (⟨cK hY9.1 hb,cK hY9.2 hb⟩) (fun hY9=>?_)
       clear hK K
       (try simp only[Act.put,aI,aO,aS])
       clear hb
       refine take_two 1 12 rfl rfl (by kernel_rfl) (by rfl) (by rfl) (fun K hK=>?_) (fun K hK=>?_)
       ·have k3:=P.out.box.cell 3 _ rfl
        go_simp
        clear k3
        refine hK.out _ _ (hY9) (fun hY9=>?_)
        clear hK K
        (try simp only[Act.put,aI,aO,aS])
        refine take_call 12 rfl (by kernel_rfl) (by rfl) (fun K hK=>?_)
        go_simp
        refine(CN2.out _).mono ?_
        rintro e w' ⟨rfl,hb⟩
        replace P:=lH (P.out.below hb)
        refine hK.out _ _ (⟨cK hY9.1 hb,cK hY9.2 hb⟩) (fun hY9=>?_)
        clear hK K
        (try simp only[Act.put,aI,aO,aS])
        clear hb
        refine tkr (d:=some 75) (v:=?v23) 13 rfl rfl hY9 ?hy23 ?rs23
        case hy23=>(intro w hSw;(try dsimp only at hSw);go_simp)<;>(try with_reducible rfl)
        (try simp only[Act.put,aI,aO,aS])
        refine take_call 14 rfl (by kernel_rfl) (by rfl) (fun K hK=>?_)
        go_simp
        refine hK.out _ _ (⟨cK hY9.1 (bA _ _),cK hY9.2 (bA _ _)⟩) (fun hY9=>?_)
        clear hK K
        (try simp only[Act.put,aI,aO,aS])
        replace P:=lH (P.out.below (bA _ (.cells #[.int .i64 N1,.int .i64 N2] 176)))
        have BN:=lH (Boxed.made _ #[.int .i64 N1,.int .i64 N2] 176:Boxed (World.alloc w' (.cells #[.int .i64 N1,.int .i64 N2] 176)) w'.heap.size _)
        generalize hq:w'.heap.size=q at*
        generalize World.alloc w' (.cells #[.int .i64 N1,.int .i64 N2] 176)=w5 at*
        clear hq
        refine take_call 15 rfl (by kernel_rfl) (by rfl) (fun K hK=>?_)
        refine wp_append_own _ _ _ 141 rfl B 176 iR _ 2 16 Tryz.underlying141 hiR hR0 hR1 hR2 rfl (by decide) v pre.length (qrf pre) (by simp[go_sem]) P.out.row ⟨q,0,none⟩ 1 1 [.int .i64 N1,.int .i64 N2] (by simp[go_sem]) rfl (boxed_add BN.out) (fun u hu=>by simp at hu;rcases hu with rfl|rfl<;>rfl) (by unfold maxLen;omega) (by omega) P.out.sz ?_
        intro v' w6 hown hgrow hnil
        clear hnil
        obtain⟨g',cap',rfl⟩:=row_some hown (by omega)
        have hHeld2:=grown_two hgrow hY9.1 hY9.2 hv7
        replace P:=lH (P.out.append (x:=x) (by rw[HER.out];exact hown) hgrow hwB hpB hg5')
        clear hown hgrow
        refine hK.out _ _ (hHeld2) (fun hY9=>?_)
        clear hK K
        (try simp only[Act.put,aI,aO,aS])
        clear hHeld2
        refine tkr (d:=some 78) (v:=?v24) 16 rfl rfl hY9 ?hy24 ?rs24
        case hy24=>(intro w hSw;(try dsimp only at hSw);go_simp)<;>(try with_reducible rfl)
        (try simp only[Act.put,aI,aO,aS])
        refine take_call 17 rfl (by kernel_rfl) (by rfl) (fun K hK=>?_)
        have k3:=P.out.box.cell 3 _ rfl
        have z3:=P.out.box.free 3 (by show 3<4;omega)
        have hlt:=P.out.box.lt
        go_simp
        clear k3 z3 hlt
        refine hK.out _ _ (store_two hp7 hY9.1 hY9.2) (fun hY9=>?_)
        clear hK K
        (try simp only[Act.put,aI,aO,aS])
        replace P:=lH (P.out.stored hz1 hpB h5p)
        refine wpAnyH_done (by kernel_rfl) ?_ _
        clear hY9
        rw[hpl] at P
        go_wp2_with fail
        go_roundw
        case rel=>exact⟨k+1,_,by go_num,by omega,by rw[HTK.out];exact P⟩
        case measure=>simp[intOf];omega
       ·go_simp
        refine(CN2.out _).mono ?_
        rintro e w' ⟨rfl,hb⟩
        replace P:=lH (P.out.below hb)
        refine hK.out _ _ (⟨cK hY9.1 hb,cK hY9.2 hb⟩) (fun hY9=>?_)
        clear hK K
        (try simp only[Act.put,aI,aO,aS])
        clear hb
        refine tkr (d:=some 75) (v:=?v20) 13 rfl rfl hY9 ?hy20 ?rs20
        case hy20=>(intro w hSw;(try dsimp only at hSw);go_simp)<;>(try with_reducible rfl)
        (try simp only[Act.put,aI,aO,aS])
        refine take_two 1 14 rfl rfl (by kernel_rfl) (by rfl) (by rfl) (fun K hK=>?_) (fun K hK=>?_)
        ·have k3:=P.out.box.cell 3 _ rfl
         go_simp
         clear k3
         refine hK.out _ _ (hY9) (fun hY9=>?_)
         clear hK K
         (try simp only[Act.put,aI,aO,aS])
         refine take_call 14 rfl (by kernel_rfl) (by rfl) (fun K hK=>?_)
         go_simp
         refine hK.out _ _ (⟨cK hY9.1 (bA _ _),cK hY9.2 (bA _ _)⟩) (fun hY9=>?_)
         clear hK K
         (try simp only[Act.put,aI,aO,aS])
         replace P:=lH (P.out.below (bA _ (.cells #[.int .i64 N1,.int .i64 N2] 176)))
         have BN:=lH (Boxed.made _ #[.int .i64 N1,.int .i64 N2] 176:Boxed (World.alloc w' (.cells #[.int .i64 N1,.int .i64 N2] 176)) w'.heap.size _)
         generalize hq:w'.heap.size=q at*
         generalize World.alloc w' (.cells #[.int .i64 N1,.int .i64 N2] 176)=w5 at*
         clear hq
         refine take_call 15 rfl (by kernel_rfl) (by rfl) (fun K hK=>?_)
         refine wp_append_own _ _ _ 141 rfl B 176 iR _ 2 16 Tryz.underlying141 hiR hR0 hR1 hR2 rfl (by decide) v pre.length (qrf pre) (by simp[go_sem]) P.out.row ⟨q,0,none⟩ 1 1 [.int .i64 N1,.int .i64 N2] (by simp[go_sem]) rfl (boxed_add BN.out) (fun u hu=>by simp at hu;rcases hu with rfl|rfl<;>rfl) (by unfold maxLen;omega) (by omega) P.out.sz ?_
         intro v' w6 hown hgrow hnil
         clear hnil
         obtain⟨g',cap',rfl⟩:=row_some hown (by omega)
         have hHeld2:=grown_two hgrow hY9.1 hY9.2 hv7
         replace P:=lH (P.out.append (x:=x) (by rw[HER.out];exact hown) hgrow hwB hpB hg5')
         clear hown hgrow
         refine hK.out _ _ (hHeld2) (fun hY9=>?_)
         clear hK K
         (try simp only[Act.put,aI,aO,aS])
         clear hHeld2
         refine tkr (d:=some 78) (v:=?v21) 16 rfl rfl hY9 ?hy21 ?rs21
         case hy21=>(intro w hSw;(try dsimp only at hSw);go_simp)<;>(try with_reducible rfl)
         (try simp only[Act.put,aI,aO,aS])
         refine take_call 17 rfl (by kernel_rfl) (by rfl) (fun K hK=>?_)
         have k3:=P.out.box.cell 3 _ rfl
         have z3:=P.out.box.free 3 (by show 3<4;omega)
         have hlt:=P.out.box.lt
         go_simp
         clear k3 z3 hlt
         refine hK.out _ _ (store_two hp7 hY9.1 hY9.2) (fun hY9=>?_)
         clear hK K
         (try simp only[Act.put,aI,aO,aS])
         replace P:=lH (P.out.stored hz1 hpB h5p)
         refine wpAnyH_done (by kernel_rfl) ?_ _
         clear hY9
         rw[hpl] at P
         go_wp2_with fail
         go_roundw
         case rel=>exact⟨k+1,_,by go_num,by omega,by rw[HTK.out];exact P⟩
         case measure=>simp[intOf];omega
        ·go_simp
         refine hK.out _ _ (⟨cK hY9.1 (bA _ _),cK hY9.2 (bA _ _)⟩) (fun hY9=>?_)
         clear hK K
         (try simp only[Act.put,aI,aO,aS])
         replace P:=lH (P.out.below (bA _ (.cells #[.int .i64 N1,.int .i64 N2] 176)))
         have BN:=lH (Boxed.made _ #[.int .i64 N1,.int .i64 N2] 176:Boxed (World.alloc w' (.cells #[.int .i64 N1,.int .i64 N2] 176)) w'.heap.size _)
         generalize hq:w'.heap.size=q at*
         generalize World.alloc w' (.cells #[.int .i64 N1,.int .i64 N2] 176)=w5 at*
         clear hq
         refine take_call 1 rfl (by kernel_rfl) (by rfl) (fun K hK=>?_)
         have k3:=P.out.box.cell 3 _ rfl
         go_simp
         clear k3
         refine hK.out _ _ (hY9) (fun hY9=>?_)
         clear hK K
         (try simp only[Act.put,aI,aO,aS])
         refine take_call 15 rfl (by kernel_rfl) (by rfl) (fun K hK=>?_)
         refine wp_append_own _ _ _ 141 rfl B 176 iR _ 2 16 Tryz.underlying141 hiR hR0 hR1 hR2 rfl (by decide) v pre.length (qrf pre) (by simp[go_sem]) P.out.row ⟨q,0,none⟩ 1 1 [.int .i64 N1,.int .i64 N2] (by simp[go_sem]) rfl (boxed_add BN.out) (fun u hu=>by simp at hu;rcases hu with rfl|rfl<;>rfl) (by unfold maxLen;omega) (by omega) P.out.sz ?_
         intro v' w6 hown hgrow hnil
         clear hnil
         obtain⟨g',cap',rfl⟩:=row_some hown (by omega)
         have hHeld2:=grown_two hgrow hY9.1 hY9.2 hv7
         replace P:=lH (P.out.append (x:=x) (by rw[HER.out];exact hown) hgrow hwB hpB hg5')
         clear hown hgrow
         refine hK.out _ _ (hHeld2) (fun hY9=>?_)
         clear hK K
         (try simp only[Act.put,aI,aO,aS])
         clear hHeld2
         refine tkr (d:=some 78) (v:=?v22) 16 rfl rfl hY9 ?hy22 ?rs22
         case hy22=>(intro w hSw;(try dsimp only at hSw);go_simp)<;>(try with_reducible rfl)
         (try simp only[Act.put,aI,aO,aS])
         refine take_call 17 rfl (by kernel_rfl) (by rfl) (fun K hK=>?_)
         have k3:=P.out.box.cell 3 _ rfl
         have z3:=P.out.box.free 3 (by show 3<4;omega)
         have hlt:=P.out.box.lt
         go_simp
         clear k3 z3 hlt
         refine hK.out _ _ (store_two hp7 hY9.1 hY9.2) (fun hY9=>?_)
         clear hK K
         (try simp only[Act.put,aI,aO,aS])
         replace P:=lH (P.out.stored hz1 hpB h5p)
         refine wpAnyH_done (by kernel_rfl) ?_ _
         clear hY9
         rw[hpl] at P
         go_wp2_with fail
         go_roundw
         case rel=>exact⟨k+1,_,by go_num,by omega,by rw[HTK.out];exact P⟩
         case measure=>simp[intOf];omega
     ·have e:k=m:=by omega
      subst e
      have P2:=P.out
      rw[List.take_of_length_le (by have:=HM.out;omega)] at P2
      have HP:=lH P2
      have hpw:=P2.box.lt
      obtain⟨a5,n5,c5,rfl⟩: ∃a n c,v= .slice a n c:=by
       obtain⟨a,c,e⟩:=row_any P2.row
       exact⟨a,_,c,e⟩
      clear P P2
      have k0:=HP.out.box.cell 0 _ rfl
      have k1:=HP.out.box.cell 1 _ rfl
      have k2:=HP.out.box.cell 2 _ rfl
      have k3:=HP.out.box.cell 3 _ rfl
      have q0:=HP.out.res.free 0 (by show 0<4;omega)
      have q1:=HP.out.res.free 1 (by show 1<4;omega)
      have q2:=HP.out.res.free 2 (by show 2<4;omega)
      have q3:=HP.out.res.free 3 (by show 3<4;omega)
      have c0:=HP.out.res.cell 0 _ rfl
      have c1:=HP.out.res.cell 1 _ rfl
      have c2:=HP.out.res.cell 2 _ rfl
      have c3:=HP.out.res.cell 3 _ rfl
      have s0:=HP.out.res.lt
      have s1:=HP.out.box.lt
      go_wp2_with fail
      have BD:=lH ((((HP.out.res.set 0 (.int .u8 (ch.toNat:Int)) (by show 0<4;omega)).set 1 (.int .i64 MO) (by show 1<4;omega)).set 2 (.bool bx) (by show 2<4;omega)).set 3 (.slice a5 n5 c5) (by show 3<4;omega))
      have WD:=lH (show Below w.heap.size w ((((wr.setCell ⟨w.heap.size,0,none⟩ (.int .u8 (ch.toNat:Int))).setCell ⟨w.heap.size,1,none⟩ (.int .i64 MO)).setCell ⟨w.heap.size,2,none⟩ (.bool bx)).setCell ⟨w.heap.size,3,none⟩ (.slice a5 n5 c5)) from((((HP.out.low.setCell (p:=⟨w.heap.size,0,none⟩) (Nat.le_refl _) (.int .u8 (ch.toNat:Int))).setCell (p:=⟨w.heap.size,1,none⟩) (Nat.le_refl _) (.int .i64 MO)).setCell (p:=⟨w.heap.size,2,none⟩) (Nat.le_refl _) (.bool bx)).setCell (p:=⟨w.heap.size,3,none⟩) (Nat.le_refl _) (.slice a5 n5 c5)))
      have y0:=BD.out.cell 0 _ rfl
      have y1:=BD.out.cell 1 _ rfl
      have y2:=BD.out.cell 2 _ rfl
      have y3:=BD.out.cell 3 _ rfl
      have SD:=lH (HP.out.lies (C:=((((wr.setCell ⟨w.heap.size,0,none⟩ (.int .u8 (ch.toNat:Int))).setCell ⟨w.heap.size,1,none⟩ (.int .i64 MO)).setCell ⟨w.heap.size,2,none⟩ (.bool bx)).setCell ⟨w.heap.size,3,none⟩ (.slice a5 n5 c5))) (fun g cur e hg h=>by rw[set_else (by show w.heap.size≠g;omega),set_else (by show w.heap.size≠g;omega),set_else (by show w.heap.size≠g;omega),set_else (by show w.heap.size≠g;omega)]))
      have FR: ∀b,(Value.slice a5 n5 c5).ownBlock=some b→w.heap.size≤b:=fun b hb=>by have:=(HP.out.row.lt b hb).1;omega
      generalize ((((wr.setCell ⟨w.heap.size,0,none⟩ (.int .u8 (ch.toNat:Int))).setCell ⟨w.heap.size,1,none⟩ (.int .i64 MO)).setCell ⟨w.heap.size,2,none⟩ (.bool bx)).setCell ⟨w.heap.size,3,none⟩ (.slice a5 n5 c5))=Z at*
      try simp only[Exit.inBlock,Exit.then]
      refine bodyPost_ret (by simp[results,Tryz.results182,go_sem,y0,y1,y2,y3];try rfl) rfl ?_
      rw[←HL2.out] at SD
      exact⟨_,_,_,rfl,SD.out,FR,WD.out⟩
  ·have q1:((c.length:Int)==1)=false:=beq_no (by omega)
   obtain rfl:RQ=⟨0,0,false,[]⟩:=by rw[←HRQ.out];exact words_op h1
   clear h3 O2 hgl HPL hsl x1 x2 x3 x4 hcell
   have i0:0<(c::u::v::r).length:=by simp
   generalize (c::u::v::r).length=n3 at*
   have k0:=A2.out.cell 0 _ rfl
   have k1:=A2.out.cell 1 _ rfl
   have k2:=A2.out.cell 2 _ rfl
   have k3:=A2.out.cell 3 _ rfl
   have q0:=B2.out.free 0 (by show 0<4;omega)
   have q1:=B2.out.free 1 (by show 1<4;omega)
   have q2:=B2.out.free 2 (by show 2<4;omega)
   have q3:=B2.out.free 3 (by show 3<4;omega)
   have c0:=B2.out.cell 0 _ rfl
   have c1:=B2.out.cell 1 _ rfl
   have c2:=B2.out.cell 2 _ rfl
   have c3:=B2.out.cell 3 _ rfl
   have s0:=B2.out.lt
   have s1:=A2.out.lt
   go_wp2_with fail
   have BD:=lH ((((B2.out.set 0 (.int .u8 0) (by show 0<4;omega)).set 1 (.int .i64 0) (by show 1<4;omega)).set 2 (.bool false) (by show 2<4;omega)).set 3 (.slice none 0 0) (by show 3<4;omega))
   have WD:=lH (show Below w.heap.size w ((((w2.setCell ⟨w.heap.size,0,none⟩ (.int .u8 0)).setCell ⟨w.heap.size,1,none⟩ (.int .i64 0)).setCell ⟨w.heap.size,2,none⟩ (.bool false)).setCell ⟨w.heap.size,3,none⟩ (.slice none 0 0)) from((((W2.out.setCell (p:=⟨w.heap.size,0,none⟩) (Nat.le_refl _) (.int .u8 0)).setCell (p:=⟨w.heap.size,1,none⟩) (Nat.le_refl _) (.int .i64 0)).setCell (p:=⟨w.heap.size,2,none⟩) (Nat.le_refl _) (.bool false)).setCell (p:=⟨w.heap.size,3,none⟩) (Nat.le_refl _) (.slice none 0 0)))
   have y0:=BD.out.cell 0 _ rfl
   have y1:=BD.out.cell 1 _ rfl
   have y2:=BD.out.cell 2 _ rfl
   have y3:=BD.out.cell 3 _ rfl
   generalize ((((w2.setCell ⟨w.heap.size,0,none⟩ (.int .u8 0)).setCell ⟨w.heap.size,1,none⟩ (.int .i64 0)).setCell ⟨w.heap.size,2,none⟩ (.bool false)).setCell ⟨w.heap.size,3,none⟩ (.slice none 0 0))=Z at*
   try simp only[Exit.inBlock,Exit.then]
   refine bodyPost_ret (by simp[results,Tryz.results182,go_sem,y0,y1,y2,y3];try rfl) rfl ?_
   exact⟨_,_,_,rfl,.inl ⟨rfl,_,_,rfl⟩,(fun b hb=>by cases hb),WD.out⟩

end Go.Proofs.YtldbfkccieipjaaGreatDoor
