/- The walk of names.Fits. Conditions: the message is one, of lists of at most 2000000; the args lie in memory as they say, of names of at most 4000000000 bytes. -/
import Derived.Test.YtldbfkccieipjaaGreatDoorEf4
import Derived.Test.YtldbfkccieipjaaGreatDoorEf0
import Derived.Test.YtldbfkccieipjaaGreatDoorProg
import Derived.OwnWalk
import Derived.LoopTactic
import Derived.Test.YtldbfkccieipjaaGreatDoorEf21
import Derived.Test.YtldbfkccieipjaaGreatDoorEf20
import Derived.Test.YtldbfkccieipjaaGreatDoorEf19
import Derived.Test.YtldbfkccieipjaaGreatDoorEf16
import Derived.Test.YtldbfkccieipjaaGreatDoorEf18
import Derived.Test.YtldbfkccieipjaaGreatDoorEf11
import Derived.Deep.DeepCutAuto
import Derived.Deep.CutRange
namespace Go.Proofs.YtldbfkccieipjaaGreatDoor
set_option maxRecDepth 100000
open Go.RowKit

set_option maxHeartbeats 4000000 in
theorem qcases_any {f:Nat} (x:Ms.Nd) {a:Option Addr} {n c:Nat} (w:World) (h:Ms.CassAt f w (.slice a n c) x.cases):
  Calls Tryz.prog 109 #[.agg #[.int .i64 x.kind,.string ⟨x.text.toArray⟩,.int .i64 x.off,.slice a n c]] w fun e w'=> ∃A C,e= .returned (.slice A (Ms.casesOf x).length C)∧Ms.CassAt f w (.slice A (Ms.casesOf x).length C) (Ms.casesOf x)∧Below w.heap.size w w':=by
 obtain⟨A0,C0,e0,_,_⟩:=h.spread
 have en:n=x.cases.length:=by injection e0
 subst en
 unfold Ms.casesOf
 generalize x.kind=K at*
 generalize x.text=T at*
 generalize x.off=O at*
 have W0:=Lib.hid (blw_alloc w (.cells #[.int .i64 K,.string ⟨T.toArray⟩,.int .i64 O,.slice a x.cases.length c] 34))
 generalize hcs:x.cases=cs at*
 have HH:=Lib.hid h
 clear h hcs e0
 by_cases h4:K=4
 ·subst h4
  rw[if_pos (.inl rfl)]
  generalize hl:cs.length=l at*
  go_enter Tryz.func109,Tryz.ntmps109
  go_wp2_with fail
  go_ret
  exact⟨a,c,rfl,HH.out,W0.out⟩
 ·have b4:(K==4)=false:=beq_no h4
  by_cases h5:K=5
  ·subst h5
   rw[if_pos (.inr rfl)]
   clear b4
   generalize hl:cs.length=l at*
   go_enter Tryz.func109,Tryz.ntmps109
   go_wp2_with fail
   go_ret
   exact⟨a,c,rfl,HH.out,W0.out⟩
  ·have b5:(K==5)=false:=beq_no h5
   rw[if_neg (by rintro(h|h);exact h4 h;exact h5 h)]
   clear h4 h5
   generalize hl:cs.length=l at*
   go_enter Tryz.func109,Tryz.ntmps109
   go_wp2_with fail
   go_ret
   exact⟨none,0,rfl,.inl ⟨rfl,none,0,rfl⟩,W0.out⟩

set_option maxHeartbeats 4000000 in
theorem mcases_any {f:Nat} (x:Ms.Nd) {a:Option Addr} {n c:Nat} (w:World) (h:Ms.CassAt f w (.slice a n c) x.cases):
  Calls Tryz.prog 65 #[.agg #[.int .i64 x.kind,.string ⟨x.text.toArray⟩,.int .i64 x.off,.slice a n c]] w fun e w'=> ∃A C,e= .returned (.slice A (Ms.casesOf x).length C)∧Ms.CassAt f w (.slice A (Ms.casesOf x).length C) (Ms.casesOf x)∧Below w.heap.size w w':=by
 obtain⟨A0,C0,e0,_,_⟩:=h.spread
 have en:n=x.cases.length:=by injection e0
 subst en
 unfold Ms.casesOf
 generalize x.kind=K at*
 generalize x.text=T at*
 generalize x.off=O at*
 have W0:=Lib.hid (blw_alloc w (.cells #[.int .i64 K,.string ⟨T.toArray⟩,.int .i64 O,.slice a x.cases.length c] 34))
 generalize hcs:x.cases=cs at*
 have HH:=Lib.hid h
 clear h hcs e0
 by_cases h4:K=4
 ·subst h4
  rw[if_pos (.inl rfl)]
  generalize hl:cs.length=l at*
  go_enter Tryz.func65,Tryz.ntmps65
  go_wp2_with fail
  go_ret
  exact⟨a,c,rfl,HH.out,W0.out⟩
 ·have b4:(K==4)=false:=beq_no h4
  by_cases h5:K=5
  ·subst h5
   rw[if_pos (.inr rfl)]
   clear b4
   generalize hl:cs.length=l at*
   go_enter Tryz.func65,Tryz.ntmps65
   go_wp2_with fail
   go_ret
   exact⟨a,c,rfl,HH.out,W0.out⟩
  ·have b5:(K==5)=false:=beq_no h5
   rw[if_neg (by rintro(h|h);exact h4 h;exact h5 h)]
   clear h4 h5
   generalize hl:cs.length=l at*
   go_enter Tryz.func65,Tryz.ntmps65
   go_wp2_with fail
   go_ret
   exact⟨none,0,rfl,.inl ⟨rfl,none,0,rfl⟩,W0.out⟩
open Go.RowKit

set_option maxHeartbeats 4000000 in
theorem large_any (d:Nat): ∀(f:Nat) (v:Value) (m:List Ms.Nd) (deep:Int) (w:World),Ms.MsgAt f w v m→m.length≤2000000→deep=6-(d:Int)→d≤6→
  Calls Tryz.prog 147 #[v,.int .i64 deep] w fun e w'=>e= .returned (.tuple #[.int .i64 (Ms.lrg d m).1,.bool (Ms.lrg d m).2])∧Below w.heap.size w w':=by
 induction d with
 |zero=>
  intro f v m deep w h hl hd _
  obtain rfl:deep=6:=by omega
  clear hd
  cases m with
  |nil=>
   obtain⟨A,cap,rfl,_,_⟩:=h.spread
   simp only[List.length_nil]
   clear h
   go_enter Tryz.func147,Tryz.ntmps147
   go_wp2_with fail
   go_ret2
   exact⟨rfl,Below.refl _ _⟩
  |cons x r=>
   obtain⟨A,cap,rfl,_,_⟩:=h.spread
   have h0:(0:Int)<((x::r).length:Int):=by simp only[List.length_cons];omega
   have b0:(((x::r).length:Int)==0)=false:=beq_no (by omega)
   rw[show Ms.lrg 0 (x::r)=(0,true) from rfl]
   generalize (x::r).length=l at*
   clear h
   go_enter Tryz.func147,Tryz.ntmps147
   go_wp2_with fail
   go_ret2
   exact⟨rfl,Below.refl _ _⟩
 |succ d ih=>
  intro f v m deep w h hl hd h6
  have hd6:deep<6:=by omega
  have wd:IntKind.i64.wrap (deep+1)=deep+1:=IntWalk.i64_in _ (by omega)
  have IH:=Lib.hid fun f v m w (g:Ms.MsgAt f w v m) gl=>ih f v m (deep+1) w g gl (by omega) (by omega)
  have KB:=Lib.hid fun f (w:World) v m (g:Ms.MsgAt f w v m) gl=>Ms.lrg_bd d f (w:=w) (v:=v) (m:=m) g gl
  have dB:(d:Int)*3000000≤18000000:=by omega
  obtain⟨RES,hRES⟩: ∃RES,RES=Ms.lgo (Ms.lrg d) m.length (Ms.bodies m):=⟨_,rfl⟩
  rw[show Ms.lrg (d+1) m=RES from hRES.symm]
  have HRES:=Lib.hid hRES.symm
  have d0:decide (6≤deep)=false:=dec_no (by omega)
  clear ih hRES hd h6
  generalize Ms.lrg d=F at*
  rcases h with⟨rfl,A,cap,rfl⟩|⟨b,off,cap,rfl,hpos,hcap,hmx,hx⟩
  ·have hr:RES=(0,false):=by rw[←HRES.out];rfl
   subst hr
   clear HRES IH KB
   go_enter Tryz.func147,Tryz.ntmps147
   go_wp2_with fail
   go_ret2
   exact⟨rfl,Below.refl _ _⟩
  ·unfold maxLen at hmx
   have b0:((m.length:Int)==0)=false:=beq_no (by omega)
   cases f with
   |zero=>exact absurd (hx 0 _ (List.getElem?_eq_getElem hpos)) (by simp[Ms.NdC])
   |succ f=>
   have HX:=Lib.hid fun (j:Nat) (x:Ms.Nd) (hj:m[j]?=some x) (wr:World) (hb:Below w.heap.size w wr)=>Ms.NdC.below (f+1) (hx j x hj) hb
   clear hx
   generalize hlm:m.length=L at*
   go_enter Tryz.func147,Tryz.ntmps147
   go_wp2_with fail
   go_loopw [6,7] (fun vn vi wr=> ∃(i:Nat) (n:Int),vi= .int .i64 (i:Int)∧vn= .int .i64 n∧i≤L∧0≤n∧n≤2000060∧Hid (Ms.lgo F n (Ms.bodies (m.drop i))=RES)∧Hid (Below w.heap.size w wr)) (fun _ vi _=>L-(RowKit.intOf vi).toNat)
   case atStart=>exact⟨0,L,rfl,rfl,Nat.zero_le _,by omega,by omega,HRES,Lib.hid (Below.refl _ _)⟩
   case round=>
    obtain⟨i,n,rfl,rfl,hi,n0,n1,HL,HB⟩:=hrel
    clear HRES
    by_cases hlt:i<L
    ·have hi':(i:Int)<(L:Int):=by omega
     obtain⟨x,hxi⟩: ∃x,m[i]?=some x:=⟨m[i]'(by omega),List.getElem?_eq_getElem (by omega)⟩
     obtain⟨a0,n0',c0,g0,g1,g2,g3,g4,g5,g6⟩:=HX.out i x hxi wr HB.out
     have lb:=World.block_lt_of_cell? _ _ g0
     have HL2:=Lib.hid (Ms.lgo_cases F hxi n▸HL.out)
     have wi:IntKind.i64.wrap ((i:Int)+1)=(i:Int)+1:=IntWalk.i64_in _ (by omega)
     have CC:=Lib.hid fun (wx:World) (hb:Below wr.heap.size wr wx)=>qcases_any x wx (Ms.cass_below (f:=f) (w:=wr) (show Ms.CassAt f wr (.slice a0 n0' c0) x.cases from g4) hb)
     have lcs:(Ms.casesOf x).length≤2000000:=by
      unfold Ms.casesOf;split
      ·exact g6
      ·simp
     clear HL g4 g5 g6 hxi
     generalize Ms.casesOf x=cs at*
     go_wp2_with fail
     refine(CC.out _ (Below.refl _ _)).mono ?_
     rintro e w1 ⟨A1,C1,rfl,hcs,hb⟩
     have W1:=Lib.hid (blw_trans (HB.out) hb)
     have HC:=Lib.hid (Ms.cass_below hcs hb)
     clear hb hcs CC g0 g1 g2 g3 lb HB
     obtain⟨A2,C2,e2,_,hel⟩:=HC.out.spread
     injection e2 with e3 e4 e5
     subst e3 e5
     have HEL:=Lib.hid fun (k:Nat) y (hk:cs[k]?=some y) (wx:World) (hb:Below w1.heap.size w1 wx)=>(show ∃bb oo,A1=some ⟨bb,oo,none⟩∧Ms.CsC f wx bb (oo+k*2) y from by
      obtain⟨bb,oo,e,q⟩:=hel k y hk
      exact⟨bb,oo,e,q.below hb⟩)
     have hcapc:cs.length≤C1∨cs.length=0:=by
      rcases HC.out with⟨e,_⟩|⟨_,_,_,e,_,q,_,_⟩
      ·exact .inr (by rw[e];rfl)
      ·injection e with _ _ e;exact .inl (by omega)
     clear HC hel e4
     have HL3:=Lib.hid (show Ms.lgo F n ((cs.drop 0).map (·.2)++Ms.bodies (m.drop (i+1)))=RES by rw[List.drop_zero];exact HL2.out)
     clear HL2
     generalize hlc:cs.length=LC at*
     go_wp2_with fail
     go_loopw [6,9] (fun vn vk wr2=> ∃(k:Nat) (n:Int),vk= .int .i64 (k:Int)∧vn= .int .i64 n∧k≤LC∧0≤n∧n≤2000060∧Hid (Ms.lgo F n ((cs.drop k).map (·.2)++Ms.bodies (m.drop (i+1)))=RES)∧Hid (Below w1.heap.size w1 wr2)) (fun _ vk _=>LC-(RowKit.intOf vk).toNat)
     case atStart=>exact⟨0,n,rfl,rfl,Nat.zero_le _,n0,n1,HL3,Lib.hid (Below.refl _ _)⟩
     case round=>
      obtain⟨k,n,rfl,rfl,hk,n0,n1,HL,HB⟩:=hrel
      clear HL3
      by_cases hlt2:k<LC
      ·have hk':(k:Int)<(LC:Int):=by omega
       obtain⟨y,hy⟩: ∃y,cs[k]?=some y:=⟨cs[k]'(by omega),List.getElem?_eq_getElem (by omega)⟩
       obtain⟨bb,oo,rfl,a9,n9,c9,q0,q1,q2,q3,q4⟩:=HEL.out k y hy wr HB.out
       have lb:=World.block_lt_of_cell? _ _ q0
       have kb:=KB.out f wr _ _ q2 q4
       have hcc:LC≤C1:=by omega
       have CR:=Lib.hid fun (wx:World) (hb:Below wr.heap.size wr wx)=>IH.out f _ _ wx (Ms.msg_below q2 hb) q4
       have hst:=HL.out
       rw[Ms.cases_step hy,List.cons_append] at hst
       unfold Ms.lgo at hst
       have wk:IntKind.i64.wrap ((k:Int)+1)=(k:Int)+1:=IntWalk.i64_in _ (by omega)
       clear HL q2 q3 q4 hy
       generalize F y.2=FR at*
       obtain⟨kk,is⟩:=FR
       simp only at*
       have wn:IntKind.i64.wrap (n+kk)=n+kk:=IntWalk.i64_in _ (by omega)
       obtain⟨nn,hnn⟩: ∃nn,n+kk=nn:=⟨_,rfl⟩
       rw[hnn] at wn hst
       have nn0:0≤nn:=by omega
       have HN:=Lib.hid hnn
       go_wp2_with fail
       refine(CR.out _ (Below.refl _ _)).mono ?_
       rintro e w3 ⟨rfl,hb⟩
       have W3:=Lib.hid (blw_trans (HB.out) hb)
       clear hb CR q0 q1 lb HB
       cases is with
       |true=>
        simp only[Bool.true_or,if_true] at hst
        subst hst
        go_wp2_with fail
        go_ret2
        exact⟨rfl,blw_trans W1.out W3.out⟩
       |false=>
        simp only[Bool.false_or] at hst
        by_cases hbig:60<nn
        ·have d1:decide (60<nn)=true:=dec_yes hbig
         rw[if_pos d1] at hst
         subst hst
         clear hbig
         go_wp2_with fail
         go_ret2
         exact⟨rfl,blw_trans W1.out W3.out⟩
        ·have d1:decide (60<nn)=false:=dec_no hbig
         rw[if_neg (by rw[d1];simp)] at hst
         have HST:=Lib.hid hst
         have nn1:nn≤2000060:=by omega
         clear hst hbig
         go_wp2_with fail
         go_roundw
         case rel=>exact⟨k+1,nn,by go_num,rfl,by omega,nn0,nn1,HST,W3⟩
         case measure=>simp[RowKit.intOf];omega
      ·have hk': ¬(k:Int)<(LC:Int):=by omega
       have hst:=HL.out
       rw[List.drop_of_length_le (by omega),List.map_nil,List.nil_append] at hst
       have HST:=Lib.hid hst
       clear hst HL
       go_wp2_with fail
       go_roundw
       case rel=>exact⟨i+1,n,by go_num,rfl,by omega,n0,n1,HST,Lib.hid (blw_trans W1.out HB.out)⟩
       case measure=>simp[RowKit.intOf];omega
    ·have hi': ¬(i:Int)<(L:Int):=by omega
     have hst:=HL.out
     rw[List.drop_of_length_le (by omega)] at hst
     have hst':(n,decide (60<n))=RES:=hst
     subst hst'
     clear hst HL
     go_wp2_with fail
     go_ret2
     exact⟨rfl,HB.out⟩
open Go.RowKit

set_option maxHeartbeats 4000000 in
theorem size_any' (d:Nat): ∀(f:Nat) (v:Value) (m:List Ms.Nd) (deep:Int) (w:World),Ms.MsgAt f w v m→m.length≤2000000→deep=6-(d:Int)→d≤6→
  Calls Tryz.prog 94 #[v,.int .i64 deep] w fun e w'=>e= .returned (.tuple #[.int .i64 (Ms.lrg d m).1,.bool (Ms.lrg d m).2])∧Below w.heap.size w w':=by
 induction d with
 |zero=>
  intro f v m deep w h hl hd _
  obtain rfl:deep=6:=by omega
  clear hd
  cases m with
  |nil=>
   obtain⟨A,cap,rfl,_,_⟩:=h.spread
   simp only[List.length_nil]
   clear h
   go_enter Tryz.func94,Tryz.ntmps94
   go_wp2_with fail
   go_loopw [6,24] (fun vn vi wr=>vn= .int .i64 0∧vi= .int .i64 0∧w=wr) (fun _ _ _=>0)
   case atStart=>exact⟨rfl,rfl,rfl⟩
   case round=>
    obtain⟨rfl,rfl,rfl⟩:=hrel
    go_wp2_with fail
    go_ret2
    exact⟨rfl,Below.refl _ _⟩
  |cons x r=>
   obtain⟨A,cap,rfl,_,_⟩:=h.spread
   have h0:(0:Int)<((x::r).length:Int):=by simp only[List.length_cons];omega
   have b0:(((x::r).length:Int)==0)=false:=beq_no (by omega)
   rw[show Ms.lrg 0 (x::r)=(0,true) from rfl]
   generalize (x::r).length=l at*
   clear h
   go_enter Tryz.func94,Tryz.ntmps94
   go_wp2_with fail
   go_ret2
   exact⟨rfl,Below.refl _ _⟩
 |succ d ih=>
  intro f v m deep w h hl hd h6
  have hd6:deep<6:=by omega
  have wd:IntKind.i64.wrap (deep+1)=deep+1:=IntWalk.i64_in _ (by omega)
  have IH:=Lib.hid fun f v m w (g:Ms.MsgAt f w v m) gl=>ih f v m (deep+1) w g gl (by omega) (by omega)
  have KB:=Lib.hid fun f (w:World) v m (g:Ms.MsgAt f w v m) gl=>Ms.lrg_bd d f (w:=w) (v:=v) (m:=m) g gl
  have dB:(d:Int)*3000000≤18000000:=by omega
  obtain⟨RES,hRES⟩: ∃RES,RES=Ms.lgo (Ms.lrg d) m.length (Ms.bodies m):=⟨_,rfl⟩
  rw[show Ms.lrg (d+1) m=RES from hRES.symm]
  have HRES:=Lib.hid hRES.symm
  have d0:decide (6≤deep)=false:=dec_no (by omega)
  clear ih hRES hd h6
  generalize Ms.lrg d=F at*
  rcases h with⟨rfl,A,cap,rfl⟩|⟨b,off,cap,rfl,hpos,hcap,hmx,hx⟩
  ·have hr:RES=(0,false):=by rw[←HRES.out];rfl
   subst hr
   clear HRES IH KB
   go_enter Tryz.func94,Tryz.ntmps94
   go_wp2_with fail
   go_loopw [6,24] (fun vn vi wr=>vn= .int .i64 0∧vi= .int .i64 0∧w=wr) (fun _ _ _=>0)
   case atStart=>exact⟨rfl,rfl,rfl⟩
   case round=>
    obtain⟨rfl,rfl,rfl⟩:=hrel
    go_wp2_with fail
    go_ret2
    exact⟨rfl,Below.refl _ _⟩
  ·unfold maxLen at hmx
   have b0:((m.length:Int)==0)=false:=beq_no (by omega)
   cases f with
   |zero=>exact absurd (hx 0 _ (List.getElem?_eq_getElem hpos)) (by simp[Ms.NdC])
   |succ f=>
   have HX:=Lib.hid fun (j:Nat) (x:Ms.Nd) (hj:m[j]?=some x) (wr:World) (hb:Below w.heap.size w wr)=>Ms.NdC.below (f+1) (hx j x hj) hb
   clear hx
   generalize hlm:m.length=L at*
   go_enter Tryz.func94,Tryz.ntmps94
   go_wp2_with fail
   go_loopw [6,24] (fun vn vi wr=> ∃(i:Nat) (n:Int),vi= .int .i64 (i:Int)∧vn= .int .i64 n∧i≤L∧0≤n∧n≤2000060∧Hid (Ms.lgo F n (Ms.bodies (m.drop i))=RES)∧Hid (Below w.heap.size w wr)) (fun _ vi _=>L-(RowKit.intOf vi).toNat)
   case atStart=>exact⟨0,L,rfl,rfl,Nat.zero_le _,by omega,by omega,HRES,Lib.hid (Below.refl _ _)⟩
   case round=>
    obtain⟨i,n,rfl,rfl,hi,n0,n1,HL,HB⟩:=hrel
    clear HRES
    by_cases hlt:i<L
    ·have hi':(i:Int)<(L:Int):=by omega
     obtain⟨x,hxi⟩: ∃x,m[i]?=some x:=⟨m[i]'(by omega),List.getElem?_eq_getElem (by omega)⟩
     obtain⟨a0,n0',c0,g0,g1,g2,g3,g4,g5,g6⟩:=HX.out i x hxi wr HB.out
     have lb:=World.block_lt_of_cell? _ _ g0
     have HL2:=Lib.hid (Ms.lgo_cases F hxi n▸HL.out)
     have wi:IntKind.i64.wrap ((i:Int)+1)=(i:Int)+1:=IntWalk.i64_in _ (by omega)
     have CC:=Lib.hid fun (wx:World) (hb:Below wr.heap.size wr wx)=>mcases_any x wx (Ms.cass_below (f:=f) (w:=wr) (show Ms.CassAt f wr (.slice a0 n0' c0) x.cases from g4) hb)
     have lcs:(Ms.casesOf x).length≤2000000:=by
      unfold Ms.casesOf;split
      ·exact g6
      ·simp
     clear HL g4 g5 g6 hxi
     generalize Ms.casesOf x=cs at*
     have XB:=Lib.hid (blw_alloc wr (.cells #[.int .i64 x.kind,.string ⟨x.text.toArray⟩,.int .i64 x.off,.slice a0 n0' c0] 34))
     go_wp2_with fail
     refine(CC.out _ XB.out).mono ?_
     rintro e w1 ⟨A1,C1,rfl,hcs,hb⟩
     have W1:=Lib.hid (blw_trans (blw_trans HB.out XB.out) hb)
     have HC:=Lib.hid (Ms.cass_below hcs hb)
     clear hb hcs CC g0 g1 g2 g3 lb HB
     obtain⟨A2,C2,e2,_,hel⟩:=HC.out.spread
     injection e2 with e3 e4 e5
     subst e3 e5
     have HEL:=Lib.hid fun (k:Nat) y (hk:cs[k]?=some y) (wx:World) (hb:Below w1.heap.size w1 wx)=>(show ∃bb oo,A1=some ⟨bb,oo,none⟩∧Ms.CsC f wx bb (oo+k*2) y from by
      obtain⟨bb,oo,e,q⟩:=hel k y hk
      exact⟨bb,oo,e,q.below hb⟩)
     have hcapc:cs.length≤C1∨cs.length=0:=by
      rcases HC.out with⟨e,_⟩|⟨_,_,_,e,_,q,_,_⟩
      ·exact .inr (by rw[e];rfl)
      ·injection e with _ _ e;exact .inl (by omega)
     clear HC hel e4
     have HL3:=Lib.hid (show Ms.lgo F n ((cs.drop 0).map (·.2)++Ms.bodies (m.drop (i+1)))=RES by rw[List.drop_zero];exact HL2.out)
     clear HL2
     generalize hlc:cs.length=LC at*
     go_wp2_with fail
     go_loopw [6,31] (fun vn vk wr2=> ∃(k:Nat) (n:Int),vk= .int .i64 (k:Int)∧vn= .int .i64 n∧k≤LC∧0≤n∧n≤2000060∧Hid (Ms.lgo F n ((cs.drop k).map (·.2)++Ms.bodies (m.drop (i+1)))=RES)∧Hid (Below w1.heap.size w1 wr2)) (fun _ vk _=>LC-(RowKit.intOf vk).toNat)
     case atStart=>exact⟨0,n,rfl,rfl,Nat.zero_le _,n0,n1,HL3,Lib.hid (Below.refl _ _)⟩
     case round=>
      obtain⟨k,n,rfl,rfl,hk,n0,n1,HL,HB⟩:=hrel
      clear HL3
      by_cases hlt2:k<LC
      ·have hk':(k:Int)<(LC:Int):=by omega
       obtain⟨y,hy⟩: ∃y,cs[k]?=some y:=⟨cs[k]'(by omega),List.getElem?_eq_getElem (by omega)⟩
       obtain⟨bb,oo,rfl,a9,n9,c9,q0,q1,q2,q3,q4⟩:=HEL.out k y hy wr HB.out
       have lb:=World.block_lt_of_cell? _ _ q0
       have kb:=KB.out f wr _ _ q2 q4
       have hcc:LC≤C1:=by omega
       have CR:=Lib.hid fun (wx:World) (hb:Below wr.heap.size wr wx)=>IH.out f _ _ wx (Ms.msg_below q2 hb) q4
       have hst:=HL.out
       rw[Ms.cases_step hy,List.cons_append] at hst
       unfold Ms.lgo at hst
       have wk:IntKind.i64.wrap ((k:Int)+1)=(k:Int)+1:=IntWalk.i64_in _ (by omega)
       clear HL q2 q3 q4 hy
       generalize F y.2=FR at*
       obtain⟨kk,is⟩:=FR
       simp only at*
       have wn:IntKind.i64.wrap (n+kk)=n+kk:=IntWalk.i64_in _ (by omega)
       obtain⟨nn,hnn⟩: ∃nn,n+kk=nn:=⟨_,rfl⟩
       rw[hnn] at wn hst
       have nn0:0≤nn:=by omega
       have HN:=Lib.hid hnn
       have XB:=Lib.hid (blw_alloc wr (.cells #[.string ⟨y.1.toArray⟩,.slice a9 n9 c9] 41))
       go_wp2_with fail
       refine(CR.out _ XB.out).mono ?_
       rintro e w3 ⟨rfl,hb⟩
       have W3:=Lib.hid (blw_trans (blw_trans HB.out XB.out) hb)
       clear hb CR q0 q1 lb HB
       cases is with
       |true=>
        simp only[Bool.true_or,if_true] at hst
        subst hst
        go_wp2_with fail
        go_ret2
        exact⟨rfl,blw_trans W1.out W3.out⟩
       |false=>
        simp only[Bool.false_or] at hst
        by_cases hbig:60<nn
        ·have d1:decide (60<nn)=true:=dec_yes hbig
         rw[if_pos d1] at hst
         subst hst
         clear hbig
         go_wp2_with fail
         go_ret2
         exact⟨rfl,blw_trans W1.out W3.out⟩
        ·have d1:decide (60<nn)=false:=dec_no hbig
         rw[if_neg (by rw[d1];simp)] at hst
         have HST:=Lib.hid hst
         have nn1:nn≤2000060:=by omega
         clear hst hbig
         go_wp2_with fail
         go_roundw
         case rel=>exact⟨k+1,nn,by go_num,rfl,by omega,nn0,nn1,HST,W3⟩
         case measure=>simp[RowKit.intOf];omega
      ·have hk': ¬(k:Int)<(LC:Int):=by omega
       have hst:=HL.out
       rw[List.drop_of_length_le (by omega),List.map_nil,List.nil_append] at hst
       have HST:=Lib.hid hst
       clear hst HL
       go_wp2_with fail
       go_roundw
       case rel=>exact⟨i+1,n,by go_num,rfl,by omega,n0,n1,HST,Lib.hid (blw_trans W1.out HB.out)⟩
       case measure=>simp[RowKit.intOf];omega
    ·have hi': ¬(i:Int)<(L:Int):=by omega
     have hst:=HL.out
     rw[List.drop_of_length_le (by omega)] at hst
     have hst':(n,decide (60<n))=RES:=hst
     subst hst'
     clear hst HL
     go_wp2_with fail
     go_ret2
     exact⟨rfl,HB.out⟩
open Go.RowKit

set_option maxHeartbeats 1000000 in
theorem mwhole_any {f:Nat} {v:Value} {m:List Ms.Nd} (w:World) (hw:MW w) (h:Ms.MsgAt f w v m) (hl:m.length≤2000000):
  Calls Tryz.prog 64 #[v] w fun e w'=>e= .returned (errN (Ms.msgE f m))∧Below w.heap.size w w':=by
 have CS:=Lib.hid (size_any' 6 f v m 0 w h hl (by decide) (by decide))
 have CC:=Lib.hid fun wx (hb:Below w.heap.size w wx)=>mcheck_any f w hw v m false wx hb (Ms.msg_below h hb) hl
 have HE:=Lib.hid (show Ms.msgE f m=if (Ms.lrg 6 m).2 then 4 else Ms.chk f false m from rfl)
 obtain⟨a,n,c,rfl⟩:=h.isSlice
 clear h hw hl
 generalize Ms.msgE f m=R at*
 generalize Ms.chk f false m=K at*
 generalize Ms.lrg 6 m=LR at*
 obtain⟨k,is⟩:=LR
 try simp only at*
 go_enter Tryz.func64,Tryz.ntmps64
 go_wp2_with fail
 refine CS.out.mono ?_
 rintro e w1 ⟨rfl,hb⟩
 have W1:=Lib.hid hb
 clear hb CS
 cases is with
 |true=>
  obtain rfl:R=4:=HE.out
  go_wp2_with fail
  go_ret
  exact⟨rfl,W1.out⟩
 |false=>
  obtain rfl:R=K:=HE.out
  go_wp2_with fail
  refine(CC.out _ W1.out).mono ?_
  rintro e w2 ⟨rfl,hb⟩
  have W2:=Lib.hid (blw_trans W1.out hb)
  clear hb CC
  by_cases h0:R=0
  ·subst h0
   rw[show errN 0= .nilIface from rfl]
   go_wp2_with fail
   go_ret
   exact⟨rfl,W2.out⟩
  ·have HN:=Lib.hid (show errN R=errV R from if_neg h0)
   rw[HN.out]
   clear h0 HE
   go_wp2_with fail
   go_ret
   exact⟨by rw[HN.out];rfl,W2.out⟩

set_option maxHeartbeats 1000000 in
theorem mfault_any {f:Nat} {v:Value} {m:List Ms.Nd} (w:World) (h:Ms.MsgAt f w v m) (hl:m.length≤2000000):
  Calls Tryz.prog 108 #[v] w fun e w'=>e= .returned (.int .i64 (Ms.msgE f m))∧Below w.heap.size w w':=by
 have CS:=Lib.hid (large_any 6 f v m 0 w h hl (by decide) (by decide))
 have CC:=Lib.hid fun wx (hb:Below w.heap.size w wx)=>qfault_any f v m false wx (Ms.msg_below h hb) hl
 have HE:=Lib.hid (show Ms.msgE f m=if (Ms.lrg 6 m).2 then 4 else Ms.chk f false m from rfl)
 obtain⟨a,n,c,rfl⟩:=h.isSlice
 clear h hl
 generalize Ms.msgE f m=R at*
 generalize Ms.chk f false m=K at*
 generalize Ms.lrg 6 m=LR at*
 obtain⟨k,is⟩:=LR
 try simp only at*
 go_enter Tryz.func108,Tryz.ntmps108
 go_wp2_with fail
 refine CS.out.mono ?_
 rintro e w1 ⟨rfl,hb⟩
 have W1:=Lib.hid hb
 clear hb CS
 cases is with
 |true=>
  obtain rfl:R=4:=HE.out
  go_wp2_with fail
  go_ret
  exact⟨rfl,W1.out⟩
 |false=>
  obtain rfl:R=K:=HE.out
  go_wp2_with fail
  refine(CC.out _ W1.out).mono ?_
  rintro e w2 ⟨rfl,hb⟩
  have W2:=Lib.hid (blw_trans W1.out hb)
  clear hb CC
  go_wp2_with fail
  go_ret
  exact⟨rfl,W2.out⟩
open Go.RowKit Ms

set_option maxHeartbeats 2000000 in
theorem nof_any {f:Nat} {v:Value} {m:List Nd} (w:World) (hw:MW w) (h:MsgAt f w v m) (hl:m.length≤2000000):
  Calls Tryz.prog 55 #[v] w fun e w'=> ∃u,e= .returned (.tuple #[u,errN (namE f m)])∧w'.ownsRow w.heap.size 126 3 u (lstN f m).length (nflat (lstN f m))∧Below w.heap.size w w':=by
 have CK:=Lib.hid (mwhole_any w hw h hl)
 have HN:=Lib.hid (show namE f m=if msgE f m≠0 then msgE f m else if (allN f [] m).any (fun n=>n.2.1&&n.2.2) then 7 else 0 from rfl)
 have HL:=Lib.hid (show lstN f m=if namE f m=0 then allN f [] m else [] from rfl)
 have CA:=Lib.hid fun (wx:World) p u hp hb hc=>nall_any f v m w wx p u [] h hl hp hb hc
 have HC:=Lib.hid (fun h=>cnt_small (f:=f) (m:=m) h)
 obtain⟨a,n,c,rfl⟩:=h.isSlice
 clear h hw hl
 generalize lstN f m=LS at*
 generalize namE f m=NE at*
 generalize msgE f m=ME at*
 generalize allN f [] m=AL at*
 by_cases h0:ME=0
 case neg=>
  obtain rfl:NE=ME:=by rw[HN.out,if_pos h0]
  obtain rfl:LS= []:=by rw[HL.out,if_neg h0]
  have HE:=Lib.hid (show errN NE=errV NE from if_neg h0)
  rw[HE.out] at CK
  clear h0 HN HL HC CA
  go_enter Tryz.func55,Tryz.ntmps55
  go_wp2_with fail
  refine CK.out.mono ?_
  rintro e w1 ⟨rfl,hb⟩
  have W1:=Lib.hid hb
  clear hb CK
  go_wp2_with fail
  go_ret2
  exact⟨_,by rw[HE.out];rfl,⟨rfl,.inl ⟨rfl,rfl⟩⟩,W1.out⟩
 subst h0
 have hcn:=HC.out rfl
 rw[show errN 0= .nilIface from rfl] at CK
 replace HN:=Lib.hid (show NE=if AL.any (fun n=>n.2.1&&n.2.2) then 7 else 0 from HN.out)
 go_enter Tryz.func55,Tryz.ntmps55
 go_wp2_with fail
 refine CK.out.mono ?_
 rintro e w1 ⟨rfl,hb⟩
 have W1:=Lib.hid hb
 have hsz:=hb.size
 have P1:=Lib.hid (show NI w.heap.size w1.heap.size (.slice none 0 0) [] (w1.alloc (.cells #[.slice none 0 0] 119)) from⟨Boxed.made _ _ _,World.ownsRow_nil _ _ _ _,by simp[Value.ownBlock],hsz⟩)
 clear hb CK
 go_wp2_with fail
 refine(CA.out _ _ _ P1.out (W1.out.alloc hsz _) (by simp;omega)).mono ?_
 rintro e w2 ⟨rfl,⟨u,hu⟩,hb⟩
 have W2:=Lib.hid hb
 have P2:=Lib.hid hu
 obtain⟨ua,uc,rfl⟩:=hu.isSlice
 have u0:w2.cell? ⟨w1.heap.size,0,none⟩=some (.slice ua AL.length uc):=hu.box.cell 0 _ rfl
 have CH:=Lib.hid (has_need AL (fun n=>n.2.1&&n.2.2) 86 #[] of1_at (.slice ua AL.length uc) w2 (needs_of_row hu.row) (Lib.hid fun y _ wx _=>of1_any y wx))
 have hs2:=hb.size
 clear hu hb CA P1 W1 HC
 generalize w1.heap.size=p at*
 generalize (AL.any fun n=>n.2.1&&n.2.2)=Z at*
 go_wp2_with fail
 refine CH.out.mono ?_
 rintro e w3 ⟨rfl,hb⟩
 have P3:=Lib.hid (P2.out.below hb)
 have W3:=Lib.hid (W2.out.trans (hb.mono hs2))
 have u1:w3.cell? ⟨p,0,none⟩=some (.slice ua AL.length uc):=P3.out.box.cell 0 _ rfl
 clear hb CH P2 W2 u0
 cases Z with
 |true=>
  obtain rfl:NE=7:=HN.out
  obtain rfl:LS= []:=HL.out
  go_wp2_with fail
  go_ret2
  exact⟨_,rfl,⟨rfl,.inl ⟨rfl,rfl⟩⟩,W3.out⟩
 |false=>
  obtain rfl:NE=0:=HN.out
  obtain rfl:LS=AL:=HL.out
  go_wp2_with fail
  go_ret2
  exact⟨_,rfl,P3.out.row,W3.out⟩
open Go.RowKit Ms

theorem argE_step {d:List Ag} {a:Ag} {r:List Ag}:argE d (a::r)=if !nameB a.name then 3 else if a.num&&badA a then 1 else if hasA d a.name then 5 else argE (d++ [a]) r:=rfl
theorem drop_step {α:Type} {l:List α} {k:Nat} {y:α} (h:l[k]?=some y):l.drop k=y::l.drop (k+1)∧l.take (k+1)=l.take k++ [y]:=by
 obtain⟨hi,e⟩:=List.getElem?_eq_some_iff.1 h
 exact⟨by rw[List.drop_eq_getElem_cons hi,e],by rw[List.take_add_one,h];rfl⟩
/-- what the map tells of args -/
def kin (l:List Ag):List (List UInt8×Bool):=l.map fun a=>(a.name,a.num)
theorem kin_add (l:List Ag) (a:Ag):kin (l++ [a])=kin l++ [(a.name,a.num)]:=by unfold kin;rw[List.map_append];rfl
theorem kin_find (l:List Ag) (t:List UInt8):(kin l).find? (fun p=>p.1==t)=(l.find? (fun a=>a.name==t)).map fun a=>(a.name,a.num):=by
 unfold kin
 rw[List.find?_map]
 rfl
theorem kin_has {l:List Ag} {t:List UInt8} (h:hasA l t=true): ∃p,(kin l).find? (fun p=>p.1==t)=some p:=by
 obtain⟨a,ha,e⟩:=List.any_eq_true.1 h
 rw[kin_find]
 cases hf:l.find? (fun a=>a.name==t) with
 |none=>rw[List.find?_eq_none] at hf;exact absurd e (hf a ha)
 |some x=>exact⟨_,rfl⟩
theorem kin_not {l:List Ag} {t:List UInt8} (h:hasA l t=false):(kin l).find? (fun p=>p.1==t)=none:=by
 rw[kin_find,List.find?_eq_none.2]
 ·rfl
 ·intro a ha e
  unfold hasA at h
  rw[List.any_eq_true.2 ⟨a,ha,e⟩] at h;cases h
theorem dcheck_any (a:Ag) (w:World):Calls Tryz.prog 57 #[.agg #[.int .i64 a.co,.int .i64 a.sc]] w fun e w'=>e= .returned (if badA a then errV 1 else .nilIface)∧Below w.heap.size w w':=by
 by_cases h:Dcm.okD a.co a.sc
 ·rw[show badA a=false by unfold badA;simp[h]]
  exact dchk_yes _ _ w h
 ·rw[show badA a=true by unfold badA;simp[h]]
  exact dchk_no _ _ w h
theorem zero_bool (w:World):(zeroValue 4).run Tryz.prog w= .ok (.bool false) w:=by kernel_rfl

set_option maxHeartbeats 4000000 in
theorem fits_any {f:Nat} {v va:Value} {m:List Nd} {args:List Ag} (w:World) (hw:MW w) (h:MsgAt f w v m) (hl:m.length≤2000000) (ha:ArgsAt w va args) (hal:args.length≤2000000) (hna: ∀a∈args,a.name.length≤4000000000):
  Calls Tryz.prog 27 #[v,va] w fun e w'=>e= .returned (errN (fitE f m args))∧Below w.heap.size w w':=by
 have CK:=Lib.hid (nof_any w hw h hl)
 have HE:=Lib.hid (show fitE f m args=if namE f m≠0 then namE f m else if argE [] args≠0 then argE [] args else askE args (allN f [] m) from rfl)
 have HL:=Lib.hid (show lstN f m=if namE f m=0 then allN f [] m else [] from rfl)
 have HLL:=Lib.hid (lstN_len f m)
 obtain⟨a,n,c,rfl⟩:=h.isSlice
 obtain⟨A,cap,rfl,_,hel⟩:=ha.spread
 have hcap:args.length≤cap∨args.length=0:=by
  rcases ha with⟨e,_⟩|⟨_,_,_,e,_,q,_,_⟩
  ·exact .inr (by rw[e];rfl)
  ·injection e with _ _ e;exact .inl (by omega)
 have HX:=Lib.hid hel
 have CN:=Lib.hid fun (x:Ag) (hx:x∈args) (wx:World)=>mname_any x.name wx (hna x hx)
 clear h hw hl ha hel hna
 generalize lstN f m=LS at*
 generalize namE f m=NE at*
 generalize allN f [] m=AL at*
 generalize fitE f m args=FE at*
 by_cases h0:NE=0
 case neg=>
  obtain rfl:FE=NE:=by rw[HE.out,if_pos h0]
  have HV:=Lib.hid (show errN FE=errV FE from if_neg h0)
  rw[HV.out] at CK
  clear h0 HL HE CN HX
  generalize hN:args.length=N at*
  go_enter Tryz.func27,Tryz.ntmps27
  go_wp2_with fail
  refine CK.out.mono ?_
  rintro e w1 ⟨u,rfl,hr,hb⟩
  have W1:=Lib.hid hb
  obtain⟨ua,uc,rfl⟩:=mrow_slice hr
  clear hb CK hr
  go_wp2_with fail
  go_ret
  exact⟨by rw[HV.out];rfl,W1.out⟩
 subst h0
 obtain rfl:LS=AL:=HL.out
 rw[show errN 0= .nilIface from rfl] at CK
 have HE:=Lib.hid (show FE=if argE [] args≠0 then argE [] args else askE args LS from HE.out)
 clear HL
 have hll:=HLL.out
 clear HLL
 obtain⟨AE,hAE⟩: ∃AE,AE=argE [] args:=⟨_,rfl⟩
 rw[←hAE] at HE
 have HAE:=Lib.hid (show argE (args.take 0) (args.drop 0)=AE by rw[hAE];rfl)
 clear hAE
 generalize hN:args.length=N at*
 have MM:=Lib.hid fun wx=>(run_makeMap (P:= Tryz.prog) (w:=wx) 122)
 go_enter Tryz.func27,Tryz.ntmps27
 go_wp2_with fail
 refine CK.out.mono ?_
 rintro e w1 ⟨u,rfl,hr,hb⟩
 have W1:=Lib.hid hb
 have hsz:=hb.size
 obtain⟨ua,uc,rfl⟩:=mrow_slice hr
 have HR:=Lib.hid hr
 have MMh:=MM.out w1
 have KM:=Lib.hid (kinds_new w1)
 have WM:=Lib.hid (blw_alloc w1 (.map #[] 0))
 clear hb CK hr MM
 go_wp2_with fail
 generalize hw2:w1.alloc (.map #[] 0)=w2 at*
 obtain⟨B,hBe⟩: ∃B,B=w1.heap.size:=⟨_,rfl⟩
 rw[←hBe] at KM
 have hB:w1.heap.size≤B:=by omega
 rw[←hBe]
 clear hw2 hBe MMh
 go_loopw [28] (fun vi wr=> ∃i:Nat,vi= .int .i64 (i:Int)∧i≤N∧Hid (KindsAt B (kin (args.take i)) wr)∧Hid (argE (args.take i) (args.drop i)=AE)∧Hid (Below w1.heap.size w1 wr)) (fun vi _=>N-(RowKit.intOf vi).toNat)
 case atStart=>exact⟨0,rfl,Nat.zero_le _,KM,HAE,WM⟩
 case round=>
  obtain⟨i,rfl,hi,HK,HS,HB⟩:=hrel
  clear HAE KM WM
  by_cases hlt:i<N
  ·have hi':(i:Int)<(N:Int):=by omega
   have hcc:N≤cap:=by omega
   obtain⟨x,hxi⟩: ∃x,args[i]?=some x:=⟨args[i]'(by omega),List.getElem?_eq_getElem (by omega)⟩
   obtain⟨b,off,rfl,p0,p1,p2,p3,p4⟩:=HX.out i x hxi
   have WB:=Lib.hid (blw_trans W1.out HB.out)
   have g0:=cell_keep p0 WB.out
   have g1:=cell_keep p1 WB.out
   have g2:=cell_keep p2 WB.out
   have g3:=cell_keep p3 WB.out
   have g4:=cell_keep p4 WB.out
   have lb:=World.block_lt_of_cell? _ _ g0
   have wi:IntKind.i64.wrap ((i:Int)+1)=(i:Int)+1:=IntWalk.i64_in _ (by omega)
   have CNh:=Lib.hid (CN.out x (List.mem_of_getElem? hxi))
   have HT:=Lib.hid (drop_step hxi).2
   have hst:=HS.out
   rw[(drop_step hxi).1,argE_step] at hst
   have CD:=Lib.hid (dcheck_any x)
   clear HS p0 p1 p2 p3 p4 hxi CN WB
   generalize badA x=Z at*
   obtain⟨T,bn,co,sc,tx⟩:=x
   have BX:=Lib.hid (Boxed.made wr #[.string ⟨T.toArray⟩,.bool bn,.int .i64 co,.int .i64 sc,.string ⟨tx.toArray⟩] 36)
   have hs0:=HB.out.size
   have HKa:=Lib.hid (HK.out.below (blw_alloc wr (.cells #[.string ⟨T.toArray⟩,.bool bn,.int .i64 co,.int .i64 sc,.string ⟨tx.toArray⟩] 36)))
   have HBa:=Lib.hid (HB.out.alloc hs0 (.cells #[.string ⟨T.toArray⟩,.bool bn,.int .i64 co,.int .i64 sc,.string ⟨tx.toArray⟩] 36))
   have HST:=Lib.hid (show(if !nameB T then 3 else if bn&&Z then 1 else if hasA (args.take i) T then 5 else argE (args.take i++ [⟨T,bn,co,sc,tx⟩]) (args.drop (i+1)))=AE from hst)
   clear hst
   generalize nameB T=NB at*
   go_wp2_with fail
   refine(CNh.out _).mono ?_
   rintro e w3 ⟨rfl,hb⟩
   have BX3:=Lib.hid (BX.out.below hb)
   have HK3:=Lib.hid (HKa.out.below hb)
   have HB3:=Lib.hid (HBa.out.trans (hb.mono HBa.out.size))
   clear hb CNh BX HKa HBa HK HB g0 g1 g2 g3 g4 lb
   generalize wr.heap.size=q at*
   cases NB with
   |false=>
    obtain rfl:3=AE:=HST.out
    obtain rfl:FE=3:=HE.out
    clear CD HT
    go_wp2_with fail
    go_ret
    exact⟨rfl,blw_trans W1.out HB3.out⟩
   |true=>
    have z1:w3.cell? ⟨q,1,none⟩=some (.bool bn):=BX3.out.cell 1 _ rfl
    have zl:=BX3.out.lt
    cases bn with
    |false=>
     have HS:=Lib.hid (show(if hasA (args.take i) T then 5 else argE (args.take i++ [⟨T,false,co,sc,tx⟩]) (args.drop (i+1)))=AE from HST.out)
     clear HST CD
     have y0:World.cell? w3 ⟨q,0,none⟩=some (.string ⟨T.toArray⟩):=BX3.out.cell 0 _ rfl
     have y1:World.cell? w3 ⟨q,1,none⟩=some (.bool false):=BX3.out.cell 1 _ rfl
     cases hH:hasA (args.take i) T with
     |true=>
      have hst:=HS.out
      rw[hH] at hst
      obtain rfl:5=AE:=hst
      obtain rfl:FE=5:=HE.out
      obtain⟨p,hp⟩:=kin_has hH
      have LK:=HK3.out.look (P:= Tryz.prog) 122 9 4 Tryz.underlying122 Tryz.underlying9 hp
      clear HS
      go_wp2_with fail
      go_ret
      exact⟨rfl,blw_trans W1.out HB3.out⟩
     |false=>
      have hst:=HS.out
      rw[hH] at hst
      have HS2:=Lib.hid (show argE (args.take (i+1)) (args.drop (i+1))=AE by rw[HT.out];exact hst)
      have LK:=HK3.out.none (P:= Tryz.prog) 122 9 4 Tryz.underlying122 Tryz.underlying9 (zero_bool _) (kin_not hH)
      obtain⟨w5,MU,HK5,HB5⟩:=HK3.out.put (P:= Tryz.prog) 122 9 4 Tryz.underlying122 Tryz.underlying9 false (kin_not hH)
      have K5:=Lib.hid (show KindsAt B (kin (args.take (i+1))) w5 by rw[HT.out,kin_add];exact HK5)
      have W5:=Lib.hid (HB5 w1.heap.size w1 hB HB3.out)
      clear hst HS HK5 HB5
      go_wp2_with fail
      go_roundw
      case rel=>exact⟨i+1,by go_num,by omega,K5,HS2,W5⟩
      case measure=>simp[RowKit.intOf];omega
    |true=>
     have z2:w3.cell? ⟨q,2,none⟩=some (.int .i64 co):=BX3.out.cell 2 _ rfl
     have z3:w3.cell? ⟨q,3,none⟩=some (.int .i64 sc):=BX3.out.cell 3 _ rfl
     have CDh:=Lib.hid (CD.out w3)
     clear CD
     go_wp2_with fail
     refine CDh.out.mono ?_
     rintro e w4 ⟨rfl,hb⟩
     have BX4:=Lib.hid (BX3.out.below hb)
     have HK4:=Lib.hid (HK3.out.below hb)
     have HB4:=Lib.hid (HB3.out.trans (hb.mono HB3.out.size))
     have zl4:=BX4.out.lt
     clear hb CDh BX3 HK3 HB3 z1 z2 z3 zl
     cases Z with
     |true=>
      obtain rfl:1=AE:=HST.out
      obtain rfl:FE=1:=HE.out
      clear HT
      go_wp2_with fail
      go_ret
      exact⟨rfl,blw_trans W1.out HB4.out⟩
     |false=>
      have HS:=Lib.hid (show(if hasA (args.take i) T then 5 else argE (args.take i++ [⟨T,true,co,sc,tx⟩]) (args.drop (i+1)))=AE from HST.out)
      clear HST
      have y0:World.cell? w4 ⟨q,0,none⟩=some (.string ⟨T.toArray⟩):=BX4.out.cell 0 _ rfl
      have y1:World.cell? w4 ⟨q,1,none⟩=some (.bool true):=BX4.out.cell 1 _ rfl
      cases hH:hasA (args.take i) T with
      |true=>
       have hst:=HS.out
       rw[hH] at hst
       obtain rfl:5=AE:=hst
       obtain rfl:FE=5:=HE.out
       obtain⟨p,hp⟩:=kin_has hH
       have LK:=HK4.out.look (P:= Tryz.prog) 122 9 4 Tryz.underlying122 Tryz.underlying9 hp
       clear HS
       go_wp2_with fail
       go_ret
       exact⟨rfl,blw_trans W1.out HB4.out⟩
      |false=>
       have hst:=HS.out
       rw[hH] at hst
       have HS2:=Lib.hid (show argE (args.take (i+1)) (args.drop (i+1))=AE by rw[HT.out];exact hst)
       have LK:=HK4.out.none (P:= Tryz.prog) 122 9 4 Tryz.underlying122 Tryz.underlying9 (zero_bool _) (kin_not hH)
       obtain⟨w5,MU,HK5,HB5⟩:=HK4.out.put (P:= Tryz.prog) 122 9 4 Tryz.underlying122 Tryz.underlying9 true (kin_not hH)
       have K5:=Lib.hid (show KindsAt B (kin (args.take (i+1))) w5 by rw[HT.out,kin_add];exact HK5)
       have W5:=Lib.hid (HB5 w1.heap.size w1 hB HB4.out)
       clear hst HS HK5 HB5
       go_wp2_with fail
       go_roundw
       case rel=>exact⟨i+1,by go_num,by omega,K5,HS2,W5⟩
       case measure=>simp[RowKit.intOf];omega
  ·have hi': ¬(i:Int)<(N:Int):=by omega
   have hst:=HS.out
   rw[List.drop_of_length_le (by omega)] at hst
   obtain rfl:0=AE:=hst
   have hk:=HK.out
   rw[List.take_of_length_le (by omega)] at hk
   have HK0:=Lib.hid hk
   have HE2:=Lib.hid (show askE args (LS.drop 0)=FE from HE.out.symm)
   obtain⟨A3,cap3,e3,_,hel3⟩:=(needs_of_row HR.out).spread
   injection e3 with e4 e5 e6
   subst e4 e6
   have hcapu:LS.length≤uc∨LS.length=0:=by
    rcases HR.out.2 with⟨e,h0⟩|⟨g,cap,cur,e,_,q,_⟩
    ·exact .inr h0
    ·injection e with _ _ e;exact .inl (by omega)
   have HX3:=Lib.hid hel3
   have HB0:=Lib.hid HB.out
   clear hk hel3 e5 HR HK HB HE HS CN HX
   generalize hM:LS.length=M at*
   go_wp2_with fail
   go_loopw [62] (fun vk wx=> ∃k:Nat,vk= .int .i64 (k:Int)∧k≤M∧Hid (KindsAt B (kin args) wx)∧Hid (askE args (LS.drop k)=FE)∧Hid (Below w1.heap.size w1 wx)) (fun vk _=>M-(RowKit.intOf vk).toNat)
   case atStart=>exact⟨0,rfl,Nat.zero_le _,HK0,HE2,HB0⟩
   case round=>
    obtain⟨k,rfl,hk,HK,HS,HB⟩:=hrel
    clear HK0 HE2 HB0
    by_cases hltk:k<M
    ·have hk':(k:Int)<(M:Int):=by omega
     have hccu:M≤uc:=by omega
     obtain⟨x,hxk⟩: ∃x,LS[k]?=some x:=⟨LS[k]'(by omega),List.getElem?_eq_getElem (by omega)⟩
     obtain⟨b,off,rfl,p0,p1,p2⟩:=HX3.out k x hxk
     have g0:=cell_keep p0 HB.out
     have g1:=cell_keep p1 HB.out
     have g2:=cell_keep p2 HB.out
     have lb:=World.block_lt_of_cell? _ _ g0
     have wk:IntKind.i64.wrap ((k:Int)+1)=(k:Int)+1:=IntWalk.i64_in _ (by omega)
     have hst:=HS.out
     rw[(drop_step hxk).1,askE_cons] at hst
     clear HS p0 p1 p2 hxk
     obtain⟨T,bn,bt⟩:=x
     have hs0:=HB.out.size
     have HKa:=Lib.hid (HK.out.below (blw_alloc wr (.cells #[.string ⟨T.toArray⟩,.bool bn,.bool bt] 126)))
     have HBa:=Lib.hid (HB.out.alloc hs0 (.cells #[.string ⟨T.toArray⟩,.bool bn,.bool bt] 126))
     have KF:=kin_find args T
     cases hf:args.find? (fun a=>a.name==T) with
     |none=>
      rw[hf] at hst KF
      obtain rfl:2=FE:=hst
      have LK:=HKa.out.none (P:= Tryz.prog) 122 9 4 Tryz.underlying122 Tryz.underlying9 (zero_bool _) KF
      clear hf KF HK HB
      go_wp2_with fail
      go_ret
      exact⟨rfl,blw_trans W1.out HBa.out⟩
     |some y=>
      rw[hf] at hst KF
      obtain⟨y1,yn,y3,y4,y5⟩:=y
      have LK:(Instr.lookup 122 (.map (some B)) (.string ⟨T.toArray⟩) true).run Tryz.prog (wr.alloc (.cells #[.string ⟨T.toArray⟩,.bool bn,.bool bt] 126))= .ok (.tuple #[.bool yn,.bool true]) (wr.alloc (.cells #[.string ⟨T.toArray⟩,.bool bn,.bool bt] 126)):=HKa.out.look (P:= Tryz.prog) 122 9 4 Tryz.underlying122 Tryz.underlying9 KF
      have HST:=Lib.hid (show(if (bn&&!yn)||(bt&&yn) then 7 else askE args (LS.drop (k+1)))=FE from hst)
      clear hst hf KF HK HB
      have BXk:=Lib.hid (Boxed.made wr #[.string ⟨T.toArray⟩,.bool bn,.bool bt] 126)
      go_upto_region 25 with fail
      go_cut [88] from 76 to 88 (fun s wx=>s= .bool ((bn&&!yn)||(bt&&yn))∧wx=wr.alloc (.cells #[.string ⟨T.toArray⟩,.bool bn,.bool bt] 126))
      case first=>
       clear HST
       cases bn<;>cases yn<;>cases bt<;>(go_wp2_with fail;go_meet;exact⟨rfl,rfl⟩)
      case rest=>
      obtain⟨rfl,rfl⟩:=hcut
      generalize ((bn&&!yn)||(bt&&yn))=Z at*
      cases Z with
      |true=>
       obtain rfl:7=FE:=HST.out
       go_wp2_with fail
       go_ret
       exact⟨rfl,blw_trans W1.out HBa.out⟩
      |false=>
       have HS2:=Lib.hid (show askE args (LS.drop (k+1))=FE from HST.out)
       clear HST
       go_wp2_with fail
       go_roundw
       case rel=>exact⟨k+1,by go_num,by omega,HKa,HS2,HBa⟩
       case measure=>simp[RowKit.intOf];omega
    ·have hk': ¬(k:Int)<(M:Int):=by omega
     have hst:=HS.out
     rw[List.drop_of_length_le (by omega)] at hst
     obtain rfl:0=FE:=hst
     go_wp2_with fail
     go_ret
     exact⟨rfl,blw_trans W1.out HB.out⟩
end Go.Proofs.YtldbfkccieipjaaGreatDoor
