/- A map with string keys, made by the call: a store of a new key, a look-up, as whole equations to lay ahead of a walk. -/
import Derived.Test.YtjlchookakbomaaGreatDoorEi13
import Derived.Shelf.Strings.BuilderK
import Derived.Test.YtjlchookakbomaaGreatDoorShelfB
import Derived.MapKept
set_option maxHeartbeats 4000000
set_option maxRecDepth 100000
namespace Go.Proofs.YtjlchookakbomaaGreatDoor
open Go.RowKit

theorem zFq (d:Nat): ∀(f:Nat) (v:Value) (m:List Ms.Nd) (deep:Int) (w:World),Ms.MsgAt f w v m→m.length≤2000000→deep=6-(d:Int)→d≤6→
  Calls Tryz.prog 12 #[v,.int .i64 deep] w fun e w'=>e= .returned (.tuple #[.int .i64 (Ms.lrg d m).1,.bool (Ms.lrg d m).2])∧Below w.heap.size w w':=by
 induction d with
 |zero=>
  intro f v m deep w h hl hd _
  obtain rfl:deep=6:=by omega
  clear hd
  cases m with
  |nil=>
   obtain⟨A,cap,rfl,_,_⟩:=h.spread
   simp only[List.length_nil]
   clear h
   go_enter Tryz.func12,Tryz.ntmps12
   go_wp2_with fail
   go_ret2
   exact⟨rfl,Below.refl _ _⟩
  |cons x r=>
   obtain⟨A,cap,rfl,_,_⟩:=h.spread
   have h0:(0:Int)<((x::r).length:Int):=by simp only[List.length_cons];omega
   have b0:(((x::r).length:Int)==0)=false:=zAe (by omega)
   rw[show Ms.lrg 0 (x::r)=(0,true) from rfl]
   generalize (x::r).length=l at*
   clear h
   go_enter Tryz.func12,Tryz.ntmps12
   go_wp2_with fail
   go_ret2
   exact⟨rfl,Below.refl _ _⟩
 |succ d ih=>
  intro f v m deep w h hl hd h6
  have hd6:deep<6:=by omega
  have wd:IntKind.i64.wrap (deep+1)=deep+1:=IntWalk.i64_in _ (by omega)
  have IH:=lH fun f v m w (g:Ms.MsgAt f w v m) gl=>ih f v m (deep+1) w g gl (by omega) (by omega)
  have KB:=lH fun f (w:World) v m (g:Ms.MsgAt f w v m) gl=>Ms.zFM d f (w:=w) (v:=v) (m:=m) g gl
  have dB:(d:Int)*3000000≤18000000:=by omega
  obtain⟨RES,hRES⟩: ∃RES,RES=Ms.lgo (Ms.lrg d) m.length (Ms.bodies m):=⟨_,rfl⟩
  rw[show Ms.lrg (d+1) m=RES from hRES.symm]
  have HRES:=lH hRES.symm
  have d0:decide (6≤deep)=false:=zAa (by omega)
  clear ih hRES hd h6
  generalize Ms.lrg d=F at*
  rcases h with⟨rfl,A,cap,rfl⟩|⟨b,off,cap,rfl,hpos,hcap,hmx,hx⟩
  ·have hr:RES=(0,false):=by rw[←HRES.out];rfl
   subst hr
   clear HRES IH KB
   go_enter Tryz.func12,Tryz.ntmps12
   go_wp2_with fail
   go_ret2
   exact⟨rfl,Below.refl _ _⟩
  unfold maxLen at hmx
  have b0:((m.length:Int)==0)=false:=zAe (by omega)
  cases f with
  |zero=>exact absurd (hx 0 _ (List.getElem?_eq_getElem hpos)) (by simp[Ms.NdC])
  |succ f=>
  have HX:=lH fun (j:Nat) (x:Ms.Nd) (hj:m[j]?=some x) (wr:World) (hb:Below w.heap.size w wr)=>Ms.NdC.below (f+1) (hx j x hj) hb
  clear hx
  generalize hlm:m.length=L at*
  go_enter Tryz.func12,Tryz.ntmps12
  go_wp2_with fail
  go_loopw [6,7] (fun vn vi wr=> ∃(i:Nat) (n:Int),vi= .int .i64 (i:Int)∧vn= .int .i64 n∧i≤L∧0≤n∧n≤2000060∧Hid (Ms.lgo F n (Ms.bodies (m.drop i))=RES)∧Hid (Below w.heap.size w wr)) (fun _ vi _=>L-(RowKit.intOf vi).toNat)
  case atStart=>exact⟨0,L,rfl,rfl,Nat.zero_le _,by omega,by omega,HRES,lH (Below.refl _ _)⟩
  case round=>
   obtain⟨i,n,rfl,rfl,hi,n0,n1,HL,HB⟩:=hrel
   clear HRES
   by_cases hlt:i<L
   ·have hi':(i:Int)<(L:Int):=by omega
    obtain⟨x,hxi⟩: ∃x,m[i]?=some x:=⟨m[i]'(by omega),List.getElem?_eq_getElem (by omega)⟩
    obtain⟨a0,n0',c0,g0,g1,g2,g3,g4,g5,g6⟩:=HX.out i x hxi wr HB.out
    have lb:=World.block_lt_of_cell? _ _ g0
    have HL2:=lH (Ms.zEW F hxi n▸HL.out)
    have wi:IntKind.i64.wrap ((i:Int)+1)=(i:Int)+1:=IntWalk.i64_in _ (by omega)
    have CC:=lH fun (wx:World) (hb:Below wr.heap.size wr wx)=>zIb x wx (Ms.zAm (f:=f) (w:=wr) (show Ms.CassAt f wr (.slice a0 n0' c0) x.cases from g4) hb)
    have lcs:(Ms.casesOf x).length≤2000000:=by
     unfold Ms.casesOf;split
     ·exact g6
     simp
    clear HL g4 g5 g6 hxi
    generalize Ms.casesOf x=cs at*
    go_wp2_with fail
    refine(CC.out _ (Below.refl _ _)).mono ?_
    rintro e w1 ⟨A1,C1,rfl,hcs,hb⟩
    have W1:=lH (bT (HB.out) hb)
    have HC:=lH (Ms.zAm hcs hb)
    clear hb hcs CC g0 g1 g2 g3 lb HB
    obtain⟨A2,C2,e2,_,hel⟩:=HC.out.spread
    injection e2 with e3 e4 e5
    subst e3 e5
    have HEL:=lH fun (k:Nat) y (hk:cs[k]?=some y) (wx:World) (hb:Below w1.heap.size w1 wx)=>(show ∃bb oo,A1=some ⟨bb,oo,none⟩∧Ms.CsC f wx bb (oo+k*2) y from by
     obtain⟨bb,oo,e,q⟩:=hel k y hk
     exact⟨bb,oo,e,q.below hb⟩)
    have hcapc:cs.length≤C1∨cs.length=0:=by
     rcases HC.out with⟨e,_⟩|⟨_,_,_,e,_,q,_,_⟩
     ·exact .inr (by rw[e];rfl)
     injection e with _ _ e;exact .inl (by omega)
    clear HC hel e4
    have HL3:=lH (show Ms.lgo F n ((cs.drop 0).map (·.2)++Ms.bodies (m.drop (i+1)))=RES by rw[List.drop_zero];exact HL2.out)
    clear HL2
    generalize hlc:cs.length=LC at*
    go_wp2_with fail
    go_loopw [6,9] (fun vn vk wr2=> ∃(k:Nat) (n:Int),vk= .int .i64 (k:Int)∧vn= .int .i64 n∧k≤LC∧0≤n∧n≤2000060∧Hid (Ms.lgo F n ((cs.drop k).map (·.2)++Ms.bodies (m.drop (i+1)))=RES)∧Hid (Below w1.heap.size w1 wr2)) (fun _ vk _=>LC-(RowKit.intOf vk).toNat)
    case atStart=>exact⟨0,n,rfl,rfl,Nat.zero_le _,n0,n1,HL3,lH (Below.refl _ _)⟩
    case round=>
     obtain⟨k,n,rfl,rfl,hk,n0,n1,HL,HB⟩:=hrel
     clear HL3
     by_cases hlt2:k<LC
     ·have hk':(k:Int)<(LC:Int):=by omega
      obtain⟨y,hy⟩: ∃y,cs[k]?=some y:=⟨cs[k]'(by omega),List.getElem?_eq_getElem (by omega)⟩
      obtain⟨bb,oo,rfl,a9,n9,c9,q0,q1,q2,q3,q4⟩:=HEL.out k y hy wr HB.out
      have lb:=World.block_lt_of_cell? _ _ q0
      have kb:=KB.out f wr _ _ q2 q4
      have hcc:LC≤C1:=by omega
      have CR:=lH fun (wx:World) (hb:Below wr.heap.size wr wx)=>IH.out f _ _ wx (Ms.zAi q2 hb) q4
      have hst:=HL.out
      rw[Ms.zBP hy,List.cons_append] at hst
      unfold Ms.lgo at hst
      have wk:IntKind.i64.wrap ((k:Int)+1)=(k:Int)+1:=IntWalk.i64_in _ (by omega)
      clear HL q2 q3 q4 hy
      generalize F y.2=FR at*
      obtain⟨kk,is⟩:=FR
      simp only at*
      have wn:IntKind.i64.wrap (n+kk)=n+kk:=IntWalk.i64_in _ (by omega)
      obtain⟨nn,hnn⟩: ∃nn,n+kk=nn:=⟨_,rfl⟩
      rw[hnn] at wn hst
      have nn0:0≤nn:=by omega
      have HN:=lH hnn
      go_wp2_with fail
      refine(CR.out _ (Below.refl _ _)).mono ?_
      rintro e w3 ⟨rfl,hb⟩
      have W3:=lH (bT (HB.out) hb)
      clear hb CR q0 q1 lb HB
      cases is with
      |true=>
       simp only[Bool.true_or,if_true] at hst
       subst hst
       go_wp2_with fail
       go_ret2
       exact⟨rfl,bT W1.out W3.out⟩
      |false=>
       simp only[Bool.false_or] at hst
       by_cases hbig:60<nn
       ·have d1:decide (60<nn)=true:=zAd hbig
        rw[if_pos d1] at hst
        subst hst
        clear hbig
        go_wp2_with fail
        go_ret2
        exact⟨rfl,bT W1.out W3.out⟩
       have d1:decide (60<nn)=false:=zAa hbig
       rw[if_neg (by rw[d1];simp)] at hst
       have HST:=lH hst
       have nn1:nn≤2000060:=by omega
       clear hst hbig
       go_wp2_with fail
       go_roundw
       case rel=>exact⟨k+1,nn,by go_num,rfl,by omega,nn0,nn1,HST,W3⟩
       case measure=>simp[RowKit.intOf];omega
     have hk': ¬(k:Int)<(LC:Int):=by omega
     have hst:=HL.out
     rw[List.drop_of_length_le (by omega),List.map_nil,List.nil_append] at hst
     have HST:=lH hst
     clear hst HL
     go_wp2_with fail
     go_roundw
     case rel=>exact⟨i+1,n,by go_num,rfl,by omega,n0,n1,HST,lH (bT W1.out HB.out)⟩
     case measure=>simp[RowKit.intOf];omega
   have hi': ¬(i:Int)<(L:Int):=by omega
   have hst:=HL.out
   rw[List.drop_of_length_le (by omega)] at hst
   have hst':(n,decide (60<n))=RES:=hst
   subst hst'
   clear hst HL
   go_wp2_with fail
   go_ret2
   exact⟨rfl,HB.out⟩
open Go.RowKit

theorem size_any' (d:Nat): ∀(f:Nat) (v:Value) (m:List Ms.Nd) (deep:Int) (w:World),Ms.MsgAt f w v m→m.length≤2000000→deep=6-(d:Int)→d≤6→
  Calls Tryz.prog 32 #[v,.int .i64 deep] w fun e w'=>e= .returned (.tuple #[.int .i64 (Ms.lrg d m).1,.bool (Ms.lrg d m).2])∧Below w.heap.size w w':=by
 induction d with
 |zero=>
  intro f v m deep w h hl hd _
  obtain rfl:deep=6:=by omega
  clear hd
  cases m with
  |nil=>
   obtain⟨A,cap,rfl,_,_⟩:=h.spread
   simp only[List.length_nil]
   clear h
   go_enter Tryz.func32,Tryz.ntmps32
   go_wp2_with fail
   go_loopw [6,24] (fun vn vi wr=>vn= .int .i64 0∧vi= .int .i64 0∧w=wr) (fun _ _ _=>0)
   case atStart=>exact⟨rfl,rfl,rfl⟩
   case round=>
    obtain⟨rfl,rfl,rfl⟩:=hrel
    go_wp2_with fail
    go_ret2
    exact⟨rfl,Below.refl _ _⟩
  |cons x r=>
   obtain⟨A,cap,rfl,_,_⟩:=h.spread
   have h0:(0:Int)<((x::r).length:Int):=by simp only[List.length_cons];omega
   have b0:(((x::r).length:Int)==0)=false:=zAe (by omega)
   rw[show Ms.lrg 0 (x::r)=(0,true) from rfl]
   generalize (x::r).length=l at*
   clear h
   go_enter Tryz.func32,Tryz.ntmps32
   go_wp2_with fail
   go_ret2
   exact⟨rfl,Below.refl _ _⟩
 |succ d ih=>
  intro f v m deep w h hl hd h6
  have hd6:deep<6:=by omega
  have wd:IntKind.i64.wrap (deep+1)=deep+1:=IntWalk.i64_in _ (by omega)
  have IH:=lH fun f v m w (g:Ms.MsgAt f w v m) gl=>ih f v m (deep+1) w g gl (by omega) (by omega)
  have KB:=lH fun f (w:World) v m (g:Ms.MsgAt f w v m) gl=>Ms.zFM d f (w:=w) (v:=v) (m:=m) g gl
  have dB:(d:Int)*3000000≤18000000:=by omega
  obtain⟨RES,hRES⟩: ∃RES,RES=Ms.lgo (Ms.lrg d) m.length (Ms.bodies m):=⟨_,rfl⟩
  rw[show Ms.lrg (d+1) m=RES from hRES.symm]
  have HRES:=lH hRES.symm
  have d0:decide (6≤deep)=false:=zAa (by omega)
  clear ih hRES hd h6
  generalize Ms.lrg d=F at*
  rcases h with⟨rfl,A,cap,rfl⟩|⟨b,off,cap,rfl,hpos,hcap,hmx,hx⟩
  ·have hr:RES=(0,false):=by rw[←HRES.out];rfl
   subst hr
   clear HRES IH KB
   go_enter Tryz.func32,Tryz.ntmps32
   go_wp2_with fail
   go_loopw [6,24] (fun vn vi wr=>vn= .int .i64 0∧vi= .int .i64 0∧w=wr) (fun _ _ _=>0)
   case atStart=>exact⟨rfl,rfl,rfl⟩
   case round=>
    obtain⟨rfl,rfl,rfl⟩:=hrel
    go_wp2_with fail
    go_ret2
    exact⟨rfl,Below.refl _ _⟩
  unfold maxLen at hmx
  have b0:((m.length:Int)==0)=false:=zAe (by omega)
  cases f with
  |zero=>exact absurd (hx 0 _ (List.getElem?_eq_getElem hpos)) (by simp[Ms.NdC])
  |succ f=>
  have HX:=lH fun (j:Nat) (x:Ms.Nd) (hj:m[j]?=some x) (wr:World) (hb:Below w.heap.size w wr)=>Ms.NdC.below (f+1) (hx j x hj) hb
  clear hx
  generalize hlm:m.length=L at*
  go_enter Tryz.func32,Tryz.ntmps32
  go_wp2_with fail
  go_loopw [6,24] (fun vn vi wr=> ∃(i:Nat) (n:Int),vi= .int .i64 (i:Int)∧vn= .int .i64 n∧i≤L∧0≤n∧n≤2000060∧Hid (Ms.lgo F n (Ms.bodies (m.drop i))=RES)∧Hid (Below w.heap.size w wr)) (fun _ vi _=>L-(RowKit.intOf vi).toNat)
  case atStart=>exact⟨0,L,rfl,rfl,Nat.zero_le _,by omega,by omega,HRES,lH (Below.refl _ _)⟩
  case round=>
   obtain⟨i,n,rfl,rfl,hi,n0,n1,HL,HB⟩:=hrel
   clear HRES
   by_cases hlt:i<L
   ·have hi':(i:Int)<(L:Int):=by omega
    obtain⟨x,hxi⟩: ∃x,m[i]?=some x:=⟨m[i]'(by omega),List.getElem?_eq_getElem (by omega)⟩
    obtain⟨a0,n0',c0,g0,g1,g2,g3,g4,g5,g6⟩:=HX.out i x hxi wr HB.out
    have lb:=World.block_lt_of_cell? _ _ g0
    have HL2:=lH (Ms.zEW F hxi n▸HL.out)
    have wi:IntKind.i64.wrap ((i:Int)+1)=(i:Int)+1:=IntWalk.i64_in _ (by omega)
    have CC:=lH fun (wx:World) (hb:Below wr.heap.size wr wx)=>zIc x wx (Ms.zAm (f:=f) (w:=wr) (show Ms.CassAt f wr (.slice a0 n0' c0) x.cases from g4) hb)
    have lcs:(Ms.casesOf x).length≤2000000:=by
     unfold Ms.casesOf;split
     ·exact g6
     simp
    clear HL g4 g5 g6 hxi
    generalize Ms.casesOf x=cs at*
    have XB:=lH (bA wr (.cells #[.int .i64 x.kind,.string ⟨x.text.toArray⟩,.int .i64 x.off,.slice a0 n0' c0] 51))
    go_wp2_with fail
    refine(CC.out _ XB.out).mono ?_
    rintro e w1 ⟨A1,C1,rfl,hcs,hb⟩
    have W1:=lH (bT (bT HB.out XB.out) hb)
    have HC:=lH (Ms.zAm hcs hb)
    clear hb hcs CC g0 g1 g2 g3 lb HB
    obtain⟨A2,C2,e2,_,hel⟩:=HC.out.spread
    injection e2 with e3 e4 e5
    subst e3 e5
    have HEL:=lH fun (k:Nat) y (hk:cs[k]?=some y) (wx:World) (hb:Below w1.heap.size w1 wx)=>(show ∃bb oo,A1=some ⟨bb,oo,none⟩∧Ms.CsC f wx bb (oo+k*2) y from by
     obtain⟨bb,oo,e,q⟩:=hel k y hk
     exact⟨bb,oo,e,q.below hb⟩)
    have hcapc:cs.length≤C1∨cs.length=0:=by
     rcases HC.out with⟨e,_⟩|⟨_,_,_,e,_,q,_,_⟩
     ·exact .inr (by rw[e];rfl)
     injection e with _ _ e;exact .inl (by omega)
    clear HC hel e4
    have HL3:=lH (show Ms.lgo F n ((cs.drop 0).map (·.2)++Ms.bodies (m.drop (i+1)))=RES by rw[List.drop_zero];exact HL2.out)
    clear HL2
    generalize hlc:cs.length=LC at*
    go_wp2_with fail
    go_loopw [6,31] (fun vn vk wr2=> ∃(k:Nat) (n:Int),vk= .int .i64 (k:Int)∧vn= .int .i64 n∧k≤LC∧0≤n∧n≤2000060∧Hid (Ms.lgo F n ((cs.drop k).map (·.2)++Ms.bodies (m.drop (i+1)))=RES)∧Hid (Below w1.heap.size w1 wr2)) (fun _ vk _=>LC-(RowKit.intOf vk).toNat)
    case atStart=>exact⟨0,n,rfl,rfl,Nat.zero_le _,n0,n1,HL3,lH (Below.refl _ _)⟩
    case round=>
     obtain⟨k,n,rfl,rfl,hk,n0,n1,HL,HB⟩:=hrel
     clear HL3
     by_cases hlt2:k<LC
     ·have hk':(k:Int)<(LC:Int):=by omega
      obtain⟨y,hy⟩: ∃y,cs[k]?=some y:=⟨cs[k]'(by omega),List.getElem?_eq_getElem (by omega)⟩
      obtain⟨bb,oo,rfl,a9,n9,c9,q0,q1,q2,q3,q4⟩:=HEL.out k y hy wr HB.out
      have lb:=World.block_lt_of_cell? _ _ q0
      have kb:=KB.out f wr _ _ q2 q4
      have hcc:LC≤C1:=by omega
      have CR:=lH fun (wx:World) (hb:Below wr.heap.size wr wx)=>IH.out f _ _ wx (Ms.zAi q2 hb) q4
      have hst:=HL.out
      rw[Ms.zBP hy,List.cons_append] at hst
      unfold Ms.lgo at hst
      have wk:IntKind.i64.wrap ((k:Int)+1)=(k:Int)+1:=IntWalk.i64_in _ (by omega)
      clear HL q2 q3 q4 hy
      generalize F y.2=FR at*
      obtain⟨kk,is⟩:=FR
      simp only at*
      have wn:IntKind.i64.wrap (n+kk)=n+kk:=IntWalk.i64_in _ (by omega)
      obtain⟨nn,hnn⟩: ∃nn,n+kk=nn:=⟨_,rfl⟩
      rw[hnn] at wn hst
      have nn0:0≤nn:=by omega
      have HN:=lH hnn
      have XB:=lH (bA wr (.cells #[.string ⟨y.1.toArray⟩,.slice a9 n9 c9] 53))
      go_wp2_with fail
      refine(CR.out _ XB.out).mono ?_
      rintro e w3 ⟨rfl,hb⟩
      have W3:=lH (bT (bT HB.out XB.out) hb)
      clear hb CR q0 q1 lb HB
      cases is with
      |true=>
       simp only[Bool.true_or,if_true] at hst
       subst hst
       go_wp2_with fail
       go_ret2
       exact⟨rfl,bT W1.out W3.out⟩
      |false=>
       simp only[Bool.false_or] at hst
       by_cases hbig:60<nn
       ·have d1:decide (60<nn)=true:=zAd hbig
        rw[if_pos d1] at hst
        subst hst
        clear hbig
        go_wp2_with fail
        go_ret2
        exact⟨rfl,bT W1.out W3.out⟩
       have d1:decide (60<nn)=false:=zAa hbig
       rw[if_neg (by rw[d1];simp)] at hst
       have HST:=lH hst
       have nn1:nn≤2000060:=by omega
       clear hst hbig
       go_wp2_with fail
       go_roundw
       case rel=>exact⟨k+1,nn,by go_num,rfl,by omega,nn0,nn1,HST,W3⟩
       case measure=>simp[RowKit.intOf];omega
     have hk': ¬(k:Int)<(LC:Int):=by omega
     have hst:=HL.out
     rw[List.drop_of_length_le (by omega),List.map_nil,List.nil_append] at hst
     have HST:=lH hst
     clear hst HL
     go_wp2_with fail
     go_roundw
     case rel=>exact⟨i+1,n,by go_num,rfl,by omega,n0,n1,HST,lH (bT W1.out HB.out)⟩
     case measure=>simp[RowKit.intOf];omega
   have hi': ¬(i:Int)<(L:Int):=by omega
   have hst:=HL.out
   rw[List.drop_of_length_le (by omega)] at hst
   have hst':(n,decide (60<n))=RES:=hst
   subst hst'
   clear hst HL
   go_wp2_with fail
   go_ret2
   exact⟨rfl,HB.out⟩
open Go.RowKit

theorem zEi {f:Nat} {v:Value} {m:List Ms.Nd} (w:World) (hw:MW w) (h:Ms.MsgAt f w v m) (hl:m.length≤2000000):
  Calls Tryz.prog 13 #[v] w fun e w'=>e= .returned (errN (Ms.msgE f m))∧Below w.heap.size w w':=by
 have CS:=lH (size_any' 6 f v m 0 w h hl (by decide) (by decide))
 have CC:=lH fun wx (hb:Below w.heap.size w wx)=>zIj f w hw v m false wx hb (Ms.zAi h hb) hl
 have HE:=lH (show Ms.msgE f m=if (Ms.lrg 6 m).2 then 4 else Ms.chk f false m from rfl)
 obtain⟨a,n,c,rfl⟩:=h.isSlice
 clear h hw hl
 generalize Ms.msgE f m=R at*
 generalize Ms.chk f false m=K at*
 generalize Ms.lrg 6 m=LR at*
 obtain⟨k,is⟩:=LR
 try simp only at*
 go_enter Tryz.func13,Tryz.ntmps13
 go_wp2_with fail
 refine CS.out.mono ?_
 rintro e w1 ⟨rfl,hb⟩
 have W1:=lH hb
 clear hb CS
 cases is with
 |true=>
  obtain rfl:R=4:=HE.out
  go_wp2_with fail
  go_ret
  exact⟨rfl,W1.out⟩
 |false=>
  obtain rfl:R=K:=HE.out
  go_wp2_with fail
  refine(CC.out _ W1.out).mono ?_
  rintro e w2 ⟨rfl,hb⟩
  have W2:=lH (bT W1.out hb)
  clear hb CC
  by_cases h0:R=0
  ·subst h0
   rw[show errN 0= .nilIface from rfl]
   go_wp2_with fail
   go_ret
   exact⟨rfl,W2.out⟩
  have HN:=lH (show errN R=errV R from if_neg h0)
  rw[HN.out]
  clear h0 HE
  go_wp2_with fail
  go_ret
  exact⟨by rw[HN.out];rfl,W2.out⟩

theorem zEj {f:Nat} {v:Value} {m:List Ms.Nd} (w:World) (h:Ms.MsgAt f w v m) (hl:m.length≤2000000):
  Calls Tryz.prog 7 #[v] w fun e w'=>e= .returned (.int .i64 (Ms.msgE f m))∧Below w.heap.size w w':=by
 have CS:=lH (zFq 6 f v m 0 w h hl (by decide) (by decide))
 have CC:=lH fun wx (hb:Below w.heap.size w wx)=>zIk f v m false wx (Ms.zAi h hb) hl
 have HE:=lH (show Ms.msgE f m=if (Ms.lrg 6 m).2 then 4 else Ms.chk f false m from rfl)
 obtain⟨a,n,c,rfl⟩:=h.isSlice
 clear h hl
 generalize Ms.msgE f m=R at*
 generalize Ms.chk f false m=K at*
 generalize Ms.lrg 6 m=LR at*
 obtain⟨k,is⟩:=LR
 try simp only at*
 go_enter Tryz.func7,Tryz.ntmps7
 go_wp2_with fail
 refine CS.out.mono ?_
 rintro e w1 ⟨rfl,hb⟩
 have W1:=lH hb
 clear hb CS
 cases is with
 |true=>
  obtain rfl:R=4:=HE.out
  go_wp2_with fail
  go_ret
  exact⟨rfl,W1.out⟩
 |false=>
  obtain rfl:R=K:=HE.out
  go_wp2_with fail
  refine(CC.out _ W1.out).mono ?_
  rintro e w2 ⟨rfl,hb⟩
  have W2:=lH (bT W1.out hb)
  clear hb CC
  go_wp2_with fail
  go_ret
  exact⟨rfl,W2.out⟩
open Go.RowKit Ms
def StC (w:World) (b k:Nat) (s:Stp):Prop:= ∃a n c a' n' c',w.cell? ⟨b,k,none⟩=some (.int .i64 s.kind)∧w.cell? ⟨b,k+1,none⟩=some (.string ⟨s.text.toArray⟩)∧w.cell? ⟨b,k+2,none⟩=some (.int .i64 s.off)∧w.cell? ⟨b,k+3,none⟩=some (.slice a n c)∧w.cell? ⟨b,k+4,none⟩=some (.slice a' n' c')∧w.cell? ⟨b,k+5,none⟩=some (.int .i64 (s.fin:Int))∧
 CassAt 1 w (.slice a n c) (s.keys.map keyC)∧SlAt 1 NatC w (.slice a' n' c') s.beg∧s.text.length≤2000000∧s.keys.length≤2000000
theorem NatC.below {w w':World} {b k n:Nat} (h:NatC w b k n) (hb:Below w.heap.size w w'):NatC w' b k n:=cK h hb
theorem zIl {w w':World} {v:Value} {l:List Nat} (h:SlAt 1 NatC w v l) (hb:Below w.heap.size w w'):SlAt 1 NatC w' v l:=h.imp fun _ _ _ _ g=>NatC.below g hb
theorem StC.below {w w':World} {b k:Nat} {s:Stp} (h:StC w b k s) (hb:Below w.heap.size w w'):StC w' b k s:=by
 obtain⟨a,n,c,a',n',c',h0,h1,h2,h3,h4,h5,h6,h7,h8⟩:=h
 exact⟨a,n,c,a',n',c',cK h0 hb,cK h1 hb,cK h2 hb,cK h3 hb,cK h4 hb,cK h5 hb,zAm h6 hb,zIl h7 hb,h8⟩
abbrev StsAt:=SlAt 6 StC
theorem zJx {w w':World} {v:Value} {l:List Stp} (h:StsAt w v l) (hb:Below w.heap.size w w'):StsAt w' v l:=h.imp fun _ _ _ _ g=>StC.below g hb
theorem zKO {B:Nat} {X:Nat→Prop} {v:Value} {l:List Sx} {w:World} (h:SGrow B X v l w) (hX: ∀g,v.ownBlock=some g→X g):Foot (fun b=>B≤b∧X b) w (fun w=>StsAt w v (l.map (·.s))):=by
 refine(h.read (R:=fun w b o y=>StC w b o y.s) hX (fun _=>rfl) fun w b o y _ hc hh=>?_).imp fun w hw=>?_
 ·obtain⟨⟨a,n,c,e⟩,⟨a',n',c',e'⟩,h1,h2,h3,h4⟩:=hh
  rw[e] at h1
  rw[e'] at h2
  exact⟨a,n,c,a',n',c',hc 0 _ rfl,hc 1 _ rfl,hc 2 _ rfl,(hc 3 _ rfl).trans (by rw[e]),(hc 4 _ rfl).trans (by rw[e']),hc 5 _ rfl,h1,h2,h3,h4⟩
 rcases hw with⟨rfl,hw⟩|⟨b,off,cap,e,h1,h2,h3,h4⟩
 ·exact .inl ⟨rfl,hw⟩
 refine .inr ⟨b,off,cap,by rw[List.length_map];exact e,by rw[List.length_map];exact h1,by rw[List.length_map];exact h2,h3,fun j x hx=>?_⟩
 rw[List.getElem?_map] at hx
 obtain⟨y,hy,rfl⟩:=Option.map_eq_some_iff.1 hx
 exact h4 j y hy
def CodeAt (f:Nat) (w:World) (u a:Value) (m:List Nd):Prop:=StsAt w u (flat f 0 m)∧MsgAt f w a (clean f m)
theorem CodeAt.below {f:Nat} {w w':World} {u a:Value} {m:List Nd} (h:CodeAt f w u a m) (hb:Below w.heap.size w w'):CodeAt f w' u a m:=⟨zJx h.1 hb,zAi h.2 hb⟩
def CompP (f:Nat) (m:List Nd) (w:World) (e:Ending) (w':World):Prop:= ∃A n c A' n' c',e= .returned (.tuple #[.agg #[.slice A n c,.slice A' n' c'],errN (msgE f m)])∧(msgE f m=0→CodeAt f w' (.slice A n c) (.slice A' n' c') m∧n=cnt f m)∧(msgE f m≠0→n=0)∧Below w.heap.size w w'
theorem zEL (A A':Option Addr) (n c n' c':Nat) (w:World):Calls Tryz.prog 9 #[.agg #[.slice A n c,.slice A' n' c']] w fun e w'=>e= .returned (.int .i64 (n:Int))∧Below w.heap.size w w':=by
 have W0:=lH (bA w (.cells #[.slice A n c,.slice A' n' c'] 26))
 go_enter Tryz.func9,Tryz.ntmps9
 go_wp2_with fail
 go_ret
 exact⟨rfl,W0.out⟩
theorem zDI {f:Nat} {v:Value} {m:List Nd} (w:World) (hw:MW w) (h:MsgAt f w v m) (hl:m.length≤2000000):
  Calls Tryz.prog 5 #[v] w fun e w'=>CompP f m w e w':=by
 have W0:=lH (bA w (.cells #[.slice none 0 0,.slice none 0 0] 26))
 have B0:=lH (zBc w #[.slice none 0 0,.slice none 0 0] 26)
 have CK:=lH fun (wx:World) (hb:Below w.heap.size w wx)=>zEi (f:=f) wx (hw.below hb) (zAi h hb) hl
 have HM:=lH h
 have CP:=lH (zIh f)
 have AD:=lH (zMi f)
 have HL:=lH hl
 obtain⟨va,vn,vc,rfl⟩:=h.isSlice
 clear hw h hl
 by_cases hE:msgE f m=0
 ·have HE:=lH hE
  have HC:=lH (zBa hE)
  have e0:errN (msgE f m)= .nilIface:=by rw[hE];rfl
  rw[e0] at CK
  clear hE e0
  go_enter Tryz.func5,Tryz.ntmps5
  go_wp2_with fail
  refine(CK.out _ W0.out).mono ?_
  rintro e w2 ⟨rfl,hb⟩
  have W2:=lH (bT W0.out hb)
  have B2:=lH ((hb.block _ (zAf B0.out)).trans B0.out)
  clear hb W0 B0 CK
  obtain⟨P,hP⟩: ∃P,P=w2.heap.size:=⟨_,rfl⟩
  have W3:=lH (bT W2.out (bA w2 (.cells #[.slice none 0 0,.slice none 0 0] 26)))
  have B3:=lH (((bA w2 (.cells #[.slice none 0 0,.slice none 0 0] 26)).block _ (zAf B2.out)).trans B2.out)
  have C3:=lH (show CoI w2.heap.size P (fun _=>False) (.slice none 0 0) [] (w2.alloc (.cells #[.slice none 0 0,.slice none 0 0] 26)) from⟨Grow.nil,by rw[hP];exact zBc w2 _ _,by omega⟩)
  have A3:=lH (AD.out _ m w2 _ P _ _ [] (zAi HM.out W2.out) HL.out C3.out (bA w2 (.cells #[.slice none 0 0,.slice none 0 0] 26)) (by have:=HC.out;show 0+_≤_;omega))
  have hrp:w.heap.size<P:=by have:=zAf B2.out;omega
  have HP:=lH hP
  go_upto_region 5 with fail
  rw[←hP]
  generalize w2.alloc (.cells #[.slice none 0 0,.slice none 0 0] 26)=w3 at*
  clear C3 hP
  go_wp2_with fail
  refine A3.out.mono ?_
  rintro e w4 ⟨rfl,u',l',hc,hl',ho,hk,hb⟩
  have HL4:=lH (show l'.map (·.s)=flat f 0 m from hl')
  have W4:=lH (W2.out.trans (hb.mono W2.out.size))
  have C4:=lH hc
  have B4:=lH ((hk.kept _ (zAf B3.out) (by omega) (by simp[Value.ownBlock])).trans B3.out)
  have HO:=lH (show ∀g,u'.ownBlock=some g→w3.heap.size≤g from fun g hg=>by
   rcases ho with ho|ho
   ·rw[hg] at ho;cases ho
   exact ho g hg)
  clear hc hl' hk hb A3 ho
  have CP4:=lH (CP.out _ m w4 (zAi HM.out W4.out) HL.out)
  go_wp2_with fail
  refine CP4.out.mono ?_
  rintro e w5 ⟨vc',rfl,hft,hb⟩
  obtain⟨a5,n5,c5,rfl⟩:=hft.out.isSlice
  have FC:=lH hft
  have HS4:=lH (And.intro (zAf C4.out.bx) hb.size)
  have C5:=lH (C4.out.below hb)
  have B5:=lH ((hb.block _ (zAf B4.out)).trans B4.out)
  have W5:=lH (bT W4.out hb)
  clear hft hb CP4 C4 B4 W4 B3 W3 B2
  obtain⟨au,cu,rfl⟩:=C5.out.gr.slice
  obtain⟨cp0,cp1,fp0,fp1,cpl⟩:=C5.out.cells
  have r0:w5.cell? ⟨w.heap.size,0,none⟩=some (.slice none 0 0):=by rw[Lib.cell_of_heap B5.out];rfl
  have r1:w5.cell? ⟨w.heap.size,1,none⟩=some (.slice none 0 0):=by rw[Lib.cell_of_heap B5.out];rfl
  have rf0:=Lib.frozen_of_heap B5.out 0
  have rf1:=Lib.frozen_of_heap B5.out 1
  have rl:=zAf B5.out
  have hne: ¬w.heap.size=P:=by omega
  have hne': ¬P=w.heap.size:=by omega
  go_wp2_with fail
  refine bodyPost_ret (v:= .tuple #[.agg #[.slice au l'.length cu,.slice a5 n5 c5],.nilIface]) (by simp[results,Tryz.results5,go_sem,r0,r1]) rfl ?_
  have hk3: ∀b,b≠P→b≠w.heap.size→(((w5.setCell ⟨P,1,none⟩ (.slice a5 n5 c5)).setCell ⟨w.heap.size,0,none⟩ (.slice au l'.length cu)).setCell ⟨w.heap.size,1,none⟩ (.slice a5 n5 c5)).heap[b]?=w5.heap[b]?:=fun b h1 h2=>by
   rw[Below.heap_setCell _ _ _ _ h2,Below.heap_setCell _ _ _ _ h2,Below.heap_setCell _ _ _ _ h1]
  have h2:=HP.out
  refine⟨_,_,_,_,_,_,by rw[HE.out];rfl,fun _=>⟨⟨?_,?_⟩,?_⟩,fun hx=>absurd HE.out hx,?_⟩
  ·have hs:=(zKO C5.out.gr (fun g hg=>⟨.inr (HO.out g hg),C5.out.own_ne hg⟩)).keep (w':=((w5.setCell ⟨P,1,none⟩ (.slice a5 n5 c5)).setCell ⟨w.heap.size,0,none⟩ (.slice au l'.length cu)).setCell ⟨w.heap.size,1,none⟩ (.slice a5 n5 c5)) fun b _ hb=>hk3 b hb.2.2 (by omega)
   rw[HL4.out] at hs
   exact hs.out
  ·exact(FC.out.keep fun b _ hb=>hk3 b (by have:=HS4.out;omega) (by have:=HS4.out;omega)).out
  ·have:=congrArg List.length HL4.out
   rw[List.length_map,zBm] at this
   exact this
  exact((W5.out.setCell (p:=⟨P,1,none⟩) (by show w.heap.size≤P;omega) _).setCell (p:=⟨w.heap.size,0,none⟩) (Nat.le_refl _) _).setCell (p:=⟨w.heap.size,1,none⟩) (Nat.le_refl _) _
 have HE:=lH hE
 have e0:errN (msgE f m)=errV (msgE f m):=if_neg hE
 rw[e0] at CK
 have HN:=lH e0
 clear hE e0 AD CP
 go_enter Tryz.func5,Tryz.ntmps5
 go_wp2_with fail
 refine(CK.out _ W0.out).mono ?_
 rintro e w2 ⟨rfl,hb⟩
 have W2:=lH (bT W0.out hb)
 have B2:=lH ((hb.block _ (zAf B0.out)).trans B0.out)
 clear hb W0 B0 CK
 have r0:w2.cell? ⟨w.heap.size,0,none⟩=some (.slice none 0 0):=by rw[Lib.cell_of_heap B2.out];rfl
 have r1:w2.cell? ⟨w.heap.size,1,none⟩=some (.slice none 0 0):=by rw[Lib.cell_of_heap B2.out];rfl
 have rf0:=Lib.frozen_of_heap B2.out 0
 have rf1:=Lib.frozen_of_heap B2.out 1
 have rl:=zAf B2.out
 go_wp2_with fail
 refine bodyPost_ret (v:= .tuple #[.agg #[.slice none 0 0,.slice none 0 0],errV (msgE f m)]) (by simp[results,Tryz.results5,go_sem,r0,r1]) rfl ?_
 exact⟨_,_,_,_,_,_,by rw[HN.out],fun hx=>absurd hx HE.out,fun _=>rfl,(W2.out.setCell (p:=⟨w.heap.size,0,none⟩) (Nat.le_refl _) _).setCell (p:=⟨w.heap.size,1,none⟩) (Nat.le_refl _) _⟩
open Go.Shelf Go.RowKit

def renB166:Ren:=⟨fun|166=> 30|240=> 62|276=> 106|n=>n,fun|0=> 0|3=> 3|4=> 4|5=> 5|9=> 9|20=> 20|37=> 72|70=> 71|72=> 74|75=> 28|80=> 78|164=> 140|n=>n,fun n=>n⟩
theorem laysB166:Go.Proofs.Lays.n166 Tryz.prog renB166:={
 mixed:=by kernel_rfl
 f166:= Tryz.func30.trans (congrArg some (by kernel_rfl))
 f240:= Tryz.func62.trans (congrArg some (by kernel_rfl))
 f276:= Tryz.func106.trans (congrArg some (by kernel_rfl))
 t0:= Tryz.underlying0
 a0:= Tryz.isAgg0
 z0:= Tryz.sizeOf0
 v0:= Tryz.zeroValue0
 t3:= Tryz.underlying3
 a3:= Tryz.isAgg3
 z3:= Tryz.sizeOf3
 v3:= Tryz.zeroValue3
 t4:= Tryz.underlying4
 a4:= Tryz.isAgg4
 z4:= Tryz.sizeOf4
 v4:= Tryz.zeroValue4
 t9:= Tryz.underlying9
 a9:= Tryz.isAgg9
 z9:= Tryz.sizeOf9
 v9:= Tryz.zeroValue9
 t20:= Tryz.underlying20
 a20:= Tryz.isAgg20
 z20:= Tryz.sizeOf20
 v20:= Tryz.zeroValue20
 t37:= Tryz.underlying72
 a37:= Tryz.isAgg72
 z37:= Tryz.sizeOf72
 v37:= Tryz.zeroValue72
 t70:= Tryz.underlying71
 a70:= Tryz.isAgg71
 z70:= Tryz.sizeOf71
 v70:= Tryz.zeroValue71
 t72:= Tryz.underlying74
 a72:= Tryz.isAgg74
 z72:= Tryz.sizeOf74
 v72:= Tryz.zeroValue74
 t75:= Tryz.underlying28
 a75:= Tryz.isAgg28
 z75:= Tryz.sizeOf28
 v75:= Tryz.zeroValue28
 t164:= Tryz.underlying140
 a164:= Tryz.isAgg140
 z164:= Tryz.sizeOf140
 v164:= Tryz.zeroValue140
}
theorem extraB166:Builder.Extra Tryz.prog renB166:={
 sizeBuilder:=by kernel_rfl
 liesBuilder:=by kernel_rfl
 t5:= Tryz.underlying5
 a5:= Tryz.isAgg5
 z5:= Tryz.sizeOf5
 v5:= Tryz.zeroValue5
 infoByte:=by kernel_rfl
 cellsByte:=by kernel_rfl
 sizeByte:=by kernel_rfl
 neB5:=by decide}

abbrev BuiltF (B b:Nat) (l:List UInt8) (w:World):Prop:=Lib.IsBuilderF 74 5 B b (Lib.byteCells l) w
theorem zBs (B b:Nat) (l x:List UInt8) (w:World) (h:BuiltF B b l w) (hlen:l.length+x.length≤140737488355328) (hBw:B≤w.heap.size):
  Calls Tryz.prog 30 #[.pointer (some ⟨b,0,none⟩),.string ⟨x.toArray⟩] w fun e w'=>e= .returned (.tuple #[.int .i64 x.length,.nilIface])∧BuiltF B b (l++x) w'∧Below B w w'∧Lib.OthersKept 5 (some b) w w':=
 (Any.Builder_WriteString_k laysB166 extraB166 B b (Lib.byteCells l) ⟨x.toArray⟩ w h (by rw[Lib.byteCells_length];exact hlen) hBw).mono fun e w' ⟨h1,h2,h3,h4⟩=>⟨h1,by
  show Lib.IsBuilderF _ _ _ _ _ _
  rw[Lib.byteCells_append];exact Or.inr h2,h3,h4⟩
open Go.RowKit Ms
theorem zJy {B b:Nat} {l:List UInt8} {w w':World} (h:BuiltF B b l w) (hb:Below w.heap.size w w'):BuiltF B b l w':=by
 have go: ∀{p:Value},Lib.BuilderAtF 74 5 B b p (Lib.byteCells l) w→Lib.BuilderAtF 74 5 B b p (Lib.byteCells l) w':=fun h=>by
  have hlt:=h.lt
  obtain⟨hB,v,hv,hown,hne⟩:=h
  exact⟨hB,v,(hb.block b hlt).trans hv,hown.kept (row:=none) ⟨hb.os,hb.tape,hb.output,hb.size,fun k hk _=>hb.block k hk⟩ (Classical.em _),hne⟩
 exact h.elim (fun x=> .inl (go x)) (fun x=> .inr (go x))
theorem zGl {B b:Nat} {l:List UInt8} {w w':World} {row:Option Nat} {e:TypeId} (h:BuiltF B b l w) (hg:w.grownBy w' row) (hr: ∀g,row=some g→ ∃cur,w.heap[g]?=some (.cells cur e (0,0))) (he:e≠ 5) (he2:e≠ 74):BuiltF B b l w':=by
 have go: ∀{p:Value},Lib.BuilderAtF 74 5 B b p (Lib.byteCells l) w→Lib.BuilderAtF 74 5 B b p (Lib.byteCells l) w':=fun h=>by
  have hlt:=h.lt
  obtain⟨hB,v,hv,hown,hne⟩:=h
  refine⟨hB,v,(hg.block b hlt fun e'=>?_).trans hv,⟨hown.1,?_⟩,hne⟩
  ·obtain⟨cur,hc⟩:=hr b e'.symm
   exact zAQ hc hv he2 rfl
  rcases hown.2 with h0|⟨g,cap,cur,fz,rfl,hBg,hh,h1⟩
  ·exact .inl h0
  refine .inr ⟨g,cap,cur,fz,rfl,hBg,(hg.block g (zAf hh) fun e'=>?_).trans hh,h1⟩
  obtain⟨cur',hc⟩:=hr g e'.symm
  rw[hh] at hc
  injection hc with hc
  injection hc with _ ht _
  exact he ht.symm
 exact h.elim (fun x=> .inl (go x)) (fun x=> .inr (go x))
def fEnc (fr:Fr):List Value:= [.int .i64 (fr.til:Int),.int .i64 (fr.nxt:Int),.int .i64 fr.mc,.int .i64 fr.ms]
structure RunI (wb:World) (acc:List UInt8) (s:List Fr) (sv:Value) (w:World):Prop where
 bel:Below wb.heap.size wb w
 blt:BuiltF wb.heap.size wb.heap.size acc w
 row:w.ownsRow wb.heap.size 76 4 sv s.length (s.reverse.flatMap fEnc)
namespace RunI
variable {wb:World} {acc:List UInt8} {s:List Fr} {sv:Value} {w w':World}
theorem below (h:RunI wb acc s sv w) (hb:Below w.heap.size w w'):RunI wb acc s sv w':=
 ⟨h.bel.trans (hb.mono h.bel.size),zJy h.blt hb,zBe h.row fun g hg=>hb.block g (zAk h.row hg).2.1⟩
theorem wrote (h:RunI wb acc s sv w) {acc':List UInt8} (hb:BuiltF wb.heap.size wb.heap.size acc' w') (hl:Below wb.heap.size w w') (ho:Lib.OthersKept 5 (some wb.heap.size) w w'):RunI wb acc' s sv w':=by
 refine⟨h.bel.trans hl,hb,zBe h.row fun g hg=>?_⟩
 obtain⟨_,hgl,cur,hc⟩:=zAk h.row hg
 rw[hc]
 refine ho g _ hc (fun e=>?_) (fun c fz e=>?_)
 ·injection e with e
  have hbw: ∃p v,w.heap[wb.heap.size]?=some (.cells #[p,v] 74 (0,0)):=by
   rcases h.blt with⟨_,v,hv,_⟩|⟨_,v,hv,_⟩
   ·exact⟨_,v,hv⟩
   exact⟨_,v,hv⟩
  obtain⟨p,v,hv⟩:=hbw
  exact zAQ hc hv (by decide) e
 injection e with _ ht _
 exact absurd ht (by decide)
theorem pop {fr:Fr} {g cap n:Nat} (h:RunI wb acc (fr::s) (.slice (some ⟨g,0,none⟩) (n+1) cap) w) (hn:s.length=n):RunI wb acc s (.slice (some ⟨g,0,none⟩) n cap) w:=by
 subst hn
 have hr:=h.row
 rw[List.reverse_cons,List.flatMap_append] at hr
 refine⟨h.bel,h.blt,Go.ownsRow_pop (last:= [fr].flatMap fEnc) ?_ hr⟩
 have: ∀l:List Fr,(l.flatMap fEnc).length=l.length*4:=fun l=>by
  induction l with
  |nil=>rfl
  |cons a r ih=>rw[List.flatMap_cons,List.length_append,ih,List.length_cons];show 4+_=_;omega
 rw[this,List.length_reverse]
theorem push (h:RunI wb acc s sv w) (fr:Fr) {sv':Value} (hown:w'.ownsRow wb.heap.size 76 4 sv' (s.length+1) ((s.reverse.flatMap fEnc)++fEnc fr)) (hg:w.grownBy w' sv.ownBlock):RunI wb acc (fr::s) sv' w':=by
 refine⟨h.bel.grown hg h.bel.size (fun k hk=>(zAk h.row hk).1),zGl h.blt hg (fun g hg'=>(zAk h.row hg').2.2) (by decide) (by decide),?_⟩
 rw[List.reverse_cons,List.flatMap_append]
 simpa using hown
theorem top {fr:Fr} (h:RunI wb acc (fr::s) sv w): ∃g cap,sv= .slice (some ⟨g,0,none⟩) (s.length+1) cap∧s.length+1≤cap∧cap≤maxLen∧w.cell? ⟨g,s.length*4,none⟩=some (.int .i64 (fr.til:Int))∧w.cell? ⟨g,s.length*4+1,none⟩=some (.int .i64 (fr.nxt:Int))∧w.cell? ⟨g,s.length*4+2,none⟩=some (.int .i64 fr.mc)∧w.cell? ⟨g,s.length*4+3,none⟩=some (.int .i64 fr.ms):=by
 rcases h.row.2 with⟨_,h0⟩|⟨g,cap,cur,rfl,hB,hg,h1,h2,h3,h4⟩
 ·cases h0
 have hx:((fr::s).reverse)[s.length]?=some fr:=by simp
 have cell: ∀i u,(fEnc fr)[i]?=some u→w.cell? ⟨g,s.length*4+i,none⟩=some u:=fun i u hu=>by
  have:=zDw (enc:=fEnc) (k:=4) (fun _=>rfl) hx i u hu
  rw[←h4,List.getElem?_take] at this
  split at this
  ·simp[World.cell?,hg,←this]
  cases this
 exact⟨g,cap,rfl,h1,h2,cell 0 _ rfl,cell 1 _ rfl,cell 2 _ rfl,cell 3 _ rfl⟩
end RunI
theorem zMl {w:World} {u:Option Addr} {n c:Nat} {T:List Stp} (h:StsAt w (.slice u n c) T) {a:Nat} {st:Stp} (hs:T[a]?=some st): ∃b off,u=some ⟨b,off,none⟩∧n=T.length∧a<n∧n≤c∧StC w b (off+a*6) st:=by
 have hl:a<T.length:=(List.getElem?_eq_some_iff.1 hs).1
 rcases h with⟨rfl,_⟩|⟨b,off,cap,e,h1,h2,h3,h4⟩
 ·simp at hs
 injection e with e1 e2 e3
 subst e1 e2 e3
 exact⟨b,off,rfl,rfl,hl,h2,h4 a st hs⟩
theorem zEk {w:World} {u:Option Addr} {n c:Nat} {l:List Nat} (h:SlAt 1 NatC w (.slice u n c) l) {i k:Nat} (hs:l[i]?=some k): ∃b off,u=some ⟨b,off,none⟩∧i<n∧n≤c∧w.cell? ⟨b,off+i,none⟩=some (.int .i64 (k:Int)):=by
 have hl:i<l.length:=(List.getElem?_eq_some_iff.1 hs).1
 rcases h with⟨rfl,_⟩|⟨b,off,cap,e,h1,h2,h3,h4⟩
 ·simp at hs
 injection e with e1 e2 e3
 subst e1 e2 e3
 have:=h4 i k hs
 unfold NatC at this
 rw[Nat.mul_one] at this
 exact⟨b,off,rfl,hl,h2,this⟩
theorem infoFrame:(Tryz.prog.info? 76).map (fun i=>(i.zero,i.size,i.bytes))=some (some (.agg #[.int .i64 0,.int .i64 0,.int .i64 0,.int .i64 0]),4,32):=by kernel_rfl
theorem zJz (w:World) (p j:Nat) (u:Value):w.grownBy (w.setCell ⟨p,j,none⟩ u) (some p):=⟨rfl,rfl,rfl,by simp[World.setCell],fun k _ hk=>Below.heap_setCell _ _ _ _ fun e=>hk (by rw[e])⟩
theorem RunI.set {wb:World} {acc:List UInt8} {s:List Fr} {sv:Value} {w:World} (h:RunI wb acc s sv w) {p:Nat} {cur:Array Value} (hp:w.heap[p]?=some (.cells cur 64 (0,0))) (hlo:wb.heap.size≤p) (j:Nat) (u:Value):RunI wb acc s sv (w.setCell ⟨p,j,none⟩ u):=by
 refine⟨h.bel.setCell (p:=⟨p,j,none⟩) hlo u,zGl (e:= 64) h.blt (zJz w p j u) (fun g hg=>by injection hg with hg;subst hg;exact⟨cur,hp⟩) (by decide) (by decide),zBe h.row fun g hg=>Below.heap_setCell _ _ _ _ fun e=>?_⟩
 obtain⟨_,_,c,hc⟩:=zAk h.row hg
 exact zAQ hc hp (by decide) e
theorem RunI.ne {wb:World} {acc:List UInt8} {s:List Fr} {sv:Value} {w:World} (h:RunI wb acc s sv w) {p:Nat} {cur:Array Value} {e:TypeId} (hp:w.heap[p]?=some (.cells cur e (0,0))) (he:e≠ 76):some p≠sv.ownBlock:=fun e'=>by
 obtain⟨_,_,c,hc⟩:=zAk h.row e'.symm
 exact zAQ hp hc he rfl
theorem RunI.nb {wb:World} {acc:List UInt8} {s:List Fr} {sv:Value} {w:World} (h:RunI wb acc s sv w) {p:Nat} {cur:Array Value} {e:TypeId} (hp:w.heap[p]?=some (.cells cur e (0,0))) (he:e≠ 74):some p≠some wb.heap.size:=fun e'=>by
 injection e' with e'
 rcases h.blt with⟨_,v,hv,_⟩|⟨_,v,hv,_⟩
 ·exact zAQ hp hv he e'
 exact zAQ hp hv he e'
theorem zBT {w w':World} {b:Option Nat} (h:Lib.OthersKept 5 b w w') {p:Nat} {cur:Array Value} {e:TypeId} (hp:w.heap[p]?=some (.cells cur e (0,0))) (hb:some p≠b) (he:e≠ 5):w'.heap[p]?=some (.cells cur e (0,0)):=
 h p _ hp hb fun c fz e'=>by injection e' with _ ht _;exact he ht
end Go.Proofs.YtjlchookakbomaaGreatDoor
namespace Rul
open Go Go.Lib Go.Proofs.YtjlchookakbomaaGreatDoor

def ruOneR:Rule:= [[⟨118,0,false,[(0,0)]⟩,⟨105,10,false,[(1,1)]⟩,⟨105,100,true,[(11,11)]⟩]]
def ruOneS:List UInt8:= [118,32,61,32,48,32,97,110,100,32,105,32,37,32,49,48,32,61,32,49,32,97,110,100,32,105,32,37,32,49,48,48,32,33,61,32,49,49]
theorem zMm:parseOk ruOneS=true∧ruleP ruOneS=ruOneR:=by
 have:=zAu (r:=ruOneR) (by decide)
 rwa [show ruleT ruOneR=ruOneS by decide+kernel] at this
def slavR:Rule:= [[⟨118,0,false,[(0,0)]⟩,⟨105,10,false,[(2,4)]⟩,⟨105,100,true,[(12,14)]⟩]]
def slavS:List UInt8:= [118,32,61,32,48,32,97,110,100,32,105,32,37,32,49,48,32,61,32,50,46,46,52,32,97,110,100,32,105,32,37,32,49,48,48,32,33,61,32,49,50,46,46,49,52]
theorem zJA:parseOk slavS=true∧ruleP slavS=slavR:=by
 have:=zAu (r:=slavR) (by decide)
 rwa [show ruleT slavR=slavS by decide+kernel] at this
def ruManyR:Rule:= [[⟨118,0,false,[(0,0)]⟩,⟨105,10,false,[(0,0)]⟩],[⟨118,0,false,[(0,0)]⟩,⟨105,10,false,[(5,9)]⟩],[⟨118,0,false,[(0,0)]⟩,⟨105,100,false,[(11,14)]⟩]]
def ruManyS:List UInt8:= [118,32,61,32,48,32,97,110,100,32,105,32,37,32,49,48,32,61,32,48,32,111,114,32,118,32,61,32,48,32,97,110,100,32,105,32,37,32,49,48,32,61,32,53,46,46,57,32,111,114,32,118,32,61,32,48,32,97,110,100,32,105,32,37,32,49,48,48,32,61,32,49,49,46,46,49,52]
theorem zKP:parseOk ruManyS=true∧ruleP ruManyS=ruManyR:=by
 have:=zAu (r:=ruManyR) (by decide)
 rwa [show ruleT ruManyR=ruManyS by decide+kernel] at this
def plManyR:Rule:= [[⟨118,0,false,[(0,0)]⟩,⟨105,0,true,[(1,1)]⟩,⟨105,10,false,[(0,1)]⟩],[⟨118,0,false,[(0,0)]⟩,⟨105,10,false,[(5,9)]⟩],[⟨118,0,false,[(0,0)]⟩,⟨105,100,false,[(12,14)]⟩]]
def plManyS:List UInt8:= [118,32,61,32,48,32,97,110,100,32,105,32,33,61,32,49,32,97,110,100,32,105,32,37,32,49,48,32,61,32,48,46,46,49,32,111,114,32,118,32,61,32,48,32,97,110,100,32,105,32,37,32,49,48,32,61,32,53,46,46,57,32,111,114,32,118,32,61,32,48,32,97,110,100,32,105,32,37,32,49,48,48,32,61,32,49,50,46,46,49,52]
theorem zKQ:parseOk plManyS=true∧ruleP plManyS=plManyR:=by
 have:=zAu (r:=plManyR) (by decide)
 rwa [show ruleT plManyR=plManyS by decide+kernel] at this
def enOneR:Rule:= [[⟨105,0,false,[(1,1)]⟩,⟨118,0,false,[(0,0)]⟩]]
def enOneS:List UInt8:= [105,32,61,32,49,32,97,110,100,32,118,32,61,32,48]
theorem zHK:parseOk enOneS=true∧ruleP enOneS=enOneR:=by
 have:=zAu (r:=enOneR) (by decide)
 rwa [show ruleT enOneR=enOneS by decide+kernel] at this
def frOneR:Rule:= [[⟨105,0,false,[(0,0),(1,1)]⟩]]
def frOneS:List UInt8:= [105,32,61,32,48,44,49]
theorem zMn:parseOk frOneS=true∧ruleP frOneS=frOneR:=by
 have:=zAu (r:=frOneR) (by decide)
 rwa [show ruleT frOneR=frOneS by decide+kernel] at this
def arZeroR:Rule:= [[⟨110,0,false,[(0,0)]⟩]]
def arZeroS:List UInt8:= [110,32,61,32,48]
theorem zKR:parseOk arZeroS=true∧ruleP arZeroS=arZeroR:=by
 have:=zAu (r:=arZeroR) (by decide)
 rwa [show ruleT arZeroR=arZeroS by decide+kernel] at this
def arOneR:Rule:= [[⟨110,0,false,[(1,1)]⟩]]
def arOneS:List UInt8:= [110,32,61,32,49]
theorem zMo:parseOk arOneS=true∧ruleP arOneS=arOneR:=by
 have:=zAu (r:=arOneR) (by decide)
 rwa [show ruleT arOneR=arOneS by decide+kernel] at this
def arTwoR:Rule:= [[⟨110,0,false,[(2,2)]⟩]]
def arTwoS:List UInt8:= [110,32,61,32,50]
theorem zMp:parseOk arTwoS=true∧ruleP arTwoS=arTwoR:=by
 have:=zAu (r:=arTwoR) (by decide)
 rwa [show ruleT arTwoR=arTwoS by decide+kernel] at this
def arFewR:Rule:= [[⟨110,100,false,[(3,10)]⟩]]
def arFewS:List UInt8:= [110,32,37,32,49,48,48,32,61,32,51,46,46,49,48]
theorem zMq:parseOk arFewS=true∧ruleP arFewS=arFewR:=by
 have:=zAu (r:=arFewR) (by decide)
 rwa [show ruleT arFewR=arFewS by decide+kernel] at this
def arManyR:Rule:= [[⟨110,100,false,[(11,99)]⟩]]
def arManyS:List UInt8:= [110,32,37,32,49,48,48,32,61,32,49,49,46,46,57,57]
theorem zKS:parseOk arManyS=true∧ruleP arManyS=arManyR:=by
 have:=zAu (r:=arManyR) (by decide)
 rwa [show ruleT arManyR=arManyS by decide+kernel] at this

theorem zAH {t:List UInt8} {R:Rule} (h:parseOk t=true∧ruleP t=R):textOk t=true:=by
 unfold textOk
 rw[h.1,Bool.or_true]
def ruL:List (List UInt8):= [[],ruOneS,[],slavS,ruManyS]
def plL:List (List UInt8):= [[],enOneS,[],slavS,plManyS]
def arL:List (List UInt8):= [arZeroS,arOneS,arTwoS,arFewS,arManyS]
def enL:List (List UInt8):= [[],enOneS,[],[],[]]
def frL:List (List UInt8):= [[],frOneS,[],[],[]]
def jaL:List (List UInt8):= [[],[],[],[],[]]
theorem zBW:textOk []=true:=rfl
theorem zNR:setOk ruL=true:=by simp[setOk,ruL,zAH zMm,zAH zJA,zAH zKP,zBW]
theorem zNS:setOk plL=true:=by simp[setOk,plL,zAH zHK,zAH zJA,zAH zKQ,zBW]
theorem zNT:setOk arL=true:=by simp[setOk,arL,zAH zKR,zAH zMo,zAH zMp,zAH zMq,zAH zKS]
theorem zLE:setOk enL=true:=by simp[setOk,enL,zAH zHK,zBW]
theorem zNU:setOk frL=true:=by simp[setOk,frL,zAH zMn,zBW]
theorem zLF:setOk jaL=true:=by simp[setOk,jaL,zBW]
end Rul
namespace Go.Proofs.YtjlchookakbomaaGreatDoor
open Go.RowKit Go.MapKept

theorem zMr {P:Program} (T K E:TypeId) (hT:P.underlying T=some (.map K E)) (hK:P.underlying K=some .string) (es:Array MapEntry) (c:Nat) (k:ByteArray) (v:Value)
  (hf:Instr.findNow .string (.string k) es.toList 0=some none) (w:World):
  (Instr.mapUpdate T (.map (some w.heap.size)) (.string k) v).run P (w.alloc (.map es c))= .ok () (w.alloc (.map (es.push {key:= .string k,val:=v,born:=c}) (c+1))):=by
 have hb:(w.alloc (.map es c)).heap[w.heap.size]?=some (.map es c):=by show(w.heap.push _)[w.heap.size]?=_;simp
 have e:({(w.alloc (.map es c)) with heap:=(w.alloc (.map es c)).heap.setIfInBounds w.heap.size (.map (es.push {key:= .string k,val:=v,born:=c}) (c+1))}:World)=w.alloc (.map (es.push {key:= .string k,val:=v,born:=c}) (c+1)):=by
  show({w with heap:=(w.heap.push _).setIfInBounds w.heap.size _}:World)={w with heap:=w.heap.push _}
  congr 1
  apply Array.ext_getElem?
  intro i
  rw[Array.getElem?_setIfInBounds]
  simp only[Array.getElem?_push,Array.size_push]
  by_cases h:w.heap.size=i
  ·subst h;simp
  simp[h,Ne.symm h]
 rw[←e]
 simp[Instr.mapUpdate,run_underlying hT,MapKept.run_getObj_map hb,run_checkKey hK (show IsKey .string (.string k) from trivial),run_findKey hK hf,MapKept.run_setObj_map _ hb,Result.andThen]
theorem zGm {P:Program} (T K E:TypeId) (hT:P.underlying T=some (.map K E)) (hK:P.underlying K=some .string) (es:Array MapEntry) (c r i:Nat) (k:ByteArray) (v:Value) (w:World)
  (hb:w.heap[r]?=some (.map es c)) (hf:Instr.findNow .string (.string k) es.toList 0=some (some (i,v))):
  (Instr.lookup T (.map (some r)) (.string k) true).run P w= .ok (.tuple #[v,.bool true]) w:=by
 simp[Instr.lookup,run_underlying hT,MapKept.run_getObj_map hb,run_checkKey hK (show IsKey .string (.string k) from trivial),run_findKey hK hf,Result.andThen]
theorem map_none {P:Program} (T K E:TypeId) (hT:P.underlying T=some (.map K E)) (hK:P.underlying K=some .string) (es:Array MapEntry) (c r:Nat) (k:ByteArray) (z:Value) (w:World)
  (hz:(zeroValue E).run P w= .ok z w) (hb:w.heap[r]?=some (.map es c)) (hf:Instr.findNow .string (.string k) es.toList 0=some none):
  (Instr.lookup T (.map (some r)) (.string k) true).run P w= .ok (.tuple #[z,.bool false]) w:=by
 simp[Instr.lookup,run_underlying hT,MapKept.run_getObj_map hb,run_checkKey hK (show IsKey .string (.string k) from trivial),run_findKey hK hf,hz,Result.andThen]
theorem zCm (w:World) (o:Obj) (n:Nat) (h:n=w.heap.size):(w.alloc o).heap[n]?=some o:=by subst h;show(w.heap.push _)[w.heap.size]?=_;simp
end Go.Proofs.YtjlchookakbomaaGreatDoor
