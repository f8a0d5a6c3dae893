/- The walk of the reference's NodeFault. Conditions: the message is one, of lists of at most 2000000. -/
import Derived.Test.YtjlchookakbomaaGreatDoorEi12
set_option maxHeartbeats 2500000
set_option maxRecDepth 100000
namespace Go.Proofs.YtjlchookakbomaaGreatDoor
open Go.RowKit
def QOf (f:Nat):Prop:= ∀(v:Value) (m:List Ms.Nd) (mark:Bool) (w:World),Ms.MsgAt f w v m→m.length≤2000000→
  Calls Tryz.prog 18 #[v,.bool mark] w fun e w'=>e= .returned (.int .i64 (Ms.chk f mark m))∧Below w.heap.size w w'

theorem zIk (f:Nat):QOf f:=by
 induction f with
 |zero=>
  intro v m mark w h hl
  rcases h with⟨rfl,A,cap,rfl⟩|⟨b,off,cap,_,hpos,_,_,hx⟩
  ·rw[show Ms.chk 0 mark []=0 from rfl]
   go_enter Tryz.func18,Tryz.ntmps18
   go_wp2_with fail
   go_loopw [5] (fun vi wr=>vi= .int .i64 0∧w=wr) (fun _ _=>0)
   case atStart=>exact⟨rfl,rfl⟩
   case round=>
    obtain⟨rfl,rfl⟩:=hrel
    go_wp2_with fail
    go_ret
    exact⟨rfl,Below.refl _ _⟩
  exact absurd (hx 0 _ (List.getElem?_eq_getElem hpos)) (by simp[Ms.NdC])
 |succ f ih=>
  intro v m mark w h hl
  obtain⟨i0,hi0,hz0,hz1,hz2⟩:=info_parts infoStrM
  have IH:=lH ih
  obtain⟨RES,hRES⟩: ∃RES,RES=Ms.chk (f+1) mark m:=⟨_,rfl⟩
  rw[←hRES]
  have HRES:=lH (show Ms.msE (Ms.chk f) mark none (m.drop 0)=RES by rw[List.drop_zero,hRES];rfl)
  clear hRES ih
  obtain⟨A,cap,rfl,_,hel⟩:=h.spread
  have hcap:m.length≤cap∨m.length=0:=by
   rcases h with⟨e,_⟩|⟨_,_,_,e,_,q,_,_⟩
   ·exact .inr (by rw[e];rfl)
   injection e with _ _ e;exact .inl (by omega)
  have HX:=lH fun (j:Nat) (x:Ms.Nd) (hj:m[j]?=some x) (wr:World) (hb:Below w.heap.size w wr)=>(show ∃b off,A=some ⟨b,off,none⟩∧Ms.NdC (f+1) wr b (off+j*4) x from by
   obtain⟨b,off,e,q⟩:=hel j x hj
   exact⟨b,off,e,Ms.NdC.below (f+1) q hb⟩)
  clear hel h
  generalize hlm:m.length=L at*
  go_enter Tryz.func18,Tryz.ntmps18
  go_wp2_with fail
  go_loopw [5] (fun vi wr=> ∃(i:Nat) (prev:Option Int),vi= .int .i64 (i:Int)∧i≤L∧Hid (Ahead m i prev)∧Hid (Ms.msE (Ms.chk f) mark prev (m.drop i)=RES)∧Hid (Below w.heap.size w wr)) (fun vi _=>L-(intOf vi).toNat)
  case atStart=>exact⟨0,none,rfl,Nat.zero_le _,lH (.inl ⟨rfl,rfl⟩),HRES,lH (Below.refl _ _)⟩
  case round=>
   obtain⟨i,prev,rfl,hi,HA,HL,HB⟩:=hrel
   clear HRES
   by_cases hlt:i<L
   ·have hi':(i:Int)<(L:Int):=by omega
    have hcc:L≤cap:=by omega
    obtain⟨x,hxi⟩: ∃x,m[i]?=some x:=⟨m[i]'(by omega),List.getElem?_eq_getElem (by omega)⟩
    obtain⟨b,off,rfl,a0,n0,c0,p0,p1,p2,p3,p4,p5,p6⟩:=HX.out i x hxi w (Below.refl _ _)
    have g0:=cK p0 HB.out
    have g1:=cK p1 HB.out
    have g2:=cK p2 HB.out
    have g3:=cK p3 HB.out
    have lb:=World.block_lt_of_cell? _ _ g0
    have hpv:(i=0∧prev=none)∨(0<i∧ ∃q,prev=some q∧w.cell? ⟨b,off+(i-1)*4,none⟩=some (.int .i64 q)):=by
     rcases HA.out with h|⟨h1,y,h2,h3⟩
     ·exact .inl h
     obtain⟨b',off',e,a1,n1,c1,q0,_⟩:=HX.out (i-1) y h2 w (Below.refl _ _)
     injection e with e
     injection e with e4 e5
     subst e4 e5
     exact .inr ⟨h1,y.kind,h3,q0⟩
    have HPV:=lH hpv
    have hst:=HL.out
    rw[show m.drop i=x::m.drop (i+1) from by
     obtain⟨hi',e⟩:=List.getElem?_eq_some_iff.1 hxi
     rw[List.drop_eq_getElem_cons hi',e]] at hst
    unfold Ms.msE at hst
    have HND:=lH (show Ms.ndE (Ms.chk f) x prev mark=if !Ms.fineB x prev mark then 3 else if x.kind=4∧(x.off<0∨9<x.off) then 1 else if x.kind=4∨x.kind=5 then Ms.csE (Ms.chk f) x mark [] x.cases else 0 from rfl)
    have HFB:=lH (show Ms.fineB x prev mark=if x.kind=1 then !x.text.isEmpty&&!(prev==some 1) else if x.kind=2∨x.kind=3∨x.kind=4∨x.kind=5 then Ms.nameB x.text else decide (x.kind=6)&&mark from rfl)
    have HA2:=lH (show Ahead m (i+1) (some x.kind) from .inr ⟨by omega,x,hxi,rfl⟩)
    have wi:IntKind.i64.wrap ((i:Int)+1)=(i:Int)+1:=IntWalk.i64_in _ (by omega)
    have HST:=lH hst
    have CN:=lH fun wx=>zC6 x.text wx (by omega)
    have HP4:=lH (show Ms.CassAt f w (.slice a0 n0 c0) x.cases from p4)
    clear HL hst p0 p1 p2 p3 p4 p5 hxi HA hpv
    have CKX:=lH fun (k:List UInt8) (hk:k.length≤2000000) (wx:World)=>zKM x (a:=a0) (n:=n0) (c:=c0) k wx hk
    generalize Ms.ndE (Ms.chk f) x prev mark=NE at*
    generalize Ms.fineB x prev mark=FB at*
    generalize hCE:Ms.csE (Ms.chk f) x mark [] x.cases=CE at*
    have HCE:=lH hCE
    clear hCE
    generalize hcs:x.cases=cs at*
    generalize Ms.nameB x.text=NB at*
    generalize hTT:x.text=T at*
    generalize hOO:x.off=O at*
    have BX:=lH (Boxed.made wr #[.int .i64 x.kind,.string ⟨T.toArray⟩,.int .i64 O,.slice a0 n0 c0] 51)
    have W1:=lH (bT HB.out (bA wr (.cells #[.int .i64 x.kind,.string ⟨T.toArray⟩,.int .i64 O,.slice a0 n0 c0] 51)))
    generalize hK:x.kind=K at*
    by_cases k1:K=1
    ·subst k1
     have hfb:=HFB.out
     rw[if_pos rfl] at hfb
     clear HFB CN
     cases T with
     |nil=>
      have hne:NE=3:=by rw[HND.out,hfb];rfl
      subst hne
      have hst:=HST.out
      rw[if_pos (by decide)] at hst
      subst hst
      clear HST HND HCE HP4 CKX IH
      go_wp2_with fail
      go_ret
      exact⟨rfl,by repeat(first|exact W1.out|refine zAb ?_ _)⟩
     |cons t0 tr=>
      have e1:(t0::tr).isEmpty=false:=rfl
      have e2:((t0::tr)== [])=false:=rfl
      rw[e1] at hfb
      generalize t0::tr=T at*
      rcases HPV.out with⟨h0,hp⟩|⟨h0,q,hp,hc⟩
      ·subst hp
       have b0:decide ((0:Int)<(i:Int))=false:=zAa (by omega)
       have b0n: ¬0<i:=by omega
       have b0i: ¬(0:Int)<(i:Int):=by omega
       have hne:NE=0:=by rw[HND.out,hfb];simp
       clear HPV h0
       subst hne
       have hst:=HST.out
       rw[if_neg (by simp)] at hst
       have HST2:=lH hst
       clear HST hst HND HCE HP4 CKX IH
       go_wp2_with fail
       go_roundw
       case rel=>exact⟨i+1,_,by go_num,by omega,HA2,HST2,lH (by repeat(first|exact W1.out|refine zAb ?_ _))⟩
       case measure=>simp[intOf];omega
      subst hp
      have b0:decide ((0:Int)<(i:Int))=true:=zAd (by omega)
      have hc2:=cK hc W1.out
      obtain⟨j,hj⟩: ∃j,j=i-1:=⟨_,rfl⟩
      rw[←hj] at hc2
      have wj:IntKind.i64.wrap ((i:Int)-1)=(j:Int):=by rw[IntWalk.i64_in _ (by omega)];omega
      have ej:(i:Int)-1=(j:Int):=by omega
      have hjl:(j:Int)<(L:Int):=by omega
      have hjl2:j<L:=by omega
      clear hj HPV hc h0
      by_cases hq:q=1
      ·subst hq
       have hne:NE=3:=by rw[HND.out,hfb];rfl
       subst hne
       have hst:=HST.out
       rw[if_pos (by decide)] at hst
       subst hst
       clear HST HND HCE HP4 CKX IH
       go_wp2_with fail
       go_ret
       exact⟨rfl,by repeat(first|exact W1.out|refine zAb ?_ _)⟩
      have q1:(q==1)=false:=zAe hq
      have hne:NE=0:=by rw[HND.out,hfb];simp[hq]
      clear hq
      subst hne
      have hst:=HST.out
      rw[if_neg (by simp)] at hst
      have HST2:=lH hst
      clear HST hst HND HCE HP4 CKX IH
      go_wp2_with fail
      go_roundw
      case rel=>exact⟨i+1,_,by go_num,by omega,HA2,HST2,lH (by repeat(first|exact W1.out|refine zAb ?_ _))⟩
      case measure=>simp[intOf];omega
    have b1:(K==1)=false:=zAe k1
    have b1':(K !=1)=true:=by rw[bne,b1];rfl
    by_cases k6:K=6
    ·subst k6
     have hfb:=HFB.out
     rw[if_neg (by decide),if_neg (by decide)] at hfb
     clear HFB CN
     cases mark with
     |false=>
      have hne:NE=3:=by rw[HND.out,hfb];rfl
      subst hne
      have hst:=HST.out
      rw[if_pos (by decide)] at hst
      subst hst
      clear HST HND HCE HP4 CKX IH
      go_wp2_with fail
      go_ret
      exact⟨rfl,by repeat(first|exact W1.out|refine zAb ?_ _)⟩
     |true=>
      have hne:NE=0:=by rw[HND.out,hfb];simp
      subst hne
      have hst:=HST.out
      rw[if_neg (by simp)] at hst
      have HST2:=lH hst
      clear HST hst HND HCE HP4 CKX IH
      go_wp2_with fail
      go_roundw
      case rel=>exact⟨i+1,_,by go_num,by omega,HA2,HST2,lH (by repeat(first|exact W1.out|refine zAb ?_ _))⟩
      case measure=>simp[intOf];omega
    have b6:(K==6)=false:=zAe k6
    have b6':(K !=6)=true:=by rw[bne,b6];rfl
    by_cases k15:K<1∨6<K
    ·have hne:NE=3:=by
      have hfb:=HFB.out
      rw[if_neg k1,if_neg (by omega),decide_eq_false k6] at hfb
      rw[HND.out,hfb];rfl
     clear HFB CN b1' b6'
     rcases k15 with k15|k15
     ·have d0:decide (K<1)=true:=zAd k15
      subst hne
      have hst:=HST.out
      rw[if_pos (by decide)] at hst
      subst hst
      clear HST HND HCE HP4 CKX IH
      go_wp2_with fail
      go_ret
      exact⟨rfl,by repeat(first|exact W1.out|refine zAb ?_ _)⟩
     have d0:decide (K<1)=false:=zAa (by omega)
     have d1:decide (6<K)=true:=zAd k15
     subst hne
     have hst:=HST.out
     rw[if_pos (by decide)] at hst
     subst hst
     clear HST HND HCE HP4 CKX IH
     go_wp2_with fail
     go_ret
     exact⟨rfl,by repeat(first|exact W1.out|refine zAb ?_ _)⟩
    have d0:decide (K<1)=false:=zAa (by omega)
    have d1:decide (6<K)=false:=zAa (by omega)
    have hfb:=HFB.out
    rw[if_neg k1,if_pos (by omega)] at hfb
    clear HFB
    subst hfb
    go_wp2_with fail
    refine(CN.out _).mono ?_
    rintro e w2 ⟨rfl,hb⟩
    have W2:=lH (bT W1.out hb)
    have BX2:=lH (BX.out.below hb)
    clear hb BX CN g0 g1 g2 g3 lb W1
    have x0:=BX2.out.cell 0 _ rfl
    have x1:=BX2.out.cell 1 _ rfl
    have x2:=BX2.out.cell 2 _ rfl
    have x3:=BX2.out.cell 3 _ rfl
    have xl:=BX2.out.lt
    cases FB with
    |false=>
     have hne:NE=3:=by rw[HND.out];rfl
     subst hne
     have hst:=HST.out
     rw[if_pos (by decide)] at hst
     subst hst
     clear HST HND HCE HP4 CKX IH
     go_wp2_with fail
     go_ret
     exact⟨rfl,by repeat(first|exact W2.out|refine zAb ?_ _)⟩
    |true=>
     by_cases k4:K=4
     ·subst k4
      by_cases o0:O<0
      ·have d2:decide (O<0)=true:=zAd o0
       have hne:NE=1:=by rw[HND.out,if_neg (by simp),if_pos ⟨rfl,.inl o0⟩]
       clear o0
       subst hne
       have hst:=HST.out
       rw[if_pos (by decide)] at hst
       subst hst
       clear HST HND HCE HP4 CKX IH
       go_wp2_with fail
       go_ret
       exact⟨rfl,by repeat(first|exact W2.out|refine zAb ?_ _)⟩
      have d2:decide (O<0)=false:=zAa o0
      by_cases o9:9<O
      ·have d3:decide (9<O)=true:=zAd o9
       have hne:NE=1:=by rw[HND.out,if_neg (by simp),if_pos ⟨rfl,.inr o9⟩]
       clear o0 o9
       subst hne
       have hst:=HST.out
       rw[if_pos (by decide)] at hst
       subst hst
       clear HST HND HCE HP4 CKX IH
       go_wp2_with fail
       go_ret
       exact⟨rfl,by repeat(first|exact W2.out|refine zAb ?_ _)⟩
      have d3:decide (9<O)=false:=zAa o9
      have hne:NE=CE:=by rw[HND.out,if_neg (by simp),if_neg (by rintro⟨_,h|h⟩;exact o0 h;exact o9 h),if_pos (.inl rfl)]
      clear HND o0 o9
      have HCE2:=lH (HCE.out.trans hne.symm)
      clear hne HCE
      obtain⟨A0,C0,e0,_,hel2⟩:=HP4.out.spread
      injection e0 with e1 e2 e3
      subst e1 e2 e3
      have hcapc:cs.length≤c0∨cs.length=0:=by
       rcases HP4.out with⟨e,_⟩|⟨_,_,_,e,_,q,_,_⟩
       ·exact .inr (by rw[e];rfl)
       injection e with _ _ e;exact .inl (by omega)
      have HEL:=lH fun (k:Nat) y (hk:cs[k]?=some y) (wx:World) (hb:Below w.heap.size w wx)=>(show ∃bb oo,a0=some ⟨bb,oo,none⟩∧Ms.CsC f wx bb (oo+k*2) y from by
       obtain⟨bb,oo,e,q⟩:=hel2 k y hk
       exact⟨bb,oo,e,q.below hb⟩)
      have CC:=lH fun (l:List (List UInt8)) V k (wx:World) (hs:StrsAt wx V l)=>zEK l V k wx hs
      clear hel2 HP4
      generalize hlc:cs.length=LC at*
      obtain⟨N,hN⟩: ∃N,N=wr.heap.size:=⟨_,rfl⟩
      have hNl:N<w2.heap.size:=by rw[hN];exact xl
      rw[←hN] at BX2 x0 x1 x2 x3 xl
      have HNN:=lH hN
      clear hN
      rw[←HNN.out]
      go_wp2_with fail
      go_loopw [7,8] (fun vs vk wr2=> ∃(k:Nat) (seen:List (List UInt8)),vk= .int .i64 (k:Int)∧k≤LC∧seen.length=k∧Hid (wr2.ownsRow w2.heap.size 9 1 vs seen.length (seen.map txtV))∧Hid (Ms.csE (Ms.chk f) x mark seen (cs.drop k)=NE)∧Hid (Below w2.heap.size w2 wr2)) (fun _ vk _=>LC-(intOf vk).toNat)
      case atStart=>exact⟨0,[],rfl,Nat.zero_le _,rfl,lH ⟨rfl,.inl ⟨rfl,rfl⟩⟩,HCE2,lH (Below.refl _ _)⟩
      case round=>
       obtain⟨k,seen,rfl,hk,hsl,HO,HL,HBr⟩:=hrel
       have HSL:=lH hsl
       have hsl2:seen.length≤LC:=by omega
       clear HCE2 hsl x0 x1 x2 x3 xl
       have WB:=lH (bT W2.out HBr.out)
       have BXr:=lH (BX2.out.below HBr.out)
       have sz1:=HBr.out.size
       obtain⟨va,vc,rfl⟩:=zAw HO.out
       have x0:=BXr.out.cell 0 _ rfl
       have x1:=BXr.out.cell 1 _ rfl
       have x2:=BXr.out.cell 2 _ rfl
       have x3:=BXr.out.cell 3 _ rfl
       have xl:=BXr.out.lt
       by_cases hlt2:k<LC
       ·have hk':(k:Int)<(LC:Int):=by omega
        obtain⟨y,hy⟩: ∃y,cs[k]?=some y:=⟨cs[k]'(by omega),List.getElem?_eq_getElem (by omega)⟩
        obtain⟨bb,oo,rfl,a9,n9,c9,p0,p1,q2,q3,q4⟩:=HEL.out k y hy w (Below.refl _ _)
        have HP0:=lH p0
        have HP1:=lH p1
        have q0:=cK p0 WB.out
        have hcc2:LC≤c0:=by omega
        clear p0 p1
        have hst2:=HL.out
        rw[show cs.drop k=y::cs.drop (k+1) from by
         obtain⟨hi',e⟩:=List.getElem?_eq_some_iff.1 hy
         rw[List.drop_eq_getElem_cons hi',e]] at hst2
        unfold Ms.csE at hst2
        have wk:IntKind.i64.wrap ((k:Int)+1)=(k:Int)+1:=IntWalk.i64_in _ (by omega)
        have CKh:=lH (CKX.out y.1 q3)
        have HQ2:=lH q2
        clear HL q2 hy
        generalize Ms.keyB x y.1=KB at*
        go_wp2_with fail
        refine wp_region_held_drew (S:=fun w'=>w'.cell? ⟨N,0,none⟩=some (.int .i64 4)∧w'.cell? ⟨N,1,none⟩=some (.string ⟨T.toArray⟩)∧w'.cell? ⟨N,2,none⟩=some (.int .i64 O)∧w'.cell? ⟨N,3,none⟩=some (.slice (some ⟨bb,oo,none⟩) LC c0)∧w'.cell? ⟨bb,oo+k*2,none⟩=some (.string ⟨y.1.toArray⟩)∧Hid (Boxed w' N #[.int .i64 4,.string ⟨T.toArray⟩,.int .i64 O,.slice (some ⟨bb,oo,none⟩) LC c0])∧Hid (w'.ownsRow w2.heap.size 9 1 (.slice va seen.length vc) seen.length (seen.map txtV))∧Hid (Below w2.heap.size w2 w')) (by kernel_rfl) (⟨x0,x1,x2,x3,q0,lH BXr.out.drew,lH (zAq HO.out (zAb (Below.refl _ _) 1)),lH (zAb HBr.out 1)⟩) (fun hY9=>?_)
        refine tkr (d:=(some 100)) (v:=?v1) 0 rfl rfl hY9 ?hy1 ?rs1
        case hy1=>(intro w hSw;(try dsimp only at hSw);go_simp)<;>(try with_reducible rfl)
        (try simp only[Act.put,aI,aO,aS])
        refine tkr (d:=(some 101)) (v:=?v2) 1 rfl rfl hY9 ?hy2 ?rs2
        case hy2=>(intro w hSw;(try dsimp only at hSw);go_simp)<;>(try with_reducible rfl)
        (try simp only[Act.put,aI,aO,aS])
        refine tkr (d:=(some 102)) (v:=?v3) 2 rfl rfl hY9 ?hy3 ?rs3
        case hy3=>(intro w hSw;(try dsimp only at hSw);go_simp)<;>(try with_reducible rfl)
        (try simp only[Act.put,aI,aO,aS])
        refine tkr (d:=(some 103)) (v:=?v4) 3 rfl rfl hY9 ?hy4 ?rs4
        case hy4=>(intro w hSw;(try dsimp only at hSw);go_simp)<;>(try with_reducible rfl)
        (try simp only[Act.put,aI,aO,aS])
        refine tkr (d:=(some 104)) (v:=?v5) 4 rfl rfl hY9 ?hy5 ?rs5
        case hy5=>(intro w hSw;(try dsimp only at hSw);go_simp)<;>(try with_reducible rfl)
        (try simp only[Act.put,aI,aO,aS])
        refine tkr (d:=(some 105)) (v:=?v6) 5 rfl rfl hY9 ?hy6 ?rs6
        case hy6=>(intro w hSw;(try dsimp only at hSw);go_simp)<;>(try with_reducible rfl)
        (try simp only[Act.put,aI,aO,aS])
        refine tkr (d:=(some 106)) (v:=?v7) 6 rfl rfl hY9 ?hy7 ?rs7
        case hy7=>(intro w hSw;(try dsimp only at hSw);go_simp)<;>(try with_reducible rfl)
        (try simp only[Act.put,aI,aO,aS])
        refine zAc 7 rfl (by kernel_rfl) (by rfl) (fun K hK=>?_)
        go_simp
        refine(CKh.out _).mono ?_
        rintro e w' ⟨rfl,hb⟩
        refine hK.out _ _ (by obtain⟨h0,h1,h2,h3,h4,h5,h6,hw⟩:=hY9;exact⟨cK h0 hb,cK h1 hb,cK h2 hb,cK h3 hb,cK h4 hb,lH (h5.out.below hb),lH (zAq h6.out hb),lH (bT hw.out hb)⟩) (fun hY9=>?_)
        clear hK K
        (try simp only[Act.put,aI,aO,aS])
        refine wpAnyH_done (by kernel_rfl) ?_ _
        obtain⟨z0,z1,z2,z3,z4,z5,z6,zW⟩:=hY9
        clear hb CKh x0 x1 x2 x3 xl q0 BXr HO HBr WB sz1
        generalize w'=wA at*
        have xl:=z5.out.lt
        have WA:=lH (bT W2.out zW.out)
        cases KB with
        |false=>
         simp only[Bool.not_false,if_true] at hst2
         have hne:NE=3:=hst2.symm
         subst hne
         have hst:=HST.out
         rw[if_pos (by decide)] at hst
         subst hst
         clear HST CKX IH CC HEL
         simp only[Bool.not_false]
         go_wp2_with fail
         go_ret
         exact⟨rfl,by repeat(first|exact WA.out|refine zAb ?_ _)⟩
        |true=>
         rw[if_neg (by simp)] at hst2
         have CCh:=lH (CC.out seen (.slice va seen.length vc) y.1 wA (StrsAt.of_row z6.out))
         generalize seen.contains y.1=SC at*
         simp only[Bool.not_true]
         go_wp2_with fail
         refine CCh.out.mono ?_
         rintro e w' ⟨rfl,rfl⟩
         clear CCh
         cases SC with
         |true=>
          simp only[if_true] at hst2
          have hne:NE=5:=hst2.symm
          subst hne
          have hst:=HST.out
          rw[if_pos (by decide)] at hst
          subst hst
          clear HST CKX IH CC HEL
          go_wp2_with fail
          go_ret
          exact⟨rfl,by repeat(first|exact WA.out|refine zAb ?_ _)⟩
         |false=>
          rw[if_neg (by simp)] at hst2
          have hMK:(mark||decide (x.kind=4))=true:=by rw[hK];simp
          rw[hMK] at hst2
          have IHh:=lH fun wx (hb:Below w.heap.size w wx)=>IH.out (.slice a9 n9 c9) y.2 (true) wx (Ms.zAi HQ2.out hb) q4
          have HST3:=lH hst2
          clear hst2 hMK
          generalize Ms.chk f (true) y.2=EE at*
          have hown:=z6.out
          have szA:=zW.out.size
          have nxb:some N≠(Value.slice va seen.length vc).ownBlock:=fun e=>by have:=(hown.lt N e.symm).1;omega
          go_wp2_with (at_builtin;refine wpList_append_own_at _ rfl _ _ 97 rfl w2.heap.size 9 i0 (.string ByteArray.empty) 1 16 Tryz.underlying97 hi0 hz0 hz1 hz2 rfl (by decide) _ _ _ rfl (hown.alloc _) ⟨wA.heap.size,0,none⟩ 1 1 [txtV y.1] rfl rfl (cell_one_new _ _ _) (fun u hu=>by simp at hu;subst hu;rfl) (by unfold maxLen;omega) (by omega) (by simp;omega) ?_;intro v' w3 hown' hgrow _ _;have HO3:=lH (show w3.ownsRow w2.heap.size 9 1 v' (seen++ [y.1]).length ((seen++ [y.1]).map txtV) by simpa using hown');have HB3:=lH (show Below w2.heap.size w2 w3 from(zW.out.alloc (by omega) _).grown hgrow (by simp;omega) (fun k hk=>(hown.lt k hk).1));have BX3:=lH (zA7 (z5.out.alloc _) hgrow nxb);clear hown hown' hgrow nxb z0 z1 z2 z3 z4 z5 z6 zW xl;obtain⟨va',vc',rfl⟩:=zAw HO3.out;have x0:=BX3.out.cell 0 _ rfl;have x3:=BX3.out.cell 3 _ rfl;have xl:=BX3.out.lt)
          have WB3:=lH (bT W2.out HB3.out)
          have q1:=cK HP1.out WB3.out
          cases mark with
          |true=>
           refine wp_region_held_drew (S:=fun w'=>w'.cell? ⟨N,0,none⟩=some (.int .i64 4)∧w'.cell? ⟨N,3,none⟩=some (.slice (some ⟨bb,oo,none⟩) LC c0)∧w'.cell? ⟨bb,oo+k*2+1,none⟩=some (.slice a9 n9 c9)∧Hid (w'.ownsRow w2.heap.size 9 1 (.slice va' (seen++ [y.1]).length vc') (seen++ [y.1]).length ((seen++ [y.1]).map txtV))∧Hid (Below w2.heap.size w2 w')∧Hid (Below w.heap.size w w')) (by kernel_rfl) (⟨x0,x3,q1,lH (zAq HO3.out (zAb (Below.refl _ _) 1)),lH (zAb HB3.out 1),lH (zAb WB3.out 1)⟩) (fun hY9=>?_)
           refine tkr (d:=(some 125)) (v:=?v9) 0 rfl rfl hY9 ?hy9 ?rs9
           case hy9=>(intro w hSw;(try dsimp only at hSw);go_simp)<;>(try with_reducible rfl)
           (try simp only[Act.put,aI,aO,aS])
           refine tkr (d:=(some 126)) (v:=?v10) 1 rfl rfl hY9 ?hy10 ?rs10
           case hy10=>(intro w hSw;(try dsimp only at hSw);go_simp)<;>(try with_reducible rfl)
           (try simp only[Act.put,aI,aO,aS])
           refine tkr (d:=(some 127)) (v:=?v11) 2 rfl rfl hY9 ?hy11 ?rs11
           case hy11=>(intro w hSw;(try dsimp only at hSw);go_simp)<;>(try with_reducible rfl)
           (try simp only[Act.put,aI,aO,aS])
           refine tkr (d:=(some 128)) (v:=?v12) 3 rfl rfl hY9 ?hy12 ?rs12
           case hy12=>(intro w hSw;(try dsimp only at hSw);go_simp)<;>(try with_reducible rfl)
           (try simp only[Act.put,aI,aO,aS])
           refine tkr (d:=(some 129)) (v:=?v13) 4 rfl rfl hY9 ?hy13 ?rs13
           case hy13=>(intro w hSw;(try dsimp only at hSw);go_simp)<;>(try with_reducible rfl)
           (try simp only[Act.put,aI,aO,aS])
           refine tkr (d:=(some 130)) (v:=?v14) 5 rfl rfl hY9 ?hy14 ?rs14
           case hy14=>(intro w hSw;(try dsimp only at hSw);go_simp)<;>(try with_reducible rfl)
           (try simp only[Act.put,aI,aO,aS])
           refine tkr (d:=(some 131)) (v:=?v15) 6 rfl rfl hY9 ?hy15 ?rs15
           case hy15=>(intro w hSw;(try dsimp only at hSw);go_simp)<;>(try with_reducible rfl)
           (try simp only[Act.put,aI,aO,aS])
           refine tkr (d:=(some 132)) (v:=?v16) 7 rfl rfl hY9 ?hy16 ?rs16
           case hy16=>(intro w hSw;(try dsimp only at hSw);go_simp)<;>(try with_reducible rfl)
           (try simp only[Act.put,aI,aO,aS])
           refine tks (d:=(some 133)) 8 rfl rfl hY9 ?_
           (try simp only[Act.put,aI,aO,aS])
           refine tks (d:=(some 134)) 9 rfl rfl hY9 ?_
           (try simp only[Act.put,aI,aO,aS])
           refine tks (d:=(some 135)) 10 rfl rfl hY9 ?_
           (try simp only[Act.put,aI,aO,aS])
           refine tkr (d:=(some 136)) (v:=?v20) 11 rfl rfl hY9 ?hy20 ?rs20
           case hy20=>(intro w hSw;(try dsimp only at hSw);go_simp)<;>(try with_reducible rfl)
           (try simp only[Act.put,aI,aO,aS])
           refine zAc 12 rfl (by kernel_rfl) (by rfl) (fun K hK=>?_)
           go_simp
           refine(IHh.out _ (by obtain⟨_,_,_,_,_,h6⟩:=hY9;exact h6.out)).mono ?_
           rintro e w' ⟨rfl,hb⟩
           refine hK.out _ _ (by obtain⟨h0,h1,h2,h3,h4,hw⟩:=hY9;exact⟨cK h0 hb,cK h1 hb,cK h2 hb,lH (zAq h3.out hb),lH (bT h4.out hb),lH (bT hw.out hb)⟩) (fun hY9=>?_)
           clear hK K
           (try simp only[Act.put,aI,aO,aS])
           refine tkr (d:=(some 9)) (v:=?v22) 13 rfl rfl hY9 ?hy22 ?rs22
           case hy22=>(intro w hSw;(try dsimp only at hSw);go_simp)<;>(try with_reducible rfl)
           (try simp only[Act.put,aI,aO,aS])
           refine wpAnyH_done (by kernel_rfl) ?_ _
           obtain⟨z0,z1,z2,z3,z4,zW⟩:=hY9
           clear hb IHh x0 x3 xl q1 HO3 HB3 WB3 BX3
           generalize w'=wB at*
           have hst2:=HST3.out
           by_cases hE:EE=0
           ·subst hE
            rw[if_neg (by simp)] at hst2
            have HST4:=lH hst2
            clear hst2 HST3
            go_wp2_with fail
            go_roundw
            case rel=>exact⟨k+1,seen++ [y.1],by go_num,by omega,by rw[List.length_append,HSL.out];rfl,by simpa using z3,HST4,z4⟩
            case measure=>simp[intOf];omega
           rw[if_pos hE] at hst2
           have hne:NE=EE:=hst2.symm
           have hst:=HST.out
           rw[hne,if_pos hE] at hst
           subst hst
           have e0:(EE==0)=false:=zAe hE
           have e1:(EE !=0)=true:=by rw[bne,e0];rfl
           clear HST HST3 hst2 hne hE CKX IH CC HEL
           go_wp2_with fail
           go_ret
           exact⟨rfl,by repeat(first|exact zW.out|refine zAb ?_ _)⟩
          |false=>
           refine wp_region_held_drew (S:=fun w'=>w'.cell? ⟨N,0,none⟩=some (.int .i64 4)∧w'.cell? ⟨N,3,none⟩=some (.slice (some ⟨bb,oo,none⟩) LC c0)∧w'.cell? ⟨bb,oo+k*2+1,none⟩=some (.slice a9 n9 c9)∧Hid (w'.ownsRow w2.heap.size 9 1 (.slice va' (seen++ [y.1]).length vc') (seen++ [y.1]).length ((seen++ [y.1]).map txtV))∧Hid (Below w2.heap.size w2 w')∧Hid (Below w.heap.size w w')) (by kernel_rfl) (⟨x0,x3,q1,lH (zAq HO3.out (zAb (Below.refl _ _) 1)),lH (zAb HB3.out 1),lH (zAb WB3.out 1)⟩) (fun hY9=>?_)
           refine tkr (d:=(some 125)) (v:=?v23) 0 rfl rfl hY9 ?hy23 ?rs23
           case hy23=>(intro w hSw;(try dsimp only at hSw);go_simp)<;>(try with_reducible rfl)
           (try simp only[Act.put,aI,aO,aS])
           refine tkr (d:=(some 126)) (v:=?v24) 1 rfl rfl hY9 ?hy24 ?rs24
           case hy24=>(intro w hSw;(try dsimp only at hSw);go_simp)<;>(try with_reducible rfl)
           (try simp only[Act.put,aI,aO,aS])
           refine tkr (d:=(some 127)) (v:=?v25) 2 rfl rfl hY9 ?hy25 ?rs25
           case hy25=>(intro w hSw;(try dsimp only at hSw);go_simp)<;>(try with_reducible rfl)
           (try simp only[Act.put,aI,aO,aS])
           refine tkr (d:=(some 128)) (v:=?v26) 3 rfl rfl hY9 ?hy26 ?rs26
           case hy26=>(intro w hSw;(try dsimp only at hSw);go_simp)<;>(try with_reducible rfl)
           (try simp only[Act.put,aI,aO,aS])
           refine tkr (d:=(some 129)) (v:=?v27) 4 rfl rfl hY9 ?hy27 ?rs27
           case hy27=>(intro w hSw;(try dsimp only at hSw);go_simp)<;>(try with_reducible rfl)
           (try simp only[Act.put,aI,aO,aS])
           refine tkr (d:=(some 130)) (v:=?v28) 5 rfl rfl hY9 ?hy28 ?rs28
           case hy28=>(intro w hSw;(try dsimp only at hSw);go_simp)<;>(try with_reducible rfl)
           (try simp only[Act.put,aI,aO,aS])
           refine tkr (d:=(some 131)) (v:=?v29) 6 rfl rfl hY9 ?hy29 ?rs29
           case hy29=>(intro w hSw;(try dsimp only at hSw);go_simp)<;>(try with_reducible rfl)
           (try simp only[Act.put,aI,aO,aS])
           refine tkr (d:=(some 132)) (v:=?v30) 7 rfl rfl hY9 ?hy30 ?rs30
           case hy30=>(intro w hSw;(try dsimp only at hSw);go_simp)<;>(try with_reducible rfl)
           (try simp only[Act.put,aI,aO,aS])
           refine tkr (d:=(some 133)) (v:=?v31) 8 rfl rfl hY9 ?hy31 ?rs31
           case hy31=>(intro w hSw;(try dsimp only at hSw);go_simp)<;>(try with_reducible rfl)
           (try simp only[Act.put,aI,aO,aS])
           refine tkr (d:=(some 134)) (v:=?v32) 9 rfl rfl hY9 ?hy32 ?rs32
           case hy32=>(intro w hSw;(try dsimp only at hSw);go_simp)<;>(try with_reducible rfl)
           (try simp only[Act.put,aI,aO,aS])
           refine tkr (d:=(some 135)) (v:=?v33) 10 rfl rfl hY9 ?hy33 ?rs33
           case hy33=>(intro w hSw;(try dsimp only at hSw);go_simp)<;>(try with_reducible rfl)
           (try simp only[Act.put,aI,aO,aS])
           refine tkr (d:=(some 136)) (v:=?v34) 11 rfl rfl hY9 ?hy34 ?rs34
           case hy34=>(intro w hSw;(try dsimp only at hSw);go_simp)<;>(try with_reducible rfl)
           (try simp only[Act.put,aI,aO,aS])
           refine zAc 12 rfl (by kernel_rfl) (by rfl) (fun K hK=>?_)
           go_simp
           refine(IHh.out _ (by obtain⟨_,_,_,_,_,h6⟩:=hY9;exact h6.out)).mono ?_
           rintro e w' ⟨rfl,hb⟩
           refine hK.out _ _ (by obtain⟨h0,h1,h2,h3,h4,hw⟩:=hY9;exact⟨cK h0 hb,cK h1 hb,cK h2 hb,lH (zAq h3.out hb),lH (bT h4.out hb),lH (bT hw.out hb)⟩) (fun hY9=>?_)
           clear hK K
           (try simp only[Act.put,aI,aO,aS])
           refine tkr (d:=(some 9)) (v:=?v36) 13 rfl rfl hY9 ?hy36 ?rs36
           case hy36=>(intro w hSw;(try dsimp only at hSw);go_simp)<;>(try with_reducible rfl)
           (try simp only[Act.put,aI,aO,aS])
           refine wpAnyH_done (by kernel_rfl) ?_ _
           obtain⟨z0,z1,z2,z3,z4,zW⟩:=hY9
           clear hb IHh x0 x3 xl q1 HO3 HB3 WB3 BX3
           generalize w'=wB at*
           have hst2:=HST3.out
           by_cases hE:EE=0
           ·subst hE
            rw[if_neg (by simp)] at hst2
            have HST4:=lH hst2
            clear hst2 HST3
            go_wp2_with fail
            go_roundw
            case rel=>exact⟨k+1,seen++ [y.1],by go_num,by omega,by rw[List.length_append,HSL.out];rfl,by simpa using z3,HST4,z4⟩
            case measure=>simp[intOf];omega
           rw[if_pos hE] at hst2
           have hne:NE=EE:=hst2.symm
           have hst:=HST.out
           rw[hne,if_pos hE] at hst
           subst hst
           have e0:(EE==0)=false:=zAe hE
           have e1:(EE !=0)=true:=by rw[bne,e0];rfl
           clear HST HST3 hst2 hne hE CKX IH CC HEL
           go_wp2_with fail
           go_ret
           exact⟨rfl,by repeat(first|exact zW.out|refine zAb ?_ _)⟩
       have hk': ¬(k:Int)<(LC:Int):=by omega
       have hst2:=HL.out
       rw[List.drop_of_length_le (by omega)] at hst2
       unfold Ms.csE at hst2
       have CCh:=lH (CC.out seen (.slice va seen.length vc) Ms.other wr (StrsAt.of_row HO.out))
       clear CC HEL HL HO
       unfold Ms.other at CCh
       generalize hSO:seen.contains Ms.other=SO at*
       have e5:seen.contains [111,116,104,101,114]=SO:=hSO
       rw[e5] at CCh
       clear hSO e5
       go_wp2_with fail
       refine CCh.out.mono ?_
       rintro e w' ⟨rfl,rfl⟩
       cases SO with
       |true=>
        simp only[if_true] at hst2
        have hne:NE=0:=hst2.symm
        subst hne
        have hst:=HST.out
        rw[if_neg (by simp)] at hst
        have HST2:=lH hst
        clear HST hst hst2 CKX IH CCh
        go_wp2_with fail
        go_roundw
        case rel=>exact⟨i+1,_,by go_num,by omega,HA2,HST2,WB⟩
        case measure=>simp[intOf];omega
       |false=>
        rw[if_neg (by simp)] at hst2
        have hne:NE=2:=hst2.symm
        subst hne
        have hst:=HST.out
        rw[if_pos (by decide)] at hst
        subst hst
        clear HST CKX IH CCh
        go_wp2_with fail
        go_ret
        exact⟨rfl,WB.out⟩
     have b4:(K==4)=false:=zAe k4
     have b4':(K !=4)=true:=by rw[bne,b4];rfl
     by_cases k5:K=5
     ·subst k5
      have hne:NE=CE:=by rw[HND.out,if_neg (by simp),if_neg (fun h=>k4 h.1),if_pos (.inr rfl)]
      clear HND
      have HCE2:=lH (HCE.out.trans hne.symm)
      clear hne HCE
      obtain⟨A0,C0,e0,_,hel2⟩:=HP4.out.spread
      injection e0 with e1 e2 e3
      subst e1 e2 e3
      have hcapc:cs.length≤c0∨cs.length=0:=by
       rcases HP4.out with⟨e,_⟩|⟨_,_,_,e,_,q,_,_⟩
       ·exact .inr (by rw[e];rfl)
       injection e with _ _ e;exact .inl (by omega)
      have HEL:=lH fun (k:Nat) y (hk:cs[k]?=some y) (wx:World) (hb:Below w.heap.size w wx)=>(show ∃bb oo,a0=some ⟨bb,oo,none⟩∧Ms.CsC f wx bb (oo+k*2) y from by
       obtain⟨bb,oo,e,q⟩:=hel2 k y hk
       exact⟨bb,oo,e,q.below hb⟩)
      have CC:=lH fun (l:List (List UInt8)) V k (wx:World) (hs:StrsAt wx V l)=>zEK l V k wx hs
      clear hel2 HP4
      generalize hlc:cs.length=LC at*
      obtain⟨N,hN⟩: ∃N,N=wr.heap.size:=⟨_,rfl⟩
      have hNl:N<w2.heap.size:=by rw[hN];exact xl
      rw[←hN] at BX2 x0 x1 x2 x3 xl
      have HNN:=lH hN
      clear hN
      rw[←HNN.out]
      go_wp2_with fail
      go_loopw [7,8] (fun vs vk wr2=> ∃(k:Nat) (seen:List (List UInt8)),vk= .int .i64 (k:Int)∧k≤LC∧seen.length=k∧Hid (wr2.ownsRow w2.heap.size 9 1 vs seen.length (seen.map txtV))∧Hid (Ms.csE (Ms.chk f) x mark seen (cs.drop k)=NE)∧Hid (Below w2.heap.size w2 wr2)) (fun _ vk _=>LC-(intOf vk).toNat)
      case atStart=>exact⟨0,[],rfl,Nat.zero_le _,rfl,lH ⟨rfl,.inl ⟨rfl,rfl⟩⟩,HCE2,lH (Below.refl _ _)⟩
      case round=>
       obtain⟨k,seen,rfl,hk,hsl,HO,HL,HBr⟩:=hrel
       have HSL:=lH hsl
       have hsl2:seen.length≤LC:=by omega
       clear HCE2 hsl x0 x1 x2 x3 xl
       have WB:=lH (bT W2.out HBr.out)
       have BXr:=lH (BX2.out.below HBr.out)
       have sz1:=HBr.out.size
       obtain⟨va,vc,rfl⟩:=zAw HO.out
       have x0:=BXr.out.cell 0 _ rfl
       have x1:=BXr.out.cell 1 _ rfl
       have x2:=BXr.out.cell 2 _ rfl
       have x3:=BXr.out.cell 3 _ rfl
       have xl:=BXr.out.lt
       by_cases hlt2:k<LC
       ·have hk':(k:Int)<(LC:Int):=by omega
        obtain⟨y,hy⟩: ∃y,cs[k]?=some y:=⟨cs[k]'(by omega),List.getElem?_eq_getElem (by omega)⟩
        obtain⟨bb,oo,rfl,a9,n9,c9,p0,p1,q2,q3,q4⟩:=HEL.out k y hy w (Below.refl _ _)
        have HP0:=lH p0
        have HP1:=lH p1
        have q0:=cK p0 WB.out
        have hcc2:LC≤c0:=by omega
        clear p0 p1
        have hst2:=HL.out
        rw[show cs.drop k=y::cs.drop (k+1) from by
         obtain⟨hi',e⟩:=List.getElem?_eq_some_iff.1 hy
         rw[List.drop_eq_getElem_cons hi',e]] at hst2
        unfold Ms.csE at hst2
        have wk:IntKind.i64.wrap ((k:Int)+1)=(k:Int)+1:=IntWalk.i64_in _ (by omega)
        have CKh:=lH (CKX.out y.1 q3)
        have HQ2:=lH q2
        clear HL q2 hy
        generalize Ms.keyB x y.1=KB at*
        go_wp2_with fail
        refine wp_region_held_drew (S:=fun w'=>w'.cell? ⟨N,0,none⟩=some (.int .i64 5)∧w'.cell? ⟨N,1,none⟩=some (.string ⟨T.toArray⟩)∧w'.cell? ⟨N,2,none⟩=some (.int .i64 O)∧w'.cell? ⟨N,3,none⟩=some (.slice (some ⟨bb,oo,none⟩) LC c0)∧w'.cell? ⟨bb,oo+k*2,none⟩=some (.string ⟨y.1.toArray⟩)∧Hid (Boxed w' N #[.int .i64 5,.string ⟨T.toArray⟩,.int .i64 O,.slice (some ⟨bb,oo,none⟩) LC c0])∧Hid (w'.ownsRow w2.heap.size 9 1 (.slice va seen.length vc) seen.length (seen.map txtV))∧Hid (Below w2.heap.size w2 w')) (by kernel_rfl) (⟨x0,x1,x2,x3,q0,lH BXr.out.drew,lH (zAq HO.out (zAb (Below.refl _ _) 1)),lH (zAb HBr.out 1)⟩) (fun hY9=>?_)
        refine tkr (d:=(some 100)) (v:=?v37) 0 rfl rfl hY9 ?hy37 ?rs37
        case hy37=>(intro w hSw;(try dsimp only at hSw);go_simp)<;>(try with_reducible rfl)
        (try simp only[Act.put,aI,aO,aS])
        refine tkr (d:=(some 101)) (v:=?v38) 1 rfl rfl hY9 ?hy38 ?rs38
        case hy38=>(intro w hSw;(try dsimp only at hSw);go_simp)<;>(try with_reducible rfl)
        (try simp only[Act.put,aI,aO,aS])
        refine tkr (d:=(some 102)) (v:=?v39) 2 rfl rfl hY9 ?hy39 ?rs39
        case hy39=>(intro w hSw;(try dsimp only at hSw);go_simp)<;>(try with_reducible rfl)
        (try simp only[Act.put,aI,aO,aS])
        refine tkr (d:=(some 103)) (v:=?v40) 3 rfl rfl hY9 ?hy40 ?rs40
        case hy40=>(intro w hSw;(try dsimp only at hSw);go_simp)<;>(try with_reducible rfl)
        (try simp only[Act.put,aI,aO,aS])
        refine tkr (d:=(some 104)) (v:=?v41) 4 rfl rfl hY9 ?hy41 ?rs41
        case hy41=>(intro w hSw;(try dsimp only at hSw);go_simp)<;>(try with_reducible rfl)
        (try simp only[Act.put,aI,aO,aS])
        refine tkr (d:=(some 105)) (v:=?v42) 5 rfl rfl hY9 ?hy42 ?rs42
        case hy42=>(intro w hSw;(try dsimp only at hSw);go_simp)<;>(try with_reducible rfl)
        (try simp only[Act.put,aI,aO,aS])
        refine tkr (d:=(some 106)) (v:=?v43) 6 rfl rfl hY9 ?hy43 ?rs43
        case hy43=>(intro w hSw;(try dsimp only at hSw);go_simp)<;>(try with_reducible rfl)
        (try simp only[Act.put,aI,aO,aS])
        refine zAc 7 rfl (by kernel_rfl) (by rfl) (fun K hK=>?_)
        go_simp
        refine(CKh.out _).mono ?_
        rintro e w' ⟨rfl,hb⟩
        refine hK.out _ _ (by obtain⟨h0,h1,h2,h3,h4,h5,h6,hw⟩:=hY9;exact⟨cK h0 hb,cK h1 hb,cK h2 hb,cK h3 hb,cK h4 hb,lH (h5.out.below hb),lH (zAq h6.out hb),lH (bT hw.out hb)⟩) (fun hY9=>?_)
        clear hK K
        (try simp only[Act.put,aI,aO,aS])
        refine wpAnyH_done (by kernel_rfl) ?_ _
        obtain⟨z0,z1,z2,z3,z4,z5,z6,zW⟩:=hY9
        clear hb CKh x0 x1 x2 x3 xl q0 BXr HO HBr WB sz1
        generalize w'=wA at*
        have xl:=z5.out.lt
        have WA:=lH (bT W2.out zW.out)
        cases KB with
        |false=>
         simp only[Bool.not_false,if_true] at hst2
         have hne:NE=3:=hst2.symm
         subst hne
         have hst:=HST.out
         rw[if_pos (by decide)] at hst
         subst hst
         clear HST CKX IH CC HEL
         simp only[Bool.not_false]
         go_wp2_with fail
         go_ret
         exact⟨rfl,by repeat(first|exact WA.out|refine zAb ?_ _)⟩
        |true=>
         rw[if_neg (by simp)] at hst2
         have CCh:=lH (CC.out seen (.slice va seen.length vc) y.1 wA (StrsAt.of_row z6.out))
         generalize seen.contains y.1=SC at*
         simp only[Bool.not_true]
         go_wp2_with fail
         refine CCh.out.mono ?_
         rintro e w' ⟨rfl,rfl⟩
         clear CCh
         cases SC with
         |true=>
          simp only[if_true] at hst2
          have hne:NE=5:=hst2.symm
          subst hne
          have hst:=HST.out
          rw[if_pos (by decide)] at hst
          subst hst
          clear HST CKX IH CC HEL
          go_wp2_with fail
          go_ret
          exact⟨rfl,by repeat(first|exact WA.out|refine zAb ?_ _)⟩
         |false=>
          rw[if_neg (by simp)] at hst2
          have hMK:(mark||decide (x.kind=4))=mark:=by rw[hK];simp
          rw[hMK] at hst2
          have IHh:=lH fun wx (hb:Below w.heap.size w wx)=>IH.out (.slice a9 n9 c9) y.2 (mark) wx (Ms.zAi HQ2.out hb) q4
          have HST3:=lH hst2
          clear hst2 hMK
          generalize Ms.chk f (mark) y.2=EE at*
          have hown:=z6.out
          have szA:=zW.out.size
          have nxb:some N≠(Value.slice va seen.length vc).ownBlock:=fun e=>by have:=(hown.lt N e.symm).1;omega
          go_wp2_with (at_builtin;refine wpList_append_own_at _ rfl _ _ 97 rfl w2.heap.size 9 i0 (.string ByteArray.empty) 1 16 Tryz.underlying97 hi0 hz0 hz1 hz2 rfl (by decide) _ _ _ rfl (hown.alloc _) ⟨wA.heap.size,0,none⟩ 1 1 [txtV y.1] rfl rfl (cell_one_new _ _ _) (fun u hu=>by simp at hu;subst hu;rfl) (by unfold maxLen;omega) (by omega) (by simp;omega) ?_;intro v' w3 hown' hgrow _ _;have HO3:=lH (show w3.ownsRow w2.heap.size 9 1 v' (seen++ [y.1]).length ((seen++ [y.1]).map txtV) by simpa using hown');have HB3:=lH (show Below w2.heap.size w2 w3 from(zW.out.alloc (by omega) _).grown hgrow (by simp;omega) (fun k hk=>(hown.lt k hk).1));have BX3:=lH (zA7 (z5.out.alloc _) hgrow nxb);clear hown hown' hgrow nxb z0 z1 z2 z3 z4 z5 z6 zW xl;obtain⟨va',vc',rfl⟩:=zAw HO3.out;have x0:=BX3.out.cell 0 _ rfl;have x3:=BX3.out.cell 3 _ rfl;have xl:=BX3.out.lt)
          have WB3:=lH (bT W2.out HB3.out)
          have q1:=cK HP1.out WB3.out
          cases mark with
          |true=>
           refine wp_region_held_drew (S:=fun w'=>w'.cell? ⟨N,0,none⟩=some (.int .i64 5)∧w'.cell? ⟨N,3,none⟩=some (.slice (some ⟨bb,oo,none⟩) LC c0)∧w'.cell? ⟨bb,oo+k*2+1,none⟩=some (.slice a9 n9 c9)∧Hid (w'.ownsRow w2.heap.size 9 1 (.slice va' (seen++ [y.1]).length vc') (seen++ [y.1]).length ((seen++ [y.1]).map txtV))∧Hid (Below w2.heap.size w2 w')∧Hid (Below w.heap.size w w')) (by kernel_rfl) (⟨x0,x3,q1,lH (zAq HO3.out (zAb (Below.refl _ _) 1)),lH (zAb HB3.out 1),lH (zAb WB3.out 1)⟩) (fun hY9=>?_)
           refine tkr (d:=(some 125)) (v:=?v45) 0 rfl rfl hY9 ?hy45 ?rs45
           case hy45=>(intro w hSw;(try dsimp only at hSw);go_simp)<;>(try with_reducible rfl)
           (try simp only[Act.put,aI,aO,aS])
           refine tkr (d:=(some 126)) (v:=?v46) 1 rfl rfl hY9 ?hy46 ?rs46
           case hy46=>(intro w hSw;(try dsimp only at hSw);go_simp)<;>(try with_reducible rfl)
           (try simp only[Act.put,aI,aO,aS])
           refine tkr (d:=(some 127)) (v:=?v47) 2 rfl rfl hY9 ?hy47 ?rs47
           case hy47=>(intro w hSw;(try dsimp only at hSw);go_simp)<;>(try with_reducible rfl)
           (try simp only[Act.put,aI,aO,aS])
           refine tkr (d:=(some 128)) (v:=?v48) 3 rfl rfl hY9 ?hy48 ?rs48
           case hy48=>(intro w hSw;(try dsimp only at hSw);go_simp)<;>(try with_reducible rfl)
           (try simp only[Act.put,aI,aO,aS])
           refine tkr (d:=(some 129)) (v:=?v49) 4 rfl rfl hY9 ?hy49 ?rs49
           case hy49=>(intro w hSw;(try dsimp only at hSw);go_simp)<;>(try with_reducible rfl)
           (try simp only[Act.put,aI,aO,aS])
           refine tkr (d:=(some 130)) (v:=?v50) 5 rfl rfl hY9 ?hy50 ?rs50
           case hy50=>(intro w hSw;(try dsimp only at hSw);go_simp)<;>(try with_reducible rfl)
           (try simp only[Act.put,aI,aO,aS])
           refine tkr (d:=(some 131)) (v:=?v51) 6 rfl rfl hY9 ?hy51 ?rs51
           case hy51=>(intro w hSw;(try dsimp only at hSw);go_simp)<;>(try with_reducible rfl)
           (try simp only[Act.put,aI,aO,aS])
           refine tkr (d:=(some 132)) (v:=?v52) 7 rfl rfl hY9 ?hy52 ?rs52
           case hy52=>(intro w hSw;(try dsimp only at hSw);go_simp)<;>(try with_reducible rfl)
           (try simp only[Act.put,aI,aO,aS])
           refine tks (d:=(some 133)) 8 rfl rfl hY9 ?_
           (try simp only[Act.put,aI,aO,aS])
           refine tks (d:=(some 134)) 9 rfl rfl hY9 ?_
           (try simp only[Act.put,aI,aO,aS])
           refine tks (d:=(some 135)) 10 rfl rfl hY9 ?_
           (try simp only[Act.put,aI,aO,aS])
           refine tkr (d:=(some 136)) (v:=?v56) 11 rfl rfl hY9 ?hy56 ?rs56
           case hy56=>(intro w hSw;(try dsimp only at hSw);go_simp)<;>(try with_reducible rfl)
           (try simp only[Act.put,aI,aO,aS])
           refine zAc 12 rfl (by kernel_rfl) (by rfl) (fun K hK=>?_)
           go_simp
           refine(IHh.out _ (by obtain⟨_,_,_,_,_,h6⟩:=hY9;exact h6.out)).mono ?_
           rintro e w' ⟨rfl,hb⟩
           refine hK.out _ _ (by obtain⟨h0,h1,h2,h3,h4,hw⟩:=hY9;exact⟨cK h0 hb,cK h1 hb,cK h2 hb,lH (zAq h3.out hb),lH (bT h4.out hb),lH (bT hw.out hb)⟩) (fun hY9=>?_)
           clear hK K
           (try simp only[Act.put,aI,aO,aS])
           refine tkr (d:=(some 9)) (v:=?v58) 13 rfl rfl hY9 ?hy58 ?rs58
           case hy58=>(intro w hSw;(try dsimp only at hSw);go_simp)<;>(try with_reducible rfl)
           (try simp only[Act.put,aI,aO,aS])
           refine wpAnyH_done (by kernel_rfl) ?_ _
           obtain⟨z0,z1,z2,z3,z4,zW⟩:=hY9
           clear hb IHh x0 x3 xl q1 HO3 HB3 WB3 BX3
           generalize w'=wB at*
           have hst2:=HST3.out
           by_cases hE:EE=0
           ·subst hE
            rw[if_neg (by simp)] at hst2
            have HST4:=lH hst2
            clear hst2 HST3
            go_wp2_with fail
            go_roundw
            case rel=>exact⟨k+1,seen++ [y.1],by go_num,by omega,by rw[List.length_append,HSL.out];rfl,by simpa using z3,HST4,z4⟩
            case measure=>simp[intOf];omega
           rw[if_pos hE] at hst2
           have hne:NE=EE:=hst2.symm
           have hst:=HST.out
           rw[hne,if_pos hE] at hst
           subst hst
           have e0:(EE==0)=false:=zAe hE
           have e1:(EE !=0)=true:=by rw[bne,e0];rfl
           clear HST HST3 hst2 hne hE CKX IH CC HEL
           go_wp2_with fail
           go_ret
           exact⟨rfl,by repeat(first|exact zW.out|refine zAb ?_ _)⟩
          |false=>
           refine wp_region_held_drew (S:=fun w'=>w'.cell? ⟨N,0,none⟩=some (.int .i64 5)∧w'.cell? ⟨N,3,none⟩=some (.slice (some ⟨bb,oo,none⟩) LC c0)∧w'.cell? ⟨bb,oo+k*2+1,none⟩=some (.slice a9 n9 c9)∧Hid (w'.ownsRow w2.heap.size 9 1 (.slice va' (seen++ [y.1]).length vc') (seen++ [y.1]).length ((seen++ [y.1]).map txtV))∧Hid (Below w2.heap.size w2 w')∧Hid (Below w.heap.size w w')) (by kernel_rfl) (⟨x0,x3,q1,lH (zAq HO3.out (zAb (Below.refl _ _) 1)),lH (zAb HB3.out 1),lH (zAb WB3.out 1)⟩) (fun hY9=>?_)
           refine tkr (d:=(some 125)) (v:=?v59) 0 rfl rfl hY9 ?hy59 ?rs59
           case hy59=>(intro w hSw;(try dsimp only at hSw);go_simp)<;>(try with_reducible rfl)
           (try simp only[Act.put,aI,aO,aS])
           refine tkr (d:=(some 126)) (v:=?v60) 1 rfl rfl hY9 ?hy60 ?rs60
           case hy60=>(intro w hSw;(try dsimp only at hSw);go_simp)<;>(try with_reducible rfl)
           (try simp only[Act.put,aI,aO,aS])
           refine tkr (d:=(some 127)) (v:=?v61) 2 rfl rfl hY9 ?hy61 ?rs61
           case hy61=>(intro w hSw;(try dsimp only at hSw);go_simp)<;>(try with_reducible rfl)
           (try simp only[Act.put,aI,aO,aS])
           refine tkr (d:=(some 128)) (v:=?v62) 3 rfl rfl hY9 ?hy62 ?rs62
           case hy62=>(intro w hSw;(try dsimp only at hSw);go_simp)<;>(try with_reducible rfl)
           (try simp only[Act.put,aI,aO,aS])
           refine tkr (d:=(some 129)) (v:=?v63) 4 rfl rfl hY9 ?hy63 ?rs63
           case hy63=>(intro w hSw;(try dsimp only at hSw);go_simp)<;>(try with_reducible rfl)
           (try simp only[Act.put,aI,aO,aS])
           refine tkr (d:=(some 130)) (v:=?v64) 5 rfl rfl hY9 ?hy64 ?rs64
           case hy64=>(intro w hSw;(try dsimp only at hSw);go_simp)<;>(try with_reducible rfl)
           (try simp only[Act.put,aI,aO,aS])
           refine tkr (d:=(some 131)) (v:=?v65) 6 rfl rfl hY9 ?hy65 ?rs65
           case hy65=>(intro w hSw;(try dsimp only at hSw);go_simp)<;>(try with_reducible rfl)
           (try simp only[Act.put,aI,aO,aS])
           refine tkr (d:=(some 132)) (v:=?v66) 7 rfl rfl hY9 ?hy66 ?rs66
           case hy66=>(intro w hSw;(try dsimp only at hSw);go_simp)<;>(try with_reducible rfl)
           (try simp only[Act.put,aI,aO,aS])
           refine tkr (d:=(some 133)) (v:=?v67) 8 rfl rfl hY9 ?hy67 ?rs67
           case hy67=>(intro w hSw;(try dsimp only at hSw);go_simp)<;>(try with_reducible rfl)
           (try simp only[Act.put,aI,aO,aS])
           refine tkr (d:=(some 134)) (v:=?v68) 9 rfl rfl hY9 ?hy68 ?rs68
           case hy68=>(intro w hSw;(try dsimp only at hSw);go_simp)<;>(try with_reducible rfl)
           (try simp only[Act.put,aI,aO,aS])
           refine tkr (d:=(some 135)) (v:=?v69) 10 rfl rfl hY9 ?hy69 ?rs69
           case hy69=>(intro w hSw;(try dsimp only at hSw);go_simp)<;>(try with_reducible rfl)
           (try simp only[Act.put,aI,aO,aS])
           refine tkr (d:=(some 136)) (v:=?v70) 11 rfl rfl hY9 ?hy70 ?rs70
           case hy70=>(intro w hSw;(try dsimp only at hSw);go_simp)<;>(try with_reducible rfl)
           (try simp only[Act.put,aI,aO,aS])
           refine zAc 12 rfl (by kernel_rfl) (by rfl) (fun K hK=>?_)
           go_simp
           refine(IHh.out _ (by obtain⟨_,_,_,_,_,h6⟩:=hY9;exact h6.out)).mono ?_
           rintro e w' ⟨rfl,hb⟩
           refine hK.out _ _ (by obtain⟨h0,h1,h2,h3,h4,hw⟩:=hY9;exact⟨cK h0 hb,cK h1 hb,cK h2 hb,lH (zAq h3.out hb),lH (bT h4.out hb),lH (bT hw.out hb)⟩) (fun hY9=>?_)
           clear hK K
           (try simp only[Act.put,aI,aO,aS])
           refine tkr (d:=(some 9)) (v:=?v72) 13 rfl rfl hY9 ?hy72 ?rs72
           case hy72=>(intro w hSw;(try dsimp only at hSw);go_simp)<;>(try with_reducible rfl)
           (try simp only[Act.put,aI,aO,aS])
           refine wpAnyH_done (by kernel_rfl) ?_ _
           obtain⟨z0,z1,z2,z3,z4,zW⟩:=hY9
           clear hb IHh x0 x3 xl q1 HO3 HB3 WB3 BX3
           generalize w'=wB at*
           have hst2:=HST3.out
           by_cases hE:EE=0
           ·subst hE
            rw[if_neg (by simp)] at hst2
            have HST4:=lH hst2
            clear hst2 HST3
            go_wp2_with fail
            go_roundw
            case rel=>exact⟨k+1,seen++ [y.1],by go_num,by omega,by rw[List.length_append,HSL.out];rfl,by simpa using z3,HST4,z4⟩
            case measure=>simp[intOf];omega
           rw[if_pos hE] at hst2
           have hne:NE=EE:=hst2.symm
           have hst:=HST.out
           rw[hne,if_pos hE] at hst
           subst hst
           have e0:(EE==0)=false:=zAe hE
           have e1:(EE !=0)=true:=by rw[bne,e0];rfl
           clear HST HST3 hst2 hne hE CKX IH CC HEL
           go_wp2_with fail
           go_ret
           exact⟨rfl,by repeat(first|exact zW.out|refine zAb ?_ _)⟩
       have hk': ¬(k:Int)<(LC:Int):=by omega
       have hst2:=HL.out
       rw[List.drop_of_length_le (by omega)] at hst2
       unfold Ms.csE at hst2
       have CCh:=lH (CC.out seen (.slice va seen.length vc) Ms.other wr (StrsAt.of_row HO.out))
       clear CC HEL HL HO
       unfold Ms.other at CCh
       generalize hSO:seen.contains Ms.other=SO at*
       have e5:seen.contains [111,116,104,101,114]=SO:=hSO
       rw[e5] at CCh
       clear hSO e5
       go_wp2_with fail
       refine CCh.out.mono ?_
       rintro e w' ⟨rfl,rfl⟩
       cases SO with
       |true=>
        simp only[if_true] at hst2
        have hne:NE=0:=hst2.symm
        subst hne
        have hst:=HST.out
        rw[if_neg (by simp)] at hst
        have HST2:=lH hst
        clear HST hst hst2 CKX IH CCh
        go_wp2_with fail
        go_roundw
        case rel=>exact⟨i+1,_,by go_num,by omega,HA2,HST2,WB⟩
        case measure=>simp[intOf];omega
       |false=>
        rw[if_neg (by simp)] at hst2
        have hne:NE=2:=hst2.symm
        subst hne
        have hst:=HST.out
        rw[if_pos (by decide)] at hst
        subst hst
        clear HST CKX IH CCh
        go_wp2_with fail
        go_ret
        exact⟨rfl,WB.out⟩
     have b5:(K==5)=false:=zAe k5
     have b5':(K !=5)=true:=by rw[bne,b5];rfl
     have hne:NE=0:=by rw[HND.out,if_neg (by simp),if_neg (fun h=>k4 h.1),if_neg (by rintro(h|h);exact k4 h;exact k5 h)]
     subst hne
     have hst:=HST.out
     rw[if_neg (by simp)] at hst
     have HST2:=lH hst
     clear HST hst HND HCE HP4 CKX IH
     go_wp2_with fail
     go_roundw
     case rel=>exact⟨i+1,_,by go_num,by omega,HA2,HST2,lH (by repeat(first|exact W2.out|refine zAb ?_ _))⟩
     case measure=>simp[intOf];omega
   have hi': ¬(i:Int)<(L:Int):=by omega
   have hst:=HL.out
   rw[List.drop_of_length_le (by omega)] at hst
   unfold Ms.msE at hst
   subst hst
   clear HL HA
   go_wp2_with fail
   go_ret
   exact⟨rfl,HB.out⟩
end Go.Proofs.YtjlchookakbomaaGreatDoor
