/- The walk of msg.check. Conditions: the package's list of kinds, the library's table of powers and its errors are there; the message is one, of lists of at most 2000000. -/
import Derived.Test.YtjlchookakbomaaGreatDoorEi11
set_option maxHeartbeats 4000000
set_option maxRecDepth 100000
namespace Go.Proofs.YtjlchookakbomaaGreatDoor
open Go.RowKit
def Ahead (m:List Ms.Nd) (i:Nat) (prev:Option Int):Prop:=(i=0∧prev=none)∨(0<i∧ ∃x,m[i-1]?=some x∧prev=some x.kind)

theorem zIj (f:Nat): ∀(w0:World),MW w0→ChkOf f w0:=by
 induction f with
 |zero=>
  intro w0 _ v m mark w _ h hl
  rcases h with⟨rfl,A,cap,rfl⟩|⟨b,off,cap,_,hpos,_,_,hx⟩
  ·rw[show Ms.chk 0 mark []=0 from rfl,show errN 0= .nilIface from rfl]
   go_enter Tryz.func33,Tryz.ntmps33
   go_wp2_with fail
   go_loopw [10] (fun vi wr=>vi= .int .i64 0∧w=wr) (fun _ _=>0)
   case atStart=>exact⟨rfl,rfl⟩
   case round=>
    obtain⟨rfl,rfl⟩:=hrel
    go_wp2_with fail
    go_ret
    exact⟨rfl,Below.refl _ _⟩
  exact absurd (hx 0 _ (List.getElem?_eq_getElem hpos)) (by simp[Ms.NdC])
 |succ f ih=>
  intro w0 hw v m mark w hb0 h hl
  have HW:=lH (hw.below hb0)
  clear hw hb0
  have IH:=lH fun (wx:World) (hb:Below w.heap.size w wx)=>ih wx (HW.out.below hb)
  obtain⟨RES,hRES⟩: ∃RES,RES=Ms.chk (f+1) mark m:=⟨_,rfl⟩
  rw[←hRES]
  have HRES:=lH (show Ms.msE (Ms.chk f) mark none (m.drop 0)=RES by rw[List.drop_zero,hRES];rfl)
  clear hRES ih
  obtain⟨A,cap,rfl,_,hel⟩:=h.spread
  have hcap:m.length≤cap∨m.length=0:=by
   rcases h with⟨e,_⟩|⟨_,_,_,e,_,q,_,_⟩
   ·exact .inr (by rw[e];rfl)
   injection e with _ _ e;exact .inl (by omega)
  have hcm:cap≤9223372036854775807∨m.length=0:=by
   rcases h with⟨e,_⟩|⟨_,_,_,e,_,_,q,_⟩
   ·exact .inr (by rw[e];rfl)
   injection e with _ _ e;unfold maxLen at q;exact .inl (by omega)
  have HX:=lH fun (j:Nat) (x:Ms.Nd) (hj:m[j]?=some x) (wr:World) (hb:Below w.heap.size w wr)=>(show ∃b off,A=some ⟨b,off,none⟩∧Ms.NdC (f+1) wr b (off+j*4) x from by
   obtain⟨b,off,e,q⟩:=hel j x hj
   exact⟨b,off,e,Ms.NdC.below (f+1) q hb⟩)
  clear hel h
  generalize hlm:m.length=L at*
  go_enter Tryz.func33,Tryz.ntmps33
  go_wp2_with fail
  go_loopw [10] (fun vi wr=> ∃(i:Nat) (prev:Option Int),vi= .int .i64 (i:Int)∧i≤L∧Hid (Ahead m i prev)∧Hid (Ms.msE (Ms.chk f) mark prev (m.drop i)=RES)∧Hid (Below w.heap.size w wr)) (fun vi _=>L-(intOf vi).toNat)
  case atStart=>exact⟨0,none,rfl,Nat.zero_le _,lH (.inl ⟨rfl,rfl⟩),HRES,lH (Below.refl _ _)⟩
  case round=>
   obtain⟨i,prev,rfl,hi,HA,HL,HB⟩:=hrel
   clear HRES
   by_cases hlt:i<L
   ·have hi':(i:Int)<(L:Int):=by omega
    have hcc:L≤cap:=by omega
    have hcm':cap≤9223372036854775807:=by omega
    obtain⟨x,hxi⟩: ∃x,m[i]?=some x:=⟨m[i]'(by omega),List.getElem?_eq_getElem (by omega)⟩
    obtain⟨b,off,rfl,a0,n0,c0,p0,p1,p2,p3,p4,p5,p6⟩:=HX.out i x hxi w (Below.refl _ _)
    have g0:=cK p0 HB.out
    have g1:=cK p1 HB.out
    have g2:=cK p2 HB.out
    have g3:=cK p3 HB.out
    have lb:=World.block_lt_of_cell? _ _ g0
    have CF:=lH fun (wx:World) (hb:Below w.heap.size w wx)=>zJw x (a:=a0) (n:=n0) (c:=c0) (some ⟨b,off,none⟩) i cap prev mark wx p5 (by omega) hcm' (by
     rcases HA.out with h|⟨h1,y,h2,h3⟩
     ·exact .inl h
     obtain⟨b',off',e,a1,n1,c1,q0,_⟩:=HX.out (i-1) y h2 wx hb
     injection e with e
     injection e with e4 e5
     subst e4 e5
     exact .inr ⟨b,off,y.kind,rfl,h3,h1,q0⟩)
    have CD:=lH fun (wx:World) (hb:Below w.heap.size w wx)=>zMk f x (a:=a0) (n:=n0) (c:=c0) mark wx (HW.out.below hb) (IH.out wx hb) (Ms.zAm (f:=f) (w:=w) (show Ms.CassAt f w (.slice a0 n0 c0) x.cases from p4) hb) p6
    have hst:=HL.out
    rw[show m.drop i=x::m.drop (i+1) from by
     obtain⟨hi',e⟩:=List.getElem?_eq_some_iff.1 hxi
     rw[List.drop_eq_getElem_cons hi',e]] at hst
    unfold Ms.msE at hst
    have HND:=lH (show Ms.ndE (Ms.chk f) x prev mark=if !Ms.fineB x prev mark then 3 else if x.kind=4∧(x.off<0∨9<x.off) then 1 else if x.kind=4∨x.kind=5 then Ms.csE (Ms.chk f) x mark [] x.cases else 0 from rfl)
    have HA2:=lH (show Ahead m (i+1) (some x.kind) from .inr ⟨by omega,x,hxi,rfl⟩)
    have wi:IntKind.i64.wrap ((i:Int)+1)=(i:Int)+1:=IntWalk.i64_in _ (by omega)
    have HST:=lH hst
    clear HL hst p0 p1 p2 p3 p4 p5 p6 hxi HA
    generalize Ms.ndE (Ms.chk f) x prev mark=NE at*
    generalize Ms.fineB x prev mark=FB at*
    generalize Ms.csE (Ms.chk f) x mark [] x.cases=CE at*
    generalize x.text=T at*
    generalize x.off=O at*
    have BX:=lH (Boxed.made wr #[.int .i64 x.kind,.string ⟨T.toArray⟩,.int .i64 O,.slice a0 n0 c0] 51)
    have XB:=lH (bT HB.out (bA wr (.cells #[.int .i64 x.kind,.string ⟨T.toArray⟩,.int .i64 O,.slice a0 n0 c0] 51)))
    have k0:=BX.out.cell 0 _ rfl
    have k1:=BX.out.cell 1 _ rfl
    have k2:=BX.out.cell 2 _ rfl
    have k3:=BX.out.cell 3 _ rfl
    obtain⟨N,hN⟩: ∃N,N=wr.heap.size:=⟨_,rfl⟩
    rw[←hN] at k0 k1 k2 k3 BX
    have hci:(i:Int)≤(cap:Int):=by omega
    have HN:=lH hN
    clear hN
    go_wp2_with fail
    rw[←HN.out]
    refine wp_region_held_drew (S:=fun w'=>w'.cell? ⟨N,0,none⟩=some (.int .i64 x.kind)∧w'.cell? ⟨N,1,none⟩=some (.string ⟨T.toArray⟩)∧w'.cell? ⟨N,2,none⟩=some (.int .i64 O)∧w'.cell? ⟨N,3,none⟩=some (.slice a0 n0 c0)∧Hid (Boxed w' N #[.int .i64 x.kind,.string ⟨T.toArray⟩,.int .i64 O,.slice a0 n0 c0])∧Hid (Below w.heap.size w w')) (by kernel_rfl) (⟨k0,k1,k2,k3,lH BX.out.drew,lH (zAb XB.out 1)⟩) (fun hY9=>?_)
    refine tkr (d:=(some 15)) (v:=?v1) 0 rfl rfl hY9 ?hy1 ?rs1
    case hy1=>(intro w hSw;(try dsimp only at hSw);go_simp)<;>(try with_reducible rfl)
    (try simp only[Act.put,aI,aO,aS])
    refine tkr (d:=(some 16)) (v:=?v2) 1 rfl rfl hY9 ?hy2 ?rs2
    case hy2=>(intro w hSw;(try dsimp only at hSw);go_simp)<;>(try with_reducible rfl)
    (try simp only[Act.put,aI,aO,aS])
    refine tkr (d:=(some 17)) (v:=?v3) 2 rfl rfl hY9 ?hy3 ?rs3
    case hy3=>(intro w hSw;(try dsimp only at hSw);go_simp)<;>(try with_reducible rfl)
    (try simp only[Act.put,aI,aO,aS])
    refine tkr (d:=(some 18)) (v:=?v4) 3 rfl rfl hY9 ?hy4 ?rs4
    case hy4=>(intro w hSw;(try dsimp only at hSw);go_simp)<;>(try with_reducible rfl)
    (try simp only[Act.put,aI,aO,aS])
    refine tkr (d:=(some 19)) (v:=?v5) 4 rfl rfl hY9 ?hy5 ?rs5
    case hy5=>(intro w hSw;(try dsimp only at hSw);go_simp)<;>(try with_reducible rfl)
    (try simp only[Act.put,aI,aO,aS])
    refine zAc 5 rfl (by kernel_rfl) (by rfl) (fun K hK=>?_)
    go_simp
    refine(CF.out _ (by obtain⟨_,_,_,_,_,h6⟩:=hY9;exact h6.out)).mono ?_
    rintro e w' ⟨rfl,hb⟩
    refine hK.out _ _ (by obtain⟨h0,h1,h2,h3,h4,hw⟩:=hY9;exact⟨cK h0 hb,cK h1 hb,cK h2 hb,cK h3 hb,lH (h4.out.below hb),lH (bT hw.out hb)⟩) (fun hY9=>?_)
    clear hK K
    (try simp only[Act.put,aI,aO,aS])
    refine tkr (d:=(some 21)) (v:=?v7) 6 rfl rfl hY9 ?hy7 ?rs7
    case hy7=>(intro w hSw;(try dsimp only at hSw);go_simp)<;>(try with_reducible rfl)
    (try simp only[Act.put,aI,aO,aS])
    refine wpAnyH_done (by kernel_rfl) ?_ _
    obtain⟨z0,z1,z2,z3,z4,zW⟩:=hY9
    clear k0 k1 k2 k3 BX XB CF hb g0 g1 g2 g3 lb
    generalize hww:w'=wz at*
    clear hww
    have k0:=z0
    have kl:=z4.out.lt
    clear z0
    generalize hK:x.kind=K at*
    have HND2:=HND.out
    cases FB with
    |false=>
     simp only[Bool.not_false,if_true] at HND2
     subst HND2
     have hst:=HST.out
     rw[if_pos (by decide)] at hst
     subst hst
     clear HST HND CD
     go_wp2_with fail
     go_ret
     exact⟨rfl,by repeat(first|exact zW.out|refine zAb ?_ _)⟩
    |true=>
     rw[if_neg (by simp)] at HND2
     by_cases k4:K=4
     ·subst k4
      by_cases o0:O<0
      ·have d0:decide (O<0)=true:=zAd o0
       rw[if_pos ⟨rfl,.inl o0⟩] at HND2
       subst HND2
       have hst:=HST.out
       rw[if_pos (by decide)] at hst
       subst hst
       clear HST HND CD o0
       go_wp2_with fail
       go_ret
       exact⟨rfl,by repeat(first|exact zW.out|refine zAb ?_ _)⟩
      have d0:decide (O<0)=false:=zAa o0
      by_cases o9:9<O
      ·have d1:decide (9<O)=true:=zAd o9
       rw[if_pos ⟨rfl,.inr o9⟩] at HND2
       subst HND2
       have hst:=HST.out
       rw[if_pos (by decide)] at hst
       subst hst
       clear HST HND CD o0 o9
       go_wp2_with fail
       go_ret
       exact⟨rfl,by repeat(first|exact zW.out|refine zAb ?_ _)⟩
      have d1:decide (9<O)=false:=zAa o9
      rw[if_neg (by rintro⟨_,h|h⟩;exact o0 h;exact o9 h),if_pos (.inl rfl)] at HND2
      subst HND2
      clear HND o0 o9
      go_wp2_with fail
      refine(CD.out _ (by repeat(first|exact zW.out|refine zAb ?_ _))).mono ?_
      rintro e wy ⟨rfl,hb⟩
      have WY:=lH (bT (show Below w.heap.size w _ by repeat(first|exact zW.out|refine zAb ?_ _)) hb)
      clear hb CD
      have hst:=HST.out
      by_cases hE:NE=0
      ·subst hE
       rw[if_neg (by simp)] at hst
       have HST2:=lH hst
       clear HST hst
       rw[show errN 0= .nilIface from rfl]
       go_wp2_with fail
       go_roundw
       case rel=>exact⟨i+1,_,by go_num,by omega,HA2,HST2,WY⟩
       case measure=>simp[intOf];omega
      rw[if_pos hE] at hst
      subst hst
      have hEV:errN NE=errV NE:=if_neg hE
      rw[hEV]
      go_wp2_with fail
      go_ret
      exact⟨by first|(rw[hEV];done)|(rw[hEV];rfl),WY.out⟩
     have b4:(K==4)=false:=zAe k4
     rw[if_neg (fun h=>k4 h.1)] at HND2
     by_cases k5:K=5
     ·subst k5
      rw[if_pos (.inr rfl)] at HND2
      subst HND2
      clear HND k4
      go_wp2_with fail
      refine(CD.out _ (by repeat(first|exact zW.out|refine zAb ?_ _))).mono ?_
      rintro e wy ⟨rfl,hb⟩
      have WY:=lH (bT (show Below w.heap.size w _ by repeat(first|exact zW.out|refine zAb ?_ _)) hb)
      clear hb CD
      have hst:=HST.out
      by_cases hE:NE=0
      ·subst hE
       rw[if_neg (by simp)] at hst
       have HST2:=lH hst
       clear HST hst
       rw[show errN 0= .nilIface from rfl]
       go_wp2_with fail
       go_roundw
       case rel=>exact⟨i+1,_,by go_num,by omega,HA2,HST2,WY⟩
       case measure=>simp[intOf];omega
      rw[if_pos hE] at hst
      subst hst
      have hEV:errN NE=errV NE:=if_neg hE
      rw[hEV]
      go_wp2_with fail
      go_ret
      exact⟨by first|(rw[hEV];done)|(rw[hEV];rfl),WY.out⟩
     have b5:(K==5)=false:=zAe k5
     rw[if_neg (by rintro(h|h);exact k4 h;exact k5 h)] at HND2
     subst HND2
     have hst:=HST.out
     rw[if_neg (by simp)] at hst
     have HST2:=lH hst
     clear HST hst HND CD k4 k5
     go_wp2_with fail
     go_roundw
     case rel=>exact⟨i+1,_,by go_num,by omega,HA2,HST2,lH (by repeat(first|exact zW.out|refine zAb ?_ _))⟩
     case measure=>simp[intOf];omega
   have hi': ¬(i:Int)<(L:Int):=by omega
   have hst:=HL.out
   rw[List.drop_of_length_le (by omega)] at hst
   unfold Ms.msE at hst
   subst hst
   clear HL HA
   go_wp2_with fail
   go_ret
   exact⟨rfl,HB.out⟩
end Go.Proofs.YtjlchookakbomaaGreatDoor
