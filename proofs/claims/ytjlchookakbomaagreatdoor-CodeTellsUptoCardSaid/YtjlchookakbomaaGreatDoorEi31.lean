/- Small contracts beside package dec: Ten, Size; a rounding whatever its end; what is rounded is a number. -/
import Derived.StillTailTactics
import Derived.Test.YtjlchookakbomaaGreatDoorEi28
import Derived.Test.YtjlchookakbomaaGreatDoorEi30
set_option maxHeartbeats 4000000
set_option maxRecDepth 100000
namespace Go.Proofs.YtjlchookakbomaaGreatDoor
open Go.RowKit
open Dcm (P10 okD)

theorem zMQ (c s:Int) (w:World) (h:okD c s):
  Calls Tryz.prog 41 #[.agg #[.int .i64 c,.int .i64 s]] w fun e w'=>e= .returned (.bool false)∧Below w.heap.size w w':=by
 obtain⟨h1,h2,h3,h4⟩:=h
 have d1:decide (s<0)=false:=zAa (by omega)
 have d2:decide (9<s)=false:=zAa (by omega)
 have d3:decide (c< -1000000000000000)=false:=zAa (by omega)
 have d4:decide (1000000000000000<c)=false:=zAa (by omega)
 go_enter Tryz.func41,Tryz.ntmps41
 go_wp2
 go_ret
 exact⟨rfl,bA _ _⟩
theorem zLl (c s:Int) (w:World) (h: ¬okD c s):
  Calls Tryz.prog 41 #[.agg #[.int .i64 c,.int .i64 s]] w fun e w'=>e= .returned (.bool true)∧Below w.heap.size w w':=by
 by_cases h1:s<0
 ·go_enter Tryz.func41,Tryz.ntmps41
  go_wp2
  go_ret
  exact⟨rfl,bA _ _⟩
 by_cases h2:9<s
 ·go_enter Tryz.func41,Tryz.ntmps41
  go_wp2
  go_ret
  exact⟨rfl,bA _ _⟩
 by_cases h3:c< -1000000000000000
 ·go_enter Tryz.func41,Tryz.ntmps41
  go_wp2
  go_ret
  exact⟨rfl,bA _ _⟩
 by_cases h4:1000000000000000<c
 ·go_enter Tryz.func41,Tryz.ntmps41
  go_wp2
  go_ret
  exact⟨rfl,bA _ _⟩
 exact absurd ⟨by omega,by omega,by omega,by omega⟩ h

theorem zLm (F k:Int) (k0:0≤k) (k1:k≤8) (h:F%P10 k=0):(F%P10 (k+1)=0↔F/P10 k%10=0)∧F/P10 (k+1)=F/P10 k/10:=by
 have hb:=Dcm.zAj k
 have e:=Dcm.zB1 k k0 k1
 obtain⟨q,rfl⟩:=Int.dvd_of_emod_eq_zero h
 rw[e,Int.mul_emod_mul_of_pos _ _ (by omega),Int.mul_ediv_cancel_left _ (by omega),Int.mul_ediv_mul_of_pos _ _ (by omega)]
 refine⟨⟨fun g=>?_,fun g=>by rw[g,Int.mul_zero]⟩,rfl⟩
 rcases Int.mul_eq_zero.1 g with g|g
 ·omega
 exact g

theorem zJU (c s:Int) (w:World) (h:okD c s):
  Calls Tryz.prog 122 #[.agg #[.int .i64 c,.int .i64 s]] w fun e w'=>e= .returned (.agg #[.int .i64 (Dcm.mag c/P10 s),.int .i64 s,.int .i64 ((Dcm.strip s.toNat (Dcm.mag c%P10 s)).1:Int),.int .i64 (Dcm.mag c%P10 s),.int .i64 (Dcm.strip s.toNat (Dcm.mag c%P10 s)).2])∧Below w.heap.size w w':=by
 obtain⟨s0,s1,c0,c1⟩:=h
 have CS:=lH fun w=>zAI c w (by omega) (by omega)
 have CT:=lH fun w=>zAp s w s0 s1
 have U0:=Dcm.zAj s
 have m0:=Dcm.zB2 c
 have m1:Dcm.mag c≤1000000000000000:=by unfold Dcm.mag;split<;>omega
 have r0:=Int.emod_nonneg (Dcm.mag c) (by omega:P10 s≠0)
 have r1:=Int.emod_lt_of_pos (Dcm.mag c) (by omega:0<P10 s)
 have e0:(P10 s==0)=false:=zAe (by omega)
 have e1: ¬P10 s=0:=by omega
 have e2:IntKind.i64.wrap ((Dcm.mag c).tdiv (P10 s))=Dcm.mag c/P10 s:=IntWalk.i64_quo _ _ ⟨m0,by omega,U0.1⟩
 have e3:(Dcm.mag c).tmod (P10 s)=Dcm.mag c%P10 s:=IntWalk.rem_in _ _ m0
 generalize gm:Dcm.mag c=m at*
 generalize gU:P10 s=U at*
 generalize gF:m%U=F at*
 generalize gI:m/U=I at*
 clear gm gF gI c0 c1
 have GU:=lH gU
 clear gU
 generalize hR:Dcm.strip s.toNat F=R at*
 have HR:=lH hR
 clear hR
 go_enter Tryz.func122,Tryz.ntmps122
 go_wp2_with fail
 refine(CS.out _).mono ?_
 rintro e w' ⟨rfl,rfl⟩
 go_wp2_with fail
 refine(CT.out _).mono ?_
 rintro e w' ⟨rfl,rfl⟩
 go_wp2_with fail
 have A1:=Boxed.alloc (Boxed.made w #[.int .i64 c,.int .i64 s] 64) (.cells #[.int .i64 0,.int .i64 0,.int .i64 0,.int .i64 0,.int .i64 0] 176)
 have Z1:=Boxed.at (q:=w.heap.size+1) (Boxed.made (w.alloc (.cells #[.int .i64 c,.int .i64 s] 64)) #[.int .i64 0,.int .i64 0,.int .i64 0,.int .i64 0,.int .i64 0] 176) (by simp)
 have W1:=lH (bT (bA w (.cells #[.int .i64 c,.int .i64 s] 64)) (bA _ (.cells #[.int .i64 0,.int .i64 0,.int .i64 0,.int .i64 0,.int .i64 0] 176)))
 generalize (w.alloc (.cells #[.int .i64 c,.int .i64 s] 64)).alloc (.cells #[.int .i64 0,.int .i64 0,.int .i64 0,.int .i64 0,.int .i64 0] 176)=w1 at*
 have k0:=A1.cell 0 _ rfl
 have k1:=A1.cell 1 _ rfl
 have z0:=Z1.cell 0 _ rfl
 have z1:=Z1.cell 1 _ rfl
 have z2:=Z1.cell 2 _ rfl
 have z3:=Z1.cell 3 _ rfl
 have z4:=Z1.cell 4 _ rfl
 have f0:=Z1.free 0 (by simp)
 have f1:=Z1.free 1 (by simp)
 have f2:=Z1.free 2 (by simp)
 have f3:=Z1.free 3 (by simp)
 have f4:=Z1.free 4 (by simp)
 clear A1 Z1
 have B:=lH (show F%P10 (s-s)=0∧Dcm.strip s.toNat (F/P10 (s-s))=R by rw[Int.sub_self];exact⟨Int.emod_one _,by rw[show P10 0=1 from rfl,Int.ediv_one];exact HR.out⟩)
 go_loop [5] (fun i=> ∃k:Int,0≤k∧k≤s∧i= .int .i64 k∧Hid (F%P10 (s-k)=0∧Dcm.strip k.toNat (F/P10 (s-k))=R)) (fun i=>(intOf i).toNat)
 case atStart=>exact⟨s,s0,by omega,rfl,B⟩
 case round=>
  obtain⟨k,q0,q1,rfl,HK⟩:=hrel
  clear B
  by_cases hw:0<k
  ·have d1:decide (0<k)=true:=zAd hw
   have CW:=lH fun w=>zAp (s-k+1) w (by omega) (by omega)
   have V:=Dcm.zAj (s-k+1)
   have a1:IntKind.i64.wrap (s-k)=s-k:=IntWalk.i64_in _ (by omega)
   have a2:IntKind.i64.wrap (s-k+1)=s-k+1:=IntWalk.i64_in _ (by omega)
   have a3:(P10 (s-k+1)==0)=false:=zAe (by omega)
   have a4: ¬P10 (s-k+1)=0:=by omega
   have a5:F.tmod (P10 (s-k+1))=F%P10 (s-k+1):=IntWalk.rem_in _ _ r0
   have TM:=lH (zLm F (s-k) (by omega) (by omega) HK.out.1)
   go_wp2_with fail
   refine(CW.out _).mono ?_
   rintro e w' ⟨rfl,rfl⟩
   by_cases ht:F%P10 (s-k+1)=0
   ·have d2:(F%P10 (s-k+1)==0)=true:=zAo ht
    have HN:Hid (F%P10 (s-(k-1))=0∧Dcm.strip (k-1).toNat (F/P10 (s-(k-1)))=R):=by
     have e:s-(k-1)=s-k+1:=by omega
     have h:=HK.out.2
     have e':k.toNat=(k-1).toNat+1:=by omega
     rw[e'] at h
     unfold Dcm.strip at h
     rw[if_pos (TM.out.1.1 ht)] at h
     rw[e]
     exact⟨ht,by rw[TM.out.2];exact h⟩
    go_wp2
    go_round
    case rel=>exact⟨k-1,by omega,by omega,by go_num,HN⟩
    case measure=>simp[intOf];omega
   have d2:(F%P10 (s-k+1)==0)=false:=zAe ht
   have HE:R=(k.toNat,F/P10 (s-k)):=by
    have h:=HK.out.2
    have e':k.toNat=(k-1).toNat+1:=by omega
    rw[e'] at h
    unfold Dcm.strip at h
    rw[if_neg (fun g=>ht (TM.out.1.2 g))] at h
    rw[←h,←e']
   have EK:=lH (show max k 0=k by omega)
   subst HE
   have CU:=lH fun w=>zAp (s-k) w (by omega) (by omega)
   have V2:=Dcm.zAj (s-k)
   have b3:(P10 (s-k)==0)=false:=zAe (by omega)
   have b4: ¬P10 (s-k)=0:=by omega
   have b5:IntKind.i64.wrap (F.tdiv (P10 (s-k)))=F/P10 (s-k):=IntWalk.i64_quo _ _ ⟨r0,by omega,V2.1⟩
   go_wp2_with fail
   go_still_tail 17,(by kernel_rfl)
   still_call ((CT.out _).mono fun e w' h=>⟨h.1,h.2.symm⟩)
   repeat still_step
   still_call ((CU.out _).mono fun e w' h=>⟨h.1,h.2.symm⟩)
   repeat still_step
   refine wpStill_nil ?_
   go_wp2
   refine bodyPost_ret (v:= .agg #[.int .i64 I,.int .i64 s,.int .i64 k,.int .i64 F,.int .i64 (F/P10 (s-k))]) (by simp[results,Tryz.results122,go_sem,z0,z1,z2,z3,z4]) rfl ⟨by simp[EK.out],?_⟩
   refine Below.drew ?_
   repeat(first|exact W1.out|refine Below.setCell ?_ (by simp) _)
  have d1:decide (0<k)=false:=zAa hw
  have a1:IntKind.i64.wrap (s-k)=s-k:=IntWalk.i64_in _ (by omega)
  have HE:R=(k.toNat,F/P10 (s-k)):=by
   have h:=HK.out.2
   have e':k.toNat=0:=by omega
   rw[e'] at h⊢
   exact h.symm
  have EK:=lH (show max k 0=k by omega)
  subst HE
  have CU:=lH fun w=>zAp (s-k) w (by omega) (by omega)
  have V2:=Dcm.zAj (s-k)
  have b3:(P10 (s-k)==0)=false:=zAe (by omega)
  have b4: ¬P10 (s-k)=0:=by omega
  have b5:IntKind.i64.wrap (F.tdiv (P10 (s-k)))=F/P10 (s-k):=IntWalk.i64_quo _ _ ⟨r0,by omega,V2.1⟩
  go_wp2_with fail
  go_still_tail 17,(by kernel_rfl)
  still_call ((CT.out _).mono fun e w' h=>⟨h.1,h.2.symm⟩)
  repeat still_step
  still_call ((CU.out _).mono fun e w' h=>⟨h.1,h.2.symm⟩)
  repeat still_step
  refine wpStill_nil ?_
  go_wp2
  refine bodyPost_ret (v:= .agg #[.int .i64 I,.int .i64 s,.int .i64 k,.int .i64 F,.int .i64 (F/P10 (s-k))]) (by simp[results,Tryz.results122,go_sem,z0,z1,z2,z3,z4]) rfl ⟨by simp[EK.out],?_⟩
  refine Below.drew ?_
  repeat(first|exact W1.out|refine Below.setCell ?_ (by simp) _)
open Go.RowKit
open Dcm (P10 okD)

theorem zIM (t0 t1 t2 t3 t4:List UInt8) (c s:Int) (w:World) (hl: ∀t∈ [t0,t1,t2,t3,t4],t.length≤100000000) (hs:Rul.setOk [t0,t1,t2,t3,t4]=true) (hd:okD c s):
  Calls Tryz.prog 79 #[.agg #[.string ⟨t0.toArray⟩,.string ⟨t1.toArray⟩,.string ⟨t2.toArray⟩,.string ⟨t3.toArray⟩,.string ⟨t4.toArray⟩],.agg #[.int .i64 c,.int .i64 s]] w fun e w'=>e= .returned (.string ⟨(Rul.kindS [t0,t1,t2,t3,t4] (Rul.opsD c s) 0).toArray⟩)∧Below w.heap.size w w':=by
 have W0:=lH ((bA w (.cells #[.string ⟨t0.toArray⟩,.string ⟨t1.toArray⟩,.string ⟨t2.toArray⟩,.string ⟨t3.toArray⟩,.string ⟨t4.toArray⟩] 58)).alloc (by simp) (.cells #[.int .i64 c,.int .i64 s] 64))
 have BS:=lH ((Boxed.made w #[.string ⟨t0.toArray⟩,.string ⟨t1.toArray⟩,.string ⟨t2.toArray⟩,.string ⟨t3.toArray⟩,.string ⟨t4.toArray⟩] 58).alloc (.cells #[.int .i64 c,.int .i64 s] 64))
 have BD:=lH (Boxed.made (w.alloc (.cells #[.string ⟨t0.toArray⟩,.string ⟨t1.toArray⟩,.string ⟨t2.toArray⟩,.string ⟨t3.toArray⟩,.string ⟨t4.toArray⟩] 58)) #[.int .i64 c,.int .i64 s] 64)
 simp only[World.size_alloc] at BD
 have CX:=lH fun w=>zGE t0 t1 t2 t3 t4 w
 have CK:=lH fun w=>zJP w
 have CO:Hid (∀wx:World,Calls Tryz.prog 122 #[.agg #[.int .i64 c,.int .i64 s]] wx fun e w'=>e= .returned (.agg #[.int .i64 (Rul.opsD c s).i,.int .i64 (Rul.opsD c s).v,.int .i64 (Rul.opsD c s).w,.int .i64 (Rul.opsD c s).f,.int .i64 (Rul.opsD c s).t])∧Below wx.heap.size wx w'):=lH fun wx=>zJU c s wx hd
 generalize Rul.opsD c s=O at*
 obtain⟨KS,hKS⟩: ∃KS,Rul.kindS [t0,t1,t2,t3,t4] O 0=KS:=⟨_,rfl⟩
 rw[hKS]
 obtain⟨L,hLL⟩: ∃L,[t0,t1,t2,t3,t4]=L:=⟨_,rfl⟩
 have HN:=lH (show L.length=5 by rw[←hLL];rfl)
 rw[hLL] at hl hs hKS CX
 have HL:=lH hl
 have HS:=lH hs
 have HKS:=lH hKS
 clear hLL hl hs hKS hd
 go_enter Tryz.func79,Tryz.ntmps79
 go_wp2_with fail
 refine(CX.out _).mono ?_
 rintro e v ⟨bx,rfl,hbx,hb⟩
 have W1:=lH (bT W0.out hb)
 have D1:=lH (BD.out.below hb)
 have BX:=lH hbx
 clear hb CX W0 hbx BS BD
 go_wp2_with fail
 go_loopw [6,7,8] (fun i _ _ wr=> ∃k:Nat,i= .int .i64 k∧k≤5∧Hid (∀y∈L.take k,Rul.hits O y=false)∧Hid (Below v.heap.size v wr)) (fun i _ _ _=>5-(intOf i).toNat)
 case atStart=>exact⟨0,rfl,by omega,lH (by simp),lH (Below.refl _ _)⟩
 case round=>
  obtain⟨k,rfl,hk,HA,HB⟩:=hrel
  by_cases hlt:k<5
  ·obtain⟨x,hx⟩: ∃x,L[k]?=some x:=⟨L[k]'(by have:=HN.out;omega),List.getElem?_eq_getElem (by have:=HN.out;omega)⟩
   have HX:=lH hx
   have xc:=(BX.out.below HB.out).cell k _ (zCZ hx)
   have xl:=(BX.out.below HB.out).lt
   have hxl:=HL.out x (List.mem_of_getElem? hx)
   have CP:=lH (zIK x wr hxl)
   have hsame:=Rul.zML x
   rw[hsame.1] at CP
   have HSM:=lH hsame
   have k5:(k:Int)<5:=by omega
   have k0:0≤(k:Int):=by omega
   have HHX:=lH (show Rul.hits O x=(!x.isEmpty&&Rul.ruleH (Rul.ruleP x) O) from rfl)
   clear hx hsame
   by_cases he:x= []
   ·have HA2:=lH (Rul.zCh HX.out HA.out (by rw[HHX.out,he];rfl))
    generalize Rul.parseOk x=p at CP
    subst he
    go_wp2_with fail
    refine CP.out.mono ?_
    rintro e w5 ⟨v2,rfl,_,hb⟩
    have HB5:=lH (bT HB.out hb)
    have xc5:=(BX.out.below HB5.out).cell k _ (zCZ HX.out)
    have xl5:=(BX.out.below HB5.out).lt
    clear hb CP xc xl
    go_wp2_with fail
    go_roundw
    case rel=>exact⟨k+1,by go_num,by omega,HA2,HB5⟩
    case measure=>simp[intOf];omega
   have e0:(x== [])=false:=beq_eq_false_iff_ne.2 he
   have he':x.isEmpty=false:=by cases x<;>simp at he⊢
   have hok:Rul.parseOk x=true:=by
    have:=Rul.zJl HS.out (List.mem_of_getElem? HX.out)
    unfold Rul.textOk at this
    rwa [he',Bool.false_or] at this
   have HOK:=lH hok
   rw[he'] at HHX
   rw[hok] at CP
   clear hok he
   go_wp2_with fail
   refine CP.out.mono ?_
   rintro e w5 ⟨v2,rfl,hP,hb⟩
   have HB5:=lH (bT HB.out hb)
   rcases hP with⟨_,pa,pn,pc,rfl,hs⟩|⟨hno,_⟩
   ·rw[HSM.out.2 HOK.out] at hs
    have CH:=lH fun (wx:World) (hb:Below w5.heap.size w5 wx)=>zMP (Rul.ruleP x) pa pn pc O wx (hs.rule_below hb) (Rul.zA3.1 HOK.out).1
    have xc5:=(BX.out.below HB5.out).cell k _ (zCZ HX.out)
    have xl5:=(BX.out.below HB5.out).lt
    have d0:=(D1.out.below HB5.out).cell 0 _ rfl
    have d1:=(D1.out.below HB5.out).cell 1 _ rfl
    have dl:=(D1.out.below HB5.out).lt
    clear hb hs CP xc xl HSM
    generalize Rul.ruleH (Rul.ruleP x) O=H at*
    go_wp2_with fail
    refine(CO.out _).mono ?_
    rintro e w6 ⟨rfl,hb⟩
    have HB6:=lH (bT HB5.out hb)
    have CH6:=lH (CH.out _ hb)
    clear hb CH d0 d1 dl xc5 xl5
    go_wp2_with fail
    refine CH6.out.mono ?_
    rintro e w7 ⟨rfl,hb⟩
    have HB7:=lH (bT HB6.out hb)
    clear hb CH6
    cases H with
    |true=>
     obtain⟨kt,hkt⟩: ∃kt,Rul.kindL[k]?=some kt:=⟨Rul.kindL[k]'(by show k<5;omega),List.getElem?_eq_getElem _⟩
     have hfin:KS=kt:=by
      have:=Rul.zDj (i:=0) HX.out HA.out HHX.out
      rw[←HKS.out,this,Nat.zero_add]
      unfold Rul.kindAt
      rw[hkt];rfl
     subst hfin
     have HKT:=lH hkt
     clear hkt
     go_wp2_with fail
     refine(CK.out _).mono ?_
     rintro e w8 ⟨bk,rfl,hbk,hb⟩
     have kc:=hbk.cell k _ (zCZ HKT.out)
     have kl:=hbk.lt
     have W8:=lH (bT W1.out (bT HB7.out hb))
     clear hb hbk CK
     go_wp2_with fail
     go_ret
     exact⟨rfl,W8.out⟩
    |false=>
     have HA2:=lH (Rul.zCh HX.out HA.out HHX.out)
     go_wp2_with fail
     go_roundw
     case rel=>exact⟨k+1,by go_num,by omega,HA2,HB7⟩
     case measure=>simp[intOf];omega
   have h2:Rul.okQ x=true:=HSM.out.1.trans HOK.out
   rw[h2] at hno;cases hno
  have e:k=5:=by omega
  subst e
  have h5:=HA.out
  rw[List.take_of_length_le (by have:=HN.out;omega)] at h5
  obtain rfl:KS= [111,116,104,101,114]:=by rw[←HKS.out,Rul.zCO h5];rfl
  clear h5
  go_wp2_with fail
  go_ret
  exact⟨rfl,bT W1.out HB.out⟩
open Go.RowKit
open Dcm (P10 okD nrm)

open Go.RowKit
open Dcm (P10 okD nrm)

end Go.Proofs.YtjlchookakbomaaGreatDoor
