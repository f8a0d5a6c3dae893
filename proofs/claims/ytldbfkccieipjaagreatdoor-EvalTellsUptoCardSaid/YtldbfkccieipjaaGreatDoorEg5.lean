/- The walk of the reference's ArgOf; args are compared. Conditions: the args lie in memory as they say. -/
import Derived.Test.YtldbfkccieipjaaGreatDoorEh
import Derived.Test.YtldbfkccieipjaaGreatDoorEf4
import Derived.Test.YtldbfkccieipjaaGreatDoorEf12
import Derived.StillTailTactics
import Derived.Test.YtldbfkccieipjaaGreatDoorEg0
import Derived.Test.YtldbfkccieipjaaGreatDoorEg4
import Derived.Deep.DeepCutAuto
import Derived.Deep.CutRange
import Derived.Test.YtldbfkccieipjaaGreatDoorEf16
import Derived.Test.YtldbfkccieipjaaGreatDoorEf17
import Derived.Test.YtldbfkccieipjaaGreatDoorEf3
import Derived.Test.YtldbfkccieipjaaGreatDoorEf5
import Derived.Test.YtldbfkccieipjaaGreatDoorEf7
import Derived.Laws.StructEq
namespace Go.Proofs.YtldbfkccieipjaaGreatDoor
set_option maxRecDepth 100000
open Go.RowKit
open Dcm (P10 okD)

theorem ten_more (F k:Int) (k0:0≤k) (k1:k≤8) (h:F%P10 k=0):(F%P10 (k+1)=0↔F/P10 k%10=0)∧F/P10 (k+1)=F/P10 k/10:=by
 have hb:=Dcm.P10_bd k
 have e:=Dcm.P10_succ k k0 k1
 obtain⟨q,rfl⟩:=Int.dvd_of_emod_eq_zero h
 rw[e,Int.mul_emod_mul_of_pos _ _ (by omega),Int.mul_ediv_cancel_left _ (by omega),Int.mul_ediv_mul_of_pos _ _ (by omega)]
 refine⟨⟨fun g=>?_,fun g=>by rw[g,Int.mul_zero]⟩,rfl⟩
 rcases Int.mul_eq_zero.1 g with g|g
 ·omega
 ·exact g

set_option maxHeartbeats 1000000 in
theorem opsOf_any (c s:Int) (w:World) (h:okD c s):
  Calls Tryz.prog 154 #[.agg #[.int .i64 c,.int .i64 s]] w fun e w'=>e= .returned (.agg #[.int .i64 (Dcm.mag c/P10 s),.int .i64 s,.int .i64 ((Dcm.strip s.toNat (Dcm.mag c%P10 s)).1:Int),.int .i64 (Dcm.mag c%P10 s),.int .i64 (Dcm.strip s.toNat (Dcm.mag c%P10 s)).2])∧Below w.heap.size w w':=by
 obtain⟨s0,s1,c0,c1⟩:=h
 have CS:=lH fun w=>size_any c w (by omega) (by omega)
 have CT:=lH fun w=>ten_any s w s0 s1
 have U0:=Dcm.P10_bd s
 have m0:=Dcm.mag_bd c
 have m1:Dcm.mag c≤1000000000000000:=by unfold Dcm.mag;split<;>omega
 have r0:=Int.emod_nonneg (Dcm.mag c) (by omega:P10 s≠0)
 have r1:=Int.emod_lt_of_pos (Dcm.mag c) (by omega:0<P10 s)
 have e0:(P10 s==0)=false:=beq_no (by omega)
 have e1: ¬P10 s=0:=by omega
 have e2:IntKind.i64.wrap ((Dcm.mag c).tdiv (P10 s))=Dcm.mag c/P10 s:=IntWalk.i64_quo _ _ ⟨m0,by omega,U0.1⟩
 have e3:(Dcm.mag c).tmod (P10 s)=Dcm.mag c%P10 s:=IntWalk.rem_in _ _ m0
 generalize gm:Dcm.mag c=m at*
 generalize gU:P10 s=U at*
 generalize gF:m%U=F at*
 generalize gI:m/U=I at*
 clear gm gF gI c0 c1
 have GU:=lH gU
 clear gU
 generalize hR:Dcm.strip s.toNat F=R at*
 have HR:=lH hR
 clear hR
 go_enter Tryz.func154,Tryz.ntmps154
 go_wp2_with fail
 refine(CS.out _).mono ?_
 rintro e w' ⟨rfl,rfl⟩
 go_wp2_with fail
 refine(CT.out _).mono ?_
 rintro e w' ⟨rfl,rfl⟩
 go_wp2_with fail
 have A1:=Boxed.alloc (Boxed.made w #[.int .i64 c,.int .i64 s] 31) (.cells #[.int .i64 0,.int .i64 0,.int .i64 0,.int .i64 0,.int .i64 0] 103)
 have Z1:=Boxed.at (q:=w.heap.size+1) (Boxed.made (w.alloc (.cells #[.int .i64 c,.int .i64 s] 31)) #[.int .i64 0,.int .i64 0,.int .i64 0,.int .i64 0,.int .i64 0] 103) (by simp)
 have W1:=lH (bT (bA w (.cells #[.int .i64 c,.int .i64 s] 31)) (bA _ (.cells #[.int .i64 0,.int .i64 0,.int .i64 0,.int .i64 0,.int .i64 0] 103)))
 generalize (w.alloc (.cells #[.int .i64 c,.int .i64 s] 31)).alloc (.cells #[.int .i64 0,.int .i64 0,.int .i64 0,.int .i64 0,.int .i64 0] 103)=w1 at*
 have k0:=A1.cell 0 _ rfl
 have k1:=A1.cell 1 _ rfl
 have z0:=Z1.cell 0 _ rfl
 have z1:=Z1.cell 1 _ rfl
 have z2:=Z1.cell 2 _ rfl
 have z3:=Z1.cell 3 _ rfl
 have z4:=Z1.cell 4 _ rfl
 have f0:=Z1.free 0 (by simp)
 have f1:=Z1.free 1 (by simp)
 have f2:=Z1.free 2 (by simp)
 have f3:=Z1.free 3 (by simp)
 have f4:=Z1.free 4 (by simp)
 clear A1 Z1
 have B:=lH (show F%P10 (s-s)=0∧Dcm.strip s.toNat (F/P10 (s-s))=R by rw[Int.sub_self];exact⟨Int.emod_one _,by rw[show P10 0=1 from rfl,Int.ediv_one];exact HR.out⟩)
 go_loop [5] (fun i=> ∃k:Int,0≤k∧k≤s∧i= .int .i64 k∧Hid (F%P10 (s-k)=0∧Dcm.strip k.toNat (F/P10 (s-k))=R)) (fun i=>(intOf i).toNat)
 case atStart=>exact⟨s,s0,by omega,rfl,B⟩
 case round=>
  obtain⟨k,q0,q1,rfl,HK⟩:=hrel
  clear B
  by_cases hw:0<k
  ·have d1:decide (0<k)=true:=dec_yes hw
   have CW:=lH fun w=>ten_any (s-k+1) w (by omega) (by omega)
   have V:=Dcm.P10_bd (s-k+1)
   have a1:IntKind.i64.wrap (s-k)=s-k:=IntWalk.i64_in _ (by omega)
   have a2:IntKind.i64.wrap (s-k+1)=s-k+1:=IntWalk.i64_in _ (by omega)
   have a3:(P10 (s-k+1)==0)=false:=beq_no (by omega)
   have a4: ¬P10 (s-k+1)=0:=by omega
   have a5:F.tmod (P10 (s-k+1))=F%P10 (s-k+1):=IntWalk.rem_in _ _ r0
   have TM:=lH (ten_more F (s-k) (by omega) (by omega) HK.out.1)
   go_wp2_with fail
   refine(CW.out _).mono ?_
   rintro e w' ⟨rfl,rfl⟩
   by_cases ht:F%P10 (s-k+1)=0
   ·have d2:(F%P10 (s-k+1)==0)=true:=beq_yes ht
    have HN:Hid (F%P10 (s-(k-1))=0∧Dcm.strip (k-1).toNat (F/P10 (s-(k-1)))=R):=by
     have e:s-(k-1)=s-k+1:=by omega
     have h:=HK.out.2
     have e':k.toNat=(k-1).toNat+1:=by omega
     rw[e'] at h
     unfold Dcm.strip at h
     rw[if_pos (TM.out.1.1 ht)] at h
     rw[e]
     exact⟨ht,by rw[TM.out.2];exact h⟩
    go_wp2
    go_round
    case rel=>exact⟨k-1,by omega,by omega,by go_num,HN⟩
    case measure=>simp[intOf];omega
   ·have d2:(F%P10 (s-k+1)==0)=false:=beq_no ht
    have HE:R=(k.toNat,F/P10 (s-k)):=by
     have h:=HK.out.2
     have e':k.toNat=(k-1).toNat+1:=by omega
     rw[e'] at h
     unfold Dcm.strip at h
     rw[if_neg (fun g=>ht (TM.out.1.2 g))] at h
     rw[←h,←e']
    have EK:=lH (show max k 0=k by omega)
    subst HE
    have CU:=lH fun w=>ten_any (s-k) w (by omega) (by omega)
    have V2:=Dcm.P10_bd (s-k)
    have b3:(P10 (s-k)==0)=false:=beq_no (by omega)
    have b4: ¬P10 (s-k)=0:=by omega
    have b5:IntKind.i64.wrap (F.tdiv (P10 (s-k)))=F/P10 (s-k):=IntWalk.i64_quo _ _ ⟨r0,by omega,V2.1⟩
    go_wp2_with fail
    go_still_tail 17,(by kernel_rfl)
    still_call ((CT.out _).mono fun e w' h=>⟨h.1,h.2.symm⟩)
    repeat still_step
    still_call ((CU.out _).mono fun e w' h=>⟨h.1,h.2.symm⟩)
    repeat still_step
    refine wpStill_nil ?_
    go_wp2
    refine bodyPost_ret (v:= .agg #[.int .i64 I,.int .i64 s,.int .i64 k,.int .i64 F,.int .i64 (F/P10 (s-k))]) (by simp[results,Tryz.results154,go_sem,z0,z1,z2,z3,z4]) rfl ⟨by simp[EK.out],?_⟩
    refine Below.drew ?_
    repeat(first|exact W1.out|refine Below.setCell ?_ (by simp) _)
  ·have d1:decide (0<k)=false:=dec_no hw
   have a1:IntKind.i64.wrap (s-k)=s-k:=IntWalk.i64_in _ (by omega)
   have HE:R=(k.toNat,F/P10 (s-k)):=by
    have h:=HK.out.2
    have e':k.toNat=0:=by omega
    rw[e'] at h⊢
    exact h.symm
   have EK:=lH (show max k 0=k by omega)
   subst HE
   have CU:=lH fun w=>ten_any (s-k) w (by omega) (by omega)
   have V2:=Dcm.P10_bd (s-k)
   have b3:(P10 (s-k)==0)=false:=beq_no (by omega)
   have b4: ¬P10 (s-k)=0:=by omega
   have b5:IntKind.i64.wrap (F.tdiv (P10 (s-k)))=F/P10 (s-k):=IntWalk.i64_quo _ _ ⟨r0,by omega,V2.1⟩
   go_wp2_with fail
   go_still_tail 17,(by kernel_rfl)
   still_call ((CT.out _).mono fun e w' h=>⟨h.1,h.2.symm⟩)
   repeat still_step
   still_call ((CU.out _).mono fun e w' h=>⟨h.1,h.2.symm⟩)
   repeat still_step
   refine wpStill_nil ?_
   go_wp2
   refine bodyPost_ret (v:= .agg #[.int .i64 I,.int .i64 s,.int .i64 k,.int .i64 F,.int .i64 (F/P10 (s-k))]) (by simp[results,Tryz.results154,go_sem,z0,z1,z2,z3,z4]) rfl ⟨by simp[EK.out],?_⟩
   refine Below.drew ?_
   repeat(first|exact W1.out|refine Below.setCell ?_ (by simp) _)
open Go.RowKit
open Dcm (P10 okD)

set_option maxHeartbeats 4000000 in
theorem kindof_any (t0 t1 t2 t3 t4:List UInt8) (c s:Int) (w:World) (hl: ∀t∈ [t0,t1,t2,t3,t4],t.length≤100000000) (hs:Rul.setOk [t0,t1,t2,t3,t4]=true) (hd:okD c s):
  Calls Tryz.prog 111 #[.agg #[.string ⟨t0.toArray⟩,.string ⟨t1.toArray⟩,.string ⟨t2.toArray⟩,.string ⟨t3.toArray⟩,.string ⟨t4.toArray⟩],.agg #[.int .i64 c,.int .i64 s]] w fun e w'=>e= .returned (.string ⟨(Rul.kindS [t0,t1,t2,t3,t4] (Rul.opsD c s) 0).toArray⟩)∧Below w.heap.size w w':=by
 have W0:=lH ((bA w (.cells #[.string ⟨t0.toArray⟩,.string ⟨t1.toArray⟩,.string ⟨t2.toArray⟩,.string ⟨t3.toArray⟩,.string ⟨t4.toArray⟩] 54)).alloc (by simp) (.cells #[.int .i64 c,.int .i64 s] 31))
 have BS:=lH ((Boxed.made w #[.string ⟨t0.toArray⟩,.string ⟨t1.toArray⟩,.string ⟨t2.toArray⟩,.string ⟨t3.toArray⟩,.string ⟨t4.toArray⟩] 54).alloc (.cells #[.int .i64 c,.int .i64 s] 31))
 have BD:=lH (Boxed.made (w.alloc (.cells #[.string ⟨t0.toArray⟩,.string ⟨t1.toArray⟩,.string ⟨t2.toArray⟩,.string ⟨t3.toArray⟩,.string ⟨t4.toArray⟩] 54)) #[.int .i64 c,.int .i64 s] 31)
 simp only[World.size_alloc] at BD
 have CX:=lH fun w=>settexts_any t0 t1 t2 t3 t4 w
 have CK:=lH fun w=>kinds_any w
 have CO:Hid (∀wx:World,Calls Tryz.prog 154 #[.agg #[.int .i64 c,.int .i64 s]] wx fun e w'=>e= .returned (.agg #[.int .i64 (Rul.opsD c s).i,.int .i64 (Rul.opsD c s).v,.int .i64 (Rul.opsD c s).w,.int .i64 (Rul.opsD c s).f,.int .i64 (Rul.opsD c s).t])∧Below wx.heap.size wx w'):=lH fun wx=>opsOf_any c s wx hd
 generalize Rul.opsD c s=O at*
 obtain⟨KS,hKS⟩: ∃KS,Rul.kindS [t0,t1,t2,t3,t4] O 0=KS:=⟨_,rfl⟩
 rw[hKS]
 obtain⟨L,hLL⟩: ∃L,[t0,t1,t2,t3,t4]=L:=⟨_,rfl⟩
 have HN:=lH (show L.length=5 by rw[←hLL];rfl)
 rw[hLL] at hl hs hKS CX
 have HL:=lH hl
 have HS:=lH hs
 have HKS:=lH hKS
 clear hLL hl hs hKS hd
 go_enter Tryz.func111,Tryz.ntmps111
 go_wp2_with fail
 refine(CX.out _).mono ?_
 rintro e v ⟨bx,rfl,hbx,hb⟩
 have W1:=lH (bT W0.out hb)
 have D1:=lH (BD.out.below hb)
 have BX:=lH hbx
 clear hb CX W0 hbx BS BD
 go_wp2_with fail
 go_loopw [6,7,8] (fun i _ _ wr=> ∃k:Nat,i= .int .i64 k∧k≤5∧Hid (∀y∈L.take k,Rul.hits O y=false)∧Hid (Below v.heap.size v wr)) (fun i _ _ _=>5-(intOf i).toNat)
 case atStart=>exact⟨0,rfl,by omega,lH (by simp),lH (Below.refl _ _)⟩
 case round=>
  obtain⟨k,rfl,hk,HA,HB⟩:=hrel
  by_cases hlt:k<5
  ·obtain⟨x,hx⟩: ∃x,L[k]?=some x:=⟨L[k]'(by have:=HN.out;omega),List.getElem?_eq_getElem (by have:=HN.out;omega)⟩
   have HX:=lH hx
   have xc:=(BX.out.below HB.out).cell k _ (strC_get hx)
   have xl:=(BX.out.below HB.out).lt
   have hxl:=HL.out x (List.mem_of_getElem? hx)
   have CP:=lH (ruleof_any x wr hxl)
   have hsame:=Rul.ok_same x
   rw[hsame.1] at CP
   have HSM:=lH hsame
   have k5:(k:Int)<5:=by omega
   have k0:0≤(k:Int):=by omega
   have HHX:=lH (show Rul.hits O x=(!x.isEmpty&&Rul.ruleH (Rul.ruleP x) O) from rfl)
   clear hx hsame
   by_cases he:x= []
   ·have HA2:=lH (Rul.take_hits HX.out HA.out (by rw[HHX.out,he];rfl))
    generalize Rul.parseOk x=p at CP
    subst he
    go_wp2_with fail
    refine CP.out.mono ?_
    rintro e w5 ⟨v2,rfl,_,hb⟩
    have HB5:=lH (bT HB.out hb)
    have xc5:=(BX.out.below HB5.out).cell k _ (strC_get HX.out)
    have xl5:=(BX.out.below HB5.out).lt
    clear hb CP xc xl
    go_wp2_with fail
    go_roundw
    case rel=>exact⟨k+1,by go_num,by omega,HA2,HB5⟩
    case measure=>simp[intOf];omega
   ·have e0:(x== [])=false:=beq_eq_false_iff_ne.2 he
    have he':x.isEmpty=false:=by cases x<;>simp at he⊢
    have hok:Rul.parseOk x=true:=by
     have:=Rul.mem_ok HS.out (List.mem_of_getElem? HX.out)
     unfold Rul.textOk at this
     rwa [he',Bool.false_or] at this
    have HOK:=lH hok
    rw[he'] at HHX
    rw[hok] at CP
    clear hok he
    go_wp2_with fail
    refine CP.out.mono ?_
    rintro e w5 ⟨v2,rfl,hP,hb⟩
    have HB5:=lH (bT HB.out hb)
    rcases hP with⟨_,pa,pn,pc,rfl,hs⟩|⟨hno,_⟩
    ·rw[HSM.out.2 HOK.out] at hs
     have CH:=lH fun (wx:World) (hb:Below w5.heap.size w5 wx)=>rhr_any (Rul.ruleP x) pa pn pc O wx (hs.rule_below hb) (Rul.parseOk_iff.1 HOK.out).1
     have xc5:=(BX.out.below HB5.out).cell k _ (strC_get HX.out)
     have xl5:=(BX.out.below HB5.out).lt
     have d0:=(D1.out.below HB5.out).cell 0 _ rfl
     have d1:=(D1.out.below HB5.out).cell 1 _ rfl
     have dl:=(D1.out.below HB5.out).lt
     clear hb hs CP xc xl HSM
     generalize Rul.ruleH (Rul.ruleP x) O=H at*
     go_wp2_with fail
     refine(CO.out _).mono ?_
     rintro e w6 ⟨rfl,hb⟩
     have HB6:=lH (bT HB5.out hb)
     have CH6:=lH (CH.out _ hb)
     clear hb CH d0 d1 dl xc5 xl5
     go_wp2_with fail
     refine CH6.out.mono ?_
     rintro e w7 ⟨rfl,hb⟩
     have HB7:=lH (bT HB6.out hb)
     clear hb CH6
     cases H with
     |true=>
      obtain⟨kt,hkt⟩: ∃kt,Rul.kindL[k]?=some kt:=⟨Rul.kindL[k]'(by show k<5;omega),List.getElem?_eq_getElem _⟩
      have hfin:KS=kt:=by
       have:=Rul.kindS_hit (i:=0) HX.out HA.out HHX.out
       rw[←HKS.out,this,Nat.zero_add]
       unfold Rul.kindAt
       rw[hkt];rfl
      subst hfin
      have HKT:=lH hkt
      clear hkt
      go_wp2_with fail
      refine(CK.out _).mono ?_
      rintro e w8 ⟨bk,rfl,hbk,hb⟩
      have kc:=hbk.cell k _ (strC_get HKT.out)
      have kl:=hbk.lt
      have W8:=lH (bT W1.out (bT HB7.out hb))
      clear hb hbk CK
      go_wp2_with fail
      go_ret
      exact⟨rfl,W8.out⟩
     |false=>
      have HA2:=lH (Rul.take_hits HX.out HA.out HHX.out)
      go_wp2_with fail
      go_roundw
      case rel=>exact⟨k+1,by go_num,by omega,HA2,HB7⟩
      case measure=>simp[intOf];omega
    ·have h2:Rul.okQ x=true:=HSM.out.1.trans HOK.out
     rw[h2] at hno;cases hno
  ·have e:k=5:=by omega
   subst e
   have h5:=HA.out
   rw[List.take_of_length_le (by have:=HN.out;omega)] at h5
   obtain rfl:KS= [111,116,104,101,114]:=by rw[←HKS.out,Rul.kindS_none h5];rfl
   clear h5
   go_wp2_with fail
   go_ret
   exact⟨rfl,bT W1.out HB.out⟩
open Go.RowKit Ms
open Dcm (okD)
namespace Ms
def OthM:Nat→List Nd→Prop
 |0,_=>True
 |f+1,m=> ∀x∈m,(x.kind=4∨x.kind=5)→(∃i,keyI x.cases other=some i)∧ ∀y∈x.cases,OthM f y.2
theorem oth_of: ∀(f:Nat) (mark:Bool) (m:List Nd),chk f mark m=0→OthM f m
 |0,_,_,_=>trivial
 |f+1,mark,m,h=>by
  intro x hx h45
  obtain⟨p,hp⟩:=ms_each (show msE (chk f) mark none m=0 from h) x hx
  obtain⟨_,_,h3⟩:=nd_fine hp
  refine⟨?_,fun y hy=>oth_of f _ y.2 (csE_bodies _ _ (h3 h45) y hy)⟩
  have hc:=(csE_fine _ _ (h3 h45)).2.2
  rw[List.nil_append] at hc
  cases hk:keyI x.cases other with
  |some i=>exact⟨i,rfl⟩
  |none=>
   unfold keyI at hk
   rw[List.findIdx?_eq_none_iff] at hk
   have hm:other∈x.cases.map (·.1):=by simpa using hc
   obtain⟨y,hy,e⟩:=List.mem_map.1 hm
   have:=hk y hy
   rw[e] at this
   simp at this
theorem has_fit {f:Nat} {m:List Nd} {args:List Ag} (h:fitE f m args=0):OthM f m∧ ∀t,mnt f m t=true→hasA args t=true:=by
 unfold fitE at h
 split at h
 ·rename_i h1;exact absurd h h1
 ·rename_i h1
  have h1':namE f m=0:=by simpa using h1
  split at h
  ·rename_i h2;exact absurd h h2
  ·obtain⟨hm,_,_⟩:=namE_zero h1'
   refine⟨?_,fun t ht=>?_⟩
   ·unfold msgE at hm
    split at hm
    ·simp at hm
    ·exact oth_of f false m hm
   ·obtain⟨n,hn,e⟩:=need_there f m ht
    obtain⟨a,ha,_⟩:=askE_zero.1 h n hn
    rw[e] at ha
    unfold hasA
    exact List.any_eq_true.2 ⟨a,List.mem_of_find?_eq_some ha,by simpa using List.find?_some ha⟩
theorem cnt_ex {E:Ev} {cs:Cs} {c s lc ls:Int} {i:Nat} (h:exI E cs c s=some i):cntI E cs c s lc ls=i:=by
 unfold cntI;rw[h];rfl
theorem cnt_kind {E:Ev} {cs:Cs} {c s lc ls:Int} {i:Nat} (h:exI E cs c s=none) (hk:keyI cs (E.kind lc ls)=some i):cntI E cs c s lc ls=i:=by
 unfold cntI;rw[h,hk];rfl
theorem cnt_oth {E:Ev} {cs:Cs} {c s lc ls:Int} {i:Nat} (h:exI E cs c s=none) (hk:keyI cs (E.kind lc ls)=none) (ho:keyI cs other=some i):cntI E cs c s lc ls=i:=by
 unfold cntI;rw[h,hk,ho];rfl
theorem keyN_some {cs:Cs} {k:List UInt8} {i:Nat} (h:keyI cs k=some i):keyN cs k=(i:Int):=by unfold keyN;rw[h]
theorem keyN_none {cs:Cs} {k:List UInt8} (h:keyI cs k=none):keyN cs k= -1:=by unfold keyN;rw[h]
theorem ex_first {E:Ev} {cs:Cs} {c s:Int} {k:Nat} {y:List UInt8×List Nd} (h:cs[k]?=some y) (h0:exI E (cs.take k) c s=none) (h1:(decide (0≤exV y.1)&&E.same c s (exV y.1))=true):exI E cs c s=some k:=by
 obtain⟨hk,e⟩:=List.getElem?_eq_some_iff.1 h
 refine List.findIdx?_eq_some_iff_getElem.2 ⟨hk,by rw[e];exact h1,fun j hj=>?_⟩
 have hm:cs[j]'(by omega)∈cs.take k:=List.mem_take_iff_getElem.2 ⟨j,by omega,rfl⟩
 have:=List.findIdx?_eq_none_iff.1 h0 _ hm
 simpa using this
theorem ex_step {E:Ev} {cs:Cs} {c s:Int} {k:Nat} {y:List UInt8×List Nd} (h:cs[k]?=some y) (h0:exI E (cs.take k) c s=none) (h1:(decide (0≤exV y.1)&&E.same c s (exV y.1))=false):exI E (cs.take (k+1)) c s=none:=by
 unfold exI at*
 rw[List.findIdx?_eq_none_iff] at*
 intro z hz
 rw[List.take_add_one,h,Option.toList_some,List.mem_append] at hz
 rcases hz with hz|hz
 ·exact h0 z hz
 ·obtain rfl:z=y:=by simpa using hz
  exact h1
end Ms
open Go.RowKit Ms
open Dcm (okD)
set_option maxHeartbeats 8000000 in
theorem qcounted_any {f:Nat} (K:Int) (T:List UInt8) (O:Int) (v:Value) (cs:Cs) (t0 t1 t2 t3 t4:List UInt8) (c s a b:Int) (w:World) (hS:SetFine t0 t1 t2 t3 t4) (hd:okD c s) (hd2:okD a b) (hc:CassAt f w v cs) (hl:cs.length≤2000000) (ho: ∃i,keyI cs other=some i):
  Calls Tryz.prog 82 #[.agg #[.int .i64 K,.string ⟨T.toArray⟩,.int .i64 O,v],.agg #[.string ⟨t0.toArray⟩,.string ⟨t1.toArray⟩,.string ⟨t2.toArray⟩,.string ⟨t3.toArray⟩,.string ⟨t4.toArray⟩],.agg #[.int .i64 c,.int .i64 s],.agg #[.int .i64 a,.int .i64 b]] w fun e w'=>e= .returned (.int .i64 ((cntI (evS [t0,t1,t2,t3,t4]) cs c s a b:Nat):Int))∧Below w.heap.size w w':=by
 have CK:=lH fun w=>kindof_any t0 t1 t2 t3 t4 a b w hS.2 hS.1 hd2
 rw[show Rul.kindS [t0,t1,t2,t3,t4] (Rul.opsD a b) 0=(evS [t0,t1,t2,t3,t4]).kind a b from rfl] at CK
 have CE:=lH fun (key:List UInt8) (hk:key.length≤2000000) (wx:World)=>qexact_any key wx (by omega)
 have CO:=lH fun (n:Int) (h0:0≤n) (h1:n≤1000000000000000) (w:World)=>order_any c s n 0 w hd ⟨by omega,by omega,by omega,h1⟩
 have HO:=lH fun (n:Int) (h0:0≤n) (h1:n≤1000000000000000)=>(show(evS [t0,t1,t2,t3,t4]).same c s n=decide (Dcm.ordV c s n 0=0) from by
  have:=(Dcm.ordV_nrm hd (b:=n) (t:=0) ⟨by omega,by omega,by omega,h1⟩).2
  show decide (Dcm.nrm c s=Dcm.nrm n 0)=_
  by_cases h:Dcm.nrm c s=Dcm.nrm n 0
  ·rw[decide_eq_true h,decide_eq_true (this.2 h)]
  ·rw[decide_eq_false h,decide_eq_false (fun e=>h (this.1 e))])
 have HX:=lH (show ∀wx,Below w.heap.size w wx→CassAt f wx v cs from fun wx hb=>cass_below hc hb)
 have CC:=lH fun (key:List UInt8) (wx:World) (hb:Below w.heap.size w wx)=>(show Calls Tryz.prog 81 #[.agg #[.int .i64 K,.string ⟨T.toArray⟩,.int .i64 O,v],.string ⟨key.toArray⟩] wx fun e w'=>e= .returned (.int .i64 (keyN cs key))∧Below wx.heap.size wx w' from by
  obtain⟨a9,n9,c9,rfl⟩:=hc.isSlice
  exact qcasei_any K T O cs a9 n9 c9 key wx (cass_below hc hb) hl)
 obtain⟨Ad,cap,rfl,hm,_⟩:=hc.spread
 have hcap:cs.length≤cap∨cs.length=0:=by
  rcases hc with⟨e,_⟩|⟨_,_,_,e,_,q,_,_⟩
  ·exact .inr (by rw[e];rfl)
  ·injection e with _ _ e;exact .inl (by omega)
 clear hc hS hd hd2
 generalize evS [t0,t1,t2,t3,t4]=E at*
 generalize hk0:E.kind a b=k at*
 generalize hL:cs.length=L at*
 have W4:=lH (show Below w.heap.size w (World.alloc (World.alloc (World.alloc (World.alloc w (.cells #[.int .i64 K,.string ⟨T.toArray⟩,.int .i64 O,.slice Ad L cap] 34)) (.cells #[.string ⟨t0.toArray⟩,.string ⟨t1.toArray⟩,.string ⟨t2.toArray⟩,.string ⟨t3.toArray⟩,.string ⟨t4.toArray⟩] 54)) (.cells #[.int .i64 c,.int .i64 s] 31)) (.cells #[.int .i64 a,.int .i64 b] 31)) from(bT (bT (bT (bA w (.cells #[.int .i64 K,.string ⟨T.toArray⟩,.int .i64 O,.slice Ad L cap] 34)) (bA (World.alloc w (.cells #[.int .i64 K,.string ⟨T.toArray⟩,.int .i64 O,.slice Ad L cap] 34)) (.cells #[.string ⟨t0.toArray⟩,.string ⟨t1.toArray⟩,.string ⟨t2.toArray⟩,.string ⟨t3.toArray⟩,.string ⟨t4.toArray⟩] 54))) (bA (World.alloc (World.alloc w (.cells #[.int .i64 K,.string ⟨T.toArray⟩,.int .i64 O,.slice Ad L cap] 34)) (.cells #[.string ⟨t0.toArray⟩,.string ⟨t1.toArray⟩,.string ⟨t2.toArray⟩,.string ⟨t3.toArray⟩,.string ⟨t4.toArray⟩] 54)) (.cells #[.int .i64 c,.int .i64 s] 31))) (bA (World.alloc (World.alloc (World.alloc w (.cells #[.int .i64 K,.string ⟨T.toArray⟩,.int .i64 O,.slice Ad L cap] 34)) (.cells #[.string ⟨t0.toArray⟩,.string ⟨t1.toArray⟩,.string ⟨t2.toArray⟩,.string ⟨t3.toArray⟩,.string ⟨t4.toArray⟩] 54)) (.cells #[.int .i64 c,.int .i64 s] 31)) (.cells #[.int .i64 a,.int .i64 b] 31))))
 have B0:=lH ((((Boxed.made w #[.int .i64 K,.string ⟨T.toArray⟩,.int .i64 O,.slice Ad L cap] 34).alloc (.cells #[.string ⟨t0.toArray⟩,.string ⟨t1.toArray⟩,.string ⟨t2.toArray⟩,.string ⟨t3.toArray⟩,.string ⟨t4.toArray⟩] 54)).alloc (.cells #[.int .i64 c,.int .i64 s] 31)).alloc (.cells #[.int .i64 a,.int .i64 b] 31))
 have B1:=lH (((Boxed.made (World.alloc w (.cells #[.int .i64 K,.string ⟨T.toArray⟩,.int .i64 O,.slice Ad L cap] 34)) #[.string ⟨t0.toArray⟩,.string ⟨t1.toArray⟩,.string ⟨t2.toArray⟩,.string ⟨t3.toArray⟩,.string ⟨t4.toArray⟩] 54).alloc (.cells #[.int .i64 c,.int .i64 s] 31)).alloc (.cells #[.int .i64 a,.int .i64 b] 31))
 have B2:=lH ((Boxed.made (World.alloc (World.alloc w (.cells #[.int .i64 K,.string ⟨T.toArray⟩,.int .i64 O,.slice Ad L cap] 34)) (.cells #[.string ⟨t0.toArray⟩,.string ⟨t1.toArray⟩,.string ⟨t2.toArray⟩,.string ⟨t3.toArray⟩,.string ⟨t4.toArray⟩] 54)) #[.int .i64 c,.int .i64 s] 31).alloc (.cells #[.int .i64 a,.int .i64 b] 31))
 have B3:=lH (Boxed.made (World.alloc (World.alloc (World.alloc w (.cells #[.int .i64 K,.string ⟨T.toArray⟩,.int .i64 O,.slice Ad L cap] 34)) (.cells #[.string ⟨t0.toArray⟩,.string ⟨t1.toArray⟩,.string ⟨t2.toArray⟩,.string ⟨t3.toArray⟩,.string ⟨t4.toArray⟩] 54)) (.cells #[.int .i64 c,.int .i64 s] 31)) #[.int .i64 a,.int .i64 b] 31)
 simp only[World.size_alloc] at B1 B2 B3
 go_enter Tryz.func82,Tryz.ntmps82
 go_wp2_with fail
 generalize (World.alloc (World.alloc (World.alloc (World.alloc w (.cells #[.int .i64 K,.string ⟨T.toArray⟩,.int .i64 O,.slice Ad L cap] 34)) (.cells #[.string ⟨t0.toArray⟩,.string ⟨t1.toArray⟩,.string ⟨t2.toArray⟩,.string ⟨t3.toArray⟩,.string ⟨t4.toArray⟩] 54)) (.cells #[.int .i64 c,.int .i64 s] 31)) (.cells #[.int .i64 a,.int .i64 b] 31))=w4 at*
 generalize w.heap.size+1+1+1=q3 at*
 generalize w.heap.size+1+1=q2 at*
 generalize w.heap.size+1=q1 at*
 go_loopw [9] (fun v9 wr=> ∃i:Nat,v9= .int .i64 (i:Int)∧i≤L∧Hid (exI E (cs.take i) c s=none)∧Hid (Below w4.heap.size w4 wr)) (fun v9 _=>L-(intOf v9).toNat)
 case atStart=>exact⟨0,rfl,Nat.zero_le _,lH rfl,lH (Below.refl _ _)⟩
 case round=>
  obtain⟨i,rfl,hi,HK,HB⟩:=hrel
  have WB:=lH (bT W4.out HB.out)
  have X0:=lH (B0.out.below HB.out)
  have X1:=lH (B1.out.below HB.out)
  have X2:=lH (B2.out.below HB.out)
  have X3:=lH (B3.out.below HB.out)
  have x3:wr.cell? ⟨w.heap.size,3,none⟩=some (.slice Ad L cap):=X0.out.cell 3 _ rfl
  have xl:=X0.out.lt
  by_cases hlt:i<L
  ·have hi':(i:Int)<(L:Int):=by omega
   have hcc:L≤cap:=by omega
   obtain⟨y,hy⟩: ∃y,cs[i]?=some y:=⟨cs[i]'(by omega),List.getElem?_eq_getElem (by omega)⟩
   obtain⟨A',cap',eA,_,hsp⟩:=(HX.out wr WB.out).spread
   injection eA with e1 e2 e3
   subst e1
   obtain⟨bk,off,rfl,hyc⟩:=hsp i y hy
   obtain⟨a9,n9,c9,g0,_,_,xk,_⟩:=hyc
   have CEi:=lH (CE.out y.1 xk wr)
   have hxb:=ex_bd y.1
   have HF:=lH fun (h:(decide (0≤exV y.1)&&E.same c s (exV y.1))=true)=>cnt_ex (E:=E) (cs:=cs) (lc:=a) (ls:=b) (ex_first hy HK.out h)
   have HS:=lH fun (h:(decide (0≤exV y.1)&&E.same c s (exV y.1))=false)=>ex_step (E:=E) hy HK.out h
   clear hsp e2 e3 hy xk HX CE
   generalize exV y.1=V at*
   generalize y.1=key at*
   have wi:IntKind.i64.wrap ((i:Int)+1)=(i:Int)+1:=IntWalk.i64_in _ (by omega)
   go_wp2_with fail
   refine CEi.out.mono ?_
   rintro e w5 ⟨rfl,hb⟩
   have H5:=lH (bT HB.out hb)
   have Y2:=lH (X2.out.below hb)
   clear hb CEi x3 xl g0 X0 X1 X2 X3 WB HB
   cases hv:decide (0≤V) with
   |false=>
    have hv': ¬0≤V:=of_decide_eq_false hv
    have HS2:=lH (HS.out (by rw[hv];rfl))
    clear HF HS CO HO
    go_wp2_with fail
    go_roundw
    case rel=>exact⟨i+1,by go_num,by omega,HS2,H5⟩
    case measure=>simp[intOf];omega
   |true=>
    have h0:0≤V:=of_decide_eq_true hv
    have COi:=lH (CO.out V h0 hxb.2)
    have hsm:=HO.out V h0 hxb.2
    have d0:World.cell? w5 ⟨q2,0,none⟩=some (.int .i64 c):=Y2.out.cell 0 _ rfl
    have d1:World.cell? w5 ⟨q2,1,none⟩=some (.int .i64 s):=Y2.out.cell 1 _ rfl
    have dl:=Y2.out.lt
    generalize Dcm.ordV c s V 0=od at*
    clear CO HO
    go_wp2_with fail
    refine(COi.out _).mono ?_
    rintro e w6 ⟨rfl,hb⟩
    have H6:=lH (bT H5.out hb)
    clear hb COi d0 d1 dl H5 Y2
    by_cases hz:od=0
    ·subst hz
     have HR:=lH (HF.out (by rw[hv,hsm];rfl))
     clear HF HS hsm
     go_wp2_with fail
     go_ret
     exact⟨ret_int (by rw[HR.out]),bT W4.out H6.out⟩
    ·have hze:(od==0)=false:=beq_eq_false_iff_ne.2 hz
     have HS2:=lH (HS.out (by rw[hv,hsm,decide_eq_false hz];rfl))
     clear HF HS hsm
     go_wp2_with fail
     go_roundw
     case rel=>exact⟨i+1,by go_num,by omega,HS2,H6⟩
     case measure=>simp[intOf];omega
  ·have ei:i=L:=by omega
   subst ei
   have HN:=lH (show exI E cs c s=none by have:=HK.out;rwa [List.take_of_length_le (by omega)] at this)
   have hi': ¬(i:Int)<(i:Int):=by omega
   obtain⟨io,hio⟩:=ho
   have HRK:=lH fun (j:Nat) (h:keyI cs k=some j)=>cnt_kind (E:=E) (cs:=cs) (lc:=a) (ls:=b) HN.out (by rw[hk0];exact h)
   have HRO:=lH fun (h:keyI cs k=none)=>cnt_oth (E:=E) (cs:=cs) (lc:=a) (ls:=b) HN.out (by rw[hk0];exact h) hio
   have HKO:=keyN_some hio
   have z0:wr.cell? ⟨w.heap.size,0,none⟩=some (.int .i64 K):=X0.out.cell 0 _ rfl
   have z1:wr.cell? ⟨w.heap.size,1,none⟩=some (.string ⟨T.toArray⟩):=X0.out.cell 1 _ rfl
   have z2:wr.cell? ⟨w.heap.size,2,none⟩=some (.int .i64 O):=X0.out.cell 2 _ rfl
   have u0:wr.cell? ⟨q1,0,none⟩=some (.string ⟨t0.toArray⟩):=X1.out.cell 0 _ rfl
   have u1:wr.cell? ⟨q1,1,none⟩=some (.string ⟨t1.toArray⟩):=X1.out.cell 1 _ rfl
   have u2:wr.cell? ⟨q1,2,none⟩=some (.string ⟨t2.toArray⟩):=X1.out.cell 2 _ rfl
   have u3:wr.cell? ⟨q1,3,none⟩=some (.string ⟨t3.toArray⟩):=X1.out.cell 3 _ rfl
   have u4:wr.cell? ⟨q1,4,none⟩=some (.string ⟨t4.toArray⟩):=X1.out.cell 4 _ rfl
   have l0:wr.cell? ⟨q3,0,none⟩=some (.int .i64 a):=X3.out.cell 0 _ rfl
   have l1:wr.cell? ⟨q3,1,none⟩=some (.int .i64 b):=X3.out.cell 1 _ rfl
   clear HX CE CO HO HN hk0 hio HK
   go_upto_region 7 with fail
   refine wp_region_held_drew (S:=fun w'=>w'.cell? ⟨w.heap.size,0,none⟩=some (.int .i64 K)∧w'.cell? ⟨w.heap.size,1,none⟩=some (.string ⟨T.toArray⟩)∧w'.cell? ⟨w.heap.size,2,none⟩=some (.int .i64 O)∧w'.cell? ⟨w.heap.size,3,none⟩=some (.slice Ad i cap)∧w'.cell? ⟨q1,0,none⟩=some (.string ⟨t0.toArray⟩)∧w'.cell? ⟨q1,1,none⟩=some (.string ⟨t1.toArray⟩)∧w'.cell? ⟨q1,2,none⟩=some (.string ⟨t2.toArray⟩)∧w'.cell? ⟨q1,3,none⟩=some (.string ⟨t3.toArray⟩)∧w'.cell? ⟨q1,4,none⟩=some (.string ⟨t4.toArray⟩)∧w'.cell? ⟨q3,0,none⟩=some (.int .i64 a)∧w'.cell? ⟨q3,1,none⟩=some (.int .i64 b)∧Hid (Below w.heap.size w w')) (by kernel_rfl) (⟨z0,z1,z2,x3,u0,u1,u2,u3,u4,l0,l1,lH (Below.drew WB.out)⟩) (fun hY9=>?_)
   refine tkr (d:=(some 36)) (v:=?v1) 0 rfl rfl hY9 ?hy1 ?rs1
   case hy1=>(intro w hSw;(try dsimp only at hSw);go_simp)<;>(try with_reducible rfl)
   (try simp only[Act.put,aI,aO,aS])
   refine tkr (d:=(some 37)) (v:=?v2) 1 rfl rfl hY9 ?hy2 ?rs2
   case hy2=>(intro w hSw;(try dsimp only at hSw);go_simp)<;>(try with_reducible rfl)
   (try simp only[Act.put,aI,aO,aS])
   refine tkr (d:=(some 38)) (v:=?v3) 2 rfl rfl hY9 ?hy3 ?rs3
   case hy3=>(intro w hSw;(try dsimp only at hSw);go_simp)<;>(try with_reducible rfl)
   (try simp only[Act.put,aI,aO,aS])
   refine take_call 3 rfl (by kernel_rfl) (by rfl) (fun K hK=>?_)
   go_simp
   refine(CK.out _).mono ?_
   rintro e w' ⟨rfl,hb⟩
   refine hK.out _ _ (by obtain⟨h0,h1,h2,h3,h4,h5,h6,h7,h8,h9,h10,hw⟩:=hY9;exact⟨cK h0 hb,cK h1 hb,cK h2 hb,cK h3 hb,cK h4 hb,cK h5 hb,cK h6 hb,cK h7 hb,cK h8 hb,cK h9 hb,cK h10 hb,lH (bT hw.out hb)⟩) (fun hY9=>?_)
   clear hK K
   (try simp only[Act.put,aI,aO,aS])
   refine take_call 4 rfl (by kernel_rfl) (by rfl) (fun K hK=>?_)
   go_simp
   refine(CC.out k _ (by obtain⟨_,_,_,_,_,_,_,_,_,_,_,h7⟩:=hY9;exact h7.out)).mono ?_
   rintro e w' ⟨rfl,hb⟩
   refine hK.out _ _ (by obtain⟨h0,h1,h2,h3,h4,h5,h6,h7,h8,h9,h10,hw⟩:=hY9;exact⟨cK h0 hb,cK h1 hb,cK h2 hb,cK h3 hb,cK h4 hb,cK h5 hb,cK h6 hb,cK h7 hb,cK h8 hb,cK h9 hb,cK h10 hb,lH (bT hw.out hb)⟩) (fun hY9=>?_)
   clear hK K
   (try simp only[Act.put,aI,aO,aS])
   refine tkr (d:=(some 11)) (v:=?v6) 5 rfl rfl hY9 ?hy6 ?rs6
   case hy6=>(intro w hSw;(try dsimp only at hSw);go_simp)<;>(try with_reducible rfl)
   (try simp only[Act.put,aI,aO,aS])
   refine wpAnyH_done (by kernel_rfl) ?_ _
   obtain⟨z0,z1,z2,z3,z4,z5,z6,z7,z8,z9,z10,zW⟩:=hY9
   rename World=>w6
   have zl:=World.block_lt_of_cell? _ _ z0
   clear u0 u1 u2 u3 u4 l0 l1 x3 xl CK X0 X1 X2 X3 B0 B1 B2 B3 WB HB
   cases hkk:keyI cs k with
   |some j=>
    have hkn:=keyN_some hkk
    have HR:=lH (HRK.out j hkk)
    rw[hkn]
    have hj0: ¬(j:Int)<0:=by omega
    clear HRK HRO
    go_wp2_with fail
    go_ret
    exact⟨ret_int (by rw[HR.out]),zW.out⟩
   |none=>
    have hkn:=keyN_none hkk
    have HR:=lH (HRO.out hkk)
    rw[hkn]
    have CCi:=lH (CC.out other _ zW.out)
    rw[HKO] at CCi
    unfold other at CCi
    clear HRK HRO CC
    go_wp2_with fail
    refine CCi.out.mono ?_
    rintro e w7 ⟨rfl,hb⟩
    have W7:=lH (bT zW.out hb)
    clear hb CCi
    go_wp2_with fail
    go_ret
    exact⟨ret_int (by rw[HR.out]),W7.out⟩
open Go.RowKit Ms

set_option maxHeartbeats 1000000 in
theorem qargof_any (l:List Ag) (t:List UInt8) (v:Value) (w:World) (h:ArgsAt w v l) (hl:l.length≤2000000):
  Calls Tryz.prog 78 #[v,.string ⟨t.toArray⟩] w fun e w'=>e= .returned (.int .i64 (idxA l t))∧w'=w:=by
 have HIF:=lH fun (k:Nat) (x:Ag) (hx:l[k]?=some x) (h0:(l.take k).any (fun a=>a.name==t)=false) (h1:(x.name==t)=true)=>(show idxA l t=(k:Int) by
  unfold idxA
  rw[idx_first hx h0 h1,if_pos (List.getElem?_eq_some_iff.1 hx).1])
 have HIN:=lH fun (h:l.any (fun a=>a.name==t)=false)=>(show idxA l t= -1 by
  unfold idxA
  rw[idx_none h,if_neg (Nat.lt_irrefl _)])
 obtain⟨A,cap,rfl,_,hel⟩:=h.spread
 have hcap:l.length≤cap∨l.length=0:=by
  rcases h with⟨e,_⟩|⟨_,_,_,e,_,q,_,_⟩
  ·exact .inr (by rw[e];rfl)
  ·injection e with _ _ e;exact .inl (by omega)
 have HX:=lH hel
 clear h hel
 generalize idxA l t=I at*
 generalize hN:l.length=N at*
 go_enter Tryz.func78,Tryz.ntmps78
 go_wp2_with fail
 go_loopw [5] (fun vi wr=> ∃k:Nat,vi= .int .i64 (k:Int)∧k≤N∧Hid ((l.take k).any (fun a=>a.name==t)=false)∧w=wr) (fun vi _=>N-(intOf vi).toNat)
 case atStart=>exact⟨0,rfl,Nat.zero_le _,lH rfl,rfl⟩
 case round=>
  obtain⟨k,rfl,hk,HA,rfl⟩:=hrel
  by_cases hlt:k<N
  ·have hk':(k:Int)<(N:Int):=by omega
   have hcc:N≤cap:=by omega
   obtain⟨x,hxk⟩: ∃x,l[k]?=some x:=⟨l[k]'(by omega),List.getElem?_eq_getElem (by omega)⟩
   obtain⟨b,off,rfl,p0,_⟩:=HX.out k x hxk
   have HIK:=lH (HIF.out k x hxk HA.out)
   have HAN:=lH fun (h:(x.name==t)=false)=>(show(l.take (k+1)).any (fun a=>a.name==t)=false by rw[any_take' hxk,HA.out,h];rfl)
   have wk:IntKind.i64.wrap ((k:Int)+1)=(k:Int)+1:=IntWalk.i64_in _ (by omega)
   generalize x.name=T at*
   clear hxk HIF HIN HX
   cases ht:T==t with
   |true=>
    obtain rfl:=HIK.out ht
    go_wp2_with fail
    go_ret
    exact⟨rfl,rfl⟩
   |false=>
    have HA2:=lH (HAN.out ht)
    clear HIK HAN HA
    go_wp2_with fail
    go_roundw
    case rel=>exact⟨k+1,by go_num,by omega,HA2,trivial⟩
    case measure=>simp[intOf];omega
  ·have hk': ¬(k:Int)<(N:Int):=by omega
   have hA:=HA.out
   rw[List.take_of_length_le (by omega)] at hA
   obtain rfl:=HIN.out hA
   go_wp2_with fail
   go_ret
   exact⟨rfl,rfl⟩
end Go.Proofs.YtldbfkccieipjaaGreatDoor
