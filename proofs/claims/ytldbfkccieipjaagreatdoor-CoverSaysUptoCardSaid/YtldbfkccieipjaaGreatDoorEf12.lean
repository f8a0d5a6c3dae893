/- What a message says: the plain law, whatever numbers look like. No program. -/
import Derived.Test.YtldbfkccieipjaaGreatDoorEf11
import Derived.Shelf.Strings.Builder1
import Derived.Shelf.Small.Strs
import Derived.Shelf.Utf8.RuneCount
import Derived.Shelf.Strings.Search1
import Derived.Shelf.Strings.Search2
import Derived.Shelf.Strings.Search3
import Derived.Shelf.Strings.Count
import Derived.Shelf.LaysM
import Derived.Shelf.Strings.Shaped
import Derived.Shelf.Bits.Mul64
import Derived.Test.YtldbfkccieipjaaGreatDoorEf0
import Derived.Test.YtldbfkccieipjaaGreatDoorEf4
import Derived.Deep.LoopGhost
import Derived.Test.YtldbfkccieipjaaGreatDoorRows
import Derived.Test.YtldbfkccieipjaaGreatDoorEf7
import Derived.LaidSub
import Derived.MakeChecks
import Derived.OpenShut
namespace Go.Proofs.YtldbfkccieipjaaGreatDoor
set_option maxRecDepth 100000
open Go.RowKit
open Dcm (P10 okD nrm)

set_option maxHeartbeats 1000000 in
theorem ops_yes (c s:Int) (w:World) (h:okD c s):
  Calls Tryz.prog 47 #[.agg #[.int .i64 c,.int .i64 s]] w fun e w'=>e= .returned (.tuple #[.agg #[.int .i64 (Dcm.mag c/P10 s),.int .i64 s,.int .i64 ((Dcm.strip s.toNat (Dcm.mag c%P10 s)).1:Int),.int .i64 (Dcm.mag c%P10 s),.int .i64 (Dcm.strip s.toNat (Dcm.mag c%P10 s)).2],.nilIface])∧Below w.heap.size w w':=by
 have C0:=Lib.hid fun w=>dchk_yes c s w h
 obtain⟨s0,s1,c0,c1⟩:=h
 go_enter Tryz.func47,Tryz.ntmps47
 go_wp2_with fail
 refine(C0.out _).mono ?_
 rintro e w1 ⟨rfl,hb⟩
 have A1:=Boxed.below (Boxed.alloc (Boxed.made _ #[.int .i64 c,.int .i64 s] 31) _) hb
 have A1:=A1.at (q:=w.heap.size) rfl
 have Z1:=Boxed.at (q:=w.heap.size+1) (Boxed.below (Boxed.made _ #[.int .i64 0,.int .i64 0,.int .i64 0,.int .i64 0,.int .i64 0] 103) hb) (by simp)
 have W1:=Lib.hid (blw_trans (blw_trans (blw_alloc w _) (blw_alloc _ _)) hb)
 have k0:=A1.cell 0 _ rfl
 have k1:=A1.cell 1 _ rfl
 clear hb C0
 go_wp2_with fail
 go_loop [5,16] (fun t i=> ∃k:Int,0≤k∧k≤s∧i= .int .i64 k∧t= .int .i64 (P10 k)) (fun _ i=>(s-intOf i).toNat)
 case atStart=>exact⟨0,by omega,by omega,rfl,rfl⟩
 case round=>
  obtain⟨k,q0,q1,rfl,rfl⟩:=hrel
  have hb:=Dcm.P10_bd k
  by_cases hlt:k<s
  ·have hs:=Lib.hid (Dcm.P10_succ k q0 (by omega))
   go_wp2
   go_round
   case rel=>exact⟨k+1,by omega,by omega,by go_num,by rw[hs.out]⟩
   case measure=>simp[intOf];omega
  ·obtain rfl:k=s:=by omega
   go_wp2_with fail
   have em:max c (-c)=Dcm.mag c:=by unfold Dcm.mag;split<;>omega
   have m0:=Dcm.mag_bd c
   have m1:Dcm.mag c≤1000000000000000:=by unfold Dcm.mag;split<;>omega
   rw[em]
   clear em q1 s0 hlt
   generalize gm:Dcm.mag c=m at*
   have Gm:=Lib.hid gm
   clear gm
   generalize gU:P10 k=U at*
   have GU:=Lib.hid gU
   clear gU
   have e0:(U==0)=false:=beq_no (by omega)
   have e1: ¬U=0:=by omega
   have e2:IntKind.i64.wrap (m.tdiv U)=m/U:=IntWalk.i64_quo m U ⟨m0,by omega,hb.1⟩
   have e3:m.tmod U=m%U:=IntWalk.rem_in m U m0
   have n1:=World.new_ne w1 _ k0
   have n2:=World.new_ne w1 _ k1
   go_region_held3 (fun w'=>w'.cell? ⟨w.heap.size,0,none⟩=some (.int .i64 c)∧w'.cell? ⟨w.heap.size,1,none⟩=some (.int .i64 k)) (go_keep) (fail)
   have B2:=Boxed.drew (Boxed.made w1 #[.int .i64 (m/U),.int .i64 k,.int .i64 k,.int .i64 (m%U),.int .i64 (m%U)] 103)
   have Z2:=(Z1.alloc (.cells #[.int .i64 (m/U),.int .i64 k,.int .i64 k,.int .i64 (m%U),.int .i64 (m%U)] 103)).drew
   have W2:=Lib.hid (Below.drew (blw_trans W1.out (blw_alloc w1 (.cells #[.int .i64 (m/U),.int .i64 k,.int .i64 k,.int .i64 (m%U),.int .i64 (m%U)] 103))))
   have HR:Hid (Dcm.strip k.toNat (m%U)=Dcm.strip k.toNat (m%U)):=rfl
   have hne:w1.heap.size≠w.heap.size+1:=Nat.ne_of_gt Z1.lt
   have hge:w.heap.size≤w1.heap.size:=W1.out.size
   have r0:=Int.emod_nonneg m (by omega:U≠0)
   have r1:=Int.emod_lt_of_pos m (by omega:0<U)
   generalize gF:m%U=F at*
   have GF:=Lib.hid gF
   clear gF
   generalize gI:m/U=I at*
   have GI:=Lib.hid gI
   clear gI
   clear e0 e1 e2 e3 n1 n2 A1 Z1 W1 k0 k1
   rename_i hHeld
   clear hHeld
   generalize hR:Dcm.strip k.toNat F=R at*
   clear HR
   have HR:=Lib.hid hR
   clear hR
   generalize (w1.alloc (.cells #[.int .i64 I,.int .i64 k,.int .i64 k,.int .i64 F,.int .i64 F] 103)).drew=w2 at*
   go_wp2_with fail
   go_loopg [41] k.toNat (fun gk _p wr=> ∃wi td:Int,0≤wi∧wi≤k∧gk=wi.toNat∧0≤td∧td≤1000000000000000∧Boxed wr w1.heap.size #[.int .i64 I,.int .i64 k,.int .i64 wi,.int .i64 F,.int .i64 td]∧Boxed wr (w.heap.size+1) #[.int .i64 0,.int .i64 0,.int .i64 0,.int .i64 0,.int .i64 0]∧Hid (Below w.heap.size w wr)∧Hid (Dcm.strip wi.toNat td=R))
   case atStart=>exact⟨k,F,by omega,by omega,rfl,by omega,by omega,B2,Z2,W2,HR⟩
   case round=>
    obtain⟨wi,td,i0,i1,rfl,t0,t1,B3,Z3,W3,H3⟩:=hrel
    have q0:=B3.cell 0 _ rfl
    have q1:=B3.cell 1 _ rfl
    have q2:=B3.cell 2 _ rfl
    have q3:=B3.cell 3 _ rfl
    have q4:=B3.cell 4 _ rfl
    have f2:=B3.free 2 (by simp)
    have f4:=B3.free 4 (by simp)
    by_cases hw:0<wi
    ·by_cases ht:td%10=0
     ·have d1:decide (0<wi)=true:=dec_yes hw
      have d2:(td%10==0)=true:=beq_yes ht
      have HT:=Lib.hid ht
      clear ht
      have B4:=(B3.set 2 (.int .i64 (wi-1)) (by simp)).set 4 (.int .i64 (td/10)) (by simp)
      have Z4:=(Z3.far (q:=w1.heap.size) hne 2 (.int .i64 (wi-1))).far (q:=w1.heap.size) hne 4 (.int .i64 (td/10))
      have W4:=Lib.hid ((W3.out.setCell (p:=⟨w1.heap.size,2,none⟩) hge (.int .i64 (wi-1))).setCell (p:=⟨w1.heap.size,4,none⟩) hge (.int .i64 (td/10)))
      have H4:Hid (Dcm.strip (wi-1).toNat (td/10)=R):=by
       have h:=H3.out
       have e:wi.toNat=(wi-1).toNat+1:=by omega
       rw[e] at h
       unfold Dcm.strip at h
       rw[if_pos HT.out] at h
       exact h
      clear B3 Z3 W3 H3
      go_wp2
      go_roundg (wi-1).toNat
      case measure=>omega
      case rel=>exact⟨wi-1,td/10,by omega,by omega,rfl,by omega,by omega,B4,Z4,W4,H4⟩
     ·have d1:decide (0<wi)=true:=dec_yes hw
      have d2:(td%10==0)=false:=beq_no ht
      have e:R=(wi.toNat,td):=by
       rw[←H3.out]
       have e:wi.toNat=(wi-1).toNat+1:=by omega
       rw[e];unfold Dcm.strip;rw[if_neg ht]
      have ew:((wi.toNat:Nat):Int)=wi:=by omega
      subst e
      have EW:=Lib.hid ew
      clear ew H3 B3
      have k0:=Z3.cell 0 _ rfl
      have k1:=Z3.cell 1 _ rfl
      have k2:=Z3.cell 2 _ rfl
      have k3:=Z3.cell 3 _ rfl
      have k4:=Z3.cell 4 _ rfl
      have g0:=Z3.free 0 (by simp)
      have g1:=Z3.free 1 (by simp)
      have g2:=Z3.free 2 (by simp)
      have g3:=Z3.free 3 (by simp)
      have g4:=Z3.free 4 (by simp)
      go_wp2
      refine bodyPost_ret (v:= .tuple #[.agg #[.int .i64 I,.int .i64 k,.int .i64 wi,.int .i64 F,.int .i64 td],.nilIface]) (by simp[results,Tryz.results47,go_sem,k0,k1,k2,k3,k4]) rfl ⟨by simp[EW.out,Gm.out,GU.out,GF.out,GI.out,HR.out],?_⟩
      repeat(first|exact W3.out|refine Below.setCell ?_ (by simp) _)
    ·have d1:decide (0<wi)=false:=dec_no hw
     have e:R=(wi.toNat,td):=by
      rw[←H3.out]
      have e:wi.toNat=0:=by omega
      rw[e];rfl
     have ew:((wi.toNat:Nat):Int)=wi:=by omega
     subst e
     have EW:=Lib.hid ew
     clear ew H3 B3
     have k0:=Z3.cell 0 _ rfl
     have k1:=Z3.cell 1 _ rfl
     have k2:=Z3.cell 2 _ rfl
     have k3:=Z3.cell 3 _ rfl
     have k4:=Z3.cell 4 _ rfl
     have g0:=Z3.free 0 (by simp)
     have g1:=Z3.free 1 (by simp)
     have g2:=Z3.free 2 (by simp)
     have g3:=Z3.free 3 (by simp)
     have g4:=Z3.free 4 (by simp)
     go_wp2
     refine bodyPost_ret (v:= .tuple #[.agg #[.int .i64 I,.int .i64 k,.int .i64 wi,.int .i64 F,.int .i64 td],.nilIface]) (by simp[results,Tryz.results47,go_sem,k0,k1,k2,k3,k4]) rfl ⟨by simp[EW.out,Gm.out,GU.out,GF.out,GI.out,HR.out],?_⟩
     repeat(first|exact W3.out|refine Below.setCell ?_ (by simp) _)
open Go.RowKit
open Dcm (P10 okD)

/-- the package's array of kinds -/
def KindsW (w:World):Prop:= ∀(i:Nat) (s:List UInt8),Rul.kindL[i]?=some s→w.cell? ⟨0,i,none⟩=some (.string ⟨s.toArray⟩)
theorem KindsW.below {w w':World} (h:KindsW w) (hb:Below w.heap.size w w'):KindsW w':=fun i s hs=>cell_keep (h i s hs) hb

set_option maxHeartbeats 4000000 in
theorem kind_ok (t0 t1 t2 t3 t4:List UInt8) (c s:Int) (w:World) (hT:TR w) (hK:KindsW w) (hl: ∀t∈ [t0,t1,t2,t3,t4],t.length≤100000000) (hs:Rul.setOk [t0,t1,t2,t3,t4]=true) (hd:okD c s):
  Calls Tryz.prog 22 #[.agg #[.string ⟨t0.toArray⟩,.string ⟨t1.toArray⟩,.string ⟨t2.toArray⟩,.string ⟨t3.toArray⟩,.string ⟨t4.toArray⟩],.agg #[.int .i64 c,.int .i64 s]] w fun e w'=>e= .returned (.tuple #[.string ⟨(Rul.kindS [t0,t1,t2,t3,t4] (Rul.opsD c s) 0).toArray⟩,.nilIface])∧Below w.heap.size w w':=by
 have CK:=Lib.hid fun (wx:World) (hb:Below w.heap.size w wx)=>pcheck_any t0 t1 t2 t3 t4 wx (hT.below hb) hl
 rw[hs,if_pos rfl] at CK
 have CO:Hid (∀wx:World,Calls Tryz.prog 47 #[.agg #[.int .i64 c,.int .i64 s]] wx fun e w'=>e= .returned (.tuple #[.agg #[.int .i64 (Rul.opsD c s).i,.int .i64 (Rul.opsD c s).v,.int .i64 (Rul.opsD c s).w,.int .i64 (Rul.opsD c s).f,.int .i64 (Rul.opsD c s).t],.nilIface])∧Below wx.heap.size wx w'):=Lib.hid fun wx=>ops_yes c s wx hd
 generalize Rul.opsD c s=O at*
 have CT:=Lib.hid fun w=>ptexts_any t0 t1 t2 t3 t4 w
 have HIX:=Lib.hid fun k x h w=>ix_five t0 t1 t2 t3 t4 x k h w
 have W0:=Lib.hid ((blw_alloc w (.cells #[.string ⟨t0.toArray⟩,.string ⟨t1.toArray⟩,.string ⟨t2.toArray⟩,.string ⟨t3.toArray⟩,.string ⟨t4.toArray⟩] 54)).alloc (by simp) (.cells #[.int .i64 c,.int .i64 s] 31))
 have BS:=Lib.hid ((Boxed.made w #[.string ⟨t0.toArray⟩,.string ⟨t1.toArray⟩,.string ⟨t2.toArray⟩,.string ⟨t3.toArray⟩,.string ⟨t4.toArray⟩] 54).alloc (.cells #[.int .i64 c,.int .i64 s] 31))
 have BD:=Lib.hid (Boxed.made (w.alloc (.cells #[.string ⟨t0.toArray⟩,.string ⟨t1.toArray⟩,.string ⟨t2.toArray⟩,.string ⟨t3.toArray⟩,.string ⟨t4.toArray⟩] 54)) #[.int .i64 c,.int .i64 s] 31)
 simp only[World.size_alloc] at BD
 obtain⟨L,hLL⟩: ∃L,[t0,t1,t2,t3,t4]=L:=⟨_,rfl⟩
 have HN:=Lib.hid (show L.length=5 by rw[←hLL];rfl)
 rw[hLL] at hl hs HIX⊢
 have HL:=Lib.hid hl
 have HS:=Lib.hid hs
 have HT:=Lib.hid hT
 have HK:=Lib.hid hK
 obtain⟨KS,hKS⟩: ∃KS,Rul.kindS L O 0=KS:=⟨_,rfl⟩
 rw[hKS]
 have HKS:=Lib.hid hKS
 clear hLL hT hK hl hs hd hKS
 go_enter Tryz.func22,Tryz.ntmps22
 go_wp2_with fail
 refine(CK.out _ W0.out).mono ?_
 rintro e w1 ⟨rfl,hb⟩
 have W1:=Lib.hid (blw_trans W0.out hb)
 have B1:=Lib.hid (BD.out.below hb)
 have B2:=Lib.hid (BS.out.below hb)
 have k0:=B1.out.cell 0 _ rfl
 have k1:=B1.out.cell 1 _ rfl
 have kl:=B1.out.lt
 clear hb CK W0 BD BS
 go_wp2_with fail
 refine(CO.out _).mono ?_
 rintro e w2 ⟨rfl,hb⟩
 have W2:=Lib.hid (blw_trans W1.out hb)
 have B3:=Lib.hid ((B2.out.below hb).alloc (.cells #[.int .i64 O.i,.int .i64 O.v,.int .i64 O.w,.int .i64 O.f,.int .i64 O.t] 103))
 have B4:=Lib.hid (Boxed.made w2 (opsC O) 103)
 have W3:=Lib.hid (W2.out.trans ((blw_alloc w2 (.cells #[.int .i64 O.i,.int .i64 O.v,.int .i64 O.w,.int .i64 O.f,.int .i64 O.t] 103)).mono W2.out.size))
 have s0:=(B2.out.below hb).cell 0 _ rfl
 have s1:=(B2.out.below hb).cell 1 _ rfl
 have s2:=(B2.out.below hb).cell 2 _ rfl
 have s3:=(B2.out.below hb).cell 3 _ rfl
 have s4:=(B2.out.below hb).cell 4 _ rfl
 have sl:=(B2.out.below hb).lt
 clear hb CO W1 B1 B2 k0 k1 kl
 go_wp2_with fail
 refine(CT.out _).mono ?_
 rintro e v ⟨rfl,hb⟩
 have W4:=Lib.hid (W3.out.trans (hb.mono W3.out.size))
 have BO:=Lib.hid (B4.out.below hb)
 clear hb CT W3 B3 B4 s0 s1 s2 s3 s4 sl W2
 generalize Value.agg #[.string ⟨t0.toArray⟩,.string ⟨t1.toArray⟩,.string ⟨t2.toArray⟩,.string ⟨t3.toArray⟩,.string ⟨t4.toArray⟩]=AG at*
 go_wp2_with fail
 go_loopw [30] (fun i wr=> ∃k:Nat,i= .int .i64 k∧k≤5∧Hid (∀y∈L.take k,Rul.hits O y=false)∧Hid (Below v.heap.size v wr)) (fun i _=>5-(RowKit.intOf i).toNat)
 case atStart=>exact⟨0,rfl,by omega,Lib.hid (by simp),Lib.hid (Below.refl _ _)⟩
 case round=>
  obtain⟨k,rfl,hk,HA,HB⟩:=hrel
  have WR:=Lib.hid (W4.out.trans (HB.out.mono W4.out.size))
  by_cases hlt:k<5
  ·obtain⟨x,hx⟩: ∃x,L[k]?=some x:=⟨L[k]'(by have:=HN.out;omega),List.getElem?_eq_getElem (by have:=HN.out;omega)⟩
   have IXk:=fun w=>HIX.out k x hx w
   have HX:=Lib.hid hx
   have hxl:=HL.out x (List.mem_of_getElem? hx)
   have CP:=Lib.hid (rparse_any x wr (HT.out.below WR.out).m (HT.out.below WR.out).n (HT.out.below WR.out).p hxl)
   have k5:(k:Int)<5:=by omega
   have k0:0≤(k:Int):=by omega
   clear hx
   by_cases he:x= []
   ·subst he
    have HA2:=Lib.hid (Rul.take_hits HX.out HA.out (by unfold Rul.hits;rfl))
    go_wp2_with fail
    go_roundw
    case rel=>exact⟨k+1,by go_num,by omega,HA2,HB⟩
    case measure=>simp[RowKit.intOf];omega
   ·have e0:(x== [])=false:=beq_eq_false_iff_ne.2 he
    have he':x.isEmpty=false:=by cases x<;>simp at he⊢
    have hok:Rul.parseOk x=true:=by
     have:=Rul.mem_ok HS.out (List.mem_of_getElem? HX.out)
     unfold Rul.textOk at this
     rwa [he',Bool.false_or] at this
    have HOK:=Lib.hid hok
    have HHX:=Lib.hid (show Rul.hits O x=Rul.ruleH (Rul.ruleP x) O by unfold Rul.hits;rw[he'];rfl)
    clear hok
    go_wp2_with fail
    refine CP.out.mono ?_
    rintro e w5 ⟨v2,f2,rfl,hP,hb⟩
    have HB5:=Lib.hid (blw_trans HB.out hb)
    rcases hP with⟨_,rfl,pa,pn,pc,rfl,hs⟩|⟨hno,_⟩
    ·have hcnt:=Rul.count_P x
     have hrs:=Rul.rs_P x
     have CH:=Lib.hid (rholds_yes (Rul.ruleP x) pa pn pc O w5 hs (by omega) (by omega) (fun l hl y hy=>by have:=hrs l hl y hy;omega) (Rul.parseOk_iff.1 HOK.out).1)
     have o0:=(BO.out.below HB5.out).cell 0 _ rfl
     have o1:=(BO.out.below HB5.out).cell 1 _ rfl
     have o2:=(BO.out.below HB5.out).cell 2 _ rfl
     have o3:=(BO.out.below HB5.out).cell 3 _ rfl
     have o4:=(BO.out.below HB5.out).cell 4 _ rfl
     have ol:=(BO.out.below HB5.out).lt
     clear hb hs hcnt hrs CP
     generalize Rul.ruleH (Rul.ruleP x) O=H at*
     go_wp2_with fail
     refine CH.out.mono ?_
     rintro e w6 ⟨rfl,hb⟩
     have HB6:=Lib.hid (blw_trans HB5.out hb)
     have W6:=Lib.hid (W4.out.trans (HB6.out.mono W4.out.size))
     clear hb CH o0 o1 o2 o3 o4 ol
     cases H with
     |true=>
      obtain⟨kt,hkt⟩: ∃kt,Rul.kindL[k]?=some kt:=⟨Rul.kindL[k]'(by show k<5;omega),List.getElem?_eq_getElem _⟩
      have kc:=HK.out.below W6.out k kt hkt
      have kg:=World.block_lt_of_cell? _ _ kc
      have hfin:KS=kt:=by
       have:=Rul.kindS_hit (i:=0) HX.out HA.out HHX.out
       rw[←HKS.out,this,Nat.zero_add]
       unfold Rul.kindAt
       rw[hkt];rfl
      subst hfin
      clear hkt
      go_wp2_with fail
      go_ret2
      exact⟨rfl,W6.out⟩
     |false=>
      have HA2:=Lib.hid (Rul.take_hits HX.out HA.out HHX.out)
      go_wp2_with fail
      go_roundw
      case rel=>exact⟨k+1,by go_num,by omega,HA2,HB6⟩
      case measure=>simp[RowKit.intOf];omega
    ·rw[HOK.out] at hno;cases hno
  ·have e:k=5:=by omega
   subst e
   have h5:=HA.out
   rw[List.take_of_length_le (by have:=HN.out;omega)] at h5
   obtain rfl:KS= [111,116,104,101,114]:=by rw[←HKS.out,Rul.kindS_none h5];rfl
   clear h5
   go_wp2_with fail
   go_ret2
   exact⟨rfl,WR.out⟩
open Go.RowKit

theorem gPowT:(Tryz.prog.globals[10]?).map (·.type)=some 304:=by kernel_rfl
theorem cellsPow: Tryz.prog.cellsOf 304=20:=by kernel_rfl
theorem cellsU64: Tryz.prog.cellsOf 265=1:=by kernel_rfl
theorem powW_of {L:List (String×DataW Unit)} {W:World} (h:laidMetH Tryz.prog L W) (hf:L.filter (fun x=>x.1== "internal/strconv.uint64pow10")= [("internal/strconv.uint64pow10",Rows.laid_internal_strconv_uint64pow10)]):PowW W:=by
 have g:=laidMetH.filter (fun x=>x.1== "internal/strconv.uint64pow10") h
 rw[hf,MakeChecks.laidMetH_plain _ _ _ (by kernel_rfl)] at g
 exact Lib.tabIs_of_head gPow gPowT Tryz.underlying304 Tryz.underlying265 cellsU64 cellsPow g
open Go.RowKit Go.ChangeShapes Go.WideShapes

theorem gKinds: Tryz.prog.globalNamed "linguister/plural.kinds"=some 0:=by kernel_rfl
theorem gKindsT:(Tryz.prog.globals[0]?).map (·.type)=some 106:=by kernel_rfl
theorem cellsKinds: Tryz.prog.cellsOf 106=5:=by kernel_rfl
theorem cellsText: Tryz.prog.cellsOf 9=1:=by kernel_rfl
theorem kindsW_of {L:List (String×DataW Unit)} {W:World} (h:laidMetH Tryz.prog L W) (hf:L.filter (fun x=>x.1== "linguister/plural.kinds")= [("linguister/plural.kinds",Rows.laid_linguister_plural_kinds)]):KindsW W:=by
 have g:=laidMetH.filter (fun x=>x.1== "linguister/plural.kinds") h
 rw[hf,MakeChecks.laidMetH_plain _ _ _ (by kernel_rfl)] at g
 obtain⟨ps,⟨gg,t,cs,fuel,p,q,hg,ht,hvar,hd,_,_⟩,_⟩:=g
 obtain rfl:=Option.some.inj (gKinds.symm.trans hg)
 obtain rfl:=Option.some.inj (gKindsT.symm.trans ht)
 obtain⟨xs,m,_,hx,hl,hxl,hel⟩:=DataW.trod_array Tryz.underlying106 hd
 rw[cellsKinds] at hl
 rw[cellsText] at hel
 intro i s hs
 have hi:i<5:=(List.getElem?_eq_some_iff.1 hs).1
 have h1:=hel i hi
 have hcl:i<cs.toList.length:=by omega
 have hone:(cs.toList.drop (i*1)).take 1= [cs.toList[i]'hcl]:=by
  rw[Nat.mul_one,List.drop_eq_getElem_cons hcl]
  rfl
 rw[hone,List.getElem?_eq_getElem (by omega)] at h1
 obtain⟨b,e,hb,_⟩:=DataW.trod_string Tryz.underlying9 h1
 have e2:cs.toList[i]'hcl= .string b:=by simpa using e
 have hv:=World.var?_cell gKinds hvar i
 rw[hv]
 have hget:cs[i]?=some (cs.toList[i]'hcl):=by
  rw[←Array.getElem?_toList];exact List.getElem?_eq_getElem hcl
 rw[hget,e2]
 have hx1:(xs.map (·.1))[i]?=some (.lit (.string b.data.toList)):=by
  rw[List.getElem?_map,List.getElem?_eq_getElem (by omega)]
  simp[hb]
 have hk:xs.map (·.1)=Rul.kindL.map fun s=>(.lit (.string s):DataW Unit):=by
  have:=congrArg Prod.fst hx
  simp only[Rows.laid_linguister_plural_kinds] at this
  injection this with this
  rw[←this]
  rfl
 rw[hk,List.getElem?_map,hs] at hx1
 have e3:s=b.data.toList:=by simpa using hx1
 rw[e3]
open Go.RowKit
/-- what a language gives: a number as messages tell it, and plainly; its kind; a number less an offset, if there is room; is a number a whole one? -/
structure Ev where
 num:Int→Int→List UInt8
 dtx:Int→Int→List UInt8
 kind:Int→Int→List UInt8
 less:Int→Int→Int→Option (Int×Int)
 same:Int→Int→Int→Bool
namespace Ms
abbrev Cs:=List (List UInt8×List Nd)
/-- the case of a key -/
def keyI (cs:Cs) (k:List UInt8):Option Nat:=cs.findIdx? fun y=>y.1==k
/-- the case that stands for a number exactly -/
def exI (E:Ev) (cs:Cs) (c s:Int):Option Nat:=cs.findIdx? fun y=>decide (0≤exV y.1)&&E.same c s (exV y.1)
/-- the case of a Plural, by a number and that less the offset -/
def cntI (E:Ev) (cs:Cs) (c s lc ls:Int):Nat:=((exI E cs c s).or ((keyI cs (E.kind lc ls)).or (keyI cs other))).getD 0
/-- the case of a Select -/
def choI (cs:Cs) (t:List UInt8):Nat:=((keyI cs t).or (keyI cs other)).getD 0
/-- how much a case counts -/
def rnk (E:Ev) (k:List UInt8) (c s:Int) (y:List UInt8×List Nd):Nat:=if (decide (0≤exV y.1)&&E.same c s (exV y.1))=true then 3 else if (y.1==k)=true then 2 else if (y.1==other)=true then 1 else 0
/-- the first one that counts most -/
def bestL (R:List UInt8×List Nd→Nat):Cs→Nat→Nat×Nat→Nat×Nat
 | [],_,p=>p
 |y::cs,i,p=>bestL R cs (i+1) (if p.2<R y then (i,R y) else p)
theorem bestL_snoc (R:List UInt8×List Nd→Nat): ∀(cs:Cs) (y:List UInt8×List Nd) (i:Nat) (p:Nat×Nat),bestL R (cs++ [y]) i p=(if (bestL R cs i p).2<R y then (i+cs.length,R y) else bestL R cs i p)
 | [],y,i,p=>by
  show(if p.2<R y then (i,R y) else p)=(if p.2<R y then (i+0,R y) else p)
  rfl
 |z::cs,y,i,p=>by
  show bestL R (cs++ [y]) (i+1) _=_
  rw[bestL_snoc R cs y (i+1)]
  show(if (bestL R cs (i+1) _).2<R y then (i+1+cs.length,R y) else _)=(if (bestL R cs (i+1) _).2<R y then (i+(cs.length+1),R y) else _)
  rw[show i+1+cs.length=i+(cs.length+1) by omega]
  rfl
theorem best_step (R:List UInt8×List Nd→Nat) {cs:Cs} {k:Nat} {y:List UInt8×List Nd} (h:cs[k]?=some y):bestL R (cs.take (k+1)) 0 (0,0)=(if (bestL R (cs.take k) 0 (0,0)).2<R y then (k,R y) else bestL R (cs.take k) 0 (0,0)):=by
 have hk:=(List.getElem?_eq_some_iff.1 h).1
 rw[List.take_add_one,h,Option.toList_some,bestL_snoc,List.length_take,Nat.min_eq_left (by omega),Nat.zero_add]
/-- the first of a rank -/
def atR (R:List UInt8×List Nd→Nat) (cs:Cs) (n:Nat):Option Nat:=cs.findIdx? fun y=>R y==n
theorem best_is (R:List UInt8×List Nd→Nat) (hR: ∀y,R y≤3): ∀(cs:Cs) (i b r:Nat),r≤3→
  bestL R cs i (b,r)=(((if r<3 then atR R cs 3 else none).map fun j=>(i+j,3)).or (((if r<2 then atR R cs 2 else none).map fun j=>(i+j,2)).or ((if r<1 then atR R cs 1 else none).map fun j=>(i+j,1)))).getD (b,r)
 | [],i,b,r,_=>by
  have e: ∀n,atR R [] n=none:=fun _=>rfl
  simp only[e,ite_self,Option.map_none,Option.or_none]
  rfl
 |y::cs,i,b,r,hr=>by
  have hy:=hR y
  have st: ∀n,atR R (y::cs) n=if (R y==n)=true then some 0 else (atR R cs n).map (· +1):=fun n=>List.findIdx?_cons
  have mv: ∀(o:Option Nat) (n:Nat),(o.map (· +1)).map (fun j=>(i+j,n))=o.map fun j=>(i+1+j,n):=fun o n=>by cases o<;>simp;omega
  show bestL R cs (i+1) (if r<R y then (i,R y) else (b,r))=_
  rw[st 3,st 2,st 1]
  split
  ·rename_i h
   rw[best_is R hR cs (i+1) i (R y) hy]
   generalize R y=q at*
   have hq:q=1∨q=2∨q=3:=by omega
   rcases hq with rfl|rfl|rfl
   ·obtain rfl:r=0:=by omega
    cases atR R cs 3<;>cases atR R cs 2<;>cases atR R cs 1<;>simp<;>omega
   ·have h1:r=0∨r=1:=by omega
    rcases h1 with rfl|rfl<;>cases atR R cs 3<;>cases atR R cs 2<;>cases atR R cs 1<;>simp<;>omega
   ·have h1:r=0∨r=1∨r=2:=by omega
    rcases h1 with rfl|rfl|rfl<;>cases atR R cs 3<;>cases atR R cs 2<;>cases atR R cs 1<;>simp
  ·rename_i h
   rw[best_is R hR cs (i+1) b r hr]
   generalize R y=q at*
   have hq:q=0∨q=1∨q=2∨q=3:=by omega
   have h1:r=0∨r=1∨r=2∨r=3:=by omega
   rcases hq with rfl|rfl|rfl|rfl<;>rcases h1 with rfl|rfl|rfl|rfl<;>first|omega|(cases atR R cs 3<;>cases atR R cs 2<;>cases atR R cs 1<;>simp<;>omega)|(cases atR R cs 3<;>cases atR R cs 2<;>cases atR R cs 1<;>simp)
theorem find_congr {p q:List UInt8×List Nd→Bool}: ∀{cs:Cs},(∀y∈cs,p y=q y)→cs.findIdx? p=cs.findIdx? q
 | [],_=>rfl
 |y::cs,h=>by
  rw[List.findIdx?_cons,List.findIdx?_cons,h y (by simp),find_congr (cs:=cs) fun z hz=>h z (by simp[hz])]
theorem rnk_le (E:Ev) (k:List UInt8) (c s:Int) (y:List UInt8×List Nd):rnk E k c s y≤3:=by
 unfold rnk
 split
 ·omega
 ·split
  ·omega
  ·split<;>omega
/-- what the code finds is what counts -/
theorem best_cnt (E:Ev) (cs:Cs) (c s lc ls:Int):(bestL (rnk E (E.kind lc ls) c s) cs 0 (0,0)).1=cntI E cs c s lc ls:=by
 rw[best_is _ (rnk_le E _ c s) cs 0 0 0 (by omega)]
 have e3:atR (rnk E (E.kind lc ls) c s) cs 3=exI E cs c s:=by
  refine find_congr fun y _=>?_
  unfold rnk
  split
  ·rename_i h;rw[h];rfl
  ·rename_i h
   have:(decide (0≤exV y.1)&&E.same c s (exV y.1))=false:=by simpa using h
   rw[this]
   split
   ·rfl
   ·split<;>rfl
 unfold cntI
 rw[e3]
 cases h3:exI E cs c s with
 |some j=>simp
 |none=>
  have h3': ∀y∈cs,(decide (0≤exV y.1)&&E.same c s (exV y.1))=false:=by
   intro y hy
   have:=List.findIdx?_eq_none_iff.1 h3 y hy
   simpa using this
  have e2:atR (rnk E (E.kind lc ls) c s) cs 2=keyI cs (E.kind lc ls):=by
   refine find_congr fun y hy=>?_
   unfold rnk
   rw[h3' y hy,if_neg (by simp)]
   split
   ·rename_i h;rw[h];rfl
   ·rename_i h
    have:(y.1==E.kind lc ls)=false:=by simpa using h
    rw[this]
    split<;>rfl
  rw[e2]
  cases h2:keyI cs (E.kind lc ls) with
  |some j=>simp
  |none=>
   have h2': ∀y∈cs,(y.1==E.kind lc ls)=false:=by
    intro y hy
    have:=List.findIdx?_eq_none_iff.1 h2 y hy
    simpa using this
   have e1:atR (rnk E (E.kind lc ls) c s) cs 1=keyI cs other:=by
    refine find_congr fun y hy=>?_
    unfold rnk
    rw[h3' y hy,if_neg (by simp),h2' y hy,if_neg (by simp)]
    split
    ·rename_i h;rw[h];rfl
    ·rename_i h
     have:(y.1==other)=false:=by simpa using h
     rw[this];rfl
   rw[e1]
   cases keyI cs other<;>simp
/-- one behind the other; none: there is no room -/
def catM (F:Nd→Option (List UInt8)):List Nd→Option (List UInt8)
 | []=>some []
 |x::r=>match F x with
  |none=>none
  |some t=>(catM F r).map (t++ ·)
def bodyI (x:Nd) (i:Nat):List Nd:=((x.cases[i]?).map (·.2)).getD []
/-- what a node says -/
def saidX (E:Ev) (val:List UInt8→Bool×Int×Int×List UInt8) (G:Int→Int→List Nd→Option (List UInt8)) (mc ms:Int) (x:Nd):Option (List UInt8):=
 if x.kind=1 then some x.text else if x.kind=6 then some (E.num mc ms) else
  if x.kind=3 then some (E.num (val x.text).2.1 (val x.text).2.2.1)
  else if x.kind=4 then match E.less (val x.text).2.1 (val x.text).2.2.1 x.off with
   |none=>none
   |some l=>G l.1 l.2 (bodyI x (cntI E x.cases (val x.text).2.1 (val x.text).2.2.1 l.1 l.2))
  else if x.kind=5 then G mc ms (bodyI x (choI x.cases (val x.text).2.2.2))
  else some (if (val x.text).1 then E.dtx (val x.text).2.1 (val x.text).2.2.1 else (val x.text).2.2.2)
/-- what nodes say; the depth f -/
def saidM (E:Ev) (val:List UInt8→Bool×Int×Int×List UInt8):Nat→Int→Int→List Nd→Option (List UInt8)
 |0,_,_,_=>some []
 |f+1,mc,ms,m=>catM (saidX E val (saidM E val f) mc ms) m
theorem catM_app (F:Nd→Option (List UInt8)): ∀(l k:List Nd),catM F (l++k)=match catM F l with
  |none=>none
  |some t=>(catM F k).map (t++ ·)
 | [],k=>by
  show catM F k=(catM F k).map ([]++ ·)
  cases catM F k<;>rfl
 |x::r,k=>by
  show(match F x with|none=>none|some t=>(catM F (r++k)).map (t++ ·))=_
  have e:catM F (x::r)=match F x with|none=>none|some t=>(catM F r).map (t++ ·):=rfl
  rw[e,catM_app F r k]
  cases F x with
  |none=>rfl
  |some t=>
   cases catM F r with
   |none=>rfl
   |some u=>
    cases catM F k with
    |none=>rfl
    |some z=>simp
end Ms
end Go.Proofs.YtldbfkccieipjaaGreatDoor
