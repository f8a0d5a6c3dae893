/- The walk of plural.Kind. Conditions: the library's errors, its table of powers, its variable MaxLen and the package's array of kinds are there; the texts are short. -/
import Derived.Test.YtjlchookakbomaaGreatDoorEi17
import Derived.Shelf.Strings.Builder1
import Derived.Shelf.Small.Strs
import Derived.Shelf.Utf8.RuneCount
import Derived.Shelf.Strings.Search1
import Derived.Shelf.Strings.Search2
import Derived.Shelf.Strings.Search3
import Derived.Shelf.Strings.Count
import Derived.Shelf.LaysM
import Derived.Shelf.Strings.Shaped
import Derived.Shelf.Bits.Mul64
set_option maxHeartbeats 4000000
set_option maxRecDepth 100000
namespace Go.Proofs.YtjlchookakbomaaGreatDoor
open Go.RowKit
open Dcm (P10 okD nrm)

theorem zMB (c s:Int) (w:World) (h:okD c s):
  Calls Tryz.prog 99 #[.agg #[.int .i64 c,.int .i64 s]] w fun e w'=>e= .returned (.tuple #[.agg #[.int .i64 (Dcm.mag c/P10 s),.int .i64 s,.int .i64 ((Dcm.strip s.toNat (Dcm.mag c%P10 s)).1:Int),.int .i64 (Dcm.mag c%P10 s),.int .i64 (Dcm.strip s.toNat (Dcm.mag c%P10 s)).2],.nilIface])∧Below w.heap.size w w':=by
 have C0:=lH fun w=>zAx c s w h
 obtain⟨s0,s1,c0,c1⟩:=h
 go_enter Tryz.func99,Tryz.ntmps99
 go_wp2_with fail
 refine(C0.out _).mono ?_
 rintro e w1 ⟨rfl,hb⟩
 have A1:=Boxed.below (Boxed.alloc (Boxed.made _ #[.int .i64 c,.int .i64 s] 64) _) hb
 have A1:=A1.at (q:=w.heap.size) rfl
 have Z1:=Boxed.at (q:=w.heap.size+1) (Boxed.below (Boxed.made _ #[.int .i64 0,.int .i64 0,.int .i64 0,.int .i64 0,.int .i64 0] 176) hb) (by simp)
 have W1:=lH (bT (bT (bA w _) (bA _ _)) hb)
 have k0:=A1.cell 0 _ rfl
 have k1:=A1.cell 1 _ rfl
 clear hb C0
 go_wp2_with fail
 go_loop [5,16] (fun t i=> ∃k:Int,0≤k∧k≤s∧i= .int .i64 k∧t= .int .i64 (P10 k)) (fun _ i=>(s-intOf i).toNat)
 case atStart=>exact⟨0,by omega,by omega,rfl,rfl⟩
 case round=>
  obtain⟨k,q0,q1,rfl,rfl⟩:=hrel
  have hb:=Dcm.zAj k
  by_cases hlt:k<s
  ·have hs:=lH (Dcm.zB1 k q0 (by omega))
   go_wp2
   go_round
   case rel=>exact⟨k+1,by omega,by omega,by go_num,by rw[hs.out]⟩
   case measure=>simp[intOf];omega
  obtain rfl:k=s:=by omega
  go_wp2_with fail
  have em:max c (-c)=Dcm.mag c:=by unfold Dcm.mag;split<;>omega
  have m0:=Dcm.zB2 c
  have m1:Dcm.mag c≤1000000000000000:=by unfold Dcm.mag;split<;>omega
  rw[em]
  clear em q1 s0 hlt
  generalize gm:Dcm.mag c=m at*
  have Gm:=lH gm
  clear gm
  generalize gU:P10 k=U at*
  have GU:=lH gU
  clear gU
  have e0:(U==0)=false:=zAe (by omega)
  have e1: ¬U=0:=by omega
  have e2:IntKind.i64.wrap (m.tdiv U)=m/U:=IntWalk.i64_quo m U ⟨m0,by omega,hb.1⟩
  have e3:m.tmod U=m%U:=IntWalk.rem_in m U m0
  have n1:=World.new_ne w1 _ k0
  have n2:=World.new_ne w1 _ k1
  go_region_held3 (fun w'=>w'.cell? ⟨w.heap.size,0,none⟩=some (.int .i64 c)∧w'.cell? ⟨w.heap.size,1,none⟩=some (.int .i64 k)) (go_keep) (fail)
  have B2:=Boxed.drew (Boxed.made w1 #[.int .i64 (m/U),.int .i64 k,.int .i64 k,.int .i64 (m%U),.int .i64 (m%U)] 176)
  have Z2:=(Z1.alloc (.cells #[.int .i64 (m/U),.int .i64 k,.int .i64 k,.int .i64 (m%U),.int .i64 (m%U)] 176)).drew
  have W2:=lH (Below.drew (bT W1.out (bA w1 (.cells #[.int .i64 (m/U),.int .i64 k,.int .i64 k,.int .i64 (m%U),.int .i64 (m%U)] 176))))
  have HR:Hid (Dcm.strip k.toNat (m%U)=Dcm.strip k.toNat (m%U)):=rfl
  have hne:w1.heap.size≠w.heap.size+1:=Nat.ne_of_gt Z1.lt
  have hge:w.heap.size≤w1.heap.size:=W1.out.size
  have r0:=Int.emod_nonneg m (by omega:U≠0)
  have r1:=Int.emod_lt_of_pos m (by omega:0<U)
  generalize gF:m%U=F at*
  have GF:=lH gF
  clear gF
  generalize gI:m/U=I at*
  have GI:=lH gI
  clear gI
  clear e0 e1 e2 e3 n1 n2 A1 Z1 W1 k0 k1
  rename_i hY9
  clear hY9
  generalize hR:Dcm.strip k.toNat F=R at*
  clear HR
  have HR:=lH hR
  clear hR
  generalize (w1.alloc (.cells #[.int .i64 I,.int .i64 k,.int .i64 k,.int .i64 F,.int .i64 F] 176)).drew=w2 at*
  go_wp2_with fail
  go_loopg [41] k.toNat (fun gk _p wr=> ∃wi td:Int,0≤wi∧wi≤k∧gk=wi.toNat∧0≤td∧td≤1000000000000000∧Boxed wr w1.heap.size #[.int .i64 I,.int .i64 k,.int .i64 wi,.int .i64 F,.int .i64 td]∧Boxed wr (w.heap.size+1) #[.int .i64 0,.int .i64 0,.int .i64 0,.int .i64 0,.int .i64 0]∧Hid (Below w.heap.size w wr)∧Hid (Dcm.strip wi.toNat td=R))
  case atStart=>exact⟨k,F,by omega,by omega,rfl,by omega,by omega,B2,Z2,W2,HR⟩
  case round=>
   obtain⟨wi,td,i0,i1,rfl,t0,t1,B3,Z3,W3,H3⟩:=hrel
   have q0:=B3.cell 0 _ rfl
   have q1:=B3.cell 1 _ rfl
   have q2:=B3.cell 2 _ rfl
   have q3:=B3.cell 3 _ rfl
   have q4:=B3.cell 4 _ rfl
   have f2:=B3.free 2 (by simp)
   have f4:=B3.free 4 (by simp)
   by_cases hw:0<wi
   ·by_cases ht:td%10=0
    ·have d1:decide (0<wi)=true:=zAd hw
     have d2:(td%10==0)=true:=zAo ht
     have HT:=lH ht
     clear ht
     have B4:=(B3.set 2 (.int .i64 (wi-1)) (by simp)).set 4 (.int .i64 (td/10)) (by simp)
     have Z4:=(Z3.far (q:=w1.heap.size) hne 2 (.int .i64 (wi-1))).far (q:=w1.heap.size) hne 4 (.int .i64 (td/10))
     have W4:=lH ((W3.out.setCell (p:=⟨w1.heap.size,2,none⟩) hge (.int .i64 (wi-1))).setCell (p:=⟨w1.heap.size,4,none⟩) hge (.int .i64 (td/10)))
     have H4:Hid (Dcm.strip (wi-1).toNat (td/10)=R):=by
      have h:=H3.out
      have e:wi.toNat=(wi-1).toNat+1:=by omega
      rw[e] at h
      unfold Dcm.strip at h
      rw[if_pos HT.out] at h
      exact h
     clear B3 Z3 W3 H3
     go_wp2
     go_roundg (wi-1).toNat
     case measure=>omega
     case rel=>exact⟨wi-1,td/10,by omega,by omega,rfl,by omega,by omega,B4,Z4,W4,H4⟩
    have d1:decide (0<wi)=true:=zAd hw
    have d2:(td%10==0)=false:=zAe ht
    have e:R=(wi.toNat,td):=by
     rw[←H3.out]
     have e:wi.toNat=(wi-1).toNat+1:=by omega
     rw[e];unfold Dcm.strip;rw[if_neg ht]
    have ew:((wi.toNat:Nat):Int)=wi:=by omega
    subst e
    have EW:=lH ew
    clear ew H3 B3
    have k0:=Z3.cell 0 _ rfl
    have k1:=Z3.cell 1 _ rfl
    have k2:=Z3.cell 2 _ rfl
    have k3:=Z3.cell 3 _ rfl
    have k4:=Z3.cell 4 _ rfl
    have g0:=Z3.free 0 (by simp)
    have g1:=Z3.free 1 (by simp)
    have g2:=Z3.free 2 (by simp)
    have g3:=Z3.free 3 (by simp)
    have g4:=Z3.free 4 (by simp)
    go_wp2
    refine bodyPost_ret (v:= .tuple #[.agg #[.int .i64 I,.int .i64 k,.int .i64 wi,.int .i64 F,.int .i64 td],.nilIface]) (by simp[results,Tryz.results99,go_sem,k0,k1,k2,k3,k4]) rfl ⟨by simp[EW.out,Gm.out,GU.out,GF.out,GI.out,HR.out],?_⟩
    repeat(first|exact W3.out|refine Below.setCell ?_ (by simp) _)
   have d1:decide (0<wi)=false:=zAa hw
   have e:R=(wi.toNat,td):=by
    rw[←H3.out]
    have e:wi.toNat=0:=by omega
    rw[e];rfl
   have ew:((wi.toNat:Nat):Int)=wi:=by omega
   subst e
   have EW:=lH ew
   clear ew H3 B3
   have k0:=Z3.cell 0 _ rfl
   have k1:=Z3.cell 1 _ rfl
   have k2:=Z3.cell 2 _ rfl
   have k3:=Z3.cell 3 _ rfl
   have k4:=Z3.cell 4 _ rfl
   have g0:=Z3.free 0 (by simp)
   have g1:=Z3.free 1 (by simp)
   have g2:=Z3.free 2 (by simp)
   have g3:=Z3.free 3 (by simp)
   have g4:=Z3.free 4 (by simp)
   go_wp2
   refine bodyPost_ret (v:= .tuple #[.agg #[.int .i64 I,.int .i64 k,.int .i64 wi,.int .i64 F,.int .i64 td],.nilIface]) (by simp[results,Tryz.results99,go_sem,k0,k1,k2,k3,k4]) rfl ⟨by simp[EW.out,Gm.out,GU.out,GF.out,GI.out,HR.out],?_⟩
   repeat(first|exact W3.out|refine Below.setCell ?_ (by simp) _)
open Go.RowKit
open Dcm (P10 okD)

def KindsW (w:World):Prop:= ∀(i:Nat) (s:List UInt8),Rul.kindL[i]?=some s→w.cell? ⟨3,i,none⟩=some (.string ⟨s.toArray⟩)
theorem KindsW.below {w w':World} (h:KindsW w) (hb:Below w.heap.size w w'):KindsW w':=fun i s hs=>cK (h i s hs) hb

theorem zMC (t0 t1 t2 t3 t4:List UInt8) (c s:Int) (w:World) (hT:TR w) (hK:KindsW w) (hl: ∀t∈ [t0,t1,t2,t3,t4],t.length≤100000000) (hs:Rul.setOk [t0,t1,t2,t3,t4]=true) (hd:okD c s):
  Calls Tryz.prog 59 #[.agg #[.string ⟨t0.toArray⟩,.string ⟨t1.toArray⟩,.string ⟨t2.toArray⟩,.string ⟨t3.toArray⟩,.string ⟨t4.toArray⟩],.agg #[.int .i64 c,.int .i64 s]] w fun e w'=>e= .returned (.tuple #[.string ⟨(Rul.kindS [t0,t1,t2,t3,t4] (Rul.opsD c s) 0).toArray⟩,.nilIface])∧Below w.heap.size w w':=by
 have CK:=lH fun (wx:World) (hb:Below w.heap.size w wx)=>zIz t0 t1 t2 t3 t4 wx (hT.below hb) hl
 rw[hs,if_pos rfl] at CK
 have CO:Hid (∀wx:World,Calls Tryz.prog 99 #[.agg #[.int .i64 c,.int .i64 s]] wx fun e w'=>e= .returned (.tuple #[.agg #[.int .i64 (Rul.opsD c s).i,.int .i64 (Rul.opsD c s).v,.int .i64 (Rul.opsD c s).w,.int .i64 (Rul.opsD c s).f,.int .i64 (Rul.opsD c s).t],.nilIface])∧Below wx.heap.size wx w'):=lH fun wx=>zMB c s wx hd
 generalize Rul.opsD c s=O at*
 have CT:=lH fun w=>zEm t0 t1 t2 t3 t4 w
 have HIX:=lH fun k x h w=>zHM t0 t1 t2 t3 t4 x k h w
 have W0:=lH ((bA w (.cells #[.string ⟨t0.toArray⟩,.string ⟨t1.toArray⟩,.string ⟨t2.toArray⟩,.string ⟨t3.toArray⟩,.string ⟨t4.toArray⟩] 58)).alloc (by simp) (.cells #[.int .i64 c,.int .i64 s] 64))
 have BS:=lH ((Boxed.made w #[.string ⟨t0.toArray⟩,.string ⟨t1.toArray⟩,.string ⟨t2.toArray⟩,.string ⟨t3.toArray⟩,.string ⟨t4.toArray⟩] 58).alloc (.cells #[.int .i64 c,.int .i64 s] 64))
 have BD:=lH (Boxed.made (w.alloc (.cells #[.string ⟨t0.toArray⟩,.string ⟨t1.toArray⟩,.string ⟨t2.toArray⟩,.string ⟨t3.toArray⟩,.string ⟨t4.toArray⟩] 58)) #[.int .i64 c,.int .i64 s] 64)
 simp only[World.size_alloc] at BD
 obtain⟨L,hLL⟩: ∃L,[t0,t1,t2,t3,t4]=L:=⟨_,rfl⟩
 have HN:=lH (show L.length=5 by rw[←hLL];rfl)
 rw[hLL] at hl hs HIX⊢
 have HL:=lH hl
 have HS:=lH hs
 have HT:=lH hT
 have HK:=lH hK
 obtain⟨KS,hKS⟩: ∃KS,Rul.kindS L O 0=KS:=⟨_,rfl⟩
 rw[hKS]
 have HKS:=lH hKS
 clear hLL hT hK hl hs hd hKS
 go_enter Tryz.func59,Tryz.ntmps59
 go_wp2_with fail
 refine(CK.out _ W0.out).mono ?_
 rintro e w1 ⟨rfl,hb⟩
 have W1:=lH (bT W0.out hb)
 have B1:=lH (BD.out.below hb)
 have B2:=lH (BS.out.below hb)
 have k0:=B1.out.cell 0 _ rfl
 have k1:=B1.out.cell 1 _ rfl
 have kl:=B1.out.lt
 clear hb CK W0 BD BS
 go_wp2_with fail
 refine(CO.out _).mono ?_
 rintro e w2 ⟨rfl,hb⟩
 have W2:=lH (bT W1.out hb)
 have B3:=lH ((B2.out.below hb).alloc (.cells #[.int .i64 O.i,.int .i64 O.v,.int .i64 O.w,.int .i64 O.f,.int .i64 O.t] 176))
 have B4:=lH (Boxed.made w2 (opsC O) 176)
 have W3:=lH (W2.out.trans ((bA w2 (.cells #[.int .i64 O.i,.int .i64 O.v,.int .i64 O.w,.int .i64 O.f,.int .i64 O.t] 176)).mono W2.out.size))
 have s0:=(B2.out.below hb).cell 0 _ rfl
 have s1:=(B2.out.below hb).cell 1 _ rfl
 have s2:=(B2.out.below hb).cell 2 _ rfl
 have s3:=(B2.out.below hb).cell 3 _ rfl
 have s4:=(B2.out.below hb).cell 4 _ rfl
 have sl:=(B2.out.below hb).lt
 clear hb CO W1 B1 B2 k0 k1 kl
 go_wp2_with fail
 refine(CT.out _).mono ?_
 rintro e v ⟨rfl,hb⟩
 have W4:=lH (W3.out.trans (hb.mono W3.out.size))
 have BO:=lH (B4.out.below hb)
 clear hb CT W3 B3 B4 s0 s1 s2 s3 s4 sl W2
 generalize Value.agg #[.string ⟨t0.toArray⟩,.string ⟨t1.toArray⟩,.string ⟨t2.toArray⟩,.string ⟨t3.toArray⟩,.string ⟨t4.toArray⟩]=AG at*
 go_wp2_with fail
 go_loopw [30] (fun i wr=> ∃k:Nat,i= .int .i64 k∧k≤5∧Hid (∀y∈L.take k,Rul.hits O y=false)∧Hid (Below v.heap.size v wr)) (fun i _=>5-(intOf i).toNat)
 case atStart=>exact⟨0,rfl,by omega,lH (by simp),lH (Below.refl _ _)⟩
 case round=>
  obtain⟨k,rfl,hk,HA,HB⟩:=hrel
  have WR:=lH (W4.out.trans (HB.out.mono W4.out.size))
  by_cases hlt:k<5
  ·obtain⟨x,hx⟩: ∃x,L[k]?=some x:=⟨L[k]'(by have:=HN.out;omega),List.getElem?_eq_getElem (by have:=HN.out;omega)⟩
   have IXk:=fun w=>HIX.out k x hx w
   have HX:=lH hx
   have hxl:=HL.out x (List.mem_of_getElem? hx)
   have CP:=lH (zEl x wr (HT.out.below WR.out).m (HT.out.below WR.out).n (HT.out.below WR.out).p hxl)
   have k5:(k:Int)<5:=by omega
   have k0:0≤(k:Int):=by omega
   clear hx
   by_cases he:x= []
   ·subst he
    have HA2:=lH (Rul.zCh HX.out HA.out (by unfold Rul.hits;rfl))
    go_wp2_with fail
    go_roundw
    case rel=>exact⟨k+1,by go_num,by omega,HA2,HB⟩
    case measure=>simp[intOf];omega
   have e0:(x== [])=false:=beq_eq_false_iff_ne.2 he
   have he':x.isEmpty=false:=by cases x<;>simp at he⊢
   have hok:Rul.parseOk x=true:=by
    have:=Rul.zJl HS.out (List.mem_of_getElem? HX.out)
    unfold Rul.textOk at this
    rwa [he',Bool.false_or] at this
   have HOK:=lH hok
   have HHX:=lH (show Rul.hits O x=Rul.ruleH (Rul.ruleP x) O by unfold Rul.hits;rw[he'];rfl)
   clear hok
   go_wp2_with fail
   refine CP.out.mono ?_
   rintro e w5 ⟨v2,f2,rfl,hP,hb⟩
   have HB5:=lH (bT HB.out hb)
   rcases hP with⟨_,rfl,pa,pn,pc,rfl,hs⟩|⟨hno,_⟩
   ·have hcnt:=Rul.zEG x
    have hrs:=Rul.rs_P x
    have CH:=lH (zID (Rul.ruleP x) pa pn pc O w5 hs (by omega) (by omega) (fun l hl y hy=>by have:=hrs l hl y hy;omega) (Rul.zA3.1 HOK.out).1)
    have o0:=(BO.out.below HB5.out).cell 0 _ rfl
    have o1:=(BO.out.below HB5.out).cell 1 _ rfl
    have o2:=(BO.out.below HB5.out).cell 2 _ rfl
    have o3:=(BO.out.below HB5.out).cell 3 _ rfl
    have o4:=(BO.out.below HB5.out).cell 4 _ rfl
    have ol:=(BO.out.below HB5.out).lt
    clear hb hs hcnt hrs CP
    generalize Rul.ruleH (Rul.ruleP x) O=H at*
    go_wp2_with fail
    refine CH.out.mono ?_
    rintro e w6 ⟨rfl,hb⟩
    have HB6:=lH (bT HB5.out hb)
    have W6:=lH (W4.out.trans (HB6.out.mono W4.out.size))
    clear hb CH o0 o1 o2 o3 o4 ol
    cases H with
    |true=>
     obtain⟨kt,hkt⟩: ∃kt,Rul.kindL[k]?=some kt:=⟨Rul.kindL[k]'(by show k<5;omega),List.getElem?_eq_getElem _⟩
     have kc:=HK.out.below W6.out k kt hkt
     have kg:=World.block_lt_of_cell? _ _ kc
     have hfin:KS=kt:=by
      have:=Rul.zDj (i:=0) HX.out HA.out HHX.out
      rw[←HKS.out,this,Nat.zero_add]
      unfold Rul.kindAt
      rw[hkt];rfl
     subst hfin
     clear hkt
     go_wp2_with fail
     go_ret2
     exact⟨rfl,W6.out⟩
    |false=>
     have HA2:=lH (Rul.zCh HX.out HA.out HHX.out)
     go_wp2_with fail
     go_roundw
     case rel=>exact⟨k+1,by go_num,by omega,HA2,HB6⟩
     case measure=>simp[intOf];omega
   rw[HOK.out] at hno;cases hno
  have e:k=5:=by omega
  subst e
  have h5:=HA.out
  rw[List.take_of_length_le (by have:=HN.out;omega)] at h5
  obtain rfl:KS= [111,116,104,101,114]:=by rw[←HKS.out,Rul.zCO h5];rfl
  clear h5
  go_wp2_with fail
  go_ret2
  exact⟨rfl,WR.out⟩
end Go.Proofs.YtjlchookakbomaaGreatDoor
