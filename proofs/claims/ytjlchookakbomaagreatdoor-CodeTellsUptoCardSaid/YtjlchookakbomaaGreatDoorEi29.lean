/- The walk of linguisterref1.RelHolds: does a right relation hold? Condition: it lies in memory as it says; its operand is one of six, its divisor is not below 0. -/
import Derived.Test.YtjlchookakbomaaGreatDoorEi17
set_option maxHeartbeats 20000000
set_option maxRecDepth 100000
namespace Go.Proofs.YtjlchookakbomaaGreatDoor
open Go.RowKit


theorem zBo (K X mod:Int) (no:Bool) (rs:List (Int×Int)) (oi ov ow of ot:Int) (a:Option Addr) (n c:Nat) (w:World) (hs:SlAt 2 RngC w (.slice a n c) rs) (hm0:0≤mod)
  (hK:(K=110∧X=oi∧ot=0)∨(K=105∧X=oi)∨(K=118∧X=ov)∨(K=119∧X=ow)∨(K=102∧X=of)∨(K=116∧X=ot)):
  Calls Tryz.prog 162 #[.agg #[.int .u8 K,.int .i64 mod,.bool no,.slice a n c],.agg #[.int .i64 oi,.int .i64 ov,.int .i64 ow,.int .i64 of,.int .i64 ot]] w fun e w'=>e= .returned (.bool (rs.any (Rul.rngHas (if mod=0 then X else X.tmod mod)) !=no))∧Below w.heap.size w w':=by
 obtain⟨A,cap,e,hm,hcell⟩:=hs.spread
 injection e with e1 e2 e3
 subst e1 e2 e3
 have HC:=lH hcell
 obtain⟨n,hn⟩: ∃n,rs.length=n:=⟨_,rfl⟩
 rw[hn] at hm⊢
 have HN:=lH hn
 unfold maxLen at hm
 have W1:=lH ((bA w (.cells #[.int .u8 K,.int .i64 mod,.bool no,.slice a n c] 240)).alloc (by simp) (.cells #[.int .i64 oi,.int .i64 ov,.int .i64 ow,.int .i64 of,.int .i64 ot] 176))
 have B1:=lH ((Boxed.made w #[.int .u8 K,.int .i64 mod,.bool no,.slice a n c] 240).alloc (.cells #[.int .i64 oi,.int .i64 ov,.int .i64 ow,.int .i64 of,.int .i64 ot] 176))
 clear hs hcell hn
 obtain⟨v,hv⟩: ∃v,(w.alloc (.cells #[.int .u8 K,.int .i64 mod,.bool no,.slice a n c] 240)).alloc (.cells #[.int .i64 oi,.int .i64 ov,.int .i64 ow,.int .i64 of,.int .i64 ot] 176)=v:=⟨_,rfl⟩
 rw[hv] at W1 B1
 have HV:=lH hv
 clear hv
 obtain⟨XX,hXX⟩: ∃XX,(if mod=0 then X else X.tmod mod)=XX:=⟨_,rfl⟩
 rw[hXX]
 have HXX:=lH hXX
 clear hXX
 obtain⟨PV,hPV⟩: ∃PV,(rs.any (Rul.rngHas XX) !=no)=PV:=⟨_,rfl⟩
 rw[hPV]
 have HPV:=lH hPV
 clear hPV
 rcases hK with⟨rfl,rfl,rfl⟩|⟨rfl,rfl⟩|⟨rfl,rfl⟩|⟨rfl,rfl⟩|⟨rfl,rfl⟩|⟨rfl,rfl⟩
 all_goals by_cases hmd:0<mod
 all_goals first
  | (have dm : decide (0 < mod) = true := zAd hmd
     have hne : mod ≠ 0 := by omega
     obtain rfl : XX = X.tmod mod := by rw [← HXX.out, if_neg (by omega)]
     clear HXX
     go_enter Tryz.func162, Tryz.ntmps162
     go_wp2_with fail
     rw [HV.out]
     clear HV
     generalize X.tmod mod = XX at *
     clear dm hmd hne)
  | (have dm : decide (0 < mod) = false := zAa hmd
     obtain rfl : mod = 0 := by omega
     obtain rfl : XX = X := by rw [← HXX.out, if_pos rfl]
     clear HXX
     go_enter Tryz.func162, Tryz.ntmps162
     go_wp2_with fail
     rw [HV.out]
     clear HV dm hmd hm0)
 all_goals
  go_loopw [6,7] (fun s i wr=> ∃k:Nat,i= .int .i64 k∧k≤n∧s= .bool ((rs.take k).any (Rul.rngHas XX))∧Hid (Drew v wr)) (fun _ i _=>n-(intOf i).toNat)
  case atStart=>exact⟨0,rfl,Nat.zero_le _,rfl,Drew.refl _⟩
  case round=>
   obtain⟨k,rfl,hk,rfl,HD⟩:=hrel
   have K3:=(B1.out.below HD.out.below).cell 3 _ rfl
   have K2:=(B1.out.below HD.out.below).cell 2 _ rfl
   have KL:=(B1.out.below HD.out.below).lt
   by_cases hlt:k<n
   ·obtain⟨x,hx⟩: ∃x,rs[k]?=some x:=⟨rs[k]'(by have:=HN.out;omega),List.getElem?_eq_getElem (by have:=HN.out;omega)⟩
    obtain⟨b,off,rfl,hx0,hx1⟩:=HC.out k x hx
    have x0:=cK (cK hx0 W1.out) HD.out.below
    have x1:=cK (cK hx1 W1.out) HD.out.below
    have HT:=lH (any_take' (p:=Rul.rngHas XX) hx)
    have HO:=lH (show Rul.rngHas XX x=(decide (x.1≤XX)&&decide (XX≤x.2)) from rfl)
    generalize Rul.rngHas XX x=RH at*
    clear hx hx0 hx1
    obtain⟨p,q⟩:=x
    dsimp only at*
    obtain⟨A1,hA1⟩: ∃A1,(rs.take (k+1)).any (Rul.rngHas XX)=A1:=⟨_,rfl⟩
    rw[hA1] at HT
    have HA1:=lH hA1
    clear hA1
    generalize (rs.take k).any (Rul.rngHas XX)=A0 at*
    have k0:(0:Int)≤(k:Int):=by omega
    have k1:(k:Int)<(n:Int):=by omega
    cases A0 with
    |true=>
     obtain rfl:A1=true:=by rw[HT.out];rfl
     go_wp2_with fail
     go_roundw
     case rel=>exact⟨k+1,by go_num,by omega,by rw[HA1.out],HD⟩
     case measure=>simp[intOf];omega
    |false=>
     by_cases g0:p≤XX
     ·have d0:decide (p≤XX)=true:=zAd g0
      have d0':decide (XX≥p)=true:=zAd g0
      by_cases g1:XX≤q
      ·have d1:decide (XX≤q)=true:=zAd g1
       obtain rfl:A1=true:=by rw[HT.out,HO.out,d0,d1];rfl
       go_wp2_with fail
       go_roundw
       case rel=>exact⟨k+1,by go_num,by omega,by rw[HA1.out],HD⟩
       case measure=>simp[intOf];omega
      have d1:decide (XX≤q)=false:=zAa g1
      obtain rfl:A1=false:=by rw[HT.out,HO.out,d0,d1];rfl
      go_wp2_with fail
      go_roundw
      case rel=>exact⟨k+1,by go_num,by omega,by rw[HA1.out],HD⟩
      case measure=>simp[intOf];omega
     have d0:decide (p≤XX)=false:=zAa g0
     have d0':decide (XX≥p)=false:=zAa g0
     obtain rfl:A1=false:=by rw[HT.out,HO.out,d0];rfl
     go_wp2_with fail
     go_roundw
     case rel=>exact⟨k+1,by go_num,by omega,by rw[HA1.out],HD⟩
     case measure=>simp[intOf];omega
   have e:k=n:=by omega
   subst e
   have hf:(rs.take k).any (Rul.rngHas XX)=rs.any (Rul.rngHas XX):=by rw[List.take_of_length_le (by have:=HN.out;omega)]
   rw[hf]
   generalize rs.any (Rul.rngHas XX)=AA at*
   clear hf
   go_wp2_with fail
   go_ret
   exact⟨zAg (by rw[←HPV.out];cases AA<;>cases no<;>rfl),W1.out.trans (Below.mono HD.out.below W1.out.size)⟩

theorem zIL (mod:Int) (no:Bool) (oi ov ow of ot:Int) (a:Option Addr) (n c:Nat) (w:World) (ht:ot≠0):
  Calls Tryz.prog 162 #[.agg #[.int .u8 110,.int .i64 mod,.bool no,.slice a n c],.agg #[.int .i64 oi,.int .i64 ov,.int .i64 ow,.int .i64 of,.int .i64 ot]] w fun e w'=>e= .returned (.bool no)∧Below w.heap.size w w':=by
 have t0:(ot==0)=false:=zAe ht
 have W1:=lH ((bA w (.cells #[.int .u8 110,.int .i64 mod,.bool no,.slice a n c] 240)).alloc (by simp) (.cells #[.int .i64 oi,.int .i64 ov,.int .i64 ow,.int .i64 of,.int .i64 ot] 176))
 go_enter Tryz.func162,Tryz.ntmps162
 go_wp2_with fail
 go_ret
 exact⟨rfl,W1.out⟩
theorem zGI (x:Rul.Rl) (o:Rul.Op5) (a:Option Addr) (n c:Nat) (w:World) (hs:SlAt 2 RngC w (.slice a n c) x.rs) (hok:Rul.relOk x=true):
  Calls Tryz.prog 162 #[.agg #[.int .u8 (x.op.toNat:Int),.int .i64 x.mod,.bool x.no,.slice a n c],.agg #[.int .i64 o.i,.int .i64 o.v,.int .i64 o.w,.int .i64 o.f,.int .i64 o.t]] w fun e w'=>e= .returned (.bool (Rul.relH x o))∧Below w.heap.size w w':=by
 obtain⟨h1,h2,_,_,_⟩:=Rul.zAT hok
 have e:Rul.relH x o=((x.rs.any (Rul.rngHas (Rul.opx x o))&&(!decide (x.op=110)||decide (o.t=0))) !=x.no):=rfl
 rw[e]
 obtain⟨op,mod,no,rs⟩:=x
 obtain⟨oi,ov,ow,of,ot⟩:=o
 dsimp only at*
 rcases Rul.zBr h1 with rfl|rfl|rfl|rfl|rfl|rfl
 ·by_cases ht:ot=0
  ·subst ht
   exact(zBo 110 oi mod no rs oi ov ow of 0 a n c w hs h2 (.inl ⟨rfl,rfl,rfl⟩)).mono fun e w' h=>by simpa[Rul.opx,Rul.opv] using h
  exact(zIL mod no oi ov ow of ot a n c w ht).mono fun e w' h=>by simpa[ht] using h
 ·exact(zBo 105 oi mod no rs oi ov ow of ot a n c w hs h2 (.inr (.inl ⟨rfl,rfl⟩))).mono fun e w' h=>by simpa[Rul.opx,Rul.opv] using h
 ·exact(zBo 118 ov mod no rs oi ov ow of ot a n c w hs h2 (.inr (.inr (.inl ⟨rfl,rfl⟩)))).mono fun e w' h=>by simpa[Rul.opx,Rul.opv] using h
 ·exact(zBo 119 ow mod no rs oi ov ow of ot a n c w hs h2 (.inr (.inr (.inr (.inl ⟨rfl,rfl⟩))))).mono fun e w' h=>by simpa[Rul.opx,Rul.opv] using h
 ·exact(zBo 102 of mod no rs oi ov ow of ot a n c w hs h2 (.inr (.inr (.inr (.inr (.inl ⟨rfl,rfl⟩)))))).mono fun e w' h=>by simpa[Rul.opx,Rul.opv] using h
 exact(zBo 116 ot mod no rs oi ov ow of ot a n c w hs h2 (.inr (.inr (.inr (.inr (.inr ⟨rfl,rfl⟩)))))).mono fun e w' h=>by simpa[Rul.opx,Rul.opv] using h
end Go.Proofs.YtjlchookakbomaaGreatDoor
