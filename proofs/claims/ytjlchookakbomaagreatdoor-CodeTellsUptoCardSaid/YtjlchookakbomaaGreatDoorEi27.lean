/- The walk of linguisterref1.RelFault: is it no relation? Condition: it lies in memory as it says. -/
import Derived.Test.YtjlchookakbomaaGreatDoorEi16
set_option maxHeartbeats 4000000
set_option maxRecDepth 100000
namespace Go.Proofs.YtjlchookakbomaaGreatDoor
open Go.RowKit

def relR (mod:Int) (rs:List (Int×Int)):Bool:=decide (0≤mod)&&decide (mod≤1000000)&&!rs.isEmpty&&rs.all Rul.rngOk

theorem zG6 (opI mod:Int) (no:Bool) (rs:List (Int×Int)) (a:Option Addr) (n c:Nat) (w:World) (hs:SlAt 2 RngC w (.slice a n c) rs)
  (hop:opI=110∨opI=105∨opI=118∨opI=119∨opI=102∨opI=116):
  Calls Tryz.prog 189 #[.agg #[.int .u8 opI,.int .i64 mod,.bool no,.slice a n c]] w fun e w'=>e= .returned (.bool (!relR mod rs))∧Below w.heap.size w w':=by
 have HR:=lH (show relR mod rs=(decide (0≤mod)&&decide (mod≤1000000)&&!rs.isEmpty&&rs.all Rul.rngOk) from rfl)
 generalize relR mod rs=R at*
 obtain⟨A,cap,e,hm,hcell⟩:=hs.spread
 injection e with e1 e2 e3
 subst e1 e2 e3
 have HC:=lH hcell
 have hE:rs.isEmpty=decide ((rs.length:Int)=0):=by cases rs<;>simp<;>omega
 rw[hE] at HR
 obtain⟨n,hn⟩: ∃n,rs.length=n:=⟨_,rfl⟩
 rw[hn] at hm HR⊢
 have HN:=lH hn
 unfold maxLen at hm
 have W1:=lH (bA w (.cells #[.int .u8 opI,.int .i64 mod,.bool no,.slice a n c] 240))
 have B1:=lH (Boxed.made w #[.int .u8 opI,.int .i64 mod,.bool no,.slice a n c] 240)
 clear hs hcell hn hE
 obtain⟨v,hv⟩: ∃v,w.alloc (.cells #[.int .u8 opI,.int .i64 mod,.bool no,.slice a n c] 240)=v:=⟨_,rfl⟩
 rw[hv] at W1 B1
 have HV:=lH hv
 clear hv
 rcases hop with rfl|rfl|rfl|rfl|rfl|rfl
 all_goals
  by_cases h0:mod<0
  ·obtain rfl:R=false:=by rw[HR.out,zAa (show ¬0≤mod by omega)];rfl
   have d0:decide (mod<0)=true:=zAd h0
   go_enter Tryz.func189,Tryz.ntmps189
   go_wp2_with fail
   go_ret
   exact⟨rfl,by rw[HV.out];exact W1.out⟩
  have d0:decide (mod<0)=false:=zAa h0
  by_cases h1:1000000<mod
  ·obtain rfl:R=false:=by rw[HR.out,zAd (show 0≤mod by omega),zAa (show ¬mod≤1000000 by omega)];rfl
   have d1:decide (1000000<mod)=true:=zAd h1
   go_enter Tryz.func189,Tryz.ntmps189
   go_wp2_with fail
   go_ret
   exact⟨rfl,by rw[HV.out];exact W1.out⟩
  have d1:decide (1000000<mod)=false:=zAa h1
  by_cases h2:(n:Int)=0
  ·obtain rfl:R=false:=by rw[HR.out,zAd (show 0≤mod by omega),zAd (show mod≤1000000 by omega),zAd h2];rfl
   have e2:((n:Int)==0)=true:=zAo h2
   go_enter Tryz.func189,Tryz.ntmps189
   go_wp2_with fail
   go_ret
   exact⟨rfl,by rw[HV.out];exact W1.out⟩
  obtain rfl:R=rs.all Rul.rngOk:=by rw[HR.out,zAd (show 0≤mod by omega),zAd (show mod≤1000000 by omega),zAa h2];simp
  have e2:((n:Int)==0)=false:=zAe h2
  clear HR
  go_enter Tryz.func189,Tryz.ntmps189
  go_wp2_with fail
  rw[HV.out]
  clear HV
  clear h0 h1 h2 d0 d1 e2
  go_loopw [3] (fun i wr=> ∃k:Nat,i= .int .i64 k∧k≤n∧Hid (Drew v wr)∧Hid ((rs.take k).all Rul.rngOk=true)) (fun i _=>n-(intOf i).toNat)
  case atStart=>exact⟨0,rfl,Nat.zero_le _,Drew.refl _,lH (by simp)⟩
  case round=>
   obtain⟨k,rfl,hk,HD,HA⟩:=hrel
   have K3:=(B1.out.below HD.out.below).cell 3 _ rfl
   by_cases hlt:k<n
   ·obtain⟨x,hx⟩: ∃x,rs[k]?=some x:=⟨rs[k]'(by have:=HN.out;omega),List.getElem?_eq_getElem (by have:=HN.out;omega)⟩
    obtain⟨b,off,rfl,hx0,hx1⟩:=HC.out k x hx
    have x0:=cK (cK hx0 W1.out) HD.out.below
    have x1:=cK (cK hx1 W1.out) HD.out.below
    have HT:=lH (zB9 (p:=Rul.rngOk) hx HA.out)
    have HF:Hid (Rul.rngOk x=false→rs.all Rul.rngOk=false):=lH fun h=>by
     rw[List.all_eq_false]
     exact⟨x,List.mem_of_getElem? hx,by rw[h];decide⟩
    have HO:=lH (show Rul.rngOk x=(decide (0≤x.1)&&decide (x.1≤x.2)&&decide (x.2≤1000000)) from rfl)
    clear hx hx0 hx1
    obtain⟨p,q⟩:=x
    dsimp only at*
    have k0:(0:Int)≤(k:Int):=by omega
    have k1:(k:Int)<(n:Int):=by omega
    by_cases g0:p<0
    ·have gd:decide (p<0)=true:=zAd g0
     have hf:=HF.out (by rw[HO.out,zAa (show ¬0≤p by omega)];rfl)
     go_wp2_with fail
     go_region
     go_wp2_with fail
     go_ret
     exact⟨zAg (by rw[hf];rfl),W1.out.trans (Below.mono (Below.drew HD.out.below) W1.out.size)⟩
    have gd:decide (p<0)=false:=zAa g0
    by_cases g1:q<p
    ·have gd1:decide (q<p)=true:=zAd g1
     have hf:=HF.out (by rw[HO.out,zAa (show ¬p≤q by omega)];simp)
     go_wp2_with fail
     go_region
     go_wp2_with fail
     go_ret
     exact⟨zAg (by rw[hf];rfl),W1.out.trans (Below.mono (Below.drew HD.out.below) W1.out.size)⟩
    have gd1:decide (q<p)=false:=zAa g1
    by_cases g2:1000000<q
    ·have gd2:decide (1000000<q)=true:=zAd g2
     have hf:=HF.out (by rw[HO.out,zAa (show ¬q≤1000000 by omega)];simp)
     go_wp2_with fail
     go_region
     go_wp2_with fail
     go_ret
     exact⟨zAg (by rw[hf];rfl),W1.out.trans (Below.mono (Below.drew HD.out.below) W1.out.size)⟩
    have gd2:decide (1000000<q)=false:=zAa g2
    have ht:=lH (HT.out (by rw[HO.out,zAd (show 0≤p by omega),zAd (show p≤q by omega),zAd (show q≤1000000 by omega)];rfl))
    go_wp2_with fail
    go_region
    go_wp2_with fail
    go_roundw
    case rel=>exact⟨k+1,by go_num,by omega,lH (HD.out.drewN 1),ht⟩
    case measure=>simp[intOf];omega
   have e:k=n:=by omega
   subst e
   have hf:rs.all Rul.rngOk=true:=by have:=HA.out;rwa [List.take_of_length_le (by have:=HN.out;omega)] at this
   go_wp2_with fail
   go_ret
   exact⟨zAg (by rw[hf];rfl),W1.out.trans (Below.mono HD.out.below W1.out.size)⟩
theorem zGF (opI mod:Int) (no:Bool) (a:Option Addr) (n c:Nat) (w:World) (h0:opI≠110) (h1:opI≠105) (h2:opI≠118) (h3:opI≠119) (h4:opI≠102) (h5:opI≠116):
  Calls Tryz.prog 189 #[.agg #[.int .u8 opI,.int .i64 mod,.bool no,.slice a n c]] w fun e w'=>e= .returned (.bool true)∧Below w.heap.size w w':=by
 have e0:(opI==110)=false:=zAe h0
 have e1:(opI==105)=false:=zAe h1
 have e2:(opI==118)=false:=zAe h2
 have e3:(opI==119)=false:=zAe h3
 have e4:(opI==102)=false:=zAe h4
 have e5:(opI==116)=false:=zAe h5
 have f0:(opI !=110)=true:=by rw[bne,e0];rfl
 have f1:(opI !=105)=true:=by rw[bne,e1];rfl
 have f2:(opI !=118)=true:=by rw[bne,e2];rfl
 have f3:(opI !=119)=true:=by rw[bne,e3];rfl
 have f4:(opI !=102)=true:=by rw[bne,e4];rfl
 have f5:(opI !=116)=true:=by rw[bne,e5];rfl
 go_enter Tryz.func189,Tryz.ntmps189
 go_wp2_with fail
 go_ret
 exact⟨rfl,bA _ _⟩
theorem zCA {c:UInt8} {k:Nat} (hk:k<256) (h:c≠UInt8.ofNat k):(c.toNat:Int)≠(k:Int):=fun e=>h (by
 apply UInt8.toNat_inj.1
 rw[UInt8.toNat_ofNat']
 omega)
theorem zGG (x:Rul.Rl) (a:Option Addr) (n c:Nat) (w:World) (hs:SlAt 2 RngC w (.slice a n c) x.rs):
  Calls Tryz.prog 189 #[.agg #[.int .u8 (x.op.toNat:Int),.int .i64 x.mod,.bool x.no,.slice a n c]] w fun e w'=>e= .returned (.bool (!Rul.relOk x))∧Below w.heap.size w w':=by
 by_cases h:Rul.opOk x.op=true
 ·have e:Rul.relOk x=relR x.mod x.rs:=by unfold Rul.relOk relR;rw[h];simp
  rw[e]
  refine zG6 _ x.mod x.no x.rs a n c w hs ?_
  rcases Rul.zBr h with e|e|e|e|e|e<;>rw[e]<;>decide
 have e:Rul.relOk x=false:=by
  unfold Rul.relOk
  rw[show Rul.opOk x.op=false by simpa using h];rfl
 rw[e]
 have hh: ∀k:UInt8,k∈([110,105,118,119,102,116]:List UInt8)→x.op≠k:=fun k hk e'=>h (by unfold Rul.opOk;rw[e'];simpa using hk)
 exact zGF _ x.mod x.no a n c w (zCA (k:=110) (by omega) (hh 110 (by simp))) (zCA (k:=105) (by omega) (hh 105 (by simp))) (zCA (k:=118) (by omega) (hh 118 (by simp))) (zCA (k:=119) (by omega) (hh 119 (by simp))) (zCA (k:=102) (by omega) (hh 102 (by simp))) (zCA (k:=116) (by omega) (hh 116 (by simp)))
end Go.Proofs.YtjlchookakbomaaGreatDoor
