/- The walk of linguisterref1.RuleOf: the rule that the reference reads of a text, if it tells that text. Condition: the text is short. -/
import Derived.Test.YtjlchookakbomaaGreatDoorEi27
import Derived.Test.YtjlchookakbomaaGreatDoorEi26
set_option maxHeartbeats 8000000
set_option maxRecDepth 100000
namespace Go.Proofs.YtjlchookakbomaaGreatDoor
open Go.RowKit

theorem zEO (r:Rul.Rule) (b off cap n:Nat) (w:World) (hn:r.length=n) (h0:0<n) (hm:n≤1000000000) (hcn:Rul.count r≤1000000000) (hc: ∀(j:Nat) x,r[j]?=some x→PartC w b (off+j*1) x):
  Calls Tryz.prog 160 #[.slice (some ⟨b,off,none⟩) n cap] w fun e w'=>e= .returned (.int .i64 (Rul.ruleE r))∧Below w.heap.size w w':=by
 have HC:=lH hc
 have HN:=lH hn
 have HCN:=lH hcn
 have n0:((n:Int)==0)=false:=zAe (by omega)
 have HBP:=lH fun k l (h:r[k]?=some l) (hb:Rul.partOk l=false)=>zGz h hb
 have HOK:=lH fun (h:r.all Rul.partOk=true)=>zGA (by omega) h
 generalize hE:Rul.ruleE r=E at*
 clear hc hn hcn hE
 go_enter Tryz.func160,Tryz.ntmps160
 go_wp2_with fail
 go_loopw [3,4] (fun s i wr=> ∃k:Nat,i= .int .i64 k∧k≤n∧s= .int .i64 (Rul.count (r.take k):Nat)∧Hid ((r.take k).all Rul.partOk=true)∧Hid (Below w.heap.size w wr)) (fun _ i _=>n-(intOf i).toNat)
 case atStart=>exact⟨0,rfl,Nat.zero_le _,rfl,lH (by simp),lH (Below.refl _ _)⟩
 case round=>
  obtain⟨k,rfl,hk,rfl,HA,HD⟩:=hrel
  by_cases hlt:k<n
  ·obtain⟨l,hl⟩: ∃x,r[k]?=some x:=⟨r[k]'(by have:=HN.out;omega),List.getElem?_eq_getElem (by have:=HN.out;omega)⟩
   have HLK:=lH hl
   have hct:=zCW hl
   have hcl:=zGy hl
   have hcb:=HCN.out
   obtain⟨pa,pn,pc,p0,ps⟩:=HC.out k l hl
   rw[Nat.mul_one] at p0
   have x0:=cK p0 HD.out
   obtain⟨A1,cap1,e1,hm1,hcell1⟩:=ps.spread
   injection e1 with e1 e1' e1''
   subst e1 e1' e1''
   have P0:=lH p0
   have HC1:=lH hcell1
   obtain⟨m,hmm⟩: ∃m,l.length=m:=⟨_,rfl⟩
   rw[hmm] at x0 P0 hct hcl
   have HX:=lH hmm
   generalize hcc:Rul.count (r.take k)=cc at*
   generalize hc2:Rul.count (r.take (k+1))=c2 at*
   have HC2:=lH hc2
   clear hl ps p0 hcell1 hm1 hmm hcc hc2
   have k0:(0:Int)≤(k:Int):=by omega
   have k1:(k:Int)<(n:Int):=by omega
   by_cases hm0:m=0
   ·subst hm0
    obtain rfl:E=3:=HBP.out k l HLK.out (by
     have:l= []:=List.eq_nil_of_length_eq_zero HX.out
     rw[this];rfl)
    go_wp2_with fail
    go_ret
    exact⟨rfl,HD.out⟩
   have m0:((m:Int)==0)=false:=zAe (by omega)
   go_wp2_with fail
   go_loopw [3,5] (fun s i wr=> ∃j:Nat,i= .int .i64 j∧j≤m∧s= .int .i64 ((cc+j:Nat):Int)∧Hid ((l.take j).all Rul.relOk=true)∧Hid (Below w.heap.size w wr)) (fun _ i _=>m-(intOf i).toNat)
   case atStart=>exact⟨0,rfl,Nat.zero_le _,rfl,lH (by simp),HD⟩
   case round=>
    obtain⟨j,rfl,hj,rfl,HA2,HI⟩:=hrel
    have x1:=cK P0.out HI.out
    by_cases hjm:j<m
    ·obtain⟨y,hy⟩: ∃y,l[j]?=some y:=⟨l[j]'(by have:=HX.out;omega),List.getElem?_eq_getElem (by have:=HX.out;omega)⟩
     obtain⟨b1,o1,rfl,ra,rn,rc,r0,r1,r2,r3,rs⟩:=HC1.out j y hy
     have z0:=cK r0 HI.out
     have z1:=cK r1 HI.out
     have z2:=cK r2 HI.out
     have z3:=cK r3 HI.out
     have CS:=lH (zGG y ra rn rc wr (rs.rngs_below HI.out))
     have HY:=lH hy
     clear hy r0 r1 r2 r3 rs HC1
     have j0:(0:Int)≤(j:Int):=by omega
     have j1:(j:Int)<(m:Int):=by omega
     cases ho:Rul.relOk y with
     |true=>
      rw[ho] at CS
      have HA3:=lH (zB9 HY.out HA2.out ho)
      clear ho
      go_wp2_with fail
      refine CS.out.mono ?_
      rintro e w5 ⟨rfl,hb⟩
      have W5:=lH (bT HI.out hb)
      clear hb CS z0 z1 z2 z3 x1
      go_wp2_with fail
      go_roundw
      case rel=>exact⟨j+1,by go_num,by omega,by rw[show((cc+(j+1):Nat):Int)=((cc+j:Nat):Int)+1 by omega];first|rfl|go_num,HA3,W5⟩
      case measure=>simp[intOf];omega
     |false=>
      rw[ho] at CS
      obtain rfl:E=3:=HBP.out k l HLK.out (zEM HY.out ho)
      clear ho
      go_wp2_with fail
      refine CS.out.mono ?_
      rintro e w5 ⟨rfl,hb⟩
      have W5:=lH (bT HI.out hb)
      clear hb CS z0 z1 z2 z3 x1
      go_wp2_with fail
      go_ret
      exact⟨rfl,W5.out⟩
    have e:j=m:=by omega
    subst e
    have hp:Rul.partOk l=true:=by
     have h2:=HA2.out
     rw[List.take_of_length_le (by have:=HX.out;omega)] at h2
     unfold Rul.partOk
     rw[h2]
     have:l≠ []:=fun e=>by have h3:=HX.out;rw[e] at h3;simp at h3;omega
     cases l with
     |nil=>exact absurd rfl this
     |cons=>rfl
    have HA4:=lH (zB9 HLK.out HA.out hp)
    clear hp
    go_wp2_with fail
    go_roundw
    case rel=>exact⟨k+1,by go_num,by omega,by rw[HC2.out,hct],HA4,HI⟩
    case measure=>simp[intOf];omega
  have e:k=n:=by omega
  subst e
  have hall:r.all Rul.partOk=true:=by have:=HA.out;rwa [List.take_of_length_le (by have:=HN.out;omega)] at this
  have he:=HOK.out hall
  have htk:Rul.count (r.take k)=Rul.count r:=by rw[List.take_of_length_le (by have:=HN.out;omega)]
  rw[htk]
  have hcb:=HCN.out
  generalize Rul.count r=cr at*
  clear htk hall
  by_cases h20:20<cr
  ·have d:decide (20<(cr:Int))=true:=zAd (by omega)
   rw[if_pos h20] at he
   subst he
   go_wp2_with fail
   go_ret
   exact⟨rfl,HD.out⟩
  have d:decide (20<(cr:Int))=false:=zAa (by omega)
  rw[if_neg h20] at he
  subst he
  go_wp2_with fail
  go_ret
  exact⟨rfl,HD.out⟩
theorem zEP (A:Option Addr) (c:Nat) (w:World):Calls Tryz.prog 160 #[.slice A 0 c] w fun e w'=>e= .returned (.int .i64 3)∧Below w.heap.size w w':=by
 go_enter Tryz.func160,Tryz.ntmps160
 go_wp2_with fail
 go_ret
 exact⟨rfl,Below.refl _ _⟩
theorem zFB (r:Rul.Rule) (A:Option Addr) (n c:Nat) (w:World) (hr:SlAt 1 PartC w (.slice A n c) r) (hl:r.length≤1000000000) (hc:Rul.count r≤1000000000):
  Calls Tryz.prog 160 #[.slice A n c] w fun e w'=>e= .returned (.int .i64 (Rul.ruleE r))∧Below w.heap.size w w':=by
 rcases hr with⟨rfl,a,c',e⟩|⟨b,off,cap,e,h0,_,_,h3⟩
 ·injection e with e1 e2 e3
  subst e2
  exact zEP _ _ w
 injection e with e1 e2 e3
 subst e1 e2 e3
 exact zEO r b off _ _ w rfl h0 (by omega) hc h3
open Go.RowKit

def headQ (r:Rul.Rl):List UInt8:=Rul.headT r++(if r.no then [32,33,61] else [32,61])
def txtQ (r:Rul.Rl) (k:Nat):List UInt8:=if k=0 then headQ r else headQ r++ [32]++Lst.upto (r.rs.map Rul.rngT) [44] k
theorem zJS (r:Rul.Rl) (k:Nat) (x:Int×Int) (h:r.rs[k]?=some x):txtQ r (k+1)=txtQ r k++(if k=0 then [32] else [44])++Rul.rngT x:=by
 have hx:(r.rs.map Rul.rngT)[k]?=some (Rul.rngT x):=by rw[List.getElem?_map,h];rfl
 unfold txtQ
 by_cases hk:k=0
 ·subst hk
  rw[if_neg (by omega),if_pos rfl,if_pos rfl,Lst.zGa _ _ _ hx]
 rw[if_neg (by omega),if_neg hk,if_neg hk,Lst.zFa _ _ _ _ (by omega) hx]
 simp[List.append_assoc]
theorem zLi (r:Rul.Rl) (h:r.rs≠ []):txtQ r r.rs.length=Rul.relT r:=by
 unfold txtQ
 rw[if_neg (by have:=List.length_pos_iff.2 h;omega),Lst.zGb _ _ _ (by simp)]
 unfold headQ Rul.relT
 cases r.no<;>simp[Rul.neS,Rul.eqS,List.append_assoc]
theorem zLj (r:Rul.Rl) (hok:Rul.relOk r=true) (k:Nat):(txtQ r k).length≤20+r.rs.length*17:=by
 obtain⟨_,_,h2,_,h4⟩:=Rul.zAT hok
 have hd:=Rul.zB5 h2
 have t:=Rul.zB6 (l:=r.rs.map Rul.rngT) (sep:= [44]) (k:=16) (fun x hx=>by
  obtain⟨p,hp,rfl⟩:=List.mem_map.1 hx
  exact Rul.zDY (h4 p hp))
 rw[List.length_map] at t
 have u:=Lst.zHx (r.rs.map Rul.rngT) [44] k
 have hh:(headQ r).length≤14:=by
  unfold headQ Rul.headT
  split<;>split<;>simp only[List.length_append,List.length_cons,List.length_nil,Rul.pcS]<;>omega
 simp only[List.length_cons,List.length_nil] at t
 unfold txtQ
 split
 ·omega
 simp only[List.length_append,List.length_cons,List.length_nil];omega

theorem zMO (r:Rul.Rl) (a:Option Addr) (n c:Nat) (w:World) (hs:SlAt 2 RngC w (.slice a n c) r.rs) (hok:Rul.relOk r=true) (hl:r.rs.length≤100000001):
  Calls Tryz.prog 190 #[.agg #[.int .u8 (r.op.toNat:Int),.int .i64 r.mod,.bool r.no,.slice a n c]] w fun e w'=>e= .returned (.string ⟨(Rul.relT r).toArray⟩)∧Below w.heap.size w w':=by
 obtain⟨hop,hm0,hm1,hne,hrk⟩:=Rul.zAT hok
 have HALL:=lH (zLi r hne)
 have HSTEP:=lH fun k x h=>zJS r k x h
 have HLEN:=lH fun k=>zLj r hok k
 have HHD:=lH (show txtQ r 0=Rul.headT r++(if r.no then [32,33,61] else [32,61]) from rfl)
 have HHT:=lH (show Rul.headT r=if r.mod=0 then [r.op] else [r.op]++ [32,37,32]++Rul.dg r.mod from rfl)
 have HRK:=lH hrk
 have hml:=Rul.zB5 hm1
 generalize Rul.relT r=RT at*
 generalize txtQ r=TX at*
 generalize Rul.headT r=HT at*
 obtain⟨op,mod,no,rs⟩:=r
 dsimp only at*
 obtain⟨A,cap,e,hm,hcell⟩:=hs.spread
 injection e with e1 e2 e3
 subst e1 e2 e3
 have HC:=lH hcell
 obtain⟨n,hn⟩: ∃n,rs.length=n:=⟨_,rfl⟩
 rw[hn] at hm hl HALL HLEN⊢
 have HN:=lH hn
 unfold maxLen at hm
 have W1:=lH (bA w (.cells #[.int .u8 (op.toNat:Int),.int .i64 mod,.bool no,.slice a n c] 240))
 have B1:=lH (Boxed.made w #[.int .u8 (op.toNat:Int),.int .i64 mod,.bool no,.slice a n c] 240)
 have CD:=lH fun (w:World)=>zBf mod w hm0 (by omega)
 clear hs hcell hn hrk hne hok hop
 have CV:=zBZ (P:= Tryz.prog) 72 9 5 Tryz.underlying72 Tryz.underlying5 Tryz.underlying9 (op.toNat:Int) (w.alloc (.cells #[.int .u8 (op.toNat:Int),.int .i64 mod,.bool no,.slice a n c] 240)) (by omega) (by have:=op.toNat_lt;omega)
 rw[show UInt8.ofNat (op.toNat:Int).toNat=op by simp,World.size_alloc] at CV
 have hw2: ∃w2,(w.alloc (.cells #[.int .u8 (op.toNat:Int),.int .i64 mod,.bool no,.slice a n c] 240)).alloc (.cells #[.int .u8 (op.toNat:Int)] 5)=w2:=⟨_,rfl⟩
 obtain⟨w2,hw2⟩:=hw2
 rw[hw2] at CV
 have W2:=lH (show Below w.heap.size w w2 by rw[←hw2];exact W1.out.alloc W1.out.size _)
 have B2:=lH (show Boxed w2 w.heap.size _ by rw[←hw2];exact B1.out.alloc _)
 clear W1 B1
 have x1:=B2.out.cell 1 _ rfl
 have x2:=B2.out.cell 2 _ rfl
 have xl:=B2.out.lt
 go_enter Tryz.func190,Tryz.ntmps190
 obtain⟨TT,hTT⟩: ∃TT,TX 0=TT:=⟨_,rfl⟩
 have HTT:=lH hTT
 go_upto_if 11 with fail
 clear CV hw2
 go_cut [3] from 11 (fun s wx=>s= .string ⟨HT.toArray⟩∧Hid (Boxed wx w.heap.size #[.int .u8 (op.toNat:Int),.int .i64 mod,.bool no,.slice a n c])∧Hid (Below w.heap.size w wx))
 case first=>
  by_cases hz:mod=0
  ·have d0:decide (0<mod)=false:=zAa (by omega)
   have hh:=HHT.out
   rw[if_pos hz] at hh
   subst hh
   go_wp2_with fail
   go_meet
   exact⟨rfl,B2,W2⟩
  have hmp:0<mod:=by omega
  have d0:decide (0<mod)=true:=zAd hmp
  have hh:=HHT.out
  rw[if_neg hz] at hh
  have ml:(Rul.dg mod).length≤7:=hml
  obtain⟨Y1,hY1⟩: ∃Y1,Y1= [op]++ [32,37,32]:=⟨_,rfl⟩
  obtain⟨DG,hDG⟩: ∃DG,Rul.dg mod=DG:=⟨_,rfl⟩
  have CD2:Hid (∀w:World,Calls Tryz.prog 75 #[.int .i64 mod,.int .i64 0] w fun e w'=>e= .returned (.string ⟨DG.toArray⟩)∧Below w.heap.size w w'):=lH fun w=>hDG▸CD.out w
  rw[hDG] at hh ml
  have A1: ∀w,(Op.stringOp .add ⟨[op].toArray⟩ ⟨#[32,37,32]⟩).run Tryz.prog w= .ok (.string ⟨Y1.toArray⟩) w:=fun w=>by rw[hY1];exact zAh (P:= Tryz.prog) [op] [32,37,32] (by simp) w
  have A2: ∀w,(Op.stringOp .add ⟨Y1.toArray⟩ ⟨DG.toArray⟩).run Tryz.prog w= .ok (.string ⟨HT.toArray⟩) w:=fun w=>by rw[hh,←hY1];exact zAh (P:= Tryz.prog) Y1 DG (by rw[hY1];simp;omega) w
  clear hY1 hh hDG hz CD
  go_wp2_with fail
  refine(CD2.out _).mono ?_
  rintro e w3 ⟨rfl,hb⟩
  have W3:=lH (bT W2.out hb)
  have B3:=lH (B2.out.below hb)
  clear hb CD2
  go_wp2_with fail
  go_meet
  exact⟨rfl,B3,W3⟩
 case rest=>
  obtain⟨rfl,B4,W4⟩:=hcut
  clear CD B2 W2 x1 x2 xl
  have x2:=B4.out.cell 2 _ rfl
  have xl:=B4.out.lt
  have hlen0:=HLEN.out 0
  have hhd:=HHD.out
  go_upto_if 19 with fail
  go_cut [3] from 19 (fun s wx=>s= .string ⟨TT.toArray⟩∧wx=wc)
  case first=>
   have hHTl:HT.length≤100000001*18:=by
    have h:=hlen0
    rw[hhd,List.length_append] at h
    omega
   cases no with
   |true=>
    have A3: ∀w,(Op.stringOp .add ⟨HT.toArray⟩ ⟨#[32,33,61]⟩).run Tryz.prog w= .ok (.string ⟨TT.toArray⟩) w:=fun w=>by rw[←HTT.out,hhd];exact zAh (P:= Tryz.prog) HT [32,33,61] (by first|omega|(simp;omega)) w
    go_wp2_with fail
    go_meet
    exact⟨rfl,rfl⟩
   |false=>
    have A3: ∀w,(Op.stringOp .add ⟨HT.toArray⟩ ⟨#[32,61]⟩).run Tryz.prog w= .ok (.string ⟨TT.toArray⟩) w:=fun w=>by rw[←HTT.out,hhd];exact zAh (P:= Tryz.prog) HT [32,61] (by first|omega|(simp;omega)) w
    go_wp2_with fail
    go_meet
    exact⟨rfl,rfl⟩
  case rest=>
   obtain⟨rfl,rfl⟩:=hcut
   clear hlen0 hhd HHD HHT x2 xl
   go_wp2_with fail
   go_loopw [3,4] (fun s i wr=> ∃k:Nat,i= .int .i64 k∧k≤n∧s= .string ⟨(TX k).toArray⟩∧Hid (Below w.heap.size w wr)∧Hid (Boxed wr w.heap.size #[.int .u8 (op.toNat:Int),.int .i64 mod,.bool no,.slice a n c])) (fun _ i _=>n-(intOf i).toNat)
   case atStart=>exact⟨0,rfl,Nat.zero_le _,by rw[HTT.out],W4,B4⟩
   case round=>
    obtain⟨k,rfl,hk,rfl,HD,HB⟩:=hrel
    have b3o:=HB.out.cell 3 _ rfl
    have blo:=HB.out.lt
    by_cases hlt:k<n
    ·obtain⟨x,hx⟩: ∃x,rs[k]?=some x:=⟨rs[k]'(by have:=HN.out;omega),List.getElem?_eq_getElem (by have:=HN.out;omega)⟩
     obtain⟨b,off,rfl,hx0,hx1⟩:=HC.out k x hx
     have HX:=lH (show ∀wx,Below w.heap.size w wx→wx.cell? ⟨b,off+k*2,none⟩=some (.int .i64 x.1)∧wx.cell? ⟨b,off+k*2+1,none⟩=some (.int .i64 x.2) from fun wx hb=>⟨cK hx0 hb,cK hx1 hb⟩)
     have x0o:=(HX.out wr HD.out).1
     have x1o:=(HX.out wr HD.out).2
     have HST:=lH (HSTEP.out k x hx)
     have hrg:=HRK.out x (List.mem_of_getElem? hx)
     have lp:=HLEN.out k
     have hrg':=hrg
     simp only[Rul.rngOk,Bool.and_eq_true,decide_eq_true_eq] at hrg'
     have HRT:=lH (show Rul.rngT x=if x.1=x.2 then Rul.dg x.1 else Rul.dg x.1++ [46,46]++Rul.dg x.2 from rfl)
     have la:=Rul.zB5 (v:=x.1) (by omega)
     have lb:=Rul.zB5 (v:=x.2) (by omega)
     have CA:Hid (∀w:World,Calls Tryz.prog 75 #[.int .i64 x.1,.int .i64 0] w fun e w'=>e= .returned (.string ⟨(Rul.dg x.1).toArray⟩)∧Below w.heap.size w w'):=lH fun w=>zBf x.1 w (by omega) (by omega)
     have CB:Hid (∀w:World,Calls Tryz.prog 75 #[.int .i64 x.2,.int .i64 0] w fun e w'=>e= .returned (.string ⟨(Rul.dg x.2).toArray⟩)∧Below w.heap.size w w'):=lH fun w=>zBf x.2 w (by omega) (by omega)
     generalize Rul.rngT x=RX at*
     obtain⟨p,q⟩:=x
     dsimp only at*
     generalize Rul.dg p=DA at*
     generalize Rul.dg q=DB at*
     obtain⟨TN,hTN⟩: ∃TN,TX (k+1)=TN:=⟨_,rfl⟩
     have HTN:=lH hTN
     obtain⟨P0,hP0⟩: ∃P0,TX k=P0:=⟨_,rfl⟩
     rw[hP0] at HST lp⊢
     clear hx hx0 hx1 hrg hTN hP0
     have k0:(0:Int)≤(k:Int):=by omega
     have k1:(k:Int)<(n:Int):=by omega
     have hpq':p≤q:=by omega
     clear hrg'
     by_cases hk0:k=0
     ·have HX2:=lH (show ∀wx,Below w.heap.size w wx→wx.cell? ⟨b,off,none⟩=some (.int .i64 p)∧wx.cell? ⟨b,off+1,none⟩=some (.int .i64 q) from fun wx hb=>by have h:=HX.out wx hb;rw[hk0] at h;simpa using h)
      rw[if_pos hk0] at HST
      subst hk0
      replace HX:=HX2
      clear HX2
      replace x0o:=(HX.out wr HD.out).1
      replace x1o:=(HX.out wr HD.out).2
      have kz:(((0:Nat):Int)==0)=true:=rfl
      obtain⟨Y1,hY1⟩: ∃Y1,Y1=P0++ [32]:=⟨_,rfl⟩
      have l1:Y1.length=P0.length+1:=by rw[hY1];simp
      have A1: ∀w,(Op.stringOp .add ⟨P0.toArray⟩ ⟨#[32]⟩).run Tryz.prog w= .ok (.string ⟨Y1.toArray⟩) w:=fun w=>by rw[hY1];exact zAh (P:= Tryz.prog) P0 [32] (by first|omega|(simp;omega)) w
      obtain⟨Y2,hY2⟩: ∃Y2,Y2=Y1++DA:=⟨_,rfl⟩
      have l2:Y2.length=Y1.length+DA.length:=by rw[hY2];simp
      have A2: ∀w,(Op.stringOp .add ⟨Y1.toArray⟩ ⟨DA.toArray⟩).run Tryz.prog w= .ok (.string ⟨Y2.toArray⟩) w:=fun w=>by rw[hY2];exact zAh (P:= Tryz.prog) Y1 DA (by first|omega|(simp;omega)) w
      have HY:Hid (Y2=P0++ [32]++DA):=lH (by rw[hY2,hY1])
      have hst:=HST.out
      have HS2:=lH hst
      clear hY1 hY2 hst
      go_wp2_with fail
      refine(CA.out _).mono ?_
      rintro e w5 ⟨rfl,hb⟩
      have W5:=lH (bT HD.out hb)
      have B5:=lH (HB.out.below hb)
      have b3:=B5.out.cell 3 _ rfl
      have bl:=B5.out.lt
      have x0:=(HX.out w5 W5.out).1
      have x1:=(HX.out w5 W5.out).2
      clear hb CA A1 b3o blo x0o x1o
      by_cases hpq:p=q
      ·subst hpq
       have dpq:decide (p<p)=false:=zAa (by omega)
       obtain rfl:TN=Y2:=by rw[←HTN.out,HS2.out,HY.out,HRT.out,if_pos rfl]
       go_wp2_with fail
       go_region
       go_wp2_with fail
       go_roundw
       case rel=>exact⟨0+1,by go_num,by omega,by rw[HTN.out],lH (Below.drew W5.out),lH B5.out.drew⟩
       case measure=>simp[intOf];omega
      have dpq:decide (p<q)=true:=zAd (by omega)
      obtain⟨Y3,hY3⟩: ∃Y3,Y3=Y2++ [46,46]:=⟨_,rfl⟩
      have l3:Y3.length=Y2.length+2:=by rw[hY3];simp
      have A3: ∀w,(Op.stringOp .add ⟨Y2.toArray⟩ ⟨#[46,46]⟩).run Tryz.prog w= .ok (.string ⟨Y3.toArray⟩) w:=fun w=>by rw[hY3];exact zAh (P:= Tryz.prog) Y2 [46,46] (by first|omega|(simp;omega)) w
      have hTN:TN=Y3++DB:=by rw[←HTN.out,HS2.out,hY3,HY.out,HRT.out,if_neg hpq];simp only[List.append_assoc]
      have A4: ∀w,(Op.stringOp .add ⟨Y3.toArray⟩ ⟨DB.toArray⟩).run Tryz.prog w= .ok (.string ⟨TN.toArray⟩) w:=fun w=>by rw[hTN];exact zAh (P:= Tryz.prog) Y3 DB (by first|omega|(simp;omega)) w
      have HTN2:=lH HTN.out
      clear hY3 hTN
      go_wp2_with fail
      go_region
      go_wp2_with fail
      refine(CB.out _).mono ?_
      rintro e w6 ⟨rfl,hb⟩
      have W6:=lH (bT (Below.drew W5.out) hb)
      have B6:=lH (B5.out.drew.below hb)
      clear hb CB A3
      go_wp2_with fail
      go_roundw
      case rel=>exact⟨0+1,by go_num,by omega,by rw[HTN2.out],W6,B6⟩
      case measure=>simp[intOf];omega
     have kz:((k:Int)==0)=false:=zAe (by omega)
     obtain⟨Y1,hY1⟩: ∃Y1,Y1=P0++ [44]:=⟨_,rfl⟩
     have l1:Y1.length=P0.length+1:=by rw[hY1];simp
     have A1: ∀w,(Op.stringOp .add ⟨P0.toArray⟩ ⟨#[44]⟩).run Tryz.prog w= .ok (.string ⟨Y1.toArray⟩) w:=fun w=>by rw[hY1];exact zAh (P:= Tryz.prog) P0 [44] (by first|omega|(simp;omega)) w
     obtain⟨Y2,hY2⟩: ∃Y2,Y2=Y1++DA:=⟨_,rfl⟩
     have l2:Y2.length=Y1.length+DA.length:=by rw[hY2];simp
     have A2: ∀w,(Op.stringOp .add ⟨Y1.toArray⟩ ⟨DA.toArray⟩).run Tryz.prog w= .ok (.string ⟨Y2.toArray⟩) w:=fun w=>by rw[hY2];exact zAh (P:= Tryz.prog) Y1 DA (by first|omega|(simp;omega)) w
     have HY:Hid (Y2=P0++ [44]++DA):=lH (by rw[hY2,hY1])
     have hst:=HST.out
     rw[if_neg hk0] at hst
     have HS2:=lH hst
     clear hY1 hY2 hst
     go_wp2_with fail
     refine(CA.out _).mono ?_
     rintro e w5 ⟨rfl,hb⟩
     have W5:=lH (bT HD.out hb)
     have B5:=lH (HB.out.below hb)
     have b3:=B5.out.cell 3 _ rfl
     have bl:=B5.out.lt
     have x0:=(HX.out w5 W5.out).1
     have x1:=(HX.out w5 W5.out).2
     clear hb CA A1 b3o blo x0o x1o
     by_cases hpq:p=q
     ·subst hpq
      have dpq:decide (p<p)=false:=zAa (by omega)
      obtain rfl:TN=Y2:=by rw[←HTN.out,HS2.out,HY.out,HRT.out,if_pos rfl]
      go_wp2_with fail
      go_region
      go_wp2_with fail
      go_roundw
      case rel=>exact⟨k+1,by go_num,by omega,by rw[HTN.out],lH (Below.drew W5.out),lH B5.out.drew⟩
      case measure=>simp[intOf];omega
     have dpq:decide (p<q)=true:=zAd (by omega)
     obtain⟨Y3,hY3⟩: ∃Y3,Y3=Y2++ [46,46]:=⟨_,rfl⟩
     have l3:Y3.length=Y2.length+2:=by rw[hY3];simp
     have A3: ∀w,(Op.stringOp .add ⟨Y2.toArray⟩ ⟨#[46,46]⟩).run Tryz.prog w= .ok (.string ⟨Y3.toArray⟩) w:=fun w=>by rw[hY3];exact zAh (P:= Tryz.prog) Y2 [46,46] (by first|omega|(simp;omega)) w
     have hTN:TN=Y3++DB:=by rw[←HTN.out,HS2.out,hY3,HY.out,HRT.out,if_neg hpq];simp only[List.append_assoc]
     have A4: ∀w,(Op.stringOp .add ⟨Y3.toArray⟩ ⟨DB.toArray⟩).run Tryz.prog w= .ok (.string ⟨TN.toArray⟩) w:=fun w=>by rw[hTN];exact zAh (P:= Tryz.prog) Y3 DB (by first|omega|(simp;omega)) w
     have HTN2:=lH HTN.out
     clear hY3 hTN
     go_wp2_with fail
     go_region
     go_wp2_with fail
     refine(CB.out _).mono ?_
     rintro e w6 ⟨rfl,hb⟩
     have W6:=lH (bT (Below.drew W5.out) hb)
     have B6:=lH (B5.out.drew.below hb)
     clear hb CB A3
     go_wp2_with fail
     go_roundw
     case rel=>exact⟨k+1,by go_num,by omega,by rw[HTN2.out],W6,B6⟩
     case measure=>simp[intOf];omega
    have e:k=n:=by omega
    subst e
    rw[HALL.out]
    go_wp2_with fail
    go_ret
    exact⟨rfl,HD.out⟩
open Go.RowKit

theorem zEq (l:List (List UInt8)) (v:Value) (sep:List UInt8) (w:World) (h:StrsAt w v l) (hn:l.length≤2000000000000) (ht:Lst.total l sep≤2000000000000) (hs:sep.length≤2000000000000):
  Calls Tryz.prog 191 #[v,.string ⟨sep.toArray⟩] w fun e w'=>e= .returned (.string ⟨(Lib.join l sep).toArray⟩)∧w=w':=by
 rcases h with⟨rfl,a,cap,rfl⟩|⟨b,off,cap,rfl,h0,hc,hm,hcell⟩
 ·go_enter Tryz.func191,Tryz.ntmps191
  go_wp2_with fail
  refine wp_loop_rounds 1 ?_
  rw[rounds_succ]
  go_wp2_with fail
  go_ret
  exact⟨rfl,rfl⟩
 have HC:=lH hcell
 have UL:=lH (Lst.zHx l sep)
 have Z:=lH (Lst.zJg l sep)
 have E:=lH (Lst.zGb l sep)
 clear hcell
 unfold maxLen at hm
 go_enter Tryz.func191,Tryz.ntmps191
 go_wp2_with fail
 go_loop [5,6] (fun s i=> ∃k:Nat,k≤l.length∧i= .int .i64 k∧s= .string ⟨(Lst.upto l sep k).toArray⟩) (fun _ i=>l.length-(intOf i).toNat)
 case atStart=>exact⟨0,Nat.zero_le _,rfl,by rw[Z.out]⟩
 case round=>
  obtain⟨k,hk,rfl,rfl⟩:=hrel
  have hu:=UL.out k
  by_cases hlt:k<l.length
  ·obtain⟨x,hx⟩: ∃x,l[k]?=some x:=⟨_,List.getElem?_eq_getElem hlt⟩
   have hxl:=Nat.le_trans (Lst.zL6 l k x hx) (show Lib.lens l≤2000000000000 by unfold Lst.total at ht;omega)
   have hcell:=HC.out k x hx
   have U2:=UL.out (k+1)
   by_cases hk0:0<k
   ·have US:=lH (Lst.zFa l sep x k hk0 hx)
    have A1:=fun w=>zAh (P:= Tryz.prog) (Lst.upto l sep k) sep (by omega) w
    have A2:=fun w=>zAh (P:= Tryz.prog) (Lst.upto l sep k++sep) x (by rw[List.length_append];omega) w
    clear hx U2
    go_wp2_with fail
    go_round
    case rel=>exact⟨k+1,by omega,by go_num,by rw[US.out,List.append_assoc]⟩
    case measure=>simp[intOf];omega
   have hk1:k=0:=by omega
   subst hk1
   have US:=lH (Lst.zGa l sep x hx)
   have Z':=Z.out
   simp only[Nat.add_zero] at hcell
   have A1:=fun w=>zAh (P:= Tryz.prog) [] x (by simp;omega) w
   clear hx U2
   rw[Z']
   go_wp2_with fail
   go_round
   case rel=>exact⟨1,by omega,by go_num,by rw[US.out]⟩
   case measure=>simp[intOf]<;>omega
  have e:l.length≤k:=by omega
  have EE:=lH (E.out k e)
  go_wp2_with fail
  go_ret
  exact⟨zBC (by rw[EE.out]),rfl⟩

open Go.RowKit

theorem zFu {w w':World} {base n k:Nat} {e:TypeId} {v:Value} {xs:List Value} (h:w.ownsRow base e k v n xs) (hb:Below w.heap.size w w'):w'.ownsRow base e k v n xs:=
 h.kept (zAU hb) (by cases v.ownBlock<;>simp)
theorem zDp {α:Type} {L:List α} {f:α→List UInt8} {k:Nat} {x:α} (h:L[k]?=some x):((L.take (k+1)).map f).map txtV=((L.take k).map f).map txtV++ [txtV (f x)]:=by
 rw[List.take_add_one,h];simp

theorem zFC (r:Rul.Rule) (b off cap n:Nat) (w:World) (hn:r.length=n) (hm:n≤20) (hok: ∀l∈r,l.length≤20∧ ∀x∈l,Rul.relOk x=true∧x.rs.length≤100000001)
  (ht:Lst.total (r.map Rul.partT) [32,111,114,32]≤2000000000000) (hpt: ∀l∈r,Lst.total (l.map Rul.relT) [32,97,110,100,32]≤2000000000000) (hc: ∀(j:Nat) x,r[j]?=some x→PartC w b (off+j*1) x):
  Calls Tryz.prog 161 #[.slice (some ⟨b,off,none⟩) n cap] w fun e w'=>e= .returned (.string ⟨(Rul.ruleT r).toArray⟩)∧Below w.heap.size w w':=by
 obtain⟨i0,hi,hz0,hz1,hz2⟩:=info_parts infoStr
 have HC:=lH hc
 have HN:=lH hn
 have HOK:=lH hok
 have HT:=lH ht
 have HPT:=lH hpt
 have HJ:=lH fun (v:Value) (wx:World) (h:StrsAt wx v (r.map Rul.partT))=>zEq (r.map Rul.partT) v [32,111,114,32] wx h (by rw[List.length_map];omega) ht (by simp)
 have HJ2:=lH fun (l:List Rul.Rl) (hl:l∈r) (v:Value) (wx:World) (h:StrsAt wx v (l.map Rul.relT))=>zEq (l.map Rul.relT) v [32,97,110,100,32] wx h (by rw[List.length_map];have:=(hok l hl).1;omega) (hpt l hl) (by simp)
 have HR:=lH (show Lib.join (r.map Rul.partT) [32,111,114,32]=Rul.ruleT r from rfl)
 have HR2:=lH fun l=>(show Lib.join (l.map Rul.relT) [32,97,110,100,32]=Rul.partT l from rfl)
 generalize Rul.ruleT r=RT at*
 clear hc hn hok ht hpt
 go_enter Tryz.func161,Tryz.ntmps161
 go_wp2_with fail
 go_loopw [3,4,5,6] (fun o i _ _ wr=> ∃k:Nat,i= .int .i64 k∧k≤n∧Hid (wr.ownsRow w.heap.size 9 1 o k (((r.take k).map Rul.partT).map txtV))∧Hid (Below w.heap.size w wr)) (fun _ i _ _ _=>n-(intOf i).toNat)
 case atStart=>exact⟨0,rfl,Nat.zero_le _,lH (World.ownsRow_nil _ _ _ _),lH (Below.refl _ _)⟩
 case round=>
  obtain⟨k,rfl,hk,HO,HD⟩:=hrel
  rename World=>wo
  by_cases hlt:k<n
  ·obtain⟨l,hl⟩: ∃x,r[k]?=some x:=⟨r[k]'(by have:=HN.out;omega),List.getElem?_eq_getElem (by have:=HN.out;omega)⟩
   have HLK:=lH hl
   have HLR:=lH (List.mem_of_getElem? hl)
   obtain⟨pa,pn,pc,p0,ps⟩:=HC.out k l hl
   rw[Nat.mul_one] at p0
   have x0:=cK p0 HD.out
   obtain⟨A1,cap1,e1,hm1,hcell1⟩:=ps.spread
   injection e1 with e1 e1' e1''
   subst e1 e1' e1''
   have P0:=lH p0
   have HC1:=lH hcell1
   have hml:=(HOK.out l HLR.out).1
   obtain⟨m,hmm⟩: ∃m,l.length=m:=⟨_,rfl⟩
   rw[hmm] at x0 P0 hml
   have HX:=lH hmm
   clear hl ps p0 hcell1 hm1 hmm
   have k0:(0:Int)≤(k:Int):=by omega
   have k1:(k:Int)<(n:Int):=by omega
   go_wp2_with fail
   go_loopw [5,6] (fun s i wx=> ∃j:Nat,i= .int .i64 j∧j≤m∧Hid (wx.ownsRow wo.heap.size 9 1 s j (((l.take j).map Rul.relT).map txtV))∧Hid (Below wo.heap.size wo wx)) (fun _ i _=>m-(intOf i).toNat)
   case atStart=>exact⟨0,rfl,Nat.zero_le _,lH (World.ownsRow_nil _ _ _ _),lH (Below.refl _ _)⟩
   case round=>
    obtain⟨j,rfl,hj,HO2,HI⟩:=hrel
    have HW:=lH (bT HD.out HI.out)
    have x1:=cK P0.out HW.out
    by_cases hjm:j<m
    ·obtain⟨y,hy⟩: ∃y,l[j]?=some y:=⟨l[j]'(by have:=HX.out;omega),List.getElem?_eq_getElem (by have:=HX.out;omega)⟩
     obtain⟨b1,o1,rfl,ra,rn,rc,r0,r1,r2,r3,rs⟩:=HC1.out j y hy
     have z0:=cK r0 HW.out
     have z1:=cK r1 HW.out
     have z2:=cK r2 HW.out
     have z3:=cK r3 HW.out
     have hyk:=(HOK.out l HLR.out).2 y (List.mem_of_getElem? hy)
     have CS:=lH (zMO y ra rn rc wr (rs.rngs_below HW.out) hyk.1 hyk.2)
     have HTA:=lH (zDp (f:=Rul.relT) hy)
     generalize Rul.relT y=yt at*
     clear hy r0 r1 r2 r3 rs HC1 hyk
     have j0:(0:Int)≤(j:Int):=by omega
     have j1:(j:Int)<(m:Int):=by omega
     go_wp2_with fail
     refine CS.out.mono ?_
     rintro e w5 ⟨rfl,hb⟩
     have W5:=lH (bT HI.out hb)
     have hown:=zFu HO2.out hb
     have hbs:=W5.out.size
     clear hb CS z0 z1 z2 z3 x1
     go_wp2_with (at_builtin;refine wpList_append_own _ rfl _ _ 97 rfl wo.heap.size 9 i0 (.string ByteArray.empty) 1 16 Tryz.underlying97 hi hz0 hz1 hz2 rfl (by decide) _ _ _ rfl (hown.alloc _) ⟨w5.heap.size,0,none⟩ 1 1 [txtV yt] rfl rfl (cell_one_new _ _ _) (fun x hx=>by simp at hx;subst hx;rfl) (by unfold maxLen;omega) (by omega) (by simp;omega) ?_;intro v' w1 hown' hgrow _)
     have HO':=lH (show w1.ownsRow wo.heap.size 9 1 v' (j+1) (((l.take (j+1)).map Rul.relT).map txtV) by rw[HTA.out];exact hown')
     have HB':=lH (show Below wo.heap.size wo w1 from(W5.out.alloc hbs _).grown hgrow (by simp;omega) (fun k hk=>(hown.lt k hk).1))
     clear hown hown' hgrow hbs
     go_wp2_with fail
     go_roundw
     case rel=>exact⟨j+1,by go_num,by omega,HO',HB'⟩
     case measure=>simp[intOf];omega
    have e:j=m:=by omega
    subst e
    have SA:=HO2.out
    rw[List.take_of_length_le (by have:=HX.out;omega)] at SA
    have CJ:=lH (HJ2.out l HLR.out _ wr (StrsAt.of_row SA))
    rw[HR2.out l] at CJ
    have HTA:=lH (zDp (f:=Rul.partT) HLK.out)
    have hown:=zFu HO.out HI.out
    have hbs:=HW.out.size
    generalize Rul.partT l=yt at*
    clear SA
    go_wp2_with fail
    refine CJ.out.mono ?_
    rintro e w5 ⟨rfl,rfl⟩
    clear CJ
    go_wp2_with (at_builtin;refine wpList_append_own _ rfl _ _ 97 rfl w.heap.size 9 i0 (.string ByteArray.empty) 1 16 Tryz.underlying97 hi hz0 hz1 hz2 rfl (by decide) _ _ _ rfl (hown.alloc _) ⟨wr.heap.size,0,none⟩ 1 1 [txtV yt] rfl rfl (cell_one_new _ _ _) (fun x hx=>by simp at hx;subst hx;rfl) (by unfold maxLen;omega) (by omega) (by simp;omega) ?_;intro v' w1 hown' hgrow _)
    have HO':=lH (show w1.ownsRow w.heap.size 9 1 v' (k+1) (((r.take (k+1)).map Rul.partT).map txtV) by rw[HTA.out];exact hown')
    have HB':=lH (show Below w.heap.size w w1 from(HW.out.alloc hbs _).grown hgrow (by simp;omega) (fun k hk=>(hown.lt k hk).1))
    clear hown hown' hgrow hbs
    go_wp2_with fail
    go_roundw
    case rel=>exact⟨k+1,by go_num,by omega,HO',HB'⟩
    case measure=>simp[intOf];omega
  have e:k=n:=by omega
  subst e
  have SA:=HO.out
  rw[List.take_of_length_le (by have:=HN.out;omega)] at SA
  have CJ:=lH (HJ.out _ _ (StrsAt.of_row SA))
  rw[HR.out] at CJ
  clear SA
  go_wp2_with fail
  refine CJ.out.mono ?_
  rintro e w5 ⟨rfl,rfl⟩
  go_wp2_with fail
  go_ret
  exact⟨rfl,HD.out⟩
theorem zGH (r:Rul.Rule) (A:Option Addr) (n c:Nat) (w:World) (hr:SlAt 1 PartC w (.slice A n c) r) (hE:Rul.ruleE r=0) (hrs: ∀l∈r,∀x∈l,x.rs.length≤100000001):
  Calls Tryz.prog 161 #[.slice A n c] w fun e w'=>e= .returned (.string ⟨(Rul.ruleT r).toArray⟩)∧Below w.heap.size w w':=by
 obtain⟨hs,hc⟩:=Rul.ruleE_zero.1 hE
 obtain⟨t1,t2⟩:=Rul.zFh hE hrs
 rcases hr with⟨rfl,a,c',e⟩|⟨b,off,cap,e,h0,_,_,h3⟩
 ·exact absurd rfl (Rul.zAC hs).1
 injection e with e1 e2 e3
 subst e1 e2 e3
 refine zFC r b off _ _ w rfl (by have:=Rul.zDi (fun l hl=>(Rul.zAE ((Rul.zAC hs).2 l hl)).1);omega) (fun l hl=>⟨Nat.le_trans (Rul.zCg hl) hc,fun x hx=>⟨(Rul.zAE ((Rul.zAC hs).2 l hl)).2 x hx,hrs l hl x hx⟩⟩) ?_ ?_ h3
 ·exact t1
 exact fun l hl=>(t2 l hl).2.1
open Go.RowKit Go.Shelf

def RuleOfPost (s:List UInt8) (w':World) (v:Value):Prop:=
 (Rul.okQ s=true∧ ∃a n c,v= .slice a n c∧SlAt 1 PartC w' (.slice a n c) (Rul.ruleQ s))∨(Rul.okQ s=false∧v= .slice none 0 0)

theorem zIK (s:List UInt8) (w:World) (ht:s.length≤100000000):
  Calls Tryz.prog 120 #[.string ⟨s.toArray⟩] w fun e w'=> ∃v,e= .returned (.tuple #[v,.bool (Rul.okQ s)])∧RuleOfPost s w' v∧Below w.heap.size w w':=by
 obtain⟨iR,hiR,hR0,hR1,hR2⟩:=info_parts infoRel
 obtain⟨iP,hiP,hP0,hP1,hP2⟩:=info_parts infoPart
 have CW:=lH fun w=>zCy s [32,111,114,32] w (by simp) (by omega) (by simp)
 have hL0:0<(Lib.split s [32,111,114,32]).length:=by rw[Spl.zBi (by simp)];omega
 have hLm:=Rul.zAA (s:=s) (sub:= [32,111,114,32]) (by simp)
 have HPL:=lH fun x (hx:x∈Lib.split s [32,111,114,32])=>zBn hx
 have hcnt:=Rul.zMN s
 have HCN:=lH hcnt
 have HRS:=lH (Rul.rs_Q s)
 have HOK:=lH (show Rul.okQ s=(decide (Rul.ruleE (Rul.ruleQ s)=0)&&(Rul.ruleT (Rul.ruleQ s)==s)) from rfl)
 have hQ:Rul.ruleQ s=(Lib.split s [32,111,114,32]).map Rul.partQ:=rfl
 have HP1:=lH (show ∀w' a n c,Rul.okQ s=true→SlAt 1 PartC w' (.slice a n c) (Rul.ruleQ s)→RuleOfPost s w' (.slice a n c) from fun w' a n c h1 h2=> .inl ⟨h1,_,_,_,rfl,h2⟩)
 have HP2:=lH (show ∀w',Rul.okQ s=false→RuleOfPost s w' (.slice none 0 0) from fun w' h=> .inr ⟨h,rfl⟩)
 generalize RuleOfPost s=RP at*
 generalize Rul.ruleQ s=RQ at*
 generalize Rul.okQ s=OK at*
 generalize Lib.split s [32,111,114,32]=L at*
 have HQ:=lH hQ
 obtain⟨m,hm⟩: ∃m,L.length=m:=⟨_,rfl⟩
 have HM:=lH hm
 clear hQ hcnt
 go_enter Tryz.func120,Tryz.ntmps120
 go_wp2_with fail
 refine(CW.out _).mono ?_
 rintro e w1 ⟨v5,rfl,hown5,hb⟩
 obtain⟨g5,cap5,rfl,hg5,hg5',hc5,hm5,hcell5⟩:=zCz hown5 hL0
 have W1:=lH hb
 have hs1:=hb.size
 have HC5:=lH hcell5
 rw[hm] at hL0 hLm hc5⊢
 have Q0:=lH (show QO w w1.heap.size (.slice none 0 0) [] (fun _=>False) (L.take 0) w1 from⟨⟨rfl,.inl ⟨rfl,rfl⟩⟩,rfl,by simp,⟨by simp,by simp,by simp⟩,hb,Nat.le_refl _⟩)
 clear hb hown5 hcell5 CW hm hm5 hg5
 go_wp2_with fail
 go_loopw [4,6,7,8,9] (fun o i _ _ _ wr=> ∃(k:Nat) (ps:List (List Rul.Rl×Value)) (S:Nat→Prop),i= .int .i64 k∧k≤m∧Hid (QO w w1.heap.size o ps S (L.take k) wr)∧Hid (Below w1.heap.size w1 wr)) (fun _ i _ _ _ _=>m-(intOf i).toNat)
 case atStart=>exact⟨0,[],fun _=>False,rfl,Nat.zero_le _,Q0,lH (Below.refl _ _)⟩
 case round=>
  obtain⟨k,ps,S,rfl,hk,P,HD⟩:=hrel
  rename World=>wo
  clear Q0
  by_cases hlt:k<m
  ·obtain⟨x,hx⟩: ∃x,L[k]?=some x:=⟨L[k]'(by have:=HM.out;omega),List.getElem?_eq_getElem (by have:=HM.out;omega)⟩
   have cz:=cK (HC5.out k x hx) HD.out
   have hxl:=HPL.out x (List.mem_of_getElem? hx)
   have CX:=lH fun w=>zCy x [32,97,110,100,32] w (by simp) (by omega) (by simp)
   have hx0:0<(Lib.split x [32,97,110,100,32]).length:=by rw[Spl.zBi (by simp)];omega
   have hxm:=Rul.zAA (s:=x) (sub:= [32,97,110,100,32]) (by simp)
   have HXS:=lH fun y (hy:y∈Lib.split x [32,97,110,100,32])=>Nat.le_trans (zBn hy) hxl
   have HER:=lH (show Rul.partQ x=(Lib.split x [32,97,110,100,32]).map Rul.relQ from rfl)
   generalize Lib.split x [32,97,110,100,32]=L2 at*
   have HTK:=lH (show L.take (k+1)=L.take k++ [x] by rw[List.take_add_one,hx];rfl)
   have hpl:ps.length=k:=by rw[P.out.len,List.length_take,HM.out];omega
   have hov:=fun b h=>(P.out.row.lt b h).2
   have k0:(0:Int)≤(k:Int):=by omega
   have k1:(k:Int)<(m:Int):=by omega
   clear hx
   go_wp2_with fail
   refine(CX.out _).mono ?_
   rintro e w2 ⟨v8,rfl,hown8,hb⟩
   obtain⟨g8,cap8,rfl,hg8,_,hc8,hm8,hcell8⟩:=zCz hown8 hx0
   have P1:=lH (P.out.below hb)
   have D1:=lH (bT HD.out hb)
   have hs2:=hb.size
   have hs3:=HD.out.size
   have HC8:=lH hcell8
   obtain⟨n2,hn2⟩: ∃n2,L2.length=n2:=⟨_,rfl⟩
   rw[hn2] at hx0 hxm hc8⊢
   have HN2:=lH hn2
   have I0:=lH (show QI w2.heap.size (.slice none 0 0) [] (fun _=>False) (L2.take 0) w2 from⟨⟨rfl,.inl ⟨rfl,rfl⟩⟩,rfl,by simp,⟨by simp,by simp,by simp⟩,Nat.le_refl _⟩)
   clear hb hown8 hcell8 CX cz P HD hn2 hm8 hg8
   go_wp2_with fail
   go_loopw [7,9] (fun o2 i wx=> ∃(j:Nat) (qs:List (Rul.Rl×Value)) (S2:Nat→Prop),i= .int .i64 j∧j≤n2∧Hid (QI w2.heap.size o2 qs S2 (L2.take j) wx)∧Hid (Below w2.heap.size w2 wx)) (fun _ i _=>n2-(intOf i).toNat)
   case atStart=>exact⟨0,[],fun _=>False,rfl,Nat.zero_le _,I0,lH (Below.refl _ _)⟩
   case round=>
    obtain⟨j,qs,S2,rfl,hj,PI,HI⟩:=hrel
    rename World=>wi
    clear I0
    by_cases hjn:j<n2
    ·obtain⟨y,hy⟩: ∃y,L2[j]?=some y:=⟨L2[j]'(by have:=HN2.out;omega),List.getElem?_eq_getElem (by have:=HN2.out;omega)⟩
     have cz:=cK (HC8.out j y hy) HI.out
     have hyl:=HXS.out y (List.mem_of_getElem? hy)
     have CR:=lH fun w=>zJR y w (by omega)
     obtain⟨R,hR⟩: ∃R,Rul.relQ y=R:=⟨_,rfl⟩
     rw[hR] at CR
     have HR:=lH hR
     have HTJ:=lH (show L2.take (j+1)=L2.take j++ [y] by rw[List.take_add_one,hy];rfl)
     have hql:qs.length=j:=by rw[PI.out.len,List.length_take,HN2.out];omega
     have hov2:=fun b h=>(PI.out.row.lt b h).2
     have j0:(0:Int)≤(j:Int):=by omega
     have j1:(j:Int)<(n2:Int):=by omega
     clear hy hR
     go_wp2_with fail
     refine(CR.out _).mono ?_
     rintro e w3 ⟨a,n,c,rfl,hsl,hfr,hb⟩
     have HB:=lH (show ∀b,(Value.slice a n c).ownBlock=some b→w2.heap.size≤b∧_≠some b from fun b hb'=>⟨by have:=hfr b hb';have:=HI.out.size;omega,fun e=>by have:=hfr b hb';have:=hov2 b e;omega⟩)
     have P3:=lH ((PI.out.below hb).below (bA w3 (.cells #[.int .u8 (R.op.toNat:Int),.int .i64 R.mod,.bool R.no,.slice a n c] 240)))
     have BN:=lH (Boxed.made w3 #[.int .u8 (R.op.toNat:Int),.int .i64 R.mod,.bool R.no,.slice a n c] 240)
     have HSL:=lH (hsl.rngs_below (bA w3 (.cells #[.int .u8 (R.op.toNat:Int),.int .i64 R.mod,.bool R.no,.slice a n c] 240)))
     have I3:=lH (bT (bT HI.out hb) (bA w3 (.cells #[.int .u8 (R.op.toNat:Int),.int .i64 R.mod,.bool R.no,.slice a n c] 240)))
     clear hb hsl hfr cz CR PI HI hov2
     go_wp2_with (at_builtin;refine wpList_append_own_at _ rfl _ _ 237 rfl w2.heap.size 240 iR _ 4 48 Tryz.underlying237 hiR hR0 hR1 hR2 rfl (by decide) _ qs.length (qflat qs) rfl P3.out.row ⟨w3.heap.size,0,none⟩ 1 1 [.int .u8 (R.op.toNat:Int),.int .i64 R.mod,.bool R.no,.slice a n c] rfl rfl (zAz BN.out) (fun u hu=>by simp at hu;rcases hu with rfl|rfl|rfl|rfl<;>rfl) (by unfold maxLen;omega) (by omega) P3.out.sz ?_;intro v' w5 hown hgrow hnil hat)
     have P4:=lH (P3.out.append (x:=y) (by rw[HR.out];exact hown) hgrow hat (by rw[HR.out];exact HSL.out) HB.out)
     have I4:=lH (show Below w2.heap.size w2 w5 from I3.out.grown hgrow I3.out.size (fun k hk=>(P3.out.row.lt k hk).1))
     clear hown hgrow hnil hat P3 I3 HSL BN HB
     go_wp2_with fail
     go_roundw
     case rel=>exact⟨j+1,_,_,by go_num,by omega,by rw[HTJ.out];exact P4,I4⟩
     case measure=>simp[intOf];omega
    have e:j=n2:=by omega
    subst e
    obtain⟨a2,c2,rfl⟩:=zDy PI.out.row
    have li:=PI.out.lies
    rw[List.take_of_length_le (by have:=HN2.out;omega),←HER.out] at li
    have hql:qs.length=j:=by rw[PI.out.len,List.length_take,HN2.out];omega
    rw[hql] at li⊢
    have LI:=lH li
    have P3:=lH ((P1.out.below HI.out).below (bA wi (.cells #[.slice a2 j c2] 237)))
    have BN:=lH (Boxed.made wi #[.slice a2 j c2] 237)
    have D3:=lH (bT (bT D1.out HI.out) (bA wi (.cells #[.slice a2 j c2] 237)))
    have hs4:=HI.out.size
    clear li PI hql
    go_wp2_with (at_builtin;refine wpList_append_own_at _ rfl _ _ 181 rfl w1.heap.size 237 iP _ 1 24 Tryz.underlying181 hiP hP0 hP1 hP2 rfl (by decide) _ ps.length (ps.map (fun q:List Rul.Rl×Value=>q.2)) rfl P3.out.row ⟨wi.heap.size,0,none⟩ 1 1 [.slice a2 j c2] rfl rfl (zAz BN.out) (fun u hu=>by simp at hu;subst hu;rfl) (by unfold maxLen;omega) (by omega) P3.out.sz ?_;intro v' w5 hown hgrow hnil hat)
    have P4:=lH (P3.out.append (x:=x) hown hgrow hat hs1 (zA2 LI.out.1 (fun b hb'=>(bA wi _).block b (LI.out.2 b hb').2.lt) (fun _ h=>h)) (fun b hb'=>⟨by have:=(LI.out.2 b hb').1;omega,fun e=>by have:=(LI.out.2 b hb').1;have:=hov b e;omega,(LI.out.2 b hb').2.grown (zAU (bA wi _)) (fun e=>by cases e)⟩))
    have D4:=lH (show Below w1.heap.size w1 w5 from D3.out.grown hgrow D3.out.size (fun k hk=>(P3.out.row.lt k hk).1))
    clear hown hgrow hnil hat P3 D3 BN LI
    go_wp2_with fail
    go_roundw
    case rel=>exact⟨k+1,_,_,by go_num,by omega,by rw[HTK.out];exact P4,D4⟩
    case measure=>simp[intOf];omega
  have e:k=m:=by omega
  subst e
  obtain⟨a,c,rfl⟩:=zDy P.out.row
  have hpl:ps.length=k:=by rw[P.out.len,List.length_take,HM.out];omega
  have li:=P.out.lies
  rw[List.take_of_length_le (by have:=HM.out;omega),←HQ.out] at li
  rw[hpl] at li⊢
  have hlow:=P.out.low
  have hcn:=HCN.out
  have CF:=lH (zFB RQ a k c wo li (by omega) (by omega))
  have LI:=lH li
  have LW:=lH hlow
  clear P HD hpl HPL HC5
  by_cases hE:Rul.ruleE RQ=0
  ·have CT:=lH fun w' (hb:Below wo.heap.size wo w')=>zGH RQ a k c w' (li.rule_below hb) hE (fun l hl x hx=>by have:=HRS.out l hl x hx;omega)
   rw[hE] at CF
   have HO2:=lH (show OK=(Rul.ruleT RQ==s) by rw[HOK.out,hE];simp)
   generalize Rul.ruleT RQ=T at*
   clear li hlow hE hcn
   go_wp2_with fail
   refine CF.out.mono ?_
   rintro e w2 ⟨rfl,hb⟩
   have F2:=lH hb
   clear hb CF
   go_wp2_with fail
   refine(CT.out _ F2.out).mono ?_
   rintro e w3 ⟨rfl,hb⟩
   have F3:=lH (bT F2.out hb)
   clear hb CT
   by_cases hT:T=s
   ·subst hT
    obtain rfl:OK=true:=by rw[HO2.out];simp
    go_wp2_with fail
    go_ret2
    exact⟨_,rfl,HP1.out _ _ _ _ (by first|trivial|rfl) (LI.out.rule_below F3.out),bT LW.out F3.out⟩
   have hT':(T==s)=false:=by simpa using hT
   obtain rfl:OK=false:=by rw[HO2.out];exact hT'
   clear hT
   go_wp2_with fail
   go_ret2
   exact⟨_,rfl,HP2.out _ (by first|trivial|rfl),bT LW.out F3.out⟩
  obtain rfl:OK=false:=by rw[HOK.out,zAa hE];rfl
  generalize Rul.ruleE RQ=E at*
  have hE':(E==0)=false:=zAe hE
  have hE2:(E !=0)=true:=by simp[hE]
  clear li hlow hcn hE
  go_wp2_with fail
  refine CF.out.mono ?_
  rintro e w2 ⟨rfl,hb⟩
  have F2:=lH hb
  clear hb CF
  go_wp2_with fail
  go_ret2
  exact⟨_,rfl,HP2.out _ (by first|trivial|rfl),bT LW.out F2.out⟩
end Go.Proofs.YtjlchookakbomaaGreatDoor
