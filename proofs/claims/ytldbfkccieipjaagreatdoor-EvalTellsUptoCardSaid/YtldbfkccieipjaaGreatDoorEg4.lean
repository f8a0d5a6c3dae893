/- The walk of linguisterref1.RuleHolds: does a right rule hold? Condition: it lies in memory as it says. -/
import Derived.Test.YtldbfkccieipjaaGreatDoorEh
import Derived.Test.YtldbfkccieipjaaGreatDoorEg3
import Derived.Test.YtldbfkccieipjaaGreatDoorEf9
import Derived.Test.YtldbfkccieipjaaGreatDoorEf25
import Derived.Test.YtldbfkccieipjaaGreatDoorEg2
import Derived.Test.YtldbfkccieipjaaGreatDoorEf10
import Derived.Maps.AppendAt
import Derived.Test.YtldbfkccieipjaaGreatDoorEf8
import Derived.Test.YtldbfkccieipjaaGreatDoorEf11
import Derived.Test.YtldbfkccieipjaaGreatDoorEf5
import Derived.OwnWalk
import Derived.Test.YtldbfkccieipjaaGreatDoorEf4
import Derived.Test.YtldbfkccieipjaaGreatDoorEf0
namespace Go.Proofs.YtldbfkccieipjaaGreatDoor
set_option maxRecDepth 100000
open Go.RowKit

theorem row_below {w w':World} {base n k:Nat} {e:TypeId} {v:Value} {xs:List Value} (h:w.ownsRow base e k v n xs) (hb:Below w.heap.size w w'):w'.ownsRow base e k v n xs:=
 h.kept (grown_below hb) (by cases v.ownBlock<;>simp)
theorem take_map_add {α:Type} {L:List α} {f:α→List UInt8} {k:Nat} {x:α} (h:L[k]?=some x):((L.take (k+1)).map f).map txtV=((L.take k).map f).map txtV++ [txtV (f x)]:=by
 rw[List.take_add_one,h];simp

set_option maxHeartbeats 4000000 in
theorem ruletext_some (r:Rul.Rule) (b off cap n:Nat) (w:World) (hn:r.length=n) (hm:n≤20) (hok: ∀l∈r,l.length≤20∧ ∀x∈l,Rul.relOk x=true∧x.rs.length≤100000001)
  (ht:Lst.total (r.map Rul.partT) [32,111,114,32]≤2000000000000) (hpt: ∀l∈r,Lst.total (l.map Rul.relT) [32,97,110,100,32]≤2000000000000) (hc: ∀(j:Nat) x,r[j]?=some x→PartC w b (off+j*1) x):
  Calls Tryz.prog 184 #[.slice (some ⟨b,off,none⟩) n cap] w fun e w'=>e= .returned (.string ⟨(Rul.ruleT r).toArray⟩)∧Below w.heap.size w w':=by
 obtain⟨i0,hi,hz0,hz1,hz2⟩:=info_parts infoStr
 have HC:=lH hc
 have HN:=lH hn
 have HOK:=lH hok
 have HT:=lH ht
 have HPT:=lH hpt
 have HJ:=lH fun (v:Value) (wx:World) (h:StrsAt wx v (r.map Rul.partT))=>joined_any (r.map Rul.partT) v [32,111,114,32] wx h (by rw[List.length_map];omega) ht (by simp)
 have HJ2:=lH fun (l:List Rul.Rl) (hl:l∈r) (v:Value) (wx:World) (h:StrsAt wx v (l.map Rul.relT))=>joined_any (l.map Rul.relT) v [32,97,110,100,32] wx h (by rw[List.length_map];have:=(hok l hl).1;omega) (hpt l hl) (by simp)
 have HR:=lH (show Lib.join (r.map Rul.partT) [32,111,114,32]=Rul.ruleT r from rfl)
 have HR2:=lH fun l=>(show Lib.join (l.map Rul.relT) [32,97,110,100,32]=Rul.partT l from rfl)
 generalize Rul.ruleT r=RT at*
 clear hc hn hok ht hpt
 go_enter Tryz.func184,Tryz.ntmps184
 go_wp2_with fail
 go_loopw [3,4,5,6] (fun o i _ _ wr=> ∃k:Nat,i= .int .i64 k∧k≤n∧Hid (wr.ownsRow w.heap.size 9 1 o k (((r.take k).map Rul.partT).map txtV))∧Hid (Below w.heap.size w wr)) (fun _ i _ _ _=>n-(intOf i).toNat)
 case atStart=>exact⟨0,rfl,Nat.zero_le _,lH (World.ownsRow_nil _ _ _ _),lH (Below.refl _ _)⟩
 case round=>
  obtain⟨k,rfl,hk,HO,HD⟩:=hrel
  rename World=>wo
  by_cases hlt:k<n
  ·obtain⟨l,hl⟩: ∃x,r[k]?=some x:=⟨r[k]'(by have:=HN.out;omega),List.getElem?_eq_getElem (by have:=HN.out;omega)⟩
   have HLK:=lH hl
   have HLR:=lH (List.mem_of_getElem? hl)
   obtain⟨pa,pn,pc,p0,ps⟩:=HC.out k l hl
   rw[Nat.mul_one] at p0
   have x0:=cK p0 HD.out
   obtain⟨A1,cap1,e1,hm1,hcell1⟩:=ps.spread
   injection e1 with e1 e1' e1''
   subst e1 e1' e1''
   have P0:=lH p0
   have HC1:=lH hcell1
   have hml:=(HOK.out l HLR.out).1
   obtain⟨m,hmm⟩: ∃m,l.length=m:=⟨_,rfl⟩
   rw[hmm] at x0 P0 hml
   have HX:=lH hmm
   clear hl ps p0 hcell1 hm1 hmm
   have k0:(0:Int)≤(k:Int):=by omega
   have k1:(k:Int)<(n:Int):=by omega
   go_wp2_with fail
   go_loopw [5,6] (fun s i wx=> ∃j:Nat,i= .int .i64 j∧j≤m∧Hid (wx.ownsRow wo.heap.size 9 1 s j (((l.take j).map Rul.relT).map txtV))∧Hid (Below wo.heap.size wo wx)) (fun _ i _=>m-(intOf i).toNat)
   case atStart=>exact⟨0,rfl,Nat.zero_le _,lH (World.ownsRow_nil _ _ _ _),lH (Below.refl _ _)⟩
   case round=>
    obtain⟨j,rfl,hj,HO2,HI⟩:=hrel
    have HW:=lH (bT HD.out HI.out)
    have x1:=cK P0.out HW.out
    by_cases hjm:j<m
    ·obtain⟨y,hy⟩: ∃y,l[j]?=some y:=⟨l[j]'(by have:=HX.out;omega),List.getElem?_eq_getElem (by have:=HX.out;omega)⟩
     obtain⟨b1,o1,rfl,ra,rn,rc,r0,r1,r2,r3,rs⟩:=HC1.out j y hy
     have z0:=cK r0 HW.out
     have z1:=cK r1 HW.out
     have z2:=cK r2 HW.out
     have z3:=cK r3 HW.out
     have hyk:=(HOK.out l HLR.out).2 y (List.mem_of_getElem? hy)
     have CS:=lH (rrt_any y ra rn rc wr (rs.rngs_below HW.out) hyk.1 hyk.2)
     have HTA:=lH (take_map_add (f:=Rul.relT) hy)
     generalize Rul.relT y=yt at*
     clear hy r0 r1 r2 r3 rs HC1 hyk
     have j0:(0:Int)≤(j:Int):=by omega
     have j1:(j:Int)<(m:Int):=by omega
     go_wp2_with fail
     refine CS.out.mono ?_
     rintro e w5 ⟨rfl,hb⟩
     have W5:=lH (bT HI.out hb)
     have hown:=row_below HO2.out hb
     have hbs:=W5.out.size
     clear hb CS z0 z1 z2 z3 x1
     go_wp2_with (at_builtin;refine wpList_append_own _ rfl _ _ 45 rfl wo.heap.size 9 i0 (.string ByteArray.empty) 1 16 Tryz.underlying45 hi hz0 hz1 hz2 rfl (by decide) _ _ _ rfl (hown.alloc _) ⟨w5.heap.size,0,none⟩ 1 1 [txtV yt] rfl rfl (cell_one_new _ _ _) (fun x hx=>by simp at hx;subst hx;rfl) (by unfold maxLen;omega) (by omega) (by simp;omega) ?_;intro v' w1 hown' hgrow _)
     have HO':=lH (show w1.ownsRow wo.heap.size 9 1 v' (j+1) (((l.take (j+1)).map Rul.relT).map txtV) by rw[HTA.out];exact hown')
     have HB':=lH (show Below wo.heap.size wo w1 from(W5.out.alloc hbs _).grown hgrow (by simp;omega) (fun k hk=>(hown.lt k hk).1))
     clear hown hown' hgrow hbs
     go_wp2_with fail
     go_roundw
     case rel=>exact⟨j+1,by go_num,by omega,HO',HB'⟩
     case measure=>simp[intOf];omega
    ·have e:j=m:=by omega
     subst e
     have SA:=HO2.out
     rw[List.take_of_length_le (by have:=HX.out;omega)] at SA
     have CJ:=lH (HJ2.out l HLR.out _ wr (StrsAt.of_row SA))
     rw[HR2.out l] at CJ
     have HTA:=lH (take_map_add (f:=Rul.partT) HLK.out)
     have hown:=row_below HO.out HI.out
     have hbs:=HW.out.size
     generalize Rul.partT l=yt at*
     clear SA
     go_wp2_with fail
     refine CJ.out.mono ?_
     rintro e w5 ⟨rfl,rfl⟩
     clear CJ
     go_wp2_with (at_builtin;refine wpList_append_own _ rfl _ _ 45 rfl w.heap.size 9 i0 (.string ByteArray.empty) 1 16 Tryz.underlying45 hi hz0 hz1 hz2 rfl (by decide) _ _ _ rfl (hown.alloc _) ⟨wr.heap.size,0,none⟩ 1 1 [txtV yt] rfl rfl (cell_one_new _ _ _) (fun x hx=>by simp at hx;subst hx;rfl) (by unfold maxLen;omega) (by omega) (by simp;omega) ?_;intro v' w1 hown' hgrow _)
     have HO':=lH (show w1.ownsRow w.heap.size 9 1 v' (k+1) (((r.take (k+1)).map Rul.partT).map txtV) by rw[HTA.out];exact hown')
     have HB':=lH (show Below w.heap.size w w1 from(HW.out.alloc hbs _).grown hgrow (by simp;omega) (fun k hk=>(hown.lt k hk).1))
     clear hown hown' hgrow hbs
     go_wp2_with fail
     go_roundw
     case rel=>exact⟨k+1,by go_num,by omega,HO',HB'⟩
     case measure=>simp[intOf];omega
  ·have e:k=n:=by omega
   subst e
   have SA:=HO.out
   rw[List.take_of_length_le (by have:=HN.out;omega)] at SA
   have CJ:=lH (HJ.out _ _ (StrsAt.of_row SA))
   rw[HR.out] at CJ
   clear SA
   go_wp2_with fail
   refine CJ.out.mono ?_
   rintro e w5 ⟨rfl,rfl⟩
   go_wp2_with fail
   go_ret
   exact⟨rfl,HD.out⟩
theorem ruletext_any (r:Rul.Rule) (A:Option Addr) (n c:Nat) (w:World) (hr:SlAt 1 PartC w (.slice A n c) r) (hE:Rul.ruleE r=0) (hrs: ∀l∈r,∀x∈l,x.rs.length≤100000001):
  Calls Tryz.prog 184 #[.slice A n c] w fun e w'=>e= .returned (.string ⟨(Rul.ruleT r).toArray⟩)∧Below w.heap.size w w':=by
 obtain⟨hs,hc⟩:=Rul.ruleE_zero.1 hE
 obtain⟨t1,t2⟩:=Rul.ok_totals hE hrs
 rcases hr with⟨rfl,a,c',e⟩|⟨b,off,cap,e,h0,_,_,h3⟩
 ·exact absurd rfl (Rul.shape_parts hs).1
 ·injection e with e1 e2 e3
  subst e1 e2 e3
  refine ruletext_some r b off _ _ w rfl (by have:=Rul.len_count (fun l hl=>(Rul.part_parts ((Rul.shape_parts hs).2 l hl)).1);omega) (fun l hl=>⟨Nat.le_trans (Rul.count_mem hl) hc,fun x hx=>⟨(Rul.part_parts ((Rul.shape_parts hs).2 l hl)).2 x hx,hrs l hl x hx⟩⟩) ?_ ?_ h3
  ·exact t1
  ·exact fun l hl=>(t2 l hl).2.1
open Go.RowKit Go.Shelf

def RuleOfPost (s:List UInt8) (w':World) (v:Value):Prop:=
 (Rul.okQ s=true∧ ∃a n c,v= .slice a n c∧SlAt 1 PartC w' (.slice a n c) (Rul.ruleQ s))∨(Rul.okQ s=false∧v= .slice none 0 0)

set_option maxHeartbeats 8000000 in
theorem ruleof_any (s:List UInt8) (w:World) (ht:s.length≤100000000):
  Calls Tryz.prog 152 #[.string ⟨s.toArray⟩] w fun e w'=> ∃v,e= .returned (.tuple #[v,.bool (Rul.okQ s)])∧RuleOfPost s w' v∧Below w.heap.size w w':=by
 obtain⟨iR,hiR,hR0,hR1,hR2⟩:=info_parts infoRel
 obtain⟨iP,hiP,hP0,hP1,hP2⟩:=info_parts infoPart
 have CW:=lH fun w=>cut_own s [32,111,114,32] w (by simp) (by omega) (by simp)
 have hL0:0<(Lib.split s [32,111,114,32]).length:=by rw[Spl.split_len (by simp)];omega
 have hLm:=Rul.split_short (s:=s) (sub:= [32,111,114,32]) (by simp)
 have HPL:=lH fun x (hx:x∈Lib.split s [32,111,114,32])=>piece_le hx
 have hcnt:=Rul.count_Q s
 have HCN:=lH hcnt
 have HRS:=lH (Rul.rs_Q s)
 have HOK:=lH (show Rul.okQ s=(decide (Rul.ruleE (Rul.ruleQ s)=0)&&(Rul.ruleT (Rul.ruleQ s)==s)) from rfl)
 have hQ:Rul.ruleQ s=(Lib.split s [32,111,114,32]).map Rul.partQ:=rfl
 have HP1:=lH (show ∀w' a n c,Rul.okQ s=true→SlAt 1 PartC w' (.slice a n c) (Rul.ruleQ s)→RuleOfPost s w' (.slice a n c) from fun w' a n c h1 h2=> .inl ⟨h1,_,_,_,rfl,h2⟩)
 have HP2:=lH (show ∀w',Rul.okQ s=false→RuleOfPost s w' (.slice none 0 0) from fun w' h=> .inr ⟨h,rfl⟩)
 generalize RuleOfPost s=RP at*
 generalize Rul.ruleQ s=RQ at*
 generalize Rul.okQ s=OK at*
 generalize Lib.split s [32,111,114,32]=L at*
 have HQ:=lH hQ
 obtain⟨m,hm⟩: ∃m,L.length=m:=⟨_,rfl⟩
 have HM:=lH hm
 clear hQ hcnt
 go_enter Tryz.func152,Tryz.ntmps152
 go_wp2_with fail
 refine(CW.out _).mono ?_
 rintro e w1 ⟨v5,rfl,hown5,hb⟩
 obtain⟨g5,cap5,rfl,hg5,hg5',hc5,hm5,hcell5⟩:=row_txt hown5 hL0
 have W1:=lH hb
 have hs1:=hb.size
 have HC5:=lH hcell5
 rw[hm] at hL0 hLm hc5⊢
 have Q0:=lH (show QO w w1.heap.size (.slice none 0 0) [] (fun _=>False) (L.take 0) w1 from⟨⟨rfl,.inl ⟨rfl,rfl⟩⟩,rfl,by simp,⟨by simp,by simp,by simp⟩,hb,Nat.le_refl _⟩)
 clear hb hown5 hcell5 CW hm hm5 hg5
 go_wp2_with fail
 go_loopw [4,6,7,8,9] (fun o i _ _ _ wr=> ∃(k:Nat) (ps:List (List Rul.Rl×Value)) (S:Nat→Prop),i= .int .i64 k∧k≤m∧Hid (QO w w1.heap.size o ps S (L.take k) wr)∧Hid (Below w1.heap.size w1 wr)) (fun _ i _ _ _ _=>m-(intOf i).toNat)
 case atStart=>exact⟨0,[],fun _=>False,rfl,Nat.zero_le _,Q0,lH (Below.refl _ _)⟩
 case round=>
  obtain⟨k,ps,S,rfl,hk,P,HD⟩:=hrel
  rename World=>wo
  clear Q0
  by_cases hlt:k<m
  ·obtain⟨x,hx⟩: ∃x,L[k]?=some x:=⟨L[k]'(by have:=HM.out;omega),List.getElem?_eq_getElem (by have:=HM.out;omega)⟩
   have cz:=cK (HC5.out k x hx) HD.out
   have hxl:=HPL.out x (List.mem_of_getElem? hx)
   have CX:=lH fun w=>cut_own x [32,97,110,100,32] w (by simp) (by omega) (by simp)
   have hx0:0<(Lib.split x [32,97,110,100,32]).length:=by rw[Spl.split_len (by simp)];omega
   have hxm:=Rul.split_short (s:=x) (sub:= [32,97,110,100,32]) (by simp)
   have HXS:=lH fun y (hy:y∈Lib.split x [32,97,110,100,32])=>Nat.le_trans (piece_le hy) hxl
   have HER:=lH (show Rul.partQ x=(Lib.split x [32,97,110,100,32]).map Rul.relQ from rfl)
   generalize Lib.split x [32,97,110,100,32]=L2 at*
   have HTK:=lH (show L.take (k+1)=L.take k++ [x] by rw[List.take_add_one,hx];rfl)
   have hpl:ps.length=k:=by rw[P.out.len,List.length_take,HM.out];omega
   have hov:=fun b h=>(P.out.row.lt b h).2
   have k0:(0:Int)≤(k:Int):=by omega
   have k1:(k:Int)<(m:Int):=by omega
   clear hx
   go_wp2_with fail
   refine(CX.out _).mono ?_
   rintro e w2 ⟨v8,rfl,hown8,hb⟩
   obtain⟨g8,cap8,rfl,hg8,_,hc8,hm8,hcell8⟩:=row_txt hown8 hx0
   have P1:=lH (P.out.below hb)
   have D1:=lH (bT HD.out hb)
   have hs2:=hb.size
   have hs3:=HD.out.size
   have HC8:=lH hcell8
   obtain⟨n2,hn2⟩: ∃n2,L2.length=n2:=⟨_,rfl⟩
   rw[hn2] at hx0 hxm hc8⊢
   have HN2:=lH hn2
   have I0:=lH (show QI w2.heap.size (.slice none 0 0) [] (fun _=>False) (L2.take 0) w2 from⟨⟨rfl,.inl ⟨rfl,rfl⟩⟩,rfl,by simp,⟨by simp,by simp,by simp⟩,Nat.le_refl _⟩)
   clear hb hown8 hcell8 CX cz P HD hn2 hm8 hg8
   go_wp2_with fail
   go_loopw [7,9] (fun o2 i wx=> ∃(j:Nat) (qs:List (Rul.Rl×Value)) (S2:Nat→Prop),i= .int .i64 j∧j≤n2∧Hid (QI w2.heap.size o2 qs S2 (L2.take j) wx)∧Hid (Below w2.heap.size w2 wx)) (fun _ i _=>n2-(intOf i).toNat)
   case atStart=>exact⟨0,[],fun _=>False,rfl,Nat.zero_le _,I0,lH (Below.refl _ _)⟩
   case round=>
    obtain⟨j,qs,S2,rfl,hj,PI,HI⟩:=hrel
    rename World=>wi
    clear I0
    by_cases hjn:j<n2
    ·obtain⟨y,hy⟩: ∃y,L2[j]?=some y:=⟨L2[j]'(by have:=HN2.out;omega),List.getElem?_eq_getElem (by have:=HN2.out;omega)⟩
     have cz:=cK (HC8.out j y hy) HI.out
     have hyl:=HXS.out y (List.mem_of_getElem? hy)
     have CR:=lH fun w=>relof_any y w (by omega)
     obtain⟨R,hR⟩: ∃R,Rul.relQ y=R:=⟨_,rfl⟩
     rw[hR] at CR
     have HR:=lH hR
     have HTJ:=lH (show L2.take (j+1)=L2.take j++ [y] by rw[List.take_add_one,hy];rfl)
     have hql:qs.length=j:=by rw[PI.out.len,List.length_take,HN2.out];omega
     have hov2:=fun b h=>(PI.out.row.lt b h).2
     have j0:(0:Int)≤(j:Int):=by omega
     have j1:(j:Int)<(n2:Int):=by omega
     clear hy hR
     go_wp2_with fail
     refine(CR.out _).mono ?_
     rintro e w3 ⟨a,n,c,rfl,hsl,hfr,hb⟩
     have HB:=lH (show ∀b,(Value.slice a n c).ownBlock=some b→w2.heap.size≤b∧_≠some b from fun b hb'=>⟨by have:=hfr b hb';have:=HI.out.size;omega,fun e=>by have:=hfr b hb';have:=hov2 b e;omega⟩)
     have P3:=lH ((PI.out.below hb).below (bA w3 (.cells #[.int .u8 (R.op.toNat:Int),.int .i64 R.mod,.bool R.no,.slice a n c] 143)))
     have BN:=lH (Boxed.made w3 #[.int .u8 (R.op.toNat:Int),.int .i64 R.mod,.bool R.no,.slice a n c] 143)
     have HSL:=lH (hsl.rngs_below (bA w3 (.cells #[.int .u8 (R.op.toNat:Int),.int .i64 R.mod,.bool R.no,.slice a n c] 143)))
     have I3:=lH (bT (bT HI.out hb) (bA w3 (.cells #[.int .u8 (R.op.toNat:Int),.int .i64 R.mod,.bool R.no,.slice a n c] 143)))
     clear hb hsl hfr cz CR PI HI hov2
     go_wp2_with (at_builtin;refine wpList_append_own_at _ rfl _ _ 140 rfl w2.heap.size 143 iR _ 4 48 Tryz.underlying140 hiR hR0 hR1 hR2 rfl (by decide) _ qs.length (qflat qs) rfl P3.out.row ⟨w3.heap.size,0,none⟩ 1 1 [.int .u8 (R.op.toNat:Int),.int .i64 R.mod,.bool R.no,.slice a n c] rfl rfl (boxed_add BN.out) (fun u hu=>by simp at hu;rcases hu with rfl|rfl|rfl|rfl<;>rfl) (by unfold maxLen;omega) (by omega) P3.out.sz ?_;intro v' w5 hown hgrow hnil hat)
     have P4:=lH (P3.out.append (x:=y) (by rw[HR.out];exact hown) hgrow hat (by rw[HR.out];exact HSL.out) HB.out)
     have I4:=lH (show Below w2.heap.size w2 w5 from I3.out.grown hgrow I3.out.size (fun k hk=>(P3.out.row.lt k hk).1))
     clear hown hgrow hnil hat P3 I3 HSL BN HB
     go_wp2_with fail
     go_roundw
     case rel=>exact⟨j+1,_,_,by go_num,by omega,by rw[HTJ.out];exact P4,I4⟩
     case measure=>simp[intOf];omega
    ·have e:j=n2:=by omega
     subst e
     obtain⟨a2,c2,rfl⟩:=row_any PI.out.row
     have li:=PI.out.lies
     rw[List.take_of_length_le (by have:=HN2.out;omega),←HER.out] at li
     have hql:qs.length=j:=by rw[PI.out.len,List.length_take,HN2.out];omega
     rw[hql] at li⊢
     have LI:=lH li
     have P3:=lH ((P1.out.below HI.out).below (bA wi (.cells #[.slice a2 j c2] 140)))
     have BN:=lH (Boxed.made wi #[.slice a2 j c2] 140)
     have D3:=lH (bT (bT D1.out HI.out) (bA wi (.cells #[.slice a2 j c2] 140)))
     have hs4:=HI.out.size
     clear li PI hql
     go_wp2_with (at_builtin;refine wpList_append_own_at _ rfl _ _ 108 rfl w1.heap.size 140 iP _ 1 24 Tryz.underlying108 hiP hP0 hP1 hP2 rfl (by decide) _ ps.length (ps.map (fun q:List Rul.Rl×Value=>q.2)) rfl P3.out.row ⟨wi.heap.size,0,none⟩ 1 1 [.slice a2 j c2] rfl rfl (boxed_add BN.out) (fun u hu=>by simp at hu;subst hu;rfl) (by unfold maxLen;omega) (by omega) P3.out.sz ?_;intro v' w5 hown hgrow hnil hat)
     have P4:=lH (P3.out.append (x:=x) hown hgrow hat hs1 (relsI_kept LI.out.1 (fun b hb'=>(bA wi _).block b (LI.out.2 b hb').2.lt) (fun _ h=>h)) (fun b hb'=>⟨by have:=(LI.out.2 b hb').1;omega,fun e=>by have:=(LI.out.2 b hb').1;have:=hov b e;omega,(LI.out.2 b hb').2.grown (grown_below (bA wi _)) (fun e=>by cases e)⟩))
     have D4:=lH (show Below w1.heap.size w1 w5 from D3.out.grown hgrow D3.out.size (fun k hk=>(P3.out.row.lt k hk).1))
     clear hown hgrow hnil hat P3 D3 BN LI
     go_wp2_with fail
     go_roundw
     case rel=>exact⟨k+1,_,_,by go_num,by omega,by rw[HTK.out];exact P4,D4⟩
     case measure=>simp[intOf];omega
  ·have e:k=m:=by omega
   subst e
   obtain⟨a,c,rfl⟩:=row_any P.out.row
   have hpl:ps.length=k:=by rw[P.out.len,List.length_take,HM.out];omega
   have li:=P.out.lies
   rw[List.take_of_length_le (by have:=HM.out;omega),←HQ.out] at li
   rw[hpl] at li⊢
   have hlow:=P.out.low
   have hcn:=HCN.out
   have CF:=lH (rulefault_any RQ a k c wo li (by omega) (by omega))
   have LI:=lH li
   have LW:=lH hlow
   clear P HD hpl HPL HC5
   by_cases hE:Rul.ruleE RQ=0
   ·have CT:=lH fun w' (hb:Below wo.heap.size wo w')=>ruletext_any RQ a k c w' (li.rule_below hb) hE (fun l hl x hx=>by have:=HRS.out l hl x hx;omega)
    rw[hE] at CF
    have HO2:=lH (show OK=(Rul.ruleT RQ==s) by rw[HOK.out,hE];simp)
    generalize Rul.ruleT RQ=T at*
    clear li hlow hE hcn
    go_wp2_with fail
    refine CF.out.mono ?_
    rintro e w2 ⟨rfl,hb⟩
    have F2:=lH hb
    clear hb CF
    go_wp2_with fail
    refine(CT.out _ F2.out).mono ?_
    rintro e w3 ⟨rfl,hb⟩
    have F3:=lH (bT F2.out hb)
    clear hb CT
    by_cases hT:T=s
    ·subst hT
     obtain rfl:OK=true:=by rw[HO2.out];simp
     go_wp2_with fail
     go_ret2
     exact⟨_,rfl,HP1.out _ _ _ _ (by first|trivial|rfl) (LI.out.rule_below F3.out),bT LW.out F3.out⟩
    ·have hT':(T==s)=false:=by simpa using hT
     obtain rfl:OK=false:=by rw[HO2.out];exact hT'
     clear hT
     go_wp2_with fail
     go_ret2
     exact⟨_,rfl,HP2.out _ (by first|trivial|rfl),bT LW.out F3.out⟩
   ·obtain rfl:OK=false:=by rw[HOK.out,dec_no hE];rfl
    generalize Rul.ruleE RQ=E at*
    have hE':(E==0)=false:=beq_no hE
    have hE2:(E !=0)=true:=by simp[hE]
    clear li hlow hcn hE
    go_wp2_with fail
    refine CF.out.mono ?_
    rintro e w2 ⟨rfl,hb⟩
    have F2:=lH hb
    clear hb CF
    go_wp2_with fail
    go_ret2
    exact⟨_,rfl,HP2.out _ (by first|trivial|rfl),bT LW.out F2.out⟩
open Go.RowKit


set_option maxHeartbeats 20000000 in
theorem relholds_w (K X mod:Int) (no:Bool) (rs:List (Int×Int)) (oi ov ow of ot:Int) (a:Option Addr) (n c:Nat) (w:World) (hs:SlAt 2 RngC w (.slice a n c) rs) (hm0:0≤mod)
  (hK:(K=110∧X=oi∧ot=0)∨(K=105∧X=oi)∨(K=118∧X=ov)∨(K=119∧X=ow)∨(K=102∧X=of)∨(K=116∧X=ot)):
  Calls Tryz.prog 185 #[.agg #[.int .u8 K,.int .i64 mod,.bool no,.slice a n c],.agg #[.int .i64 oi,.int .i64 ov,.int .i64 ow,.int .i64 of,.int .i64 ot]] w fun e w'=>e= .returned (.bool (rs.any (Rul.rngHas (if mod=0 then X else X.tmod mod)) !=no))∧Below w.heap.size w w':=by
 obtain⟨A,cap,e,hm,hcell⟩:=hs.spread
 injection e with e1 e2 e3
 subst e1 e2 e3
 have HC:=lH hcell
 obtain⟨n,hn⟩: ∃n,rs.length=n:=⟨_,rfl⟩
 rw[hn] at hm⊢
 have HN:=lH hn
 unfold maxLen at hm
 have W1:=lH ((bA w (.cells #[.int .u8 K,.int .i64 mod,.bool no,.slice a n c] 143)).alloc (by simp) (.cells #[.int .i64 oi,.int .i64 ov,.int .i64 ow,.int .i64 of,.int .i64 ot] 103))
 have B1:=lH ((Boxed.made w #[.int .u8 K,.int .i64 mod,.bool no,.slice a n c] 143).alloc (.cells #[.int .i64 oi,.int .i64 ov,.int .i64 ow,.int .i64 of,.int .i64 ot] 103))
 clear hs hcell hn
 obtain⟨v,hv⟩: ∃v,(w.alloc (.cells #[.int .u8 K,.int .i64 mod,.bool no,.slice a n c] 143)).alloc (.cells #[.int .i64 oi,.int .i64 ov,.int .i64 ow,.int .i64 of,.int .i64 ot] 103)=v:=⟨_,rfl⟩
 rw[hv] at W1 B1
 have HV:=lH hv
 clear hv
 obtain⟨XX,hXX⟩: ∃XX,(if mod=0 then X else X.tmod mod)=XX:=⟨_,rfl⟩
 rw[hXX]
 have HXX:=lH hXX
 clear hXX
 obtain⟨PV,hPV⟩: ∃PV,(rs.any (Rul.rngHas XX) !=no)=PV:=⟨_,rfl⟩
 rw[hPV]
 have HPV:=lH hPV
 clear hPV
 rcases hK with⟨rfl,rfl,rfl⟩|⟨rfl,rfl⟩|⟨rfl,rfl⟩|⟨rfl,rfl⟩|⟨rfl,rfl⟩|⟨rfl,rfl⟩
 all_goals by_cases hmd:0<mod
 all_goals first
  | (have dm : decide (0 < mod) = true := dec_yes hmd
     have hne : mod ≠ 0 := by omega
     obtain rfl : XX = X.tmod mod := by rw [← HXX.out, if_neg (by omega)]
     clear HXX
     go_enter Tryz.func185, Tryz.ntmps185
     go_wp2_with fail
     rw [HV.out]
     clear HV
     generalize X.tmod mod = XX at *
     clear dm hmd hne)
  | (have dm : decide (0 < mod) = false := dec_no hmd
     obtain rfl : mod = 0 := by omega
     obtain rfl : XX = X := by rw [← HXX.out, if_pos rfl]
     clear HXX
     go_enter Tryz.func185, Tryz.ntmps185
     go_wp2_with fail
     rw [HV.out]
     clear HV dm hmd hm0)
 all_goals
  go_loopw [6,7] (fun s i wr=> ∃k:Nat,i= .int .i64 k∧k≤n∧s= .bool ((rs.take k).any (Rul.rngHas XX))∧Hid (Drew v wr)) (fun _ i _=>n-(intOf i).toNat)
  case atStart=>exact⟨0,rfl,Nat.zero_le _,rfl,Drew.refl _⟩
  case round=>
   obtain⟨k,rfl,hk,rfl,HD⟩:=hrel
   have K3:=(B1.out.below HD.out.below).cell 3 _ rfl
   have K2:=(B1.out.below HD.out.below).cell 2 _ rfl
   have KL:=(B1.out.below HD.out.below).lt
   by_cases hlt:k<n
   ·obtain⟨x,hx⟩: ∃x,rs[k]?=some x:=⟨rs[k]'(by have:=HN.out;omega),List.getElem?_eq_getElem (by have:=HN.out;omega)⟩
    obtain⟨b,off,rfl,hx0,hx1⟩:=HC.out k x hx
    have x0:=cK (cK hx0 W1.out) HD.out.below
    have x1:=cK (cK hx1 W1.out) HD.out.below
    have HT:=lH (any_take' (p:=Rul.rngHas XX) hx)
    have HO:=lH (show Rul.rngHas XX x=(decide (x.1≤XX)&&decide (XX≤x.2)) from rfl)
    generalize Rul.rngHas XX x=RH at*
    clear hx hx0 hx1
    obtain⟨p,q⟩:=x
    dsimp only at*
    obtain⟨A1,hA1⟩: ∃A1,(rs.take (k+1)).any (Rul.rngHas XX)=A1:=⟨_,rfl⟩
    rw[hA1] at HT
    have HA1:=lH hA1
    clear hA1
    generalize (rs.take k).any (Rul.rngHas XX)=A0 at*
    have k0:(0:Int)≤(k:Int):=by omega
    have k1:(k:Int)<(n:Int):=by omega
    cases A0 with
    |true=>
     obtain rfl:A1=true:=by rw[HT.out];rfl
     go_wp2_with fail
     go_roundw
     case rel=>exact⟨k+1,by go_num,by omega,by rw[HA1.out],HD⟩
     case measure=>simp[intOf];omega
    |false=>
     by_cases g0:p≤XX
     ·have d0:decide (p≤XX)=true:=dec_yes g0
      have d0':decide (XX≥p)=true:=dec_yes g0
      by_cases g1:XX≤q
      ·have d1:decide (XX≤q)=true:=dec_yes g1
       obtain rfl:A1=true:=by rw[HT.out,HO.out,d0,d1];rfl
       go_wp2_with fail
       go_roundw
       case rel=>exact⟨k+1,by go_num,by omega,by rw[HA1.out],HD⟩
       case measure=>simp[intOf];omega
      ·have d1:decide (XX≤q)=false:=dec_no g1
       obtain rfl:A1=false:=by rw[HT.out,HO.out,d0,d1];rfl
       go_wp2_with fail
       go_roundw
       case rel=>exact⟨k+1,by go_num,by omega,by rw[HA1.out],HD⟩
       case measure=>simp[intOf];omega
     ·have d0:decide (p≤XX)=false:=dec_no g0
      have d0':decide (XX≥p)=false:=dec_no g0
      obtain rfl:A1=false:=by rw[HT.out,HO.out,d0];rfl
      go_wp2_with fail
      go_roundw
      case rel=>exact⟨k+1,by go_num,by omega,by rw[HA1.out],HD⟩
      case measure=>simp[intOf];omega
   ·have e:k=n:=by omega
    subst e
    have hf:(rs.take k).any (Rul.rngHas XX)=rs.any (Rul.rngHas XX):=by rw[List.take_of_length_le (by have:=HN.out;omega)]
    rw[hf]
    generalize rs.any (Rul.rngHas XX)=AA at*
    clear hf
    go_wp2_with fail
    go_ret
    exact⟨ret_bool (by rw[←HPV.out];cases AA<;>cases no<;>rfl),W1.out.trans (Below.mono HD.out.below W1.out.size)⟩

set_option maxHeartbeats 1000000 in
theorem relholds_n (mod:Int) (no:Bool) (oi ov ow of ot:Int) (a:Option Addr) (n c:Nat) (w:World) (ht:ot≠0):
  Calls Tryz.prog 185 #[.agg #[.int .u8 110,.int .i64 mod,.bool no,.slice a n c],.agg #[.int .i64 oi,.int .i64 ov,.int .i64 ow,.int .i64 of,.int .i64 ot]] w fun e w'=>e= .returned (.bool no)∧Below w.heap.size w w':=by
 have t0:(ot==0)=false:=beq_no ht
 have W1:=lH ((bA w (.cells #[.int .u8 110,.int .i64 mod,.bool no,.slice a n c] 143)).alloc (by simp) (.cells #[.int .i64 oi,.int .i64 ov,.int .i64 ow,.int .i64 of,.int .i64 ot] 103))
 go_enter Tryz.func185,Tryz.ntmps185
 go_wp2_with fail
 go_ret
 exact⟨rfl,W1.out⟩
theorem relholds_any (x:Rul.Rl) (o:Rul.Op5) (a:Option Addr) (n c:Nat) (w:World) (hs:SlAt 2 RngC w (.slice a n c) x.rs) (hok:Rul.relOk x=true):
  Calls Tryz.prog 185 #[.agg #[.int .u8 (x.op.toNat:Int),.int .i64 x.mod,.bool x.no,.slice a n c],.agg #[.int .i64 o.i,.int .i64 o.v,.int .i64 o.w,.int .i64 o.f,.int .i64 o.t]] w fun e w'=>e= .returned (.bool (Rul.relH x o))∧Below w.heap.size w w':=by
 obtain⟨h1,h2,_,_,_⟩:=Rul.relOk_parts hok
 have e:Rul.relH x o=((x.rs.any (Rul.rngHas (Rul.opx x o))&&(!decide (x.op=110)||decide (o.t=0))) !=x.no):=rfl
 rw[e]
 obtain⟨op,mod,no,rs⟩:=x
 obtain⟨oi,ov,ow,of,ot⟩:=o
 dsimp only at*
 rcases Rul.op_cases h1 with rfl|rfl|rfl|rfl|rfl|rfl
 ·by_cases ht:ot=0
  ·subst ht
   exact(relholds_w 110 oi mod no rs oi ov ow of 0 a n c w hs h2 (.inl ⟨rfl,rfl,rfl⟩)).mono fun e w' h=>by simpa[Rul.opx,Rul.opv] using h
  ·exact(relholds_n mod no oi ov ow of ot a n c w ht).mono fun e w' h=>by simpa[ht] using h
 ·exact(relholds_w 105 oi mod no rs oi ov ow of ot a n c w hs h2 (.inr (.inl ⟨rfl,rfl⟩))).mono fun e w' h=>by simpa[Rul.opx,Rul.opv] using h
 ·exact(relholds_w 118 ov mod no rs oi ov ow of ot a n c w hs h2 (.inr (.inr (.inl ⟨rfl,rfl⟩)))).mono fun e w' h=>by simpa[Rul.opx,Rul.opv] using h
 ·exact(relholds_w 119 ow mod no rs oi ov ow of ot a n c w hs h2 (.inr (.inr (.inr (.inl ⟨rfl,rfl⟩))))).mono fun e w' h=>by simpa[Rul.opx,Rul.opv] using h
 ·exact(relholds_w 102 of mod no rs oi ov ow of ot a n c w hs h2 (.inr (.inr (.inr (.inr (.inl ⟨rfl,rfl⟩)))))).mono fun e w' h=>by simpa[Rul.opx,Rul.opv] using h
 ·exact(relholds_w 116 ot mod no rs oi ov ow of ot a n c w hs h2 (.inr (.inr (.inr (.inr (.inr ⟨rfl,rfl⟩)))))).mono fun e w' h=>by simpa[Rul.opx,Rul.opv] using h
open Go.RowKit

theorem all_takeH {α:Type} {L:List α} {p:α→Bool} {k:Nat} {x:α} (h:L[k]?=some x):(L.take (k+1)).all p=((L.take k).all p&&p x):=by
 rw[List.take_add_one,h];simp

set_option maxHeartbeats 8000000 in
theorem rhr_some (r:Rul.Rule) (b off c n:Nat) (oi ov ow of ot:Int) (w:World) (hn:r.length=n) (hm:n≤1000000000) (hE:Rul.ruleE r=0) (hcell: ∀(j:Nat) x,r[j]?=some x→PartC w b (off+j*1) x):
  Calls Tryz.prog 153 #[.slice (some ⟨b,off,none⟩) n c,.agg #[.int .i64 oi,.int .i64 ov,.int .i64 ow,.int .i64 of,.int .i64 ot]] w fun e w'=>e= .returned (.bool (Rul.ruleH r ⟨oi,ov,ow,of,ot⟩))∧Below w.heap.size w w':=by
 have W0:=lH (bA w (.cells #[.int .i64 oi,.int .i64 ov,.int .i64 ow,.int .i64 of,.int .i64 ot] 103))
 have B0:=lH (Boxed.made w #[.int .i64 oi,.int .i64 ov,.int .i64 ow,.int .i64 of,.int .i64 ot] 103)
 have HOK:=lH fun (l:List Rul.Rl) (hlr:l∈r)=>Rul.part_parts ((Rul.shape_parts (Rul.ruleE_zero.1 hE).1).2 l hlr)
 have HLM:=lH fun (l:List Rul.Rl) (hlr:l∈r)=>Nat.le_trans (Rul.count_mem hlr) (Rul.ruleE_zero.1 hE).2
 have HRH:=lH fun (x:Rul.Rl) (a:Option Addr) (n c:Nat) (wx:World) (hs:SlAt 2 RngC wx (.slice a n c) x.rs) (hok:Rul.relOk x=true)=>relholds_any x ⟨oi,ov,ow,of,ot⟩ a n c wx hs hok
 generalize hO:(⟨oi,ov,ow,of,ot⟩:Rul.Op5)=O at*
 have HH:=lH (show Rul.ruleH r O=r.any (Rul.partH · O) from rfl)
 generalize Rul.ruleH r O=RH at*
 have HO:=lH hO
 have HC:=lH hcell
 have HN:=lH hn
 clear hcell hn hE hO
 go_enter Tryz.func153,Tryz.ntmps153
 go_wp2_with fail
 generalize w.alloc (.cells #[.int .i64 oi,.int .i64 ov,.int .i64 ow,.int .i64 of,.int .i64 ot] 103)=v at*
 go_loopw [5] (fun i wr=> ∃k:Nat,i= .int .i64 k∧k≤n∧Hid ((r.take k).any (Rul.partH · O)=false)∧Hid (Below v.heap.size v wr)) (fun i _=>n-(intOf i).toNat)
 case atStart=>exact⟨0,rfl,Nat.zero_le _,lH (by simp),lH (Below.refl _ _)⟩
 case round=>
  obtain⟨k,rfl,hk,HANY,HD⟩:=hrel
  by_cases hlt:k<n
  ·obtain⟨l,hlk⟩: ∃l,r[k]?=some l:=⟨r[k]'(by have:=HN.out;omega),List.getElem?_eq_getElem (by have:=HN.out;omega)⟩
   have hlr:=List.mem_of_getElem? hlk
   have HA:=lH (any_take' (p:=(Rul.partH · O)) hlk)
   have HLR:=lH hlr
   have hp0:=HC.out k l hlk
   rw[Nat.mul_one] at hp0
   obtain⟨pa,pn,pc,q0,qs⟩:=hp0
   obtain⟨A1,cap1,e1,hm1,_⟩:=qs.spread
   injection e1 with e1 e2 e3
   subst e1 e2 e3
   have hlm:=HLM.out l hlr
   have Q0:=lH (fun (wx:World) (hb:Below v.heap.size v wx)=>cK q0 (bT W0.out hb))
   have QS:=lH (fun (wx:World) (hb:Below v.heap.size v wx)=>qs.rels_below (bT W0.out hb))
   have HPH:=lH (show Rul.partH l O=l.all (Rul.relH · O) from rfl)
   generalize Rul.partH l O=PH1 at*
   obtain⟨AN1,hAN1⟩: ∃AN1,(r.take (k+1)).any (Rul.partH · O)=AN1:=⟨_,rfl⟩
   rw[hAN1] at HA
   have HAN1:=lH hAN1
   have HLT:=lH hlk
   clear hAN1
   obtain⟨m,hmm⟩: ∃m,l.length=m:=⟨_,rfl⟩
   rw[hmm] at Q0 QS hlm
   have HM:=lH hmm
   have BO:=lH fun (wx:World) (hb:Below v.heap.size v wx)=>B0.out.below hb
   have k0:(0:Int)≤(k:Int):=by omega
   have k1:(k:Int)<(n:Int):=by omega
   clear q0 qs hmm hlk hm1 hlr
   have HK:=lH (And.intro hlt hk)
   go_wp2_with fail
   go_loopw [6,7] (fun s i wr=> ∃j:Nat,i= .int .i64 j∧j≤m∧s= .bool ((l.take j).all (Rul.relH · O))∧Hid (Below v.heap.size v wr)) (fun _ i _=>m-(intOf i).toNat)
   case atStart=>exact⟨0,rfl,Nat.zero_le _,rfl,HD⟩
   case round=>
    obtain⟨j,rfl,hj,rfl,HI⟩:=hrel
    have p0:=Q0.out wr HI.out
    by_cases hjm:j<m
    ·obtain⟨y,hy⟩: ∃y,l[j]?=some y:=⟨l[j]'(by have:=HM.out;omega),List.getElem?_eq_getElem (by have:=HM.out;omega)⟩
     have hyl:=List.mem_of_getElem? hy
     have HA2:=lH (all_takeH (p:=(Rul.relH · O)) hy)
     obtain⟨b1,of1,rfl,hry⟩: ∃b1 o1,pa=some ⟨b1,o1,none⟩∧ ∀wx,Below v.heap.size v wx→RelC wx b1 (o1+j*4) y:=by
      obtain⟨A1,cap2,e1,_,hcell2⟩:=(QS.out v (Below.refl _ _)).spread
      injection e1 with e1 _ _
      subst e1
      obtain⟨b1,o1,e2,h2⟩:=hcell2 j y hy
      exact⟨b1,o1,e2,fun wx hb=>h2.below hb⟩
     obtain⟨ya,yn,yc,y0,y1,y2,y3,ys⟩:=hry wr HI.out
     have hyok:=(HOK.out l HLR.out).2 y hyl
     have HYS:=lH ys
     have C3:=lH fun (wx:World) (hs:SlAt 2 RngC wx (.slice ya yn yc) y.rs)=>HRH.out y ya yn yc wx hs hyok
     rw[←HO.out] at C3
     dsimp only at C3
     rw[HO.out] at C3
     have o0:=(BO.out wr HI.out).cell 0 _ rfl
     have o1:=(BO.out wr HI.out).cell 1 _ rfl
     have o2:=(BO.out wr HI.out).cell 2 _ rfl
     have o3:=(BO.out wr HI.out).cell 3 _ rfl
     have o4:=(BO.out wr HI.out).cell 4 _ rfl
     have ol:=(BO.out wr HI.out).lt
     have j0:(0:Int)≤(j:Int):=by omega
     have j1:(j:Int)<(m:Int):=by omega
     have HB1:=lH HI.out
     obtain⟨L1,hL1⟩: ∃L1,(l.take (j+1)).all (Rul.relH · O)=L1:=⟨_,rfl⟩
     rw[hL1] at HA2
     have HL1:=lH hL1
     clear hL1
     generalize (l.take j).all (Rul.relH · O)=L0 at*
     generalize Rul.relH y O=LY at*
     clear hry hy hyl hyok ys
     cases L0 with
     |true=>
      obtain rfl:L1=LY:=by rw[HA2.out];rfl
      go_wp2_with fail
      refine wp_region_held_drew (S:=fun w'=>w'.cell? ⟨b,off+k,none⟩=some (.slice (some ⟨b1,of1,none⟩) m pc)∧w'.cell? ⟨b1,of1+j*4,none⟩=some (.int .u8 (y.op.toNat:Int))∧w'.cell? ⟨b1,of1+j*4+1,none⟩=some (.int .i64 y.mod)∧w'.cell? ⟨b1,of1+j*4+2,none⟩=some (.bool y.no)∧w'.cell? ⟨b1,of1+j*4+3,none⟩=some (.slice ya yn yc)∧w'.cell? ⟨w.heap.size,0,none⟩=some (.int .i64 oi)∧w'.cell? ⟨w.heap.size,1,none⟩=some (.int .i64 ov)∧w'.cell? ⟨w.heap.size,2,none⟩=some (.int .i64 ow)∧w'.cell? ⟨w.heap.size,3,none⟩=some (.int .i64 of)∧w'.cell? ⟨w.heap.size,4,none⟩=some (.int .i64 ot)∧Hid (SlAt 2 RngC w' (.slice ya yn yc) y.rs)∧Hid (Below v.heap.size v w')) (by kernel_rfl) (by exact⟨by go_keep,by go_keep,by go_keep,by go_keep,by go_keep,by go_keep,by go_keep,by go_keep,by go_keep,by go_keep,lH (HYS.out.rngs_below (Below.drew (Below.refl _ _))),lH (Below.drew HB1.out)⟩) (fun hY9=>?_)
      refine tkr (d:=(some 23)) (v:=?v1) 0 rfl rfl hY9 ?hy1 ?rs1
      case hy1=>(intro w hSw;(try dsimp only at hSw);go_simp)<;>(try with_reducible rfl)
      (try simp only[Act.put,aI,aO,aS])
      refine tkr (d:=(some 24)) (v:=?v2) 1 rfl rfl hY9 ?hy2 ?rs2
      case hy2=>(intro w hSw;(try dsimp only at hSw);go_simp)<;>(try with_reducible rfl)
      (try simp only[Act.put,aI,aO,aS])
      refine tkr (d:=(some 25)) (v:=?v3) 2 rfl rfl hY9 ?hy3 ?rs3
      case hy3=>(intro w hSw;(try dsimp only at hSw);go_simp)<;>(try with_reducible rfl)
      (try simp only[Act.put,aI,aO,aS])
      refine tkr (d:=(some 26)) (v:=?v4) 3 rfl rfl hY9 ?hy4 ?rs4
      case hy4=>(intro w hSw;(try dsimp only at hSw);go_simp)<;>(try with_reducible rfl)
      (try simp only[Act.put,aI,aO,aS])
      refine tkr (d:=(some 27)) (v:=?v5) 4 rfl rfl hY9 ?hy5 ?rs5
      case hy5=>(intro w hSw;(try dsimp only at hSw);go_simp)<;>(try with_reducible rfl)
      (try simp only[Act.put,aI,aO,aS])
      refine tkr (d:=(some 28)) (v:=?v6) 5 rfl rfl hY9 ?hy6 ?rs6
      case hy6=>(intro w hSw;(try dsimp only at hSw);go_simp)<;>(try with_reducible rfl)
      (try simp only[Act.put,aI,aO,aS])
      refine tkr (d:=(some 29)) (v:=?v7) 6 rfl rfl hY9 ?hy7 ?rs7
      case hy7=>(intro w hSw;(try dsimp only at hSw);go_simp)<;>(try with_reducible rfl)
      (try simp only[Act.put,aI,aO,aS])
      refine tkr (d:=(some 30)) (v:=?v8) 7 rfl rfl hY9 ?hy8 ?rs8
      case hy8=>(intro w hSw;(try dsimp only at hSw);go_simp)<;>(try with_reducible rfl)
      (try simp only[Act.put,aI,aO,aS])
      refine tkr (d:=(some 31)) (v:=?v9) 8 rfl rfl hY9 ?hy9 ?rs9
      case hy9=>(intro w hSw;(try dsimp only at hSw);go_simp)<;>(try with_reducible rfl)
      (try simp only[Act.put,aI,aO,aS])
      refine tkr (d:=(some 32)) (v:=?v10) 9 rfl rfl hY9 ?hy10 ?rs10
      case hy10=>(intro w hSw;(try dsimp only at hSw);go_simp)<;>(try with_reducible rfl)
      (try simp only[Act.put,aI,aO,aS])
      refine take_call 10 rfl (by kernel_rfl) (by rfl) (fun K hK=>?_)
      go_simp
      refine(C3.out _ (by obtain⟨_,_,_,_,_,_,_,_,_,_,h1,_⟩:=hY9;exact h1.out)).mono ?_
      rintro e w' ⟨rfl,hb⟩
      refine hK.out _ _ (by obtain⟨h0,h1,h2,h3,h4,h5,h6,h7,h8,h9,h10,hw⟩:=hY9;exact⟨cK h0 hb,cK h1 hb,cK h2 hb,cK h3 hb,cK h4 hb,cK h5 hb,cK h6 hb,cK h7 hb,cK h8 hb,cK h9 hb,lH (h10.out.rngs_below hb),lH (bT hw.out hb)⟩) (fun hY9=>?_)
      clear hK K
      (try simp only[Act.put,aI,aO,aS])
      refine tkr (d:=(some 34)) (v:=?v12) 11 rfl rfl hY9 ?hy12 ?rs12
      case hy12=>(intro w hSw;(try dsimp only at hSw);go_simp)<;>(try with_reducible rfl)
      (try simp only[Act.put,aI,aO,aS])
      refine tkr (d:=(some 6)) (v:=?v13) 12 rfl rfl hY9 ?hy13 ?rs13
      case hy13=>(intro w hSw;(try dsimp only at hSw);go_simp)<;>(try with_reducible rfl)
      (try simp only[Act.put,aI,aO,aS])
      refine wpAnyH_done (by kernel_rfl) ?_ _
      obtain⟨z0,z1,z2,z3,z4,z5,z6,z7,z8,z9,z10,zW⟩:=hY9
      clear z0 z1 z2 z3 z4 z5 z6 z7 z8 z9 z10 C3
      go_wp2_with fail
      go_roundw
      case rel=>exact⟨j+1,by go_num,by omega,by rw[HL1.out],zW⟩
      case measure=>simp[intOf];omega
     |false=>
      obtain rfl:L1=false:=by rw[HA2.out];rfl
      go_wp2_with fail
      refine wp_region_held_drew (S:=fun w'=>w'.cell? ⟨b,off+k,none⟩=some (.slice (some ⟨b1,of1,none⟩) m pc)∧w'.cell? ⟨b1,of1+j*4,none⟩=some (.int .u8 (y.op.toNat:Int))∧w'.cell? ⟨b1,of1+j*4+1,none⟩=some (.int .i64 y.mod)∧w'.cell? ⟨b1,of1+j*4+2,none⟩=some (.bool y.no)∧w'.cell? ⟨b1,of1+j*4+3,none⟩=some (.slice ya yn yc)∧w'.cell? ⟨w.heap.size,0,none⟩=some (.int .i64 oi)∧w'.cell? ⟨w.heap.size,1,none⟩=some (.int .i64 ov)∧w'.cell? ⟨w.heap.size,2,none⟩=some (.int .i64 ow)∧w'.cell? ⟨w.heap.size,3,none⟩=some (.int .i64 of)∧w'.cell? ⟨w.heap.size,4,none⟩=some (.int .i64 ot)∧Hid (SlAt 2 RngC w' (.slice ya yn yc) y.rs)∧Hid (Below v.heap.size v w')) (by kernel_rfl) (by exact⟨by go_keep,by go_keep,by go_keep,by go_keep,by go_keep,by go_keep,by go_keep,by go_keep,by go_keep,by go_keep,lH (HYS.out.rngs_below (Below.drew (Below.refl _ _))),lH (Below.drew HB1.out)⟩) (fun hY9=>?_)
      refine tkr (d:=(some 23)) (v:=?v14) 0 rfl rfl hY9 ?hy14 ?rs14
      case hy14=>(intro w hSw;(try dsimp only at hSw);go_simp)<;>(try with_reducible rfl)
      (try simp only[Act.put,aI,aO,aS])
      refine tkr (d:=(some 24)) (v:=?v15) 1 rfl rfl hY9 ?hy15 ?rs15
      case hy15=>(intro w hSw;(try dsimp only at hSw);go_simp)<;>(try with_reducible rfl)
      (try simp only[Act.put,aI,aO,aS])
      refine tks (d:=(some 25)) 2 rfl rfl hY9 ?_
      (try simp only[Act.put,aI,aO,aS])
      refine tks (d:=(some 26)) 3 rfl rfl hY9 ?_
      (try simp only[Act.put,aI,aO,aS])
      refine tks (d:=(some 27)) 4 rfl rfl hY9 ?_
      (try simp only[Act.put,aI,aO,aS])
      refine tks (d:=(some 28)) 5 rfl rfl hY9 ?_
      (try simp only[Act.put,aI,aO,aS])
      refine tks (d:=(some 29)) 6 rfl rfl hY9 ?_
      (try simp only[Act.put,aI,aO,aS])
      refine tks (d:=(some 30)) 7 rfl rfl hY9 ?_
      (try simp only[Act.put,aI,aO,aS])
      refine tks (d:=(some 31)) 8 rfl rfl hY9 ?_
      (try simp only[Act.put,aI,aO,aS])
      refine tks (d:=(some 32)) 9 rfl rfl hY9 ?_
      (try simp only[Act.put,aI,aO,aS])
      refine tks (d:=(some 33)) 10 rfl rfl hY9 ?_
      (try simp only[Act.put,aI,aO,aS])
      refine tkr (d:=(some 34)) (v:=?v25) 11 rfl rfl hY9 ?hy25 ?rs25
      case hy25=>(intro w hSw;(try dsimp only at hSw);go_simp)<;>(try with_reducible rfl)
      (try simp only[Act.put,aI,aO,aS])
      refine tkr (d:=(some 6)) (v:=?v26) 12 rfl rfl hY9 ?hy26 ?rs26
      case hy26=>(intro w hSw;(try dsimp only at hSw);go_simp)<;>(try with_reducible rfl)
      (try simp only[Act.put,aI,aO,aS])
      refine wpAnyH_done (by kernel_rfl) ?_ _
      obtain⟨z0,z1,z2,z3,z4,z5,z6,z7,z8,z9,z10,zW⟩:=hY9
      clear z0 z1 z2 z3 z4 z5 z6 z7 z8 z9 z10 C3
      go_wp2_with fail
      go_roundw
      case rel=>exact⟨j+1,by go_num,by omega,by rw[HL1.out],zW⟩
      case measure=>simp[intOf];omega
    ·have e:j=m:=by omega
     subst e
     have HF:=lH (show(l.take j).all (Rul.relH · O)=PH1 by rw[HPH.out,List.take_of_length_le (by have:=HM.out;omega)])
     rw[HF.out]
     clear HF
     have ht:=HK.out
     cases PH1 with
     |true=>
      have hfin:RH=true:=by
       rw[HH.out,List.any_eq_true]
       exact⟨l,HLR.out,by rw[show Rul.partH l O=l.all (Rul.relH · O) from rfl,←HPH.out]⟩
      go_wp2_with fail
      go_ret
      exact⟨ret_bool (by rw[hfin]),W0.out.trans (HI.out.mono W0.out.size)⟩
     |false=>
      go_wp2_with fail
      go_roundw
      case rel=>exact⟨k+1,by go_num,by omega,lH (by rw[HAN1.out,HA.out,HANY.out];rfl),HI⟩
      case measure=>simp[intOf];omega
  ·have e:k=n:=by omega
   subst e
   have hfin:RH=false:=by rw[HH.out];have:=HANY.out;rwa [List.take_of_length_le (by have:=HN.out;omega)] at this
   go_wp2_with fail
   go_ret
   exact⟨ret_bool (by rw[hfin]),W0.out.trans (HD.out.mono W0.out.size)⟩
theorem rhr_any (r:Rul.Rule) (A:Option Addr) (n c:Nat) (o:Rul.Op5) (w:World) (hr:SlAt 1 PartC w (.slice A n c) r) (hE:Rul.ruleE r=0):
  Calls Tryz.prog 153 #[.slice A n c,.agg #[.int .i64 o.i,.int .i64 o.v,.int .i64 o.w,.int .i64 o.f,.int .i64 o.t]] w fun e w'=>e= .returned (.bool (Rul.ruleH r o))∧Below w.heap.size w w':=by
 obtain⟨hs,hc⟩:=Rul.ruleE_zero.1 hE
 rcases hr with⟨rfl,a,c',e⟩|⟨b,off,cap,e,h0,_,_,h3⟩
 ·exact absurd rfl (Rul.shape_parts hs).1
 ·injection e with e1 e2 e3
  subst e1 e2 e3
  exact rhr_some r b off _ _ o.i o.v o.w o.f o.t w rfl (by have:=Rul.len_count (fun l hl=>(Rul.part_parts ((Rul.shape_parts hs).2 l hl)).1);omega) hE h3
end Go.Proofs.YtldbfkccieipjaaGreatDoor
