/- The walk of nout.Format. Conditions: the library's table of powers and its variable MaxLen are there; the pattern's texts are short. -/
import Derived.Test.YtldbfkccieipjaaGreatDoorEf13
import Derived.Test.YtldbfkccieipjaaGreatDoorEf0
import Derived.Test.YtldbfkccieipjaaGreatDoorEf4
import Derived.LoopTactic
import Derived.Test.YtldbfkccieipjaaGreatDoorProg
import Derived.Laws.AppendOwn
import Derived.Test.YtldbfkccieipjaaGreatDoorEf9
import Derived.Lib.OwnBridge
import Derived.OwnWalk
import Derived.Test.YtldbfkccieipjaaGreatDoorEf7
import Derived.Test.YtldbfkccieipjaaGreatDoorShelfC
import Derived.Test.YtldbfkccieipjaaGreatDoorEf5
import Derived.Deep.DeepCutAuto
import Derived.Test.YtldbfkccieipjaaGreatDoorEf14
import Derived.Test.YtldbfkccieipjaaGreatDoorEf3
namespace Go.Proofs.YtldbfkccieipjaaGreatDoor
set_option maxRecDepth 100000
open Go.RowKit
open Dcm (okD)
theorem rem_ten {c:Int}:(c.tmod 10==0)=decide (c%10=0):=by
 rw[Bool.eq_iff_iff,beq_iff_eq,decide_eq_true_iff]
 constructor<;>intro h
 ·exact Int.emod_eq_zero_of_dvd (Int.dvd_of_tmod_eq_zero h)
 ·exact Int.tmod_eq_zero_of_dvd (Int.dvd_of_emod_eq_zero h)
theorem quo_ten {c:Int} (h:c%10=0):c.tdiv 10=c/10:=by
 obtain⟨k,rfl⟩:=Int.dvd_of_emod_eq_zero h
 rw[Int.mul_tdiv_cancel_left _ (by decide),Int.mul_ediv_cancel_left _ (by decide)]

set_option maxHeartbeats 2000000 in
theorem trimmed_any (c s:Int) (w:World) (h:okD c s):
  Calls Tryz.prog 188 #[.agg #[.int .i64 c,.int .i64 s],.int .i64 0] w fun e w'=>e= .returned (.agg #[.int .i64 (Nt.trim c s).1,.int .i64 (Nt.trim c s).2])∧Below w.heap.size w w':=by
 obtain⟨s0,s9,c0,c1⟩:=h
 obtain⟨m,rfl⟩: ∃m:Nat,s=(m:Int):=⟨s.toNat,by omega⟩
 unfold Nt.trim
 rw[Int.toNat_natCast]
 have D0:=Lib.hid ((Boxed.made w #[.int .i64 c,.int .i64 (m:Int)] 31).alloc (.cells #[.int .i64 0,.int .i64 0] 31))
 have Z0:=Lib.hid (Boxed.at (q:=w.heap.size+1) (Boxed.made (w.alloc (.cells #[.int .i64 c,.int .i64 (m:Int)] 31)) #[.int .i64 0,.int .i64 0] 31) (by simp))
 have W0:=Lib.hid (blw_trans (blw_alloc w (.cells #[.int .i64 c,.int .i64 (m:Int)] 31)) (blw_alloc _ (.cells #[.int .i64 0,.int .i64 0] 31)))
 obtain⟨T,hT⟩: ∃T,T=Dcm.strip m c:=⟨_,rfl⟩
 rw[←hT]
 have HT:=Lib.hid hT.symm
 clear hT
 go_enter Tryz.func188,Tryz.ntmps188
 go_wp2_with fail
 generalize (w.alloc (.cells #[.int .i64 c,.int .i64 (m:Int)] 31)).alloc (.cells #[.int .i64 0,.int .i64 0] 31)=w1 at*
 go_loopw [] (fun wr=> ∃(c':Int) (n:Nat),Hid (Boxed wr w.heap.size #[.int .i64 c',.int .i64 (n:Int)])∧Hid (Boxed wr (w.heap.size+1) #[.int .i64 0,.int .i64 0])∧Hid (Below w.heap.size w wr)∧Hid (Dcm.strip n c'=T)∧ -1000000000000000≤c'∧c'≤1000000000000000∧n≤9) (fun wr=>(RowKit.intOf ((wr.cell? ⟨w.heap.size,1,none⟩).getD .nilIface)).toNat)
 case atStart=>exact⟨c,m,D0,Z0,W0,HT,c0,c1,by omega⟩
 case round=>
  obtain⟨c',n,D,Z,HB,HS,b0,b1,n9⟩:=hrel
  clear D0 Z0 W0 HT c0 c1 s0 s9
  have d0:=D.out.cell 0 _ rfl
  have d1:=D.out.cell 1 _ rfl
  have df0:=D.out.free 0 (by simp)
  have df1:=D.out.free 1 (by simp)
  have dl:=D.out.lt
  have z0:=Z.out.cell 0 _ rfl
  have z1:=Z.out.cell 1 _ rfl
  have zf0:=Z.out.free 0 (by simp)
  have zf1:=Z.out.free 1 (by simp)
  have zl:=Z.out.lt
  cases n with
  |zero=>
   have e0:T=(0,c'):=HS.out.symm
   subst e0
   go_wp2_with fail
   refine bodyPost_ret (v:= .agg #[.int .i64 c',.int .i64 0]) (by simp[results,Tryz.results188,go_sem,z0,z1];try rfl) rfl ?_
   exact⟨rfl,by repeat(first|exact HB.out|refine blw_drewN ?_ _|refine Below.setCell ?_ (by first|(simp;done)|omega|(simp;omega)) _)⟩
  |succ n=>
   have hn:(0:Int)<((n+1:Nat):Int):=by omega
   have w1':IntKind.i64.wrap (((n+1:Nat):Int)-1)=(n:Int):=by rw[IntWalk.i64_in _ (by omega)];omega
   by_cases h0:c'%10=0
   ·have r0:(c'.tmod 10==0)=true:=by rw[rem_ten,decide_eq_true h0]
    have q0:IntKind.i64.wrap (c'.tdiv 10)=c'/10:=by rw[quo_ten h0,IntWalk.i64_in _ (by omega)]
    have HS':=Lib.hid (show Dcm.strip n (c'/10)=T by rw[←HS.out,Dcm.strip,if_pos h0])
    have bb0: -1000000000000000≤c'/10:=by omega
    have bb1:c'/10≤1000000000000000:=by omega
    have e1:((n+1:Nat):Int)-1=(n:Int):=by omega
    have D2:=Lib.hid ((D.out.set 0 (.int .i64 (c'/10)) (by simp)).set 1 (.int .i64 (n:Int)) (by simp))
    have Z2:=Lib.hid ((Z.out.far (q:=w.heap.size) (by omega) 0 (.int .i64 (c'/10))).far (q:=w.heap.size) (by omega) 1 (.int .i64 (n:Int)))
    generalize c'/10=c2 at*
    generalize hM:((n+1:Nat):Int)=M at*
    clear h0 HS b0 b1
    go_wp2_with fail
    go_roundw
    case rel=>exact⟨c2,n,Lib.hid D2.out,Lib.hid Z2.out,Lib.hid (by repeat(first|exact HB.out|refine blw_drewN ?_ _|refine Below.setCell ?_ (by first|(simp;done)|omega|(simp;omega)) _)),HS',bb0,bb1,by omega⟩
    case measure=>simp[RowKit.intOf,go_sem,d1];omega
   ·have r0:(c'.tmod 10==0)=false:=by rw[rem_ten,decide_eq_false h0]
    have e0:T=(n+1,c'):=by rw[←HS.out,Dcm.strip,if_neg h0]
    subst e0
    clear h0 HS
    go_wp2_with fail
    refine bodyPost_ret (v:= .agg #[.int .i64 c',.int .i64 ((n+1:Nat):Int)]) (by simp[results,Tryz.results188,go_sem,z0,z1];try rfl) rfl ?_
    exact⟨rfl,by repeat(first|exact HB.out|refine blw_drewN ?_ _|refine Below.setCell ?_ (by first|(simp;done)|omega|(simp;omega)) _)⟩
open Go.RowKit
theorem own_cells {w:World} {base n:Nat} {e:TypeId} {v:Value} {xs:List Value} (h:w.ownsRow base e 1 v n xs) (hn:0<n):
  ∃g cap,v= .slice (some ⟨g,0,none⟩) n cap∧base≤g∧n≤cap∧cap≤maxLen∧ ∀(j:Nat) x,xs[j]?=some x→w.cell? ⟨g,j,none⟩=some x:=by
 obtain⟨hl,h⟩:=h
 rw[Nat.mul_one] at hl
 rcases h with⟨rfl,h0⟩|⟨g,cap,cur,rfl,hb,hg,h1,h2,h3,h4⟩
 ·omega
 ·refine⟨g,cap,rfl,hb,h1,h2,fun j x hx=>?_⟩
  have hj:j<xs.length:=(List.getElem?_eq_some_iff.1 hx).1
  have hc:cur[j]?=some x:=by
   have e:(cur.toList.take (n*1))[j]?=some x:=by rw[h4];exact hx
   rw[Nat.mul_one,List.getElem?_take,if_pos (by omega)] at e
   simpa using e
  simp[World.cell?,hg,hc]
theorem own_ne {w:World} {base n:Nat} {e:TypeId} {v:Value} {xs:List Value} (h:w.ownsRow base e 1 v n xs) (hn:0<n):v≠ .slice none 0 0:=by
 obtain⟨g,cap,rfl,_⟩:=own_cells h hn
 intro e;cases e
open Go.RowKit

theorem infoStrG:(Tryz.prog.info? 9).map (fun i=>(i.zero,i.size,i.bytes))=some (some (.string ByteArray.empty),1,16):=by kernel_rfl
abbrev byV (c:UInt8):Value:= .int .u8 (c.toNat:Int)

set_option maxHeartbeats 1000000 in
theorem put_zero (s:List UInt8) (g2 c:Int) (w:World) (hs:s.length≤4000000000) (h:digB s=true) (hc: ¬(48≤c∧c≤57)) (hg:rightG 0 g2):
  Calls Tryz.prog 191 #[.string ⟨s.toArray⟩,.int .i64 0,.int .i64 g2,.int .u8 c] w fun e w'=>e= .returned (.tuple #[.string ⟨s.toArray⟩,.nilIface])∧Below w.heap.size w w':=by
 have C:=Lib.hid fun w=>gdigits_any s w hs
 have CK:=Lib.hid fun w=>gcheck_ok 0 g2 c w hc hg
 rw[h] at C
 clear h hc hg
 go_enter Tryz.func191,Tryz.ntmps191
 go_wp2_with fail
 refine(C.out _).mono ?_
 rintro e w1 ⟨rfl,hb⟩
 have W1:=Lib.hid hb
 clear hb
 go_wp2_with fail
 refine(CK.out _).mono ?_
 rintro e w' ⟨rfl,rfl⟩
 go_wp2_with fail
 go_ret2
 exact⟨rfl,W1.out⟩
theorem slice_toI {P:Program} (t:TypeId) (h:P.underlying t=some .string) (L:List UInt8) (j:Int) (a:Nat) (hj:j=a) (ha:a≤L.length) (w:World):
  (Instr.slice t (.string ⟨L.toArray⟩) none (some (.int .i64 j)) none).run P w= .ok (.string ⟨(L.take a).toArray⟩) w:=by
 subst hj;exact slice_to t h L .i64 a ha w
theorem slice_fromI {P:Program} (t:TypeId) (h:P.underlying t=some .string) (L:List UInt8) (j:Int) (a:Nat) (hj:j=a) (ha:a≤L.length) (w:World):
  (Instr.slice t (.string ⟨L.toArray⟩) (some (.int .i64 j)) none none).run P w= .ok (.string ⟨(L.drop a).toArray⟩) w:=by
 subst hj;exact slice_from t h L .i64 a ha w

set_option maxHeartbeats 2000000 in
theorem put_some0 (s:List UInt8) (g:Nat) (c:UInt8) (w:World) (hs:s.length≤1000000000) (h:digB s=true) (hc: ¬(48≤(c.toNat:Int)∧(c.toNat:Int)≤57)) (g1:0<g) (g4:g≤4):
  Calls Tryz.prog 191 #[.string ⟨s.toArray⟩,.int .i64 g,.int .i64 0,byV c] w fun e w'=>e= .returned (.tuple #[.string ⟨(Grp.grouped g g s c).toArray⟩,.nilIface])∧Below w.heap.size w w':=by
 obtain⟨i0,hi,hz0,hz1,hz2⟩:=info_parts infoStrG
 have C:=Lib.hid fun w=>gdigits_any s w (by omega)
 have CK:=Lib.hid fun w=>gcheck_ok g 0 (c.toNat:Int) w hc ⟨by omega,by omega,by omega,by omega⟩
 rw[h] at C
 have cb:=c.toNat_lt
 have CV: ∀w:World,(convert 72 9 (.slice (some ⟨w.heap.size,0,none⟩) 1 1)).run Tryz.prog (w.alloc (.cells #[byV c] 5))= .ok (.string ⟨[c].toArray⟩) (w.alloc (.cells #[byV c] 5)):=fun w=>by
  have q:=conv_one (P:= Tryz.prog) 72 9 5 Tryz.underlying72 Tryz.underlying5 Tryz.underlying9 (c.toNat:Int) w (by omega) (by omega)
  rw[show UInt8.ofNat (c.toNat:Int).toNat=c by simp] at q
  exact q
 have b1:((g:Int)==0)=false:=beq_no (by omega)
 have HL:=Lib.hid (Grp.grouped_len s.length g g s c (Nat.le_refl _))
 have HG:=Lib.hid (show Grp.grouped g g s c=Lib.join (Grp.pieces g g s) [c] from rfl)
 clear h hc
 generalize Grp.grouped g g s c=RES at*
 go_enter Tryz.func191,Tryz.ntmps191
 go_wp2_with fail
 refine(C.out _).mono ?_
 rintro e w1 ⟨rfl,hb⟩
 have W1:=Lib.hid hb
 clear hb
 go_wp2_with fail
 refine(CK.out _).mono ?_
 rintro e w' ⟨rfl,rfl⟩
 go_wp2_with fail
 go_loopw [0,11,12] (fun u o z wr=> ∃(U:List UInt8) (R:List (List UInt8)) (k:Nat),u= .string ⟨U.toArray⟩∧z= .int .i64 k∧0<k∧k≤4∧U.length≤s.length∧R.length+U.length≤s.length∧Hid (wr.ownsRow w.heap.size 9 1 o R.length (R.map txtV))∧Hid (Below w.heap.size w wr)∧Hid (Grp.pieces g g s=Grp.pieces k g U++R.reverse)) (fun u _ _ _=>strLen u)
 case atStart=>exact⟨s,[],g,rfl,rfl,g1,g4,Nat.le_refl _,by simp,Lib.hid ⟨rfl,.inl ⟨rfl,rfl⟩⟩,W1,Lib.hid (by simp)⟩
 case round=>
  obtain⟨U,R,k,rfl,rfl,k1,k4,hU,hR,HO,HB,HI⟩:=hrel
  clear W1
  have hsz:=size_mkl U
  by_cases hlt:k<U.length
  ·have IH:=Lib.hid (show Grp.pieces g g s=Grp.pieces g g (U.take (U.length-k))++(R++ [U.drop (U.length-k)]).reverse by
    rw[HI.out,Grp.pieces_cut k1 hlt];simp)
   have S1:=fun w=>slice_fromI (P:= Tryz.prog) 9 Tryz.underlying9 U ((U.length:Int)-(k:Int)) (U.length-k) (by omega) (by omega) w
   have S2:=fun w=>slice_toI (P:= Tryz.prog) 9 Tryz.underlying9 U ((U.length:Int)-(k:Int)) (U.length-k) (by omega) (by omega) w
   have hlen:(U.take (U.length-k)).length+k=U.length:=by simp;omega
   clear HI
   generalize U.take (U.length-k)=U' at*
   generalize U.drop (U.length-k)=x at*
   have hown:=HO.out
   have hbs:=HB.out.size
   go_wp2_with (at_builtin;refine wpList_append_own _ rfl _ _ 45 rfl w.heap.size 9 i0 (.string ByteArray.empty) 1 16 Tryz.underlying45 hi hz0 hz1 hz2 rfl (by decide) _ _ _ rfl (hown.alloc _) ⟨wr.heap.size,0,none⟩ 1 1 [txtV x] rfl rfl (cell_one_new _ _ _) (fun x hx=>by simp at hx;subst hx;rfl) (by unfold maxLen;omega) (by omega) (by simp;omega) ?_;intro v' w2 hown' hgrow _)
   have HO':=Lib.hid (show w2.ownsRow w.heap.size 9 1 v' (R++ [x]).length ((R++ [x]).map txtV) by simpa using hown')
   have HB':=Lib.hid (show Below w.heap.size w w2 from(HB.out.alloc hbs _).grown hgrow (by simp;omega) (fun k hk=>(hown.lt k hk).1))
   clear hown hown' hgrow hbs HO HB S1
   go_wp2_with fail
   go_roundw
   case rel=>exact⟨U',R++ [x],g,rfl,rfl,by omega,by omega,by omega,by simp;omega,HO',HB',IH⟩
   case measure=>rw[strLen_mk,strLen_mk];omega
  ·have IE:=Lib.hid (show Grp.pieces g g s=(R++ [U]).reverse by rw[HI.out,Grp.pieces_one (by omega)];simp)
   clear HI
   have hown:=HO.out
   have hbs:=HB.out.size
   go_wp2_with (at_builtin;refine wpList_append_own _ rfl _ _ 45 rfl w.heap.size 9 i0 (.string ByteArray.empty) 1 16 Tryz.underlying45 hi hz0 hz1 hz2 rfl (by decide) _ _ _ rfl (hown.alloc _) ⟨wr.heap.size,0,none⟩ 1 1 [txtV U] rfl rfl (cell_one_new _ _ _) (fun x hx=>by simp at hx;subst hx;rfl) (by unfold maxLen;omega) (by omega) (by simp;omega) ?_;intro v' w2 hown' hgrow _)
   have HO':=Lib.hid (show w2.ownsRow w.heap.size 9 1 v' (R++ [U]).length ((R++ [U]).map txtV) by simpa using hown')
   have HB':=Lib.hid (show Below w.heap.size w w2 from(HB.out.alloc hbs _).grown hgrow (by simp;omega) (fun k hk=>(hown.lt k hk).1))
   clear hown hown' hgrow hbs HO HB
   have hZ:0<(R++ [U]).length:=by simp
   have hZl:(R++ [U]).length≤1000000001:=by simp;omega
   generalize R++ [U]=Z at*
   obtain⟨b,cap,rfl,hb1,hb2,hn,hm,hzl,hH⟩:=Lib.holds_of_ownsRow (enc:=encStr) (zs:=Z) HO'.out (own_ne HO'.out hZ)
   have CR:=Lib.hid (Tryz.slices_Reverse_string b 0 cap Z w2 hH (by omega))
   have HS:Hid (∀q,StrsAt (Sort.putRow encStr (Sort.ahead w2 q) b 0 Z.reverse.toArray) (.slice (some ⟨b,0,none⟩) Z.length cap) Z.reverse):=Lib.hid (fun q=>by
    have t:=StrsAt.of_row (Lib.ownsRow_putRow (q:=q) (k:=Z.length) (ys:=Z.reverse) HO'.out (by simp) (Nat.le_refl _))
    rw[List.take_of_length_le (by simp)] at t
    exact t)
   have HB2:=Lib.hid (fun q=>Lib.below_putRow (enc:=encStr) (q:=q) (d:=Z.reverse.toArray) HB'.out hb1)
   clear hH HO' HB' hzl hZ
   go_wp2_with fail
   refine CR.out.mono ?_
   rintro e w3 ⟨rfl,q,hw3⟩
   have HS3:=Lib.hid (hw3▸HS.out q)
   have HB3:=Lib.hid (hw3▸HB2.out q)
   clear hw3 HS HB2 CR hb2
   have HR2:=Lib.hid (show RES=Lib.join Z.reverse [c] by rw[HG.out,IE.out])
   have hjl:Lst.total Z.reverse [c]≤2000000000000:=by
    have a:=HL.out.1
    rw[HR2.out] at a
    have b:=lens_le_join Z.reverse [c]
    unfold Lst.total
    simp only[List.length_cons,List.length_nil,List.length_reverse]
    omega
   have CJ:=Lib.hid fun w h=>sjoin_any Z.reverse (.slice (some ⟨b,0,none⟩) Z.length cap) [c] w h (by simp;omega) hjl
   rw[←HR2.out] at CJ
   clear hjl HG HL IE HR2
   go_wp2_with fail
   refine(CJ.out _ (HS3.out.alloc _)).mono ?_
   rintro e w4 ⟨rfl,hb⟩
   have HB4:=Lib.hid (HB3.out.alloc HB3.out.size _|>.trans (hb.mono (by simp;exact Nat.le_succ_of_le HB3.out.size)))
   clear hb
   go_wp2_with fail
   go_ret2
   exact⟨rfl,HB4.out⟩

set_option maxHeartbeats 2000000 in
theorem put_some (s:List UInt8) (g g2:Nat) (c:UInt8) (w:World) (hs:s.length≤1000000000) (h:digB s=true) (hc: ¬(48≤(c.toNat:Int)∧(c.toNat:Int)≤57)) (g1:0<g) (g4:g≤4) (h1:0<g2) (h4:g2≤4):
  Calls Tryz.prog 191 #[.string ⟨s.toArray⟩,.int .i64 g,.int .i64 g2,byV c] w fun e w'=>e= .returned (.tuple #[.string ⟨(Grp.grouped g g2 s c).toArray⟩,.nilIface])∧Below w.heap.size w w':=by
 obtain⟨i0,hi,hz0,hz1,hz2⟩:=info_parts infoStrG
 have C:=Lib.hid fun w=>gdigits_any s w (by omega)
 have CK:=Lib.hid fun w=>gcheck_ok g g2 (c.toNat:Int) w hc ⟨by omega,by omega,by omega,by omega⟩
 rw[h] at C
 have cb:=c.toNat_lt
 have CV: ∀w:World,(convert 72 9 (.slice (some ⟨w.heap.size,0,none⟩) 1 1)).run Tryz.prog (w.alloc (.cells #[byV c] 5))= .ok (.string ⟨[c].toArray⟩) (w.alloc (.cells #[byV c] 5)):=fun w=>by
  have q:=conv_one (P:= Tryz.prog) 72 9 5 Tryz.underlying72 Tryz.underlying5 Tryz.underlying9 (c.toNat:Int) w (by omega) (by omega)
  rw[show UInt8.ofNat (c.toNat:Int).toNat=c by simp] at q
  exact q
 have b1:((g:Int)==0)=false:=beq_no (by omega)
 have b2:((g2:Int)==0)=false:=beq_no (by omega)
 have HL:=Lib.hid (Grp.grouped_len s.length g g2 s c (Nat.le_refl _))
 have HG:=Lib.hid (show Grp.grouped g g2 s c=Lib.join (Grp.pieces g g2 s) [c] from rfl)
 clear h hc
 generalize Grp.grouped g g2 s c=RES at*
 go_enter Tryz.func191,Tryz.ntmps191
 go_wp2_with fail
 refine(C.out _).mono ?_
 rintro e w1 ⟨rfl,hb⟩
 have W1:=Lib.hid hb
 clear hb
 go_wp2_with fail
 refine(CK.out _).mono ?_
 rintro e w' ⟨rfl,rfl⟩
 go_wp2_with fail
 go_loopw [0,11,12] (fun u o z wr=> ∃(U:List UInt8) (R:List (List UInt8)) (k:Nat),u= .string ⟨U.toArray⟩∧z= .int .i64 k∧0<k∧k≤4∧U.length≤s.length∧R.length+U.length≤s.length∧Hid (wr.ownsRow w.heap.size 9 1 o R.length (R.map txtV))∧Hid (Below w.heap.size w wr)∧Hid (Grp.pieces g g2 s=Grp.pieces k g2 U++R.reverse)) (fun u _ _ _=>strLen u)
 case atStart=>exact⟨s,[],g,rfl,rfl,g1,g4,Nat.le_refl _,by simp,Lib.hid ⟨rfl,.inl ⟨rfl,rfl⟩⟩,W1,Lib.hid (by simp)⟩
 case round=>
  obtain⟨U,R,k,rfl,rfl,k1,k4,hU,hR,HO,HB,HI⟩:=hrel
  clear W1
  have hsz:=size_mkl U
  by_cases hlt:k<U.length
  ·have IH:=Lib.hid (show Grp.pieces g g2 s=Grp.pieces g2 g2 (U.take (U.length-k))++(R++ [U.drop (U.length-k)]).reverse by
    rw[HI.out,Grp.pieces_cut k1 hlt];simp)
   have S1:=fun w=>slice_fromI (P:= Tryz.prog) 9 Tryz.underlying9 U ((U.length:Int)-(k:Int)) (U.length-k) (by omega) (by omega) w
   have S2:=fun w=>slice_toI (P:= Tryz.prog) 9 Tryz.underlying9 U ((U.length:Int)-(k:Int)) (U.length-k) (by omega) (by omega) w
   have hlen:(U.take (U.length-k)).length+k=U.length:=by simp;omega
   clear HI
   generalize U.take (U.length-k)=U' at*
   generalize U.drop (U.length-k)=x at*
   have hown:=HO.out
   have hbs:=HB.out.size
   go_wp2_with (at_builtin;refine wpList_append_own _ rfl _ _ 45 rfl w.heap.size 9 i0 (.string ByteArray.empty) 1 16 Tryz.underlying45 hi hz0 hz1 hz2 rfl (by decide) _ _ _ rfl (hown.alloc _) ⟨wr.heap.size,0,none⟩ 1 1 [txtV x] rfl rfl (cell_one_new _ _ _) (fun x hx=>by simp at hx;subst hx;rfl) (by unfold maxLen;omega) (by omega) (by simp;omega) ?_;intro v' w2 hown' hgrow _)
   have HO':=Lib.hid (show w2.ownsRow w.heap.size 9 1 v' (R++ [x]).length ((R++ [x]).map txtV) by simpa using hown')
   have HB':=Lib.hid (show Below w.heap.size w w2 from(HB.out.alloc hbs _).grown hgrow (by simp;omega) (fun k hk=>(hown.lt k hk).1))
   clear hown hown' hgrow hbs HO HB S1
   go_wp2_with fail
   go_roundw
   case rel=>exact⟨U',R++ [x],g2,rfl,rfl,by omega,by omega,by omega,by simp;omega,HO',HB',IH⟩
   case measure=>rw[strLen_mk,strLen_mk];omega
  ·have IE:=Lib.hid (show Grp.pieces g g2 s=(R++ [U]).reverse by rw[HI.out,Grp.pieces_one (by omega)];simp)
   clear HI
   have hown:=HO.out
   have hbs:=HB.out.size
   go_wp2_with (at_builtin;refine wpList_append_own _ rfl _ _ 45 rfl w.heap.size 9 i0 (.string ByteArray.empty) 1 16 Tryz.underlying45 hi hz0 hz1 hz2 rfl (by decide) _ _ _ rfl (hown.alloc _) ⟨wr.heap.size,0,none⟩ 1 1 [txtV U] rfl rfl (cell_one_new _ _ _) (fun x hx=>by simp at hx;subst hx;rfl) (by unfold maxLen;omega) (by omega) (by simp;omega) ?_;intro v' w2 hown' hgrow _)
   have HO':=Lib.hid (show w2.ownsRow w.heap.size 9 1 v' (R++ [U]).length ((R++ [U]).map txtV) by simpa using hown')
   have HB':=Lib.hid (show Below w.heap.size w w2 from(HB.out.alloc hbs _).grown hgrow (by simp;omega) (fun k hk=>(hown.lt k hk).1))
   clear hown hown' hgrow hbs HO HB
   have hZ:0<(R++ [U]).length:=by simp
   have hZl:(R++ [U]).length≤1000000001:=by simp;omega
   generalize R++ [U]=Z at*
   obtain⟨b,cap,rfl,hb1,hb2,hn,hm,hzl,hH⟩:=Lib.holds_of_ownsRow (enc:=encStr) (zs:=Z) HO'.out (own_ne HO'.out hZ)
   have CR:=Lib.hid (Tryz.slices_Reverse_string b 0 cap Z w2 hH (by omega))
   have HS:Hid (∀q,StrsAt (Sort.putRow encStr (Sort.ahead w2 q) b 0 Z.reverse.toArray) (.slice (some ⟨b,0,none⟩) Z.length cap) Z.reverse):=Lib.hid (fun q=>by
    have t:=StrsAt.of_row (Lib.ownsRow_putRow (q:=q) (k:=Z.length) (ys:=Z.reverse) HO'.out (by simp) (Nat.le_refl _))
    rw[List.take_of_length_le (by simp)] at t
    exact t)
   have HB2:=Lib.hid (fun q=>Lib.below_putRow (enc:=encStr) (q:=q) (d:=Z.reverse.toArray) HB'.out hb1)
   clear hH HO' HB' hzl hZ
   go_wp2_with fail
   refine CR.out.mono ?_
   rintro e w3 ⟨rfl,q,hw3⟩
   have HS3:=Lib.hid (hw3▸HS.out q)
   have HB3:=Lib.hid (hw3▸HB2.out q)
   clear hw3 HS HB2 CR hb2
   have HR2:=Lib.hid (show RES=Lib.join Z.reverse [c] by rw[HG.out,IE.out])
   have hjl:Lst.total Z.reverse [c]≤2000000000000:=by
    have a:=HL.out.1
    rw[HR2.out] at a
    have b:=lens_le_join Z.reverse [c]
    unfold Lst.total
    simp only[List.length_cons,List.length_nil,List.length_reverse]
    omega
   have CJ:=Lib.hid fun w h=>sjoin_any Z.reverse (.slice (some ⟨b,0,none⟩) Z.length cap) [c] w h (by simp;omega) hjl
   rw[←HR2.out] at CJ
   clear hjl HG HL IE HR2
   go_wp2_with fail
   refine(CJ.out _ (HS3.out.alloc _)).mono ?_
   rintro e w4 ⟨rfl,hb⟩
   have HB4:=Lib.hid (HB3.out.alloc HB3.out.size _|>.trans (hb.mono (by simp;exact Nat.le_succ_of_le HB3.out.size)))
   clear hb
   go_wp2_with fail
   go_ret2
   exact⟨rfl,HB4.out⟩
open Go.RowKit
theorem put_ok (s:List UInt8) (g g2:Int) (c:UInt8) (w:World) (hs:s.length≤1000000000) (h:digB s=true) (hc: ¬(48≤(c.toNat:Int)∧(c.toNat:Int)≤57)) (hG:rightG g g2):
  Calls Tryz.prog 191 #[.string ⟨s.toArray⟩,.int .i64 g,.int .i64 g2,.int .u8 (c.toNat:Int)] w fun e w'=>e= .returned (.tuple #[.string ⟨(gout s g g2 c).toArray⟩,.nilIface])∧Below w.heap.size w w':=by
 have hG':=hG
 obtain⟨h1,h2,h3,h4⟩:=hG
 obtain⟨a,rfl⟩:=Int.eq_ofNat_of_zero_le h1
 obtain⟨b,rfl⟩:=Int.eq_ofNat_of_zero_le h3
 unfold gout
 by_cases ha:(a:Int)=0
 ·rw[if_pos ha,ha]
  rw[ha] at hG'
  exact put_zero s b _ w (by omega) h hc hG'
 ·rw[if_neg ha]
  by_cases hb:(b:Int)=0
  ·rw[if_pos hb,hb]
   exact put_some0 s a c w hs h hc (by omega) (by omega)
  ·rw[if_neg hb]
   exact put_some s a b c w hs h hc (by omega) (by omega) (by omega) (by omega)
theorem conv_by (c:UInt8) (w:World):(convert 72 9 (.slice (some ⟨w.heap.size,0,none⟩) 1 1)).run Tryz.prog (w.alloc (.cells #[byV c] 5))= .ok (.string ⟨[c].toArray⟩) (w.alloc (.cells #[byV c] 5)):=by
 have cb:=c.toNat_lt
 have q:=conv_one (P:= Tryz.prog) 72 9 5 Tryz.underlying72 Tryz.underlying5 Tryz.underlying9 (c.toNat:Int) w (by omega) (by omega)
 rw[show UInt8.ofNat (c.toNat:Int).toNat=c by simp] at q
 exact q
open Go.RowKit
open Dcm (okD)

theorem wrap_small (q:Nat) (h:q≤1000):wrap64 (q:Int)=(q:Int):=IntWalk.wrap64_in _ ⟨by omega,by omega⟩
theorem trim_any (c:Int) (w:World):Calls Tryz.prog 131 #[.string ⟨(Lib.itoa c).toArray⟩,.string ⟨#[45]⟩] w fun e w'=>e= .returned (.string ⟨(Lib.decDigits c.natAbs).toArray⟩)∧w'=w:=by
 have h:= Tryz.strings_TrimPrefix ⟨(Lib.itoa c).toArray⟩ ⟨#[45]⟩ w
 rw[show Lib.trimPrefix (⟨(Lib.itoa c).toArray⟩:ByteArray).data.toList (⟨#[45]⟩:ByteArray).data.toList=Lib.decDigits c.natAbs from Byt.trim_itoa c] at h
 exact h
theorem noughts_any (n:Nat) (w:World) (hn:n≤1000):Calls Tryz.prog 133 #[.string ⟨#[48]⟩,.int .i64 (n:Int)] w fun e w'=>e= .returned (.string ⟨(List.replicate n (48:UInt8)).toArray⟩)∧Below w.heap.size w w':=by
 have h:= Tryz.strings_Repeat ⟨#[48]⟩ n w (by omega) (by show 1*n≤_;omega)
 rw[show Lib.repeatL (⟨#[48]⟩:ByteArray).data.toList n=List.replicate n 48 from Byt.repeat_noughts n] at h
 exact h

set_option maxHeartbeats 2000000 in
theorem dtext_whole (c:Int) (w:World) (hT:PowW w) (h:okD c 0) (g:List UInt8) (hg:Byt.sgn c=g) (hcg:(c<0∧g= [45])∨(¬c<0∧g= [])):
  Calls Tryz.prog 93 #[.agg #[.int .i64 c,.int .i64 0]] w fun e w'=>e= .returned (.string ⟨(Byt.decText c 0).toArray⟩)∧Below w.heap.size w w':=by
 have dl:=Byt.dec_len c 0 h
 obtain⟨_,_,c0,c1⟩:=h
 have CI:=Lib.hid fun w hT=>itoa_any c w hT (by omega) (by omega)
 have CT:=Lib.hid fun w=>trim_any c w
 have hX:g++Lib.decDigits c.natAbs=Byt.decText c 0:=by rw[←hg];exact(if_pos (Int.le_refl 0)).symm
 have hl:g.length+(Lib.decDigits c.natAbs).length≤100:=by rw[←List.length_append,hX];exact dl
 have AD: ∀w,(Op.stringOp .add ⟨g.toArray⟩ ⟨(Lib.decDigits c.natAbs).toArray⟩).run Tryz.prog w= .ok (.string ⟨(Byt.decText c 0).toArray⟩) w:=fun w=>by rw[←hX];exact add_str (P:= Tryz.prog) g (Lib.decDigits c.natAbs) (by omega) w
 generalize Byt.decText c 0=X at*
 generalize Lib.decDigits c.natAbs=D at*
 generalize Lib.itoa c=T at*
 clear hg hX hl dl
 rcases hcg with⟨hc,rfl⟩|⟨hc,rfl⟩
 all_goals
  go_enter Tryz.func93,Tryz.ntmps93
  go_wp2_with fail
  refine(CI.out _ (hT.alloc _)).mono ?_
  rintro e w1 ⟨rfl,hb⟩
  have W1:=Lib.hid (blw_trans (blw_alloc w (.cells #[.int .i64 c,.int .i64 0] 31)) hb)
  have B1:=Lib.hid ((Boxed.made w #[.int .i64 c,.int .i64 0] 31).below hb)
  have k0:=B1.out.cell 0 _ rfl
  have k1:=B1.out.cell 1 _ rfl
  go_wp2_with fail
  refine(CT.out _).mono ?_
  rintro e w2 ⟨rfl,rfl⟩
  clear hb CI CT
  go_wp2_with fail
  go_ret
  exact⟨rfl,W1.out⟩

set_option maxHeartbeats 2000000 in
theorem dtext_point (c s:Int) (w:World) (hT:PowW w) (h:okD c s) (hs:0<s) (g:List UInt8) (hg:Byt.sgn c=g) (hcg:(c<0∧g= [45])∨(¬c<0∧g= [])):
  Calls Tryz.prog 93 #[.agg #[.int .i64 c,.int .i64 s]] w fun e w'=>e= .returned (.string ⟨(Byt.decText c s).toArray⟩)∧Below w.heap.size w w':=by
 have dl:=Byt.dec_len c s h
 have zl:=Byt.zdig_len c s
 obtain⟨_,s9,c0,c1⟩:=h
 obtain⟨k,rfl⟩: ∃k:Nat,s=(k:Int):=⟨s.toNat,by omega⟩
 rw[Int.toNat_natCast] at zl
 have CI:=Lib.hid fun w hT=>itoa_any c w hT (by omega) (by omega)
 have CT:=Lib.hid fun w=>trim_any c w
 have hzn:Byt.zn c k=k+1-(Lib.decDigits c.natAbs).length:=rfl
 have CR:=Lib.hid fun w=>noughts_any (Byt.zn c k) w (by omega)
 have hZ:List.replicate (Byt.zn c k) (48:UInt8)++Lib.decDigits c.natAbs=Byt.zdig (Byt.zn c k) c.natAbs:=rfl
 have hX:g++(Byt.zdig (Byt.zn c k) c.natAbs).take ((Byt.zdig (Byt.zn c k) c.natAbs).length-k)++ [46]++(Byt.zdig (Byt.zn c k) c.natAbs).drop ((Byt.zdig (Byt.zn c k) c.natAbs).length-k)=Byt.decText c k:=by
  rw[←hg]
  have e:=(if_neg (show ¬(k:Int)≤0 by omega):Byt.decText c k=_)
  rw[Int.toNat_natCast] at e
  exact e.symm
 have dD:(Lib.decDigits c.natAbs).length≤100:=by
  have:=congrArg List.length hZ
  have:=congrArg List.length hX
  simp only[List.length_append,List.length_take,List.length_drop,List.length_replicate,List.length_singleton] at*
  omega
 have zl2:(Byt.zdig (Byt.zn c k) c.natAbs).length=Byt.zn c k+(Lib.decDigits c.natAbs).length:=by rw[←hZ,List.length_append,List.length_replicate]
 generalize Byt.zdig (Byt.zn c k) c.natAbs=Z at*
 obtain⟨q,hq⟩: ∃q,q=Z.length-k:=⟨_,rfl⟩
 rw[←hq] at hX
 generalize Byt.decText c k=X at*
 generalize Lib.decDigits c.natAbs=D at*
 generalize Lib.itoa c=T at*
 generalize Byt.zn c k=z at*
 have hr:(List.replicate z (48:UInt8)).length=z:=List.length_replicate
 generalize List.replicate z (48:UInt8)=R at*
 have A1: ∀w,(Op.stringOp .add ⟨R.toArray⟩ ⟨D.toArray⟩).run Tryz.prog w= .ok (.string ⟨Z.toArray⟩) w:=fun w=>by rw[←hZ];exact add_str (P:= Tryz.prog) R D (by omega) w
 have S1: ∀w,(Instr.slice 9 (.string ⟨Z.toArray⟩) none (some (.int .i64 (q:Int))) none).run Tryz.prog w= .ok (.string ⟨(Z.take q).toArray⟩) w:=fun w=>slice_to (P:= Tryz.prog) 9 Tryz.underlying9 Z .i64 q (by omega) w
 have S2: ∀w,(Instr.slice 9 (.string ⟨Z.toArray⟩) (some (.int .i64 (q:Int))) none none).run Tryz.prog w= .ok (.string ⟨(Z.drop q).toArray⟩) w:=fun w=>slice_from (P:= Tryz.prog) 9 Tryz.underlying9 Z .i64 q (by omega) w
 have lt:(Z.take q).length≤1000:=by rw[List.length_take];omega
 have ld:(Z.drop q).length≤1000:=by rw[List.length_drop];omega
 have lg:g.length≤1:=by rcases hcg with⟨_,rfl⟩|⟨_,rfl⟩<;>simp
 obtain⟨X1,hX1⟩: ∃X1,X1=g++Z.take q:=⟨_,rfl⟩
 obtain⟨X2,hX2⟩: ∃X2,X2=X1++ [46]:=⟨_,rfl⟩
 have A2: ∀w,(Op.stringOp .add ⟨g.toArray⟩ ⟨(Z.take q).toArray⟩).run Tryz.prog w= .ok (.string ⟨X1.toArray⟩) w:=fun w=>by rw[hX1];exact add_str (P:= Tryz.prog) g (Z.take q) (by omega) w
 have l1:X1.length≤2000:=by rw[hX1,List.length_append];omega
 have A3: ∀w,(Op.stringOp .add ⟨X1.toArray⟩ ⟨#[46]⟩).run Tryz.prog w= .ok (.string ⟨X2.toArray⟩) w:=fun w=>by rw[hX2];exact add_str (P:= Tryz.prog) X1 [46] (by simp;omega) w
 have l2:X2.length≤2001:=by rw[hX2,List.length_append,List.length_singleton];omega
 have A4: ∀w,(Op.stringOp .add ⟨X2.toArray⟩ ⟨(Z.drop q).toArray⟩).run Tryz.prog w= .ok (.string ⟨X.toArray⟩) w:=fun w=>by rw[←hX,←hX1,←hX2];exact add_str (P:= Tryz.prog) X2 (Z.drop q) (by omega) w
 have i1:IntKind.i64.wrap ((k:Int)+1)=(k:Int)+1:=IntWalk.i64_in _ (by omega)
 have i2:IntKind.i64.wrap ((k:Int)+1-(D.length:Int))=(k:Int)+1-(D.length:Int):=IntWalk.i64_in _ (by omega)
 have i3:IntKind.i64.wrap ((Z.length:Int)-(k:Int))=(q:Int):=by rw[IntWalk.i64_in _ (by omega)];omega
 have i4:((Z.length:Int)-(k:Int))=(q:Int):=by omega
 have H6:=Lib.hid (wrap_small q (by omega))
 have hmx:max (0:Int) ((k:Int)+1-(D.length:Int))=(z:Int):=by omega
 have hk0: ¬(k:Int)≤0:=by omega
 clear hg hX hX1 hX2 hZ zl dl hq lt ld l1 l2 lg dD zl2
 generalize Z.take q=Y1 at*
 generalize Z.drop q=Y2 at*
 rcases hcg with⟨hc,rfl⟩|⟨hc,rfl⟩
 all_goals
  go_enter Tryz.func93,Tryz.ntmps93
  go_wp2_with fail
  refine(CI.out _ (hT.alloc _)).mono ?_
  rintro e w1 ⟨rfl,hb⟩
  have W1:=Lib.hid (blw_trans (blw_alloc w (.cells #[.int .i64 c,.int .i64 (k:Int)] 31)) hb)
  have B1:=Lib.hid ((Boxed.made w #[.int .i64 c,.int .i64 (k:Int)] 31).below hb)
  have k0:=B1.out.cell 0 _ rfl
  have k1:=B1.out.cell 1 _ rfl
  go_wp2_with fail
  refine(CT.out _).mono ?_
  rintro e w2 ⟨rfl,rfl⟩
  clear hb CI CT
  go_wp2_with fail
  rw[←hzn]
  clear hzn hmx i1 i2
  refine(CR.out _).mono ?_
  rintro e w3 ⟨rfl,hb⟩
  have W3:=Lib.hid (blw_trans W1.out hb)
  have B3:=Lib.hid (B1.out.below hb)
  clear k0 k1 hb CR B1 W1
  have k0:=B3.out.cell 0 _ rfl
  have k1:=B3.out.cell 1 _ rfl
  go_wp2_with fail
  rw[H6.out]
  go_big_quiet (fail)
  go_wp2_with fail
  go_ret
  exact⟨rfl,blw_drewN W3.out _⟩
theorem dtext_any (c s:Int) (w:World) (hT:PowW w) (h:okD c s):
  Calls Tryz.prog 93 #[.agg #[.int .i64 c,.int .i64 s]] w fun e w'=>e= .returned (.string ⟨(Byt.decText c s).toArray⟩)∧Below w.heap.size w w':=by
 have hcg:(c<0∧Byt.sgn c= [45])∨(¬c<0∧Byt.sgn c= []):=by
  by_cases hc:c<0
  ·exact .inl ⟨hc,if_pos hc⟩
  ·exact .inr ⟨hc,if_neg hc⟩
 by_cases hs:0<s
 ·exact dtext_point c s w hT h hs _ rfl hcg
 ·obtain rfl:s=0:=by have:=h.1;omega
  exact dtext_whole c w hT h _ rfl hcg

open Go.RowKit
theorem cutp_any (t:List UInt8) (w:World) (hM:MaxW w) (ht:t.length≤4000000000):
  Calls Tryz.prog 97 #[.string ⟨t.toArray⟩,.string ⟨#[46]⟩] w fun e w'=>e= .returned (.tuple #[.string ⟨(Lib.cut t [46]).1.toArray⟩,.string ⟨(Lib.cut t [46]).2.1.toArray⟩,.bool (Lib.cut t [46]).2.2])∧Below w.heap.size w w':=by
 obtain⟨m,hm⟩:=hM
 refine(Tryz.strings_Cut ⟨t.toArray⟩ ⟨#[46]⟩ m w (by rw[size_mkl];omega) hm).mono ?_
 rintro e w' ⟨rfl,n,rfl⟩
 exact⟨rfl,blw_drewN (Below.refl _ _) n⟩
open Go.RowKit
open Dcm (okD)
/-- a sign, a number, as values -/
def yV (pt cm:UInt8):Value:= .agg #[.int .u8 (pt.toNat:Int),.int .u8 (cm.toNat:Int)]
theorem cutpre_any (s:List UInt8) (w:World):Calls Tryz.prog 190 #[.string ⟨s.toArray⟩,.string ⟨#[45]⟩] w fun e w'=>e= .returned (.tuple #[.string ⟨(Lib.trimPrefix s [45]).toArray⟩,.bool (Lib.hasPrefix s [45])])∧w'=w:=
 Tryz.strings_CutPrefix ⟨s.toArray⟩ ⟨#[45]⟩ w

set_option maxHeartbeats 4000000 in
theorem fmt_bad (p:Nt.Pt) (pt cm:UInt8) (c s:Int) (w:World) (h1:p.pre.length≤1000000000) (h2:p.suf.length≤1000000000) (hE:Nt.fmtE p pt cm c s≠0):
  Calls Tryz.prog 163 #[pV p,yV pt cm,.agg #[.int .i64 c,.int .i64 s]] w fun e w'=>e= .returned (.tuple #[.string ⟨#[]⟩,errV (Nt.fmtE p pt cm c s)])∧Below w.heap.size w w':=by
 have CK:=Lib.hid fun w=>chk_any p pt cm w h1 h2
 unfold Nt.fmtE at hE⊢
 generalize Nt.allE p pt cm=E at*
 unfold pV yV at*
 obtain⟨pre,suf,mi,nf,mf,g,g2⟩:=p
 simp only at*
 have X0:=Lib.hid (Bx.made w #[.string ⟨pre.toArray⟩,.string ⟨suf.toArray⟩,.int .i64 mi,.int .i64 nf,.int .i64 mf,.int .i64 g,.int .i64 g2] #[.int .u8 (pt.toNat:Int),.int .u8 (cm.toNat:Int)] (.int .i64 c) (.int .i64 s) 81 83 31)
 by_cases h0:E=0
 ·subst h0
  rw[show errN 0= .nilIface from rfl] at CK
  rw[if_neg (by simp)] at hE⊢
  by_cases hd:0≤s∧s≤9∧ -1000000000000000≤c∧c≤1000000000000000
  ·rw[if_pos hd] at hE;exact absurd rfl hE
  rw[if_neg hd]
  have CD:=Lib.hid fun w=>dchk_no c s w hd
  clear hE hd h1 h2
  go_enter Tryz.func163,Tryz.ntmps163
  go_wp2_with fail
  refine(CK.out _).mono ?_
  rintro e w1 ⟨rfl,hb⟩
  have X1:=Lib.hid (X0.out.below hb)
  clear hb X0
  have cp0:=X1.out.p.cell 0 _ rfl
  have cp1:=X1.out.p.cell 1 _ rfl
  have cp2:=X1.out.p.cell 2 _ rfl
  have cp3:=X1.out.p.cell 3 _ rfl
  have cp4:=X1.out.p.cell 4 _ rfl
  have cp5:=X1.out.p.cell 5 _ rfl
  have cp6:=X1.out.p.cell 6 _ rfl
  have cy0:=X1.out.y.cell 0 _ rfl
  have cy1:=X1.out.y.cell 1 _ rfl
  have cd0:=X1.out.d.cell 0 _ rfl
  have cd1:=X1.out.d.cell 1 _ rfl
  have clp:=X1.out.p.lt
  have cly:=X1.out.y.lt
  have cld:=X1.out.d.lt
  go_wp2_with fail
  refine(CD.out _).mono ?_
  rintro e w2 ⟨rfl,hb⟩
  have X2:=Lib.hid (X1.out.below hb)
  clear hb X1
  clear cp0 cp1 cp2 cp3 cp4 cp5 cp6 cy0 cy1 cd0 cd1 clp cly cld
  go_wp2_with fail
  go_ret2
  exact⟨rfl,X2.out.b⟩
 ·rw[show errN E=errV E from if_neg h0] at CK
  rw[if_pos h0]
  clear hE h1 h2 h0
  go_enter Tryz.func163,Tryz.ntmps163
  go_wp2_with fail
  refine(CK.out _).mono ?_
  rintro e w1 ⟨rfl,hb⟩
  have X1:=Lib.hid (X0.out.below hb)
  clear hb X0
  go_wp2_with fail
  go_ret2
  exact⟨rfl,X1.out.b⟩

set_option maxHeartbeats 4000000 in
theorem fmt_text (p:Nt.Pt) (pt cm:UInt8) (c s:Int) (w:World) (hT:PowW w) (hM:MaxW w) (h1:p.pre.length≤1000000000) (h2:p.suf.length≤1000000000) (hE:Nt.fmtE p pt cm c s=0):
  Calls Tryz.prog 163 #[pV p,yV pt cm,.agg #[.int .i64 c,.int .i64 s]] w fun e w'=>e= .returned (.tuple #[.string ⟨(Nt.shown p pt cm c s).toArray⟩,.nilIface])∧Below w.heap.size w w':=by
 obtain⟨hp,hy,hd⟩:=Nt.fmt_ok hE
 have CK:=Lib.hid fun w=>chk_any p pt cm w h1 h2
 have eE:Nt.allE p pt cm=0:=by unfold Nt.allE;rw[if_neg (by omega),if_pos hy]
 rw[eE,show errN 0= .nilIface from rfl] at CK
 have ps:=Nt.size_ok (Nt.pat_ok hp).2.2.1
 obtain⟨y1,y2,y3⟩:=Nt.sym_mem hy
 have ncm: ¬(48≤(cm.toNat:Int)∧(cm.toNat:Int)≤57):=by
  have:cm=46∨cm=44∨cm=39∨cm=95:=by simpa[Nt.sgnL] using y3
  rcases this with rfl|rfl|rfl|rfl<;>decide
 obtain⟨t1,t2,t3⟩:=Nt.red_trim c s hd
 obtain⟨r1,r2,r3⟩:=Nt.red_fine p.mf c s hd (by omega) (by omega)
 have CD:=Lib.hid fun w=>dchk_yes c s w hd
 have CT1:=Lib.hid fun w=>trimmed_any c s w hd
 have CR:Hid (p.mf<(Nt.trim c s).2→okD (Dcm.rndC (Nt.trim c s).1 (Nt.trim c s).2 p.mf 5) p.mf∧ ∀w,Calls Tryz.prog 189 #[.agg #[.int .i64 (Nt.trim c s).1,.int .i64 (Nt.trim c s).2],.int .i64 p.mf,.int .i64 5] w fun e w'=>e= .returned (.tuple #[.agg #[.int .i64 (Dcm.rndC (Nt.trim c s).1 (Nt.trim c s).2 p.mf 5),.int .i64 p.mf],.nilIface])∧Below w.heap.size w w'):=Lib.hid fun hlt=>by
  have hz:rndE (Nt.trim c s).1 (Nt.trim c s).2 p.mf 5=0:=rndE_zero.2 ⟨t1,by omega,by omega,by omega,by omega,fun h=>by omega⟩
  exact⟨rndC_ok hz,fun w=>round_yes _ _ _ _ w hz⟩
 have HR:Hid (Nt.red p.mf c s=if p.mf<(Nt.trim c s).2 then Nt.trim (Dcm.rndC (Nt.trim c s).1 (Nt.trim c s).2 p.mf 5) p.mf else Nt.trim c s):=Lib.hid rfl
 have hsh:Nt.shown p pt cm c s=Byt.sgn (Nt.red p.mf c s).1++Nt.body p pt cm (Nt.red p.mf c s).1 (Nt.red p.mf c s).2:=rfl
 rw[hsh]
 clear hsh
 generalize Nt.red p.mf c s=q at*
 obtain⟨a,b⟩:=q
 generalize Nt.trim c s=q at*
 obtain⟨tc,ts⟩:=q
 unfold pV yV at*
 obtain⟨pre,suf,mi,nf,mf,g,g2⟩:=p
 unfold Nt.body
 simp only at*
 have CX:=Lib.hid fun w hT=>dtext_any a b w hT r1
 have CC:=Lib.hid fun w hM=>cutp_any (Byt.decText a b) w hM (by have:=Byt.dec_len a b r1;omega)
 rw[Nt.cut_text] at CC
 simp only at CC
 have CP:=Lib.hid fun w=>cutpre_any (Byt.sgn a++Nt.wh a b) w
 rw[(Nt.head_minus a b).1,(Nt.head_minus a b).2] at CP
 have lw:=Nt.wh_len a b r1
 have lb:=Nt.bh_len a b
 have hwn:=Nt.wh_ne a b
 have hPD:List.replicate (mi.toNat-(Nt.wh a b).length) 48++Nt.wh a b=Nt.pad mi a b:=rfl
 have hFR:Nt.bh a b++List.replicate (nf.toNat-(Nt.bh a b).length) 48=Nt.fr nf a b:=rfl
 have hdg:digB (Nt.pad mi a b)=true:=Nt.dig_B (Nt.pad_dig _ _ _) (by rw[←hPD];simp[hwn])
 have r9:b≤9:=r1.2.1
 have r0:0≤b:=r1.1
 have lpd:(Nt.pad mi a b).length≤200:=by rw[←hPD,List.length_append,List.length_replicate];omega
 have lfr:(Nt.fr nf a b).length≤200:=by rw[←hFR,List.length_append,List.length_replicate];omega
 have CU:=Lib.hid fun w=>put_ok (Nt.pad mi a b) g g2 cm w (by omega) hdg ncm ⟨by omega,by omega,by omega,by omega⟩
 have lgo:=gout_len (Nt.pad mi a b) g g2 cm
 have hm:(a<0∧Byt.sgn a= [45])∨(¬a<0∧Byt.sgn a= []):=by
  by_cases h0:a<0
  ·exact .inl ⟨h0,if_pos h0⟩
  ·exact .inr ⟨h0,if_neg h0⟩
 have hMd: ∃m:Bool,m=decide (a<0):=⟨_,rfl⟩
 obtain⟨m,hMd⟩:=hMd
 rw[←hMd] at CP
 have hm':(m=true∧Byt.sgn a= [45])∨(m=false∧Byt.sgn a= []):=by
  rcases hm with⟨h0,h⟩|⟨h0,h⟩
  ·exact .inl ⟨by rw[hMd,decide_eq_true h0],h⟩
  ·exact .inr ⟨by rw[hMd,decide_eq_false h0],h⟩
 clear hm hMd hwn y1 y2 y3 ncm hdg hE hy eE hp
 generalize Byt.decText a b=X at*
 generalize Nt.pad mi a b=PD at*
 generalize Nt.fr nf a b=FR at*
 generalize gout PD g g2 cm=GO at*
 generalize Byt.sgn a++Nt.wh a b=HD at*
 generalize Nt.wh a b=WH at*
 generalize Nt.bh a b=BH at*
 obtain⟨n1,hn1⟩: ∃n,n=nf.toNat-BH.length:=⟨_,rfl⟩
 obtain⟨n2,hn2⟩: ∃n,n=mi.toNat-WH.length:=⟨_,rfl⟩
 rw[←hn1] at hFR
 rw[←hn2] at hPD
 have C1:=Lib.hid fun w=>noughts_any n1 w (by omega)
 have C2:=Lib.hid fun w=>noughts_any n2 w (by omega)
 have m1:max (0:Int) (nf-(BH.length:Int))=(n1:Int):=by omega
 have m2:max (0:Int) (mi-(WH.length:Int))=(n2:Int):=by omega
 have i1:IntKind.i64.wrap (nf-(BH.length:Int))=nf-(BH.length:Int):=IntWalk.i64_in _ (by omega)
 have i2:IntKind.i64.wrap (mi-(WH.length:Int))=mi-(WH.length:Int):=IntWalk.i64_in _ (by omega)
 have lr1:(List.replicate n1 (48:UInt8)).length=n1:=List.length_replicate
 have lr2:(List.replicate n2 (48:UInt8)).length=n2:=List.length_replicate
 generalize List.replicate n1 (48:UInt8)=R1 at*
 generalize List.replicate n2 (48:UInt8)=R2 at*
 have A1: ∀w,(Op.stringOp .add ⟨BH.toArray⟩ ⟨R1.toArray⟩).run Tryz.prog w= .ok (.string ⟨FR.toArray⟩) w:=fun w=>by rw[←hFR];exact add_str (P:= Tryz.prog) BH R1 (by omega) w
 have A2: ∀w,(Op.stringOp .add ⟨R2.toArray⟩ ⟨WH.toArray⟩).run Tryz.prog w= .ok (.string ⟨PD.toArray⟩) w:=fun w=>by rw[←hPD];exact add_str (P:= Tryz.prog) R2 WH (by omega) w
 obtain⟨TL,hTL⟩: ∃TL,TL=Nt.tail pt FR:=⟨_,rfl⟩
 rw[←hTL]
 have lTL:TL.length≤201:=by rw[hTL];unfold Nt.tail;split<;>simp;omega
 obtain⟨G1,hG1⟩: ∃G1,G1=GO++TL:=⟨_,rfl⟩
 rw[←hG1]
 have lG1:G1.length≤601:=by rw[hG1,List.length_append];omega
 obtain⟨Z1,hZ1⟩: ∃Z1,Z1=pre++G1:=⟨_,rfl⟩
 rw[←hZ1]
 have lZ1:Z1.length≤1000000601:=by rw[hZ1,List.length_append];omega
 obtain⟨Z2,hZ2⟩: ∃Z2,Z2=Z1++suf:=⟨_,rfl⟩
 rw[←hZ2]
 have lZ2:Z2.length≤2000000601:=by rw[hZ2,List.length_append];omega
 have A3: ∀w,(Op.stringOp .add ⟨pre.toArray⟩ ⟨G1.toArray⟩).run Tryz.prog w= .ok (.string ⟨Z1.toArray⟩) w:=fun w=>by rw[hZ1];exact add_str (P:= Tryz.prog) pre G1 (by omega) w
 have A4: ∀w,(Op.stringOp .add ⟨Z1.toArray⟩ ⟨suf.toArray⟩).run Tryz.prog w= .ok (.string ⟨Z2.toArray⟩) w:=fun w=>by rw[hZ2];exact add_str (P:= Tryz.prog) Z1 suf (by omega) w
 have A5: ∀w,(Op.stringOp .add ⟨#[45]⟩ ⟨Z2.toArray⟩).run Tryz.prog w= .ok (.string ⟨([45]++Z2).toArray⟩) w:=fun w=>add_str (P:= Tryz.prog) [45] Z2 (by simp;omega) w
 have A6:FR≠ []→ ∀w,(Op.stringOp .add ⟨[pt].toArray⟩ ⟨FR.toArray⟩).run Tryz.prog w= .ok (.string ⟨TL.toArray⟩) w:=fun hf w=>by
  have e:TL= [pt]++FR:=by rw[hTL];unfold Nt.tail;rw[if_neg hf];rfl
  rw[e];exact add_str (P:= Tryz.prog) [pt] FR (by simp;omega) w
 have A7: ∀w,(Op.stringOp .add ⟨GO.toArray⟩ ⟨TL.toArray⟩).run Tryz.prog w= .ok (.string ⟨G1.toArray⟩) w:=fun w=>by rw[hG1];exact add_str (P:= Tryz.prog) GO TL (by omega) w
 have hnil:FR= []→G1=GO:=fun hf=>by rw[hG1,hTL,hf];unfold Nt.tail;simp
 have HA6:=Lib.hid A6
 have HA345:=Lib.hid (And.intro A3 (And.intro A4 A5))
 have HA7:=Lib.hid A7
 have HA1:=Lib.hid A1
 have HA2:=Lib.hid A2
 have HI:=Lib.hid (And.intro m1 (And.intro m2 (And.intro i1 i2)))
 have Hnil:=Lib.hid hnil
 have Hm:=Lib.hid hm'
 clear A1 A2 A3 A4 A5 A6 A7 m1 m2 i1 i2 hnil hm' hZ1 hZ2 hG1 hTL lZ1 lZ2 lG1 lTL hFR hPD hn1 hn2 lr1 lr2 lw lb lpd lfr lgo h1 h2 ps r0 r9
 generalize Byt.sgn a=SG at*
 have HT:=Lib.hid hT
 have HM:=Lib.hid hM
 clear hT hM
 have X0:=Lib.hid (Bx.made w #[.string ⟨pre.toArray⟩,.string ⟨suf.toArray⟩,.int .i64 mi,.int .i64 nf,.int .i64 mf,.int .i64 g,.int .i64 g2] #[.int .u8 (pt.toNat:Int),.int .u8 (cm.toNat:Int)] (.int .i64 c) (.int .i64 s) 81 83 31)
 clear hd
 go_enter Tryz.func163,Tryz.ntmps163
 go_wp2_with fail
 refine(CK.out _).mono ?_
 rintro e w1 ⟨rfl,hb⟩
 have X1:=Lib.hid (X0.out.below hb)
 clear hb X0 CK
 have cp0:=X1.out.p.cell 0 _ rfl
 have cp1:=X1.out.p.cell 1 _ rfl
 have cp2:=X1.out.p.cell 2 _ rfl
 have cp3:=X1.out.p.cell 3 _ rfl
 have cp4:=X1.out.p.cell 4 _ rfl
 have cp5:=X1.out.p.cell 5 _ rfl
 have cp6:=X1.out.p.cell 6 _ rfl
 have cy0:=X1.out.y.cell 0 _ rfl
 have cy1:=X1.out.y.cell 1 _ rfl
 have cd0:=X1.out.d.cell 0 _ rfl
 have cd1:=X1.out.d.cell 1 _ rfl
 have clp:=X1.out.p.lt
 have cly:=X1.out.y.lt
 have cld:=X1.out.d.lt
 go_wp2_with fail
 refine(CD.out _).mono ?_
 rintro e w2 ⟨rfl,hb⟩
 have X2:=Lib.hid (X1.out.below hb)
 clear hb X1 CD
 clear cp0 cp1 cp2 cp3 cp4 cp5 cp6 cy0 cy1 cd0 cd1 clp cly cld
 have cp0:=X2.out.p.cell 0 _ rfl
 have cp1:=X2.out.p.cell 1 _ rfl
 have cp2:=X2.out.p.cell 2 _ rfl
 have cp3:=X2.out.p.cell 3 _ rfl
 have cp4:=X2.out.p.cell 4 _ rfl
 have cp5:=X2.out.p.cell 5 _ rfl
 have cp6:=X2.out.p.cell 6 _ rfl
 have cy0:=X2.out.y.cell 0 _ rfl
 have cy1:=X2.out.y.cell 1 _ rfl
 have cd0:=X2.out.d.cell 0 _ rfl
 have cd1:=X2.out.d.cell 1 _ rfl
 have clp:=X2.out.p.lt
 have cly:=X2.out.y.lt
 have cld:=X2.out.d.lt
 go_wp2_with fail
 refine(CT1.out _).mono ?_
 rintro e w3 ⟨rfl,hb⟩
 have X3:=Lib.hid (X2.out.below hb)
 clear hb X2 CT1
 clear cp0 cp1 cp2 cp3 cp4 cp5 cp6 cy0 cy1 cd0 cd1 clp cly cld
 have cp0:=X3.out.p.cell 0 _ rfl
 have cp1:=X3.out.p.cell 1 _ rfl
 have cp2:=X3.out.p.cell 2 _ rfl
 have cp3:=X3.out.p.cell 3 _ rfl
 have cp4:=X3.out.p.cell 4 _ rfl
 have cp5:=X3.out.p.cell 5 _ rfl
 have cp6:=X3.out.p.cell 6 _ rfl
 have cy0:=X3.out.y.cell 0 _ rfl
 have cy1:=X3.out.y.cell 1 _ rfl
 have cd0:=X3.out.d.cell 0 _ rfl
 have cd1:=X3.out.d.cell 1 _ rfl
 have cf0:=X3.out.d.free 0 (by simp)
 have cf1:=X3.out.d.free 1 (by simp)
 have clp:=X3.out.p.lt
 have cly:=X3.out.y.lt
 have cld:=X3.out.d.lt
 have X4:=Lib.hid (X3.out.store (.int .i64 tc) (.int .i64 ts))
 go_upto_if 35 with fail
 go_cut [] from 10 (fun wx=>Hid (Bx w #[.string ⟨pre.toArray⟩,.string ⟨suf.toArray⟩,.int .i64 mi,.int .i64 nf,.int .i64 mf,.int .i64 g,.int .i64 g2] #[.int .u8 (pt.toNat:Int),.int .u8 (cm.toNat:Int)] (.int .i64 a) (.int .i64 b) wx))
 case first=>
  generalize (w3.setCell ⟨w.heap.size+2,0,none⟩ (.int .i64 tc)).setCell ⟨w.heap.size+2,1,none⟩ (.int .i64 ts)=w4 at*
  clear cp0 cp1 cp2 cp3 cp4 cp5 cp6 cy0 cy1 cd0 cd1 cf0 cf1 clp cly cld
  have cp0:=X4.out.p.cell 0 _ rfl
  have cp1:=X4.out.p.cell 1 _ rfl
  have cp2:=X4.out.p.cell 2 _ rfl
  have cp3:=X4.out.p.cell 3 _ rfl
  have cp4:=X4.out.p.cell 4 _ rfl
  have cp5:=X4.out.p.cell 5 _ rfl
  have cp6:=X4.out.p.cell 6 _ rfl
  have cy0:=X4.out.y.cell 0 _ rfl
  have cy1:=X4.out.y.cell 1 _ rfl
  have cd0:=X4.out.d.cell 0 _ rfl
  have cd1:=X4.out.d.cell 1 _ rfl
  have cf0:=X4.out.d.free 0 (by simp)
  have cf1:=X4.out.d.free 1 (by simp)
  have clp:=X4.out.p.lt
  have cly:=X4.out.y.lt
  have cld:=X4.out.d.lt
  clear X3
  by_cases hlt:mf<ts
  ·have d0:decide (mf<ts)=true:=dec_yes hlt
   rw[d0]
   have hr:=HR.out
   rw[if_pos hlt] at hr
   obtain⟨ro,CRw⟩:=CR.out hlt
   have CRh:=Lib.hid CRw
   have CT2:=Lib.hid fun w=>trimmed_any _ _ w ro
   rw[←hr] at CT2
   simp only at CT2
   clear hr HR CR CRw ro hlt
   generalize Dcm.rndC tc ts mf 5=RC at*
   go_wp2_with fail
   refine(CRh.out _).mono ?_
   rintro e w5 ⟨rfl,hb⟩
   have X5:=Lib.hid (X4.out.below hb)
   clear hb X4 CRh
   clear cp0 cp1 cp2 cp3 cp4 cp5 cp6 cy0 cy1 cd0 cd1 cf0 cf1 clp cly cld
   have cp0:=X5.out.p.cell 0 _ rfl
   have cp1:=X5.out.p.cell 1 _ rfl
   have cp2:=X5.out.p.cell 2 _ rfl
   have cp3:=X5.out.p.cell 3 _ rfl
   have cp4:=X5.out.p.cell 4 _ rfl
   have cp5:=X5.out.p.cell 5 _ rfl
   have cp6:=X5.out.p.cell 6 _ rfl
   have cy0:=X5.out.y.cell 0 _ rfl
   have cy1:=X5.out.y.cell 1 _ rfl
   have cd0:=X5.out.d.cell 0 _ rfl
   have cd1:=X5.out.d.cell 1 _ rfl
   have cf0:=X5.out.d.free 0 (by simp)
   have cf1:=X5.out.d.free 1 (by simp)
   have clp:=X5.out.p.lt
   have cly:=X5.out.y.lt
   have cld:=X5.out.d.lt
   have X6:=Lib.hid (X5.out.alloc (.cells #[.int .i64 RC,.int .i64 mf] 31))
   clear X5
   clear cp0 cp1 cp2 cp3 cp4 cp5 cp6 cy0 cy1 cd0 cd1 cf0 cf1 clp cly cld
   have cp0:=X6.out.p.cell 0 _ rfl
   have cp1:=X6.out.p.cell 1 _ rfl
   have cp2:=X6.out.p.cell 2 _ rfl
   have cp3:=X6.out.p.cell 3 _ rfl
   have cp4:=X6.out.p.cell 4 _ rfl
   have cp5:=X6.out.p.cell 5 _ rfl
   have cp6:=X6.out.p.cell 6 _ rfl
   have cy0:=X6.out.y.cell 0 _ rfl
   have cy1:=X6.out.y.cell 1 _ rfl
   have cd0:=X6.out.d.cell 0 _ rfl
   have cd1:=X6.out.d.cell 1 _ rfl
   have cf0:=X6.out.d.free 0 (by simp)
   have cf1:=X6.out.d.free 1 (by simp)
   have clp:=X6.out.p.lt
   have cly:=X6.out.y.lt
   have cld:=X6.out.d.lt
   go_wp2_with fail
   refine(CT2.out _).mono ?_
   rintro e w7 ⟨rfl,hb⟩
   have X7:=Lib.hid (X6.out.below hb)
   clear hb X6 CT2
   clear cp0 cp1 cp2 cp3 cp4 cp5 cp6 cy0 cy1 cd0 cd1 cf0 cf1 clp cly cld
   have cp0:=X7.out.p.cell 0 _ rfl
   have cp1:=X7.out.p.cell 1 _ rfl
   have cp2:=X7.out.p.cell 2 _ rfl
   have cp3:=X7.out.p.cell 3 _ rfl
   have cp4:=X7.out.p.cell 4 _ rfl
   have cp5:=X7.out.p.cell 5 _ rfl
   have cp6:=X7.out.p.cell 6 _ rfl
   have cy0:=X7.out.y.cell 0 _ rfl
   have cy1:=X7.out.y.cell 1 _ rfl
   have cd0:=X7.out.d.cell 0 _ rfl
   have cd1:=X7.out.d.cell 1 _ rfl
   have cf0:=X7.out.d.free 0 (by simp)
   have cf1:=X7.out.d.free 1 (by simp)
   have clp:=X7.out.p.lt
   have cly:=X7.out.y.lt
   have cld:=X7.out.d.lt
   have X8:=Lib.hid (X7.out.store (.int .i64 a) (.int .i64 b))
   go_wp2_with fail
   go_meet
   exact X8
  ·have d0:decide (mf<ts)=false:=dec_no hlt
   rw[d0]
   have hr:=HR.out
   rw[if_neg hlt] at hr
   obtain⟨rfl,rfl⟩:=Prod.mk.inj hr
   go_wp2_with fail
   go_meet
   exact X4
 case rest=>
  have X9:=hcut
  clear hcut X4 X3 CR HR t1 t2 t3
  try clear cp0 cp1 cp2 cp3 cp4 cp5 cp6 cy0 cy1 cd0 cd1 cf0 cf1 clp cly cld
  have cp0:=X9.out.p.cell 0 _ rfl
  have cp1:=X9.out.p.cell 1 _ rfl
  have cp2:=X9.out.p.cell 2 _ rfl
  have cp3:=X9.out.p.cell 3 _ rfl
  have cp4:=X9.out.p.cell 4 _ rfl
  have cp5:=X9.out.p.cell 5 _ rfl
  have cp6:=X9.out.p.cell 6 _ rfl
  have cy0:=X9.out.y.cell 0 _ rfl
  have cy1:=X9.out.y.cell 1 _ rfl
  have cd0:=X9.out.d.cell 0 _ rfl
  have cd1:=X9.out.d.cell 1 _ rfl
  have clp:=X9.out.p.lt
  have cly:=X9.out.y.lt
  have cld:=X9.out.d.lt
  have pw:=Lib.hid (HT.out.below X9.out.b)
  go_wp2_with fail
  refine(CX.out _ pw.out).mono ?_
  rintro e w10 ⟨rfl,hb⟩
  have X10:=Lib.hid (X9.out.below hb)
  clear hb X9 CX pw
  clear cp0 cp1 cp2 cp3 cp4 cp5 cp6 cy0 cy1 cd0 cd1 clp cly cld
  have cp0:=X10.out.p.cell 0 _ rfl
  have cp1:=X10.out.p.cell 1 _ rfl
  have cp2:=X10.out.p.cell 2 _ rfl
  have cp3:=X10.out.p.cell 3 _ rfl
  have cp4:=X10.out.p.cell 4 _ rfl
  have cp5:=X10.out.p.cell 5 _ rfl
  have cp6:=X10.out.p.cell 6 _ rfl
  have cy0:=X10.out.y.cell 0 _ rfl
  have cy1:=X10.out.y.cell 1 _ rfl
  have cd0:=X10.out.d.cell 0 _ rfl
  have cd1:=X10.out.d.cell 1 _ rfl
  have clp:=X10.out.p.lt
  have cly:=X10.out.y.lt
  have cld:=X10.out.d.lt
  have mw:=Lib.hid (HM.out.below X10.out.b)
  go_wp2_with fail
  refine(CC.out _ mw.out).mono ?_
  rintro e w11 ⟨rfl,hb⟩
  have X11:=Lib.hid (X10.out.below hb)
  clear hb X10 CC mw
  clear cp0 cp1 cp2 cp3 cp4 cp5 cp6 cy0 cy1 cd0 cd1 clp cly cld
  have cp0:=X11.out.p.cell 0 _ rfl
  have cp1:=X11.out.p.cell 1 _ rfl
  have cp2:=X11.out.p.cell 2 _ rfl
  have cp3:=X11.out.p.cell 3 _ rfl
  have cp4:=X11.out.p.cell 4 _ rfl
  have cp5:=X11.out.p.cell 5 _ rfl
  have cp6:=X11.out.p.cell 6 _ rfl
  have cy0:=X11.out.y.cell 0 _ rfl
  have cy1:=X11.out.y.cell 1 _ rfl
  have cd0:=X11.out.d.cell 0 _ rfl
  have cd1:=X11.out.d.cell 1 _ rfl
  have clp:=X11.out.p.lt
  have cly:=X11.out.y.lt
  have cld:=X11.out.d.lt
  go_wp2_with fail
  refine(CP.out _).mono ?_
  rintro e w' ⟨rfl,rfl⟩
  clear CP
  obtain⟨m1,m2,i1,i2⟩:=HI.out
  have A1:=HA1.out
  go_wp2_with fail
  refine(C1.out _).mono ?_
  rintro e w12 ⟨rfl,hb⟩
  have X12:=Lib.hid (X11.out.below hb)
  clear hb X11 C1 m1 i1
  clear cp0 cp1 cp2 cp3 cp4 cp5 cp6 cy0 cy1 cd0 cd1 clp cly cld
  have cp0:=X12.out.p.cell 0 _ rfl
  have cp1:=X12.out.p.cell 1 _ rfl
  have cp2:=X12.out.p.cell 2 _ rfl
  have cp3:=X12.out.p.cell 3 _ rfl
  have cp4:=X12.out.p.cell 4 _ rfl
  have cp5:=X12.out.p.cell 5 _ rfl
  have cp6:=X12.out.p.cell 6 _ rfl
  have cy0:=X12.out.y.cell 0 _ rfl
  have cy1:=X12.out.y.cell 1 _ rfl
  have cd0:=X12.out.d.cell 0 _ rfl
  have cd1:=X12.out.d.cell 1 _ rfl
  have clp:=X12.out.p.lt
  have cly:=X12.out.y.lt
  have cld:=X12.out.d.lt
  have A2:=HA2.out
  go_wp2_with fail
  refine(C2.out _).mono ?_
  rintro e w13 ⟨rfl,hb⟩
  have X13:=Lib.hid (X12.out.below hb)
  clear hb X12 C2 m2 i2
  clear cp0 cp1 cp2 cp3 cp4 cp5 cp6 cy0 cy1 cd0 cd1 clp cly cld
  have cp0:=X13.out.p.cell 0 _ rfl
  have cp1:=X13.out.p.cell 1 _ rfl
  have cp2:=X13.out.p.cell 2 _ rfl
  have cp3:=X13.out.p.cell 3 _ rfl
  have cp4:=X13.out.p.cell 4 _ rfl
  have cp5:=X13.out.p.cell 5 _ rfl
  have cp6:=X13.out.p.cell 6 _ rfl
  have cy0:=X13.out.y.cell 0 _ rfl
  have cy1:=X13.out.y.cell 1 _ rfl
  have cd0:=X13.out.d.cell 0 _ rfl
  have cd1:=X13.out.d.cell 1 _ rfl
  have clp:=X13.out.p.lt
  have cly:=X13.out.y.lt
  have cld:=X13.out.d.lt
  go_wp2_with fail
  refine(CU.out _).mono ?_
  rintro e w14 ⟨rfl,hb⟩
  have X14:=Lib.hid (X13.out.below hb)
  clear hb X13 CU
  clear cp0 cp1 cp2 cp3 cp4 cp5 cp6 cy0 cy1 cd0 cd1 clp cly cld
  clear A1 A2
  have cp0:=X14.out.p.cell 0 _ rfl
  have cp1:=X14.out.p.cell 1 _ rfl
  have cp2:=X14.out.p.cell 2 _ rfl
  have cp3:=X14.out.p.cell 3 _ rfl
  have cp4:=X14.out.p.cell 4 _ rfl
  have cp5:=X14.out.p.cell 5 _ rfl
  have cp6:=X14.out.p.cell 6 _ rfl
  have cy0:=X14.out.y.cell 0 _ rfl
  have cy1:=X14.out.y.cell 1 _ rfl
  have cd0:=X14.out.d.cell 0 _ rfl
  have cd1:=X14.out.d.cell 1 _ rfl
  have clp:=X14.out.p.lt
  have cly:=X14.out.y.lt
  have cld:=X14.out.d.lt
  go_upto_if 93 with fail
  go_cut [16] from 93 (fun sv wx=>sv= .string ⟨G1.toArray⟩∧Hid (Bx w #[.string ⟨pre.toArray⟩,.string ⟨suf.toArray⟩,.int .i64 mi,.int .i64 nf,.int .i64 mf,.int .i64 g,.int .i64 g2] #[.int .u8 (pt.toNat:Int),.int .u8 (cm.toNat:Int)] (.int .i64 a) (.int .i64 b) wx))
  case first=>
   by_cases hf:FR= []
   ·have e1:=Hnil.out hf
    subst hf
    subst e1
    go_wp2_with fail
    go_meet
    exact⟨rfl,X14⟩
   ·have b0:FR.isEmpty=false:=List.isEmpty_eq_false_iff.2 hf
    simp only[b0,Bool.not_false]
    have A6:=HA6.out hf
    have A7:=HA7.out
    have CV:=conv_by pt w14
    have X15:=Lib.hid (X14.out.alloc (.cells #[byV pt] 5))
    go_wp2_with fail
    go_meet
    exact⟨rfl,X15⟩
  case rest=>
   obtain⟨rfl,X16⟩:=hcut
   try clear cp0 cp1 cp2 cp3 cp4 cp5 cp6 cy0 cy1 cd0 cd1 clp cly cld
   have cp0:=X16.out.p.cell 0 _ rfl
   have cp1:=X16.out.p.cell 1 _ rfl
   have cp2:=X16.out.p.cell 2 _ rfl
   have cp3:=X16.out.p.cell 3 _ rfl
   have cp4:=X16.out.p.cell 4 _ rfl
   have cp5:=X16.out.p.cell 5 _ rfl
   have cp6:=X16.out.p.cell 6 _ rfl
   have clp:=X16.out.p.lt
   obtain⟨A3,A4,A5⟩:=HA345.out
   rcases Hm.out with⟨rfl,rfl⟩|⟨rfl,rfl⟩
   ·go_wp2_with fail
    go_ret2
    exact⟨rfl,X16.out.b⟩
   ·go_wp2_with fail
    go_ret2
    exact⟨rfl,X16.out.b⟩
/-- what is told -/
def ftxt (p:Nt.Pt) (pt cm:UInt8) (c s:Int):List UInt8:=if Nt.fmtE p pt cm c s=0 then Nt.shown p pt cm c s else []
theorem fmt_any (p:Nt.Pt) (pt cm:UInt8) (c s:Int) (w:World) (hT:PowW w) (hM:MaxW w) (h1:p.pre.length≤1000000000) (h2:p.suf.length≤1000000000):
  Calls Tryz.prog 163 #[pV p,yV pt cm,.agg #[.int .i64 c,.int .i64 s]] w fun e w'=>e= .returned (.tuple #[.string ⟨(ftxt p pt cm c s).toArray⟩,errN (Nt.fmtE p pt cm c s)])∧Below w.heap.size w w':=by
 unfold ftxt errN
 by_cases h:Nt.fmtE p pt cm c s=0
 ·rw[if_pos h,if_pos h];exact fmt_text p pt cm c s w hT hM h1 h2 h
 ·rw[if_neg h,if_neg h];exact fmt_bad p pt cm c s w h1 h2 h
end Go.Proofs.YtldbfkccieipjaaGreatDoor
