/- The walks of msg.fine, msg.key and of the reference's KeyFault. Conditions: the texts are short; the package's list of kinds is there. -/
import Derived.Test.YtldbfkccieipjaaGreatDoorProg
import Derived.Test.YtldbfkccieipjaaGreatDoorEf0
import Derived.Test.YtldbfkccieipjaaGreatDoorEf4
import Derived.Test.YtldbfkccieipjaaGreatDoorEf5
import Derived.Lib.ItoaLen
import Derived.Test.YtldbfkccieipjaaGreatDoorEf6
import Derived.Test.YtldbfkccieipjaaGreatDoorShelfA
import Derived.WalkSmall
import Derived.Stop.LaidErr
import Derived.LaidSub
import Derived.Test.YtldbfkccieipjaaGreatDoorRows
import Derived.LaidMore
import Derived.Lib.AtoiAllCases
import Derived.Lib.AtoiErrMem
import Derived.Test.YtldbfkccieipjaaGreatDoorShelf
import Derived.Lib.LaidTab
import Derived.Test.YtldbfkccieipjaaGreatDoorShelfC
import Derived.Test.YtldbfkccieipjaaGreatDoorShelfT
import Derived.LoopTactic
namespace Go.Proofs.YtldbfkccieipjaaGreatDoor
set_option maxRecDepth 100000
open Go.RowKit Go.Lib

set_option maxHeartbeats 1000000 in
theorem digits_lead (l:Int) (D:List UInt8) (l0:0≤l) (l1:l≤1000) (hD:D.length≤1000) (k:Nat) (hk:k≤l.toNat-D.length) (h: ¬((k:Int)+D.length<l)):List.replicate k 48++D=List.replicate (l.toNat-D.length) 48++D:=by
 rw[show k=l.toNat-D.length by omega]

set_option maxHeartbeats 1000000 in
theorem digits_by (k:Nat): ∀(n l:Int) (w:World),n.toNat<k→0≤n→n≤9223372036854775807→0≤l→l≤1000→
  Calls Tryz.prog 25 #[.int .i64 n,.int .i64 l] w fun e w'=>e= .returned (.string ⟨(Dtx.pad l.toNat n.toNat).toArray⟩)∧Below w.heap.size w w':=by
 induction k with
 |zero=>intro n l w hk;omega
 |succ k ih=>
  intro n l w hk n0 n1 l0 l1
  have hd20:(decDigits n.toNat).length≤20:=by rw[decDigits_length];exact nDigits_le20 _ (by omega)
  have CV:=conv_one (P:= Tryz.prog) 72 9 5 Tryz.underlying72 Tryz.underlying5 Tryz.underlying9 (48+n%10) w (by omega) (by omega)
  have G:=Lib.hid (show Dtx.pad l.toNat n.toNat=List.replicate (l.toNat-(decDigits n.toNat).length) 48++decDigits n.toNat from rfl)
  generalize hg:Dtx.pad l.toNat n.toNat=R at*
  clear hg
  by_cases h10:n<10
  ·have e: [UInt8.ofNat (48+n%10).toNat]=decDigits n.toNat:=by rw[decDigits_one (by omega)];congr 2;omega
   rw[e] at CV
   clear e
   generalize decDigits n.toNat=D at*
   go_enter Tryz.func25,Tryz.ntmps25
   go_wp2_with fail
   clear CV
   have B:=Lib.hid (blw_alloc w (.cells #[.int .u8 (48+n%10)] 5))
   generalize w.alloc (.cells #[.int .u8 (48+n%10)] 5)=w1 at*
   go_loop [5] (fun s=> ∃k:Nat,k≤l.toNat-D.length∧s= .string ⟨(List.replicate k 48++D).toArray⟩) (fun s=>l.toNat-strLen s)
   case atStart=>exact⟨0,Nat.zero_le _,by simp⟩
   case round=>
    obtain⟨k,hk,rfl⟩:=hrel
    by_cases hlt:(k:Int)+D.length<l
    ·have AD:=fun w=>add_str (P:= Tryz.prog) [48] (List.replicate k 48++D) (by simp;omega) w
     have K1:=Lib.hid (show k+1≤l.toNat-D.length∧l.toNat-(k+1+D.length)<l.toNat-(k+D.length) by omega)
     go_wp2_with fail
     go_round
     case rel=>exact⟨k+1,K1.out.1,by simp[List.replicate_succ]⟩
     case measure=>rw[strLen_mk,strLen_mk];have:=K1.out.2;simp;omega
    ·have E:=Lib.hid (digits_lead l D l0 l1 (by omega) k hk hlt)
     go_wp2_with fail
     go_ret
     exact⟨ret_str (by rw[G.out,E.out]),B.out⟩
  ·have e:decDigits n.toNat=decDigits (n/10).toNat++ [UInt8.ofNat (48+n%10).toNat]:=by
    rw[Dtx.dd2 (by omega)]
    congr 2
    ·congr 1;omega
    ·congr 2;omega
   have C:Hid (∀w,Calls Tryz.prog 25 #[.int .i64 (n/10),.int .i64 0] w fun e w'=>e= .returned (.string ⟨(decDigits (n/10).toNat).toArray⟩)∧Below w.heap.size w w'):=by
    refine Lib.hid fun w=>?_
    have c:=ih (n/10) 0 w (by omega) (by omega) (by omega) (by omega) (by omega)
    have z:Dtx.pad (0:Int).toNat (n/10).toNat=decDigits (n/10).toNat:=by unfold Dtx.pad;simp
    rw[z] at c
    exact c
   have hl:(decDigits (n/10).toNat).length+1=(decDigits n.toNat).length:=by rw[e];simp
   have AD:=fun w=>add_str (P:= Tryz.prog) (decDigits (n/10).toNat) [UInt8.ofNat (48+n%10).toNat] (by simp;omega) w
   rw[←e] at AD
   clear e ih
   generalize decDigits n.toNat=D at*
   generalize decDigits (n/10).toNat=D0 at*
   go_enter Tryz.func25,Tryz.ntmps25
   go_wp2_with fail
   clear CV
   have B:=Lib.hid (blw_alloc w (.cells #[.int .u8 (48+n%10)] 5))
   refine(C.out _).mono ?_
   rintro e w1 ⟨rfl,hb⟩
   have B1:=Lib.hid (blw_trans B.out hb)
   clear hb B
   go_wp2_with fail
   clear AD
   go_loop [5] (fun s=> ∃k:Nat,k≤l.toNat-D.length∧s= .string ⟨(List.replicate k 48++D).toArray⟩) (fun s=>l.toNat-strLen s)
   case atStart=>exact⟨0,Nat.zero_le _,by simp⟩
   case round=>
    obtain⟨k,hk,rfl⟩:=hrel
    by_cases hlt:(k:Int)+D.length<l
    ·have AD:=fun w=>add_str (P:= Tryz.prog) [48] (List.replicate k 48++D) (by simp;omega) w
     have K1:=Lib.hid (show k+1≤l.toNat-D.length∧l.toNat-(k+1+D.length)<l.toNat-(k+D.length) by omega)
     go_wp2_with fail
     go_round
     case rel=>exact⟨k+1,K1.out.1,by simp[List.replicate_succ]⟩
     case measure=>rw[strLen_mk,strLen_mk];have:=K1.out.2;simp;omega
    ·have E:=Lib.hid (digits_lead l D l0 l1 (by omega) k hk hlt)
     go_wp2_with fail
     go_ret
     exact⟨ret_str (by rw[G.out,E.out]),B1.out⟩
theorem digits_any (n l:Int) (w:World) (n0:0≤n) (n1:n≤9223372036854775807) (l0:0≤l) (l1:l≤1000):
  Calls Tryz.prog 25 #[.int .i64 n,.int .i64 l] w fun e w'=>e= .returned (.string ⟨(Dtx.pad l.toNat n.toNat).toArray⟩)∧Below w.heap.size w w':=
 digits_by (n.toNat+1) n l w (by omega) n0 n1 l0 l1
theorem digits_none (n:Int) (w:World) (n0:0≤n) (n1:n≤9223372036854775807):
  Calls Tryz.prog 25 #[.int .i64 n,.int .i64 0] w fun e w'=>e= .returned (.string ⟨(decDigits n.toNat).toArray⟩)∧Below w.heap.size w w':=by
 have c:=digits_any n 0 w n0 n1 (by omega) (by omega)
 have z:Dtx.pad (0:Int).toNat n.toNat=decDigits n.toNat:=by unfold Dtx.pad;simp
 rw[z] at c
 exact c
open Go.RowKit

theorem u8_sub (x:Int) (h0:48≤x) (h1:x≤57):IntKind.u8.wrap (x-48)=x-48:=by
 have:x=48∨x=49∨x=50∨x=51∨x=52∨x=53∨x=54∨x=55∨x=56∨x=57:=by omega
 rcases this with rfl|rfl|rfl|rfl|rfl|rfl|rfl|rfl|rfl|rfl<;>decide
theorem all_snoc {s:List UInt8} {k:Nat} {c:UInt8} (h:s[k]?=some c) (p:UInt8→Bool):(s.take (k+1)).all p=((s.take k).all p&&p c):=by
 rw[List.take_add_one,h,List.all_append];simp
theorem fold_snoc {s:List UInt8} {k:Nat} {c:UInt8} (h:s[k]?=some c):Byt.foldD 0 (s.take (k+1))=10*Byt.foldD 0 (s.take k)+(c.toNat-48):=by
 rw[List.take_add_one,h,Byt.foldD_app];rfl
theorem all_of_take {s:List UInt8} {k:Nat} {c:UInt8} {p:UInt8→Bool} (h:s[k]?=some c) (hp:p c=false):s.all p=false:=
 List.all_eq_false.2 ⟨c,List.mem_of_getElem? h,by rw[hp];decide⟩
theorem fold_take_bd {s:List UInt8} {k:Nat} (h:(s.take k).all Byt.isDig=true) (hk:k≤16):Byt.foldD 0 (s.take k)<10000000000000000:=by
 have:=Byt.foldD_bd (s.take k) fun c hc=>Byt.isDig_iff.1 (List.all_eq_true.1 h c hc)
 have hl:(s.take k).length≤16:=by rw[List.length_take];omega
 have:10^(s.take k).length≤10^16:=Nat.pow_le_pow_right (by omega) hl
 omega

set_option maxHeartbeats 2000000 in
theorem numof_any (s:List UInt8) (w:World) (hs:s.length≤4000000000):
  Calls Tryz.prog 150 #[.string ⟨s.toArray⟩] w fun e w'=>e= .returned (.int .i64 (Byt.numP s))∧Below w.heap.size w w':=by
 have HP:=Lib.hid (show Byt.numP s=if s.length=0∨16<s.length then-1 else if s.all Byt.isDig=true then (if Lib.decDigits (Byt.foldD 0 s)=s∧(Byt.foldD 0 s:Int)≤1000000000000000 then (Byt.foldD 0 s:Int) else-1) else-1 from rfl)
 generalize Byt.numP s=V at*
 by_cases h0:s.length=0
 ·have HV:=Lib.hid (show V= -1 by rw[HP.out,if_pos (.inl h0)])
  have d0:((s.length:Int)==0)=true:=beq_yes (by omega)
  clear HP h0
  go_enter Tryz.func150,Tryz.ntmps150
  go_wp2_with fail
  go_ret
  exact⟨ret_int (by rw[HV.out]),Below.refl _ _⟩
 have d0:((s.length:Int)==0)=false:=beq_no (by omega)
 by_cases h1:16<s.length
 ·have HV:=Lib.hid (show V= -1 by rw[HP.out,if_pos (.inr h1)])
  have d1:decide (16<(s.length:Int))=true:=dec_yes (by omega)
  clear HP h0
  go_enter Tryz.func150,Tryz.ntmps150
  go_wp2_with fail
  go_ret
  exact⟨ret_int (by rw[HV.out]),Below.refl _ _⟩
 have HQ:=Lib.hid (show V=if s.all Byt.isDig=true then (if Lib.decDigits (Byt.foldD 0 s)=s∧(Byt.foldD 0 s:Int)≤1000000000000000 then (Byt.foldD 0 s:Int) else-1) else-1 by rw[HP.out,if_neg (by omega)])
 have d1:decide (16<(s.length:Int))=false:=dec_no (by omega)
 have hl:s.length≤16:=by omega
 clear HP h0 h1
 go_enter Tryz.func150,Tryz.ntmps150
 go_wp2_with fail
 clear d0 d1
 go_loop [3,4] (fun n i=> ∃k:Nat,i= .int .i64 k∧n= .int .i64 (Byt.foldD 0 (s.take k))∧k≤s.length∧Hid ((s.take k).all Byt.isDig=true)) (fun _ i=>s.length-(RowKit.intOf i).toNat)
 case atStart=>exact⟨0,rfl,rfl,Nat.zero_le _,Lib.hid rfl⟩
 case round=>
  obtain⟨k,rfl,rfl,hk,HA⟩:=hrel
  have hb:=fold_take_bd HA.out (by omega)
  by_cases hlt:k<s.length
  ·obtain⟨c,hx⟩: ∃c,s[k]?=some c:=⟨s[k],List.getElem?_eq_getElem hlt⟩
   have IX:=fun w=>index_str (P:= Tryz.prog) 9 Tryz.underlying9 s .i64 k c hx w
   have hcb:=c.toNat_lt
   by_cases hd:48≤c.toNat∧c.toNat≤57
   ·have HN:=Lib.hid (fold_snoc hx)
    have HA2:=Lib.hid (show(s.take (k+1)).all Byt.isDig=true by rw[all_snoc hx,HA.out,Byt.isDig_iff.2 hd];rfl)
    have us:=u8_sub (c.toNat:Int) (by omega) (by omega)
    obtain⟨g0,g1⟩:=hd
    have e0:decide ((c.toNat:Int)<48)=false:=dec_no (by omega)
    have e1:decide (57<(c.toNat:Int))=false:=dec_no (by omega)
    clear hx HA
    generalize Byt.foldD 0 (s.take k)=N at*
    go_wp2_with fail
    go_round
    case rel=>exact⟨k+1,by go_num,congrArg (Value.int .i64) (by rw[HN.out];omega),by omega,HA2⟩
    case measure=>simp[RowKit.intOf];omega
   ·have HV:=Lib.hid (show V= -1 by
     rw[HQ.out,if_neg]
     rw[all_of_take hx (show Byt.isDig c=false by
      cases hq:Byt.isDig c with
      |false=>rfl
      |true=>exact absurd (Byt.isDig_iff.1 hq) hd)]
     decide)
    clear hx HA HQ
    generalize Byt.foldD 0 (s.take k)=N at*
    by_cases g0:c.toNat<48
    ·have e0:decide ((c.toNat:Int)<48)=true:=dec_yes (by omega)
     go_wp2_with fail
     go_ret
     exact⟨ret_int (by rw[HV.out]),Below.refl _ _⟩
    ·have e0:decide ((c.toNat:Int)<48)=false:=dec_no (by omega)
     have e1:decide (57<(c.toNat:Int))=true:=dec_yes (by omega)
     go_wp2_with fail
     go_ret
     exact⟨ret_int (by rw[HV.out]),Below.refl _ _⟩
  ·have ht:s.take k=s:=List.take_of_length_le (by omega)
   rw[ht] at HA hb⊢
   clear ht
   have CD:=Lib.hid fun w=>digits_none (Byt.foldD 0 s:Int) w (by omega) (by omega)
   rw[Int.toNat_natCast] at CD
   have HQ2:=Lib.hid (show V=if Lib.decDigits (Byt.foldD 0 s)=s∧(Byt.foldD 0 s:Int)≤1000000000000000 then (Byt.foldD 0 s:Int) else-1 by rw[HQ.out,if_pos HA.out])
   clear HQ HA
   generalize Byt.foldD 0 s=N at*
   generalize Lib.decDigits N=D at*
   by_cases hq:D=s
   ·have q1:(D==s)=true:=by rw[hq];simp
    have q2:(D !=s)=false:=by rw[bne,q1];rfl
    by_cases hn:(N:Int)≤1000000000000000
    ·have HV:=Lib.hid (show V=(N:Int) by rw[HQ2.out,if_pos ⟨hq,hn⟩])
     have e1:decide (1000000000000000<(N:Int))=false:=dec_no (by omega)
     clear hq HQ2
     go_wp2_with fail
     refine(CD.out _).mono ?_
     rintro e w1 ⟨rfl,hw⟩
     have HW:=Lib.hid hw
     clear hw CD
     go_wp2_with fail
     go_ret
     exact⟨ret_int (by rw[HV.out]),HW.out⟩
    ·have HV:=Lib.hid (show V= -1 by rw[HQ2.out,if_neg (fun g=>hn g.2)])
     have e1:decide (1000000000000000<(N:Int))=true:=dec_yes (by omega)
     clear hq HQ2
     go_wp2_with fail
     refine(CD.out _).mono ?_
     rintro e w1 ⟨rfl,hw⟩
     have HW:=Lib.hid hw
     clear hw CD
     go_wp2_with fail
     go_ret
     exact⟨ret_int (by rw[HV.out]),HW.out⟩
   ·have q1:(D==s)=false:=beq_eq_false_iff_ne.2 hq
    have q2:(D !=s)=true:=by rw[bne,q1];rfl
    have HV:=Lib.hid (show V= -1 by rw[HQ2.out,if_neg (fun g=>hq g.1)])
    clear hq HQ2
    go_wp2_with fail
    refine(CD.out _).mono ?_
    rintro e w1 ⟨rfl,hw⟩
    have HW:=Lib.hid hw
    clear hw CD
    go_wp2_with fail
    go_ret
    exact⟨ret_int (by rw[HV.out]),HW.out⟩
open Go.RowKit

set_option maxHeartbeats 400000 in
theorem starts_any (s p:List UInt8) (w:World):
  Calls Tryz.prog 149 #[.string ⟨s.toArray⟩,.string ⟨p.toArray⟩] w fun e w'=>e= .returned (.bool (s.take p.length==p))∧w'=w:=by
 by_cases h:p.length≤s.length
 ·have SL:=fun w=>slice_to (P:= Tryz.prog) 9 Tryz.underlying9 s .i64 p.length h w
  generalize s.take p.length=T at*
  cases hb:T==p
  ·have hq:T≠p:=beq_eq_false_iff_ne.1 hb
   clear hq
   go_enter Tryz.func149,Tryz.ntmps149
   go_wp2_with fail
   go_ret
   exact⟨rfl,rfl⟩
  ·go_enter Tryz.func149,Tryz.ntmps149
   go_wp2_with fail
   go_ret
   exact⟨rfl,rfl⟩
 ·have e:(s.take p.length==p)=false:=beq_eq_false_iff_ne.2 fun g=>by
   have:=congrArg List.length g
   rw[List.length_take] at this;omega
  rw[e]
  clear e
  go_enter Tryz.func149,Tryz.ntmps149
  go_wp2_with fail
  go_ret
  exact⟨rfl,rfl⟩
open Go.RowKit
theorem gSyn: Tryz.prog.globalNamed "strconv.ErrSyntax"=some 8:=by kernel_rfl
theorem gSynT:(Tryz.prog.globals[8]?).map (·.type)=some 26:=by kernel_rfl
theorem gRng: Tryz.prog.globalNamed "strconv.ErrRange"=some 9:=by kernel_rfl
theorem gRngT:(Tryz.prog.globals[9]?).map (·.type)=some 26:=by kernel_rfl
/-- the two variables hold each some value -/
structure NumW (w:World):Prop where
 s: ∃tp p,w.var? Tryz.prog "strconv.ErrSyntax"=some #[.iface tp p]
 r: ∃tp p,w.var? Tryz.prog "strconv.ErrRange"=some #[.iface tp p]
theorem NumW.below {w w':World} (h:NumW w) (hb:Below w.heap.size w w'):NumW w':=by
 obtain⟨⟨t1,p1,h1⟩,⟨t2,p2,h2⟩⟩:=h
 exact⟨⟨t1,p1,var?_below hb gSyn (World.block_lt_of_cell? w _ (by have c:=World.var?_cell gSyn h1 0;simpa using c)) h1⟩,
  ⟨t2,p2,var?_below hb gRng (World.block_lt_of_cell? w _ (by have c:=World.var?_cell gRng h2 0;simpa using c)) h2⟩⟩
theorem atoi_yes (x:List UInt8) (v:Int) (w:World) (hx:x.length≤4000000000) (h:Lib.atoiAll x= .ok v):
  Calls Tryz.prog 140 #[.string ⟨x.toArray⟩] w fun e w'=>e= .returned (.tuple #[.int .i64 v,.nilIface])∧Below w.heap.size w w':=by
 refine(Tryz.strconv_Atoi_ok ⟨x.toArray⟩ (by show x.toArray.size≤_;simp;omega) v (by simpa using h) w).mono ?_
 rintro e w' ⟨rfl,rfl|⟨t,rfl⟩⟩
 ·exact⟨rfl,Below.refl _ _⟩
 ·exact⟨rfl,Lib.bytesWorld_below _ _ _⟩
/-- an error that is none of ours -/
def IsBad (w:World) (e:Ending) (w':World):Prop:= ∃u N,e= .returned (.tuple #[.int .i64 u,.iface 281 (.pointer (some ⟨N,0,none⟩))])∧Below w.heap.size w w'
theorem atoi_no (x:List UInt8) (w:World) (hW:NumW w) (hx:x.length≤4000000000) (h: ∀v,Lib.atoiAll x≠ .ok v):
  Calls Tryz.prog 140 #[.string ⟨x.toArray⟩] w (IsBad w):=by
 obtain⟨⟨t1,p1,h1⟩,⟨t2,p2,h2⟩⟩:=hW
 have hs:(⟨x.toArray⟩:ByteArray).size≤281474976710656:=by show x.toArray.size≤_;simp;omega
 cases hq:Lib.atoiAll x with
 |ok v=>exact absurd hq (h v)
 |range=>
  refine(Tryz.strconv_Atoi_range_var ⟨x.toArray⟩ hs (by simpa using hq) t2 p2 w h2).mono ?_
  rintro e w' ⟨N,rfl,_,_,hb⟩
  exact⟨_,N,rfl,hb⟩
 |_=>
  refine(Tryz.strconv_Atoi_syntax_var ⟨x.toArray⟩ hs (by simpa using hq) t1 p1 w h1).mono ?_
  rintro e w' ⟨N,rfl,_,_,hb⟩
  exact⟨_,N,rfl,hb⟩
theorem cellsErr: Tryz.prog.cellsOf 311=1:=by kernel_rfl
theorem cellsStr: Tryz.prog.cellsOf 9=1:=by kernel_rfl
theorem starErr: "*"++ "errors.errorString"= "*errors.errorString":=by decide
theorem rowErr (u:TypeId) (h: Tryz.prog.typeName? 3 u=some "*errors.errorString"):u= 309:=
 typeName_ptr_named (nm:= "errors.errorString") (by rw[starErr];kernel_rfl) (by kernel_rfl) (by decide) u (by rw[starErr];exact h)
theorem numW_of {L:List (String×DataW Unit)} {W:World} (h:laidMetH Tryz.prog L W) (hs:L.filter (fun x=>x.1== "strconv.ErrSyntax")= [("strconv.ErrSyntax",Rows.laid_strconv_ErrSyntax)]) (hr:L.filter (fun x=>x.1== "strconv.ErrRange")= [("strconv.ErrRange",Rows.laid_strconv_ErrRange)]):NumW W:=by
 have g1:=laidMetH.filter (fun x=>x.1== "strconv.ErrSyntax") h
 have g2:=laidMetH.filter (fun x=>x.1== "strconv.ErrRange") h
 rw[hs,MakeChecks.laidMetH_plain _ _ _ (by kernel_rfl)] at g1
 rw[hr,MakeChecks.laidMetH_plain _ _ _ (by kernel_rfl)] at g2
 obtain⟨a0,s0,hv0,-,-,-⟩:=laid_sentinel g1 gSyn gSynT Tryz.underlying26 rowErr Tryz.underlying309 Tryz.underlying311 rfl rfl Tryz.underlying9 cellsErr cellsStr
 obtain⟨a1,s1,hv1,-,-,-⟩:=laid_sentinel g2 gRng gRngT Tryz.underlying26 rowErr Tryz.underlying309 Tryz.underlying311 rfl rfl Tryz.underlying9 cellsErr cellsStr
 exact⟨⟨_,_,hv0⟩,⟨_,_,hv1⟩⟩
open Go.RowKit
def MaxW (w:World):Prop:= ∃m,w.cell? ⟨4,0,none⟩=some (.int .i64 m)
theorem MaxW.below {w w':World} (h:MaxW w) (hb:Below w.heap.size w w'):MaxW w':=h.imp fun _ g=>cell_keep g hb
theorem MaxW.alloc {w:World} (h:MaxW w) (o:Obj):MaxW (w.alloc o):=h.below (blw_alloc w o)
open Go.RowKit Go.Lib

theorem gPow: Tryz.prog.globalNamed "internal/strconv.uint64pow10"=some 10:=by kernel_rfl
/-- the table of powers holds its numbers -/
def PowW (w:World):Prop:=Lib.TabIs Tryz.prog w "internal/strconv.uint64pow10" .u64 Lib.pow10Tab
theorem PowW.lt {w:World} (h:PowW w): 10<w.heap.size:=
 World.block_lt_of_cell? w ⟨10,0,none⟩ (TabIs.cell h gPow 0 (by rw[pow10Tab_length];decide))
theorem PowW.below {w w':World} (h:PowW w) (hb:Below w.heap.size w w'):PowW w':=var?_below hb gPow h.lt h
theorem PowW.alloc {w:World} (h:PowW w) (o:Obj):PowW (w.alloc o):=h.below (blw_alloc w o)
theorem PowW.drewN {w:World} (h:PowW w) (n:Nat):PowW (w.drewN n):=h.below (blw_drewN (Below.refl _ _) n)
theorem blw_grow (w:World) (k:Nat) (os:Array Obj):Below w.heap.size w (Sort.grow (w.drewN k) os):=
 ⟨rfl,rfl,rfl,by show w.heap.size≤(w.heap++os).size;rw[Array.size_append];omega,fun _ hj=>Sort.heap_grow_old (w.drewN k) os hj⟩
theorem itoa_any (n:Int) (w:World) (hp:PowW w) (n0: -9223372036854775808≤n) (n1:n≤9223372036854775807):
  Calls Tryz.prog 132 #[.int .i64 n] w fun e w'=>e= .returned (.string ⟨(Lib.itoa n).toArray⟩)∧Below w.heap.size w w':=
 (Tryz.strconv_Itoa n n0 n1 w hp).mono fun _ _ ⟨he,k,os,hw⟩=>⟨he,hw▸blw_grow w k os⟩
theorem itoa_pos (n:Int) (w:World) (hp:PowW w) (n0:0≤n) (n1:n≤9223372036854775807):
  Calls Tryz.prog 132 #[.int .i64 n] w fun e w'=>e= .returned (.string ⟨(Lib.decDigits n.toNat).toArray⟩)∧Below w.heap.size w w':=by
 have c:=itoa_any n w hp (by omega) n1
 unfold Lib.itoa at c
 rw[if_neg (by omega)] at c
 exact c
open Go.RowKit
namespace Ms
open Go.Lib
/-- the number of a key; -1: none -/
def exV (key:List UInt8):Int:=if hasPrefix key [61]=true∧key.length≤4 then Byt.numP (trimPrefix key [61]) else-1
theorem num_atoi {l:List UInt8} (h:0≤Byt.numP l):atoiAll l= .ok (Byt.numP l)∧decDigits (Byt.numP l).toNat=l:=by
 obtain⟨h1,h2⟩:=Byt.numP_some h
 have z:=Byt.zdig_atoi 0 (Byt.numP l) (by omega)
 have e:Byt.sgn (Byt.numP l)++Byt.zdig 0 (Byt.numP l).natAbs=l:=by
  unfold Byt.sgn Byt.zdig
  rw[if_neg (by omega),show(Byt.numP l).natAbs=(Byt.numP l).toNat by omega,h1];rfl
 rw[e] at z
 exact⟨z,h1⟩
theorem num_neg {l:List UInt8} (h: ¬0≤Byt.numP l):Byt.numP l= -1:=by
 have:=(Byt.numP_bd l).1;omega
theorem dig_long: ∀(k u:Nat),(decDigits u).length≤k→u<10^k
 |0,u,h=>absurd (List.length_eq_zero_iff.1 (Nat.le_zero.1 h)) (Byt.digits_ne u)
 |k+1,u,h=>by
  by_cases hu:u<10
  ·exact Nat.lt_of_lt_of_le hu (by rw[Nat.pow_succ];have:=Nat.pow_pos (n:=k) (show 0<10 by omega);omega)
  ·rw[Dtx.dd2 hu,List.length_append,List.length_singleton] at h
   have:=dig_long k (u/10) (by omega)
   rw[Nat.pow_succ];omega
theorem pre_len {key:List UInt8} (h:hasPrefix key [61]=true):(trimPrefix key [61]).length+1=key.length:=by
 unfold trimPrefix
 rw[if_pos h,List.length_drop]
 cases key with
 |nil=>exact absurd h (by decide)
 |cons x r=>simp
/-- no number -/
theorem ex_none {key:List UInt8} (h:hasPrefix key [61]=false∨(∀n,atoiAll (trimPrefix key [61])≠ .ok n)∨ ∃n,atoiAll (trimPrefix key [61])= .ok n∧(n<0∨999<n∨itoa n≠trimPrefix key [61])):exV key= -1:=by
 unfold exV
 by_cases h0:hasPrefix key [61]=true∧key.length≤4
 ·rw[if_pos h0]
  by_cases hn:0≤Byt.numP (trimPrefix key [61])
  ·exfalso
   obtain⟨a1,a2⟩:=num_atoi hn
   rcases h with h|h|⟨n,h1,h2⟩
   ·rw[h] at h0;exact absurd h0.1 (by simp)
   ·exact h _ a1
   ·rw[a1] at h1
    injection h1 with h1
    have hl:=pre_len h0.1
    have h9:=dig_long 3 (Byt.numP (trimPrefix key [61])).toNat (by rw[a2];omega)
    rcases h2 with h2|h2|h2
    ·omega
    ·omega
    ·exact h2 (by rw[←h1];unfold itoa;rw[if_neg (by omega),a2])
  ·exact num_neg hn
 ·rw[if_neg h0]
theorem ex_some {key:List UInt8} {n:Int} (h:hasPrefix key [61]=true) (_:atoiAll (trimPrefix key [61])= .ok n) (h2:0≤n) (h3:n≤999) (h4:itoa n=trimPrefix key [61]):exV key=n:=by
 have e:trimPrefix key [61]=decDigits n.toNat:=by rw[←h4];unfold itoa;rw[if_neg (by omega)]
 have hl:=pre_len h
 have hd:=Byt.digits_short 3 n.toNat (by omega) (by omega)
 unfold exV
 rw[e] at hl
 rw[if_pos ⟨h,by omega⟩,e,Byt.numP_dec _ (by omega)]
 omega
theorem ex_bd (key:List UInt8): -1≤exV key∧exV key≤1000000000000000:=by
 unfold exV
 split
 ·exact Byt.numP_bd _
 ·omega
end Ms
theorem cuteq_any (s:List UInt8) (w:World):Calls Tryz.prog 190 #[.string ⟨s.toArray⟩,.string ⟨#[61]⟩] w fun e w'=>e= .returned (.tuple #[.string ⟨(Lib.trimPrefix s [61]).toArray⟩,.bool (Lib.hasPrefix s [61])])∧w=w':=
 (Tryz.strings_CutPrefix ⟨s.toArray⟩ ⟨#[61]⟩ w).mono fun _ _ h=>⟨h.1,h.2.symm⟩

set_option maxHeartbeats 2000000 in
theorem exact_any (key:List UInt8) (w:World) (hp:PowW w) (hn:NumW w) (hs:key.length≤4000000000):
  Calls Tryz.prog 165 #[.string ⟨key.toArray⟩] w fun e w'=>e= .returned (.int .i64 (Ms.exV key))∧Below w.heap.size w w':=by
 have C1:=Lib.hid fun w=>cuteq_any key w
 have HN:=Lib.hid (@Ms.ex_none key)
 have HS:=Lib.hid fun (n:Int) (g1:Lib.hasPrefix key [61]=true) g2 g3 g4 g5=> @Ms.ex_some key n g1 g2 g3 g4 g5
 have hl:(Lib.trimPrefix key [61]).length≤4000000000:=by have:=Lib.trimPrefix_le key [61];omega
 generalize Ms.exV key=V at*
 generalize Lib.hasPrefix key [61]=B at*
 generalize Lib.trimPrefix key [61]=R at*
 have CI:=Lib.hid fun (n:Int) (h0:0≤n) (h1:n≤999) (wx:World) (hb:Below w.heap.size w wx)=>itoa_any n wx (hp.below hb) (by omega) (by omega)
 by_cases ha: ∃v,Lib.atoiAll R= .ok v
 ·obtain⟨n,ha⟩:=ha
  have CA:=Lib.hid fun wx=>atoi_yes R n wx hl ha
  cases B with
  |false=>
   have e:=HN.out (.inl rfl)
   subst e
   clear HN HS CI ha hl hs hp hn
   go_enter Tryz.func165,Tryz.ntmps165
   go_wp2_with fail
   refine(C1.out _).mono ?_
   rintro e w' ⟨rfl,rfl⟩
   go_wp2_with fail
   refine(CA.out _).mono ?_
   rintro e w1 ⟨rfl,hb⟩
   go_wp2_with fail
   go_ret
   exact⟨rfl,hb⟩
  |true=>
   rcases Int.lt_or_le n 0 with h0|h0
   ·have e:=HN.out (.inr (.inr ⟨n,ha,.inl h0⟩))
    subst e
    have d0:decide (n<0)=true:=dec_yes h0
    clear HN HS CI ha hl hs hp hn h0
    go_enter Tryz.func165,Tryz.ntmps165
    go_wp2_with fail
    refine(C1.out _).mono ?_
    rintro e w' ⟨rfl,rfl⟩
    go_wp2_with fail
    refine(CA.out _).mono ?_
    rintro e w1 ⟨rfl,hb⟩
    go_wp2_with fail
    go_ret
    exact⟨rfl,hb⟩
   ·have d0:decide (n<0)=false:=dec_no (by omega)
    rcases Int.lt_or_le 999 n with h9|h9
    ·have e:=HN.out (.inr (.inr ⟨n,ha,.inr (.inl h9)⟩))
     subst e
     have d1:decide (999<n)=true:=dec_yes h9
     clear HN HS CI ha hl hs hp hn h0 h9
     go_enter Tryz.func165,Tryz.ntmps165
     go_wp2_with fail
     refine(C1.out _).mono ?_
     rintro e w' ⟨rfl,rfl⟩
     go_wp2_with fail
     refine(CA.out _).mono ?_
     rintro e w1 ⟨rfl,hb⟩
     go_wp2_with fail
     go_ret
     exact⟨rfl,hb⟩
    ·have d1:decide (999<n)=false:=dec_no (by omega)
     have CIh:=Lib.hid (CI.out n h0 h9)
     have HV:Hid ((Lib.itoa n=R→V=n)∧(Lib.itoa n≠R→V= -1)):=Lib.hid ⟨fun h=>HS.out n rfl ha h0 h9 h,fun h=>HN.out (.inr (.inr ⟨n,ha,.inr (.inr h)⟩))⟩
     clear HN HS CI ha hl hs hp hn h0 h9
     generalize Lib.itoa n=T at*
     go_enter Tryz.func165,Tryz.ntmps165
     go_wp2_with fail
     refine(C1.out _).mono ?_
     rintro e w' ⟨rfl,rfl⟩
     go_wp2_with fail
     refine(CA.out _).mono ?_
     rintro e w1 ⟨rfl,hb⟩
     have W1:=Lib.hid hb
     clear hb
     go_wp2_with fail
     refine(CIh.out _ W1.out).mono ?_
     rintro e w2 ⟨rfl,hb⟩
     have W2:=Lib.hid (blw_trans W1.out hb)
     clear hb CIh W1
     by_cases hT:T=R
     ·have e:=HV.out.1 hT
      subst hT
      subst e
      go_wp2_with fail
      go_ret
      exact⟨rfl,W2.out⟩
     ·have e:=HV.out.2 hT
      subst e
      have b0:(T==R)=false:=beq_eq_false_iff_ne.2 hT
      have b1:(T !=R)=true:=by rw[bne,b0];rfl
      clear hT HV
      go_wp2_with fail
      go_ret
      exact⟨rfl,W2.out⟩
 ·have CA:=Lib.hid fun wx hW=>atoi_no R wx hW hl fun v h=>ha ⟨v,h⟩
  have e:=HN.out (.inr (.inl fun v h=>ha ⟨v,h⟩))
  subst e
  have HNW:=Lib.hid hn
  clear HN HS CI ha hl hs hp hn
  cases B
  all_goals
   go_enter Tryz.func165,Tryz.ntmps165
   go_wp2_with fail
   refine(C1.out _).mono ?_
   rintro e w' ⟨rfl,rfl⟩
   go_wp2_with fail
   refine(CA.out _ HNW.out).mono ?_
   rintro e w1 ⟨u,nb,rfl,hb⟩
   go_wp2_with fail
   go_ret
   exact⟨rfl,hb⟩

set_option maxHeartbeats 2000000 in
theorem qexact_any (key:List UInt8) (w:World) (hs:key.length≤4000000000):
  Calls Tryz.prog 110 #[.string ⟨key.toArray⟩] w fun e w'=>e= .returned (.int .i64 (Ms.exV key))∧Below w.heap.size w w':=by
 have C1:=Lib.hid fun w=>(starts_any key [61] w).mono fun e w' (h:e= .returned (.bool (key.take ([61]:List UInt8).length== [61]))∧w'=w)=>(⟨h.1,h.2.symm⟩:e= .returned (.bool (key.take ([61]:List UInt8).length== [61]))∧w=w')
 have ep:(key.take ([61]:List UInt8).length== [61])=Lib.hasPrefix key [61]:=by
  cases key with
  |nil=>rfl
  |cons x r=>simp[Lib.hasPrefix,List.isPrefixOf,Bool.beq_comm]
 rw[ep] at C1
 unfold Ms.exV
 cases hB:Lib.hasPrefix key [61] with
 |false=>
  rw[hB] at C1
  rw[if_neg (by simp)]
  clear ep hB
  go_enter Tryz.func110,Tryz.ntmps110
  go_wp2_with fail
  refine(C1.out _).mono ?_
  rintro e w' ⟨rfl,rfl⟩
  go_wp2_with fail
  go_ret
  exact⟨rfl,Below.refl _ _⟩
 |true=>
  rw[hB] at C1
  by_cases h4:key.length≤4
  ·rw[if_pos ⟨rfl,h4⟩]
   have h5: ¬(4:Int)<(key.length:Int):=by omega
   have hk:1≤key.length:=by have:=Ms.pre_len hB;omega
   have SL:=fun w=>slice_from (P:= Tryz.prog) 9 Tryz.underlying9 key .i64 1 hk w
   rw[show((1:Nat):Int)=1 from rfl] at SL
   have e1:key.drop 1=Lib.trimPrefix key [61]:=by unfold Lib.trimPrefix;rw[if_pos hB];rfl
   rw[e1] at SL
   have C2:=Lib.hid fun w=>numof_any (Lib.trimPrefix key [61]) w (by have:=Lib.trimPrefix_le key [61];omega)
   generalize Lib.trimPrefix key [61]=R at*
   clear ep hB e1 h4 hs hk
   go_enter Tryz.func110,Tryz.ntmps110
   go_wp2_with fail
   refine(C1.out _).mono ?_
   rintro e w' ⟨rfl,rfl⟩
   go_wp2_with fail
   refine(C2.out _).mono ?_
   rintro e w1 ⟨rfl,hb⟩
   go_wp2_with fail
   go_ret
   exact⟨rfl,hb⟩
  ·rw[if_neg (fun h=>h4 h.2)]
   have h5:(4:Int)<(key.length:Int):=by omega
   clear ep hB h4 hs
   go_enter Tryz.func110,Tryz.ntmps110
   go_wp2_with fail
   refine(C1.out _).mono ?_
   rintro e w' ⟨rfl,rfl⟩
   go_wp2_with fail
   go_ret
   exact⟨rfl,Below.refl _ _⟩
open Go.RowKit
namespace Ms
def other:List UInt8:= [111,116,104,101,114]
def five:List (List UInt8):= [[122,101,114,111],[111,110,101],[116,119,111],[102,101,119],[109,97,110,121]]
/-- is a node fine, behind one of a kind? -/
def fineB (x:Nd) (prev:Option Int) (mark:Bool):Bool:=
 if x.kind=1 then !x.text.isEmpty&&!(prev==some 1) else if x.kind=2∨x.kind=3∨x.kind=4∨x.kind=5 then nameB x.text else decide (x.kind=6)&&mark
/-- is a key one of a node? -/
def keyB (x:Nd) (k:List UInt8):Bool:=if x.kind=5 then nameB k else five.contains k||k==other||decide (0≤exV k)
/-- what is wrong with cases: G tells it of a body -/
def csE (G:Bool→List Nd→Int) (x:Nd) (mark:Bool):List (List UInt8)→List (List UInt8×List Nd)→Int
 |seen,[]=>if seen.contains other then 0 else 2
 |seen,y::r=>if !keyB x y.1 then 3 else if seen.contains y.1 then 5 else if G (mark||decide (x.kind=4)) y.2≠0 then G (mark||decide (x.kind=4)) y.2 else csE G x mark (seen++ [y.1]) r
def ndE (G:Bool→List Nd→Int) (x:Nd) (prev:Option Int) (mark:Bool):Int:=
 if !fineB x prev mark then 3 else if x.kind=4∧(x.off<0∨9<x.off) then 1 else if x.kind=4∨x.kind=5 then csE G x mark [] x.cases else 0
def msE (G:Bool→List Nd→Int) (mark:Bool):Option Int→List Nd→Int
 |_,[]=>0
 |prev,x::r=>if ndE G x prev mark≠0 then ndE G x prev mark else msE G mark (some x.kind) r
/-- what is wrong with a message -/
def chk:Nat→Bool→List Nd→Int
 |0,_,_=>0
 |f+1,mark,m=>msE (chk f) mark none m
/-- .. of a message as a whole -/
def msgE (f:Nat) (m:List Nd):Int:=if (lrg 6 m).2 then 4 else chk f false m
end Ms
open Go.RowKit
theorem lcontains_any (l:List (List UInt8)) (b off k cap:Nat) (x:List UInt8) (w:World) (hk:k≤l.length) (hl:k≤9223372036854775807) (hc: ∀(j:Nat) x,l[j]?=some x→w.cell? ⟨b,off+j,none⟩=some (.string ⟨x.toArray⟩)):
  Calls Tryz.prog 175 #[.slice (some ⟨b,off,none⟩) k cap,.string ⟨x.toArray⟩] w fun e w'=>e= .returned (.bool ((l.take k).contains x))∧w=w':=by
 have c:= Tryz.slices_Contains_string b off k cap (l.map fun x=>⟨x.toArray⟩) ⟨x.toArray⟩ w (by rw[List.length_map];exact hk) hl (fun j hj=>by
  rw[List.length_map] at hj
  rw[hc j l[j] (List.getElem?_eq_getElem hj),List.getD_eq_getElem?_getD,List.getElem?_map,List.getElem?_eq_getElem hj];rfl)
 refine c.mono ?_
 rintro e w' ⟨rfl,rfl⟩
 refine⟨ret_bool ?_,rfl⟩
 rw[Bool.eq_iff_iff,Lib.containsS_iff,List.contains_iff_mem,←List.map_take,List.mem_map]
 constructor
 ·rintro⟨y,hy,e⟩
  have:y=x:=by have:=congrArg (fun z:ByteArray=>z.data.toList) e;simpa using this
  exact this▸hy
 ·exact fun h=>⟨x,h,rfl⟩
theorem scontains_any (l:List (List UInt8)) (V:Value) (x:List UInt8) (w:World) (h:StrsAt w V l):
  Calls Tryz.prog 175 #[V,.string ⟨x.toArray⟩] w fun e w'=>e= .returned (.bool (l.contains x))∧w=w':=by
 rcases h with⟨rfl,a,cap,rfl⟩|⟨b,off,cap,rfl,_,h3,h4,h5⟩
 ·exact(Tryz.slices_Contains_string_empty a cap ⟨x.toArray⟩ w).mono fun e w' g=>⟨g.1,g.2.symm⟩
 ·have:=lcontains_any l b off l.length cap x w (Nat.le_refl _) (by unfold maxLen at h4;omega) h5
  rw[List.take_length] at this
  exact this
set_option maxHeartbeats 1000000 in
theorem lin_any (l:List (List UInt8)) (b off k cap:Nat) (x:List UInt8) (w:World) (hk:k≤l.length) (hkc:k≤cap) (hm:cap≤maxLen) (hc: ∀(j:Nat) x,l[j]?=some x→w.cell? ⟨b,off+j,none⟩=some (.string ⟨x.toArray⟩)):
  Calls Tryz.prog 16 #[.slice (some ⟨b,off,none⟩) k cap,.string ⟨x.toArray⟩] w fun e w'=>e= .returned (.bool ((l.take k).contains x))∧w=w':=by
 generalize HPOST:(l.take k).contains x=POST
 have HP:=Lib.hid HPOST
 have HC:=Lib.hid hc
 unfold maxLen at hm
 clear HPOST hc
 go_enter Tryz.func16,Tryz.ntmps16
 go_wp2_with fail
 go_loop [5] (fun i=> ∃m:Nat,i= .int .i64 m∧m≤k∧Hid ((l.take m).contains x=false)) (fun i=>k-(RowKit.intOf i).toNat)
 case atStart=>exact⟨0,rfl,Nat.zero_le _,Lib.hid (by simp)⟩
 case round=>
  obtain⟨m,rfl,hmk,HN⟩:=hrel
  by_cases hlt:m<k
  ·obtain⟨y,hy⟩: ∃y,l[m]?=some y:=⟨l[m]'(by omega),List.getElem?_eq_getElem (by omega)⟩
   have yc:=HC.out m y hy
   have HT:=Lib.hid (show(l.take (m+1)).contains x=(x==y) by
    rw[List.take_add_one,hy,Bool.eq_iff_iff,List.contains_iff_mem]
    have hn:=HN.out
    simp at hn
    simp[hn])
   have HY:=Lib.hid hy
   clear hy
   by_cases e:y=x
   ·subst e
    have HR:=Lib.hid (show POST=true by
     rw[←HP.out,List.contains_iff_mem]
     have h1:y∈l.take (m+1):=by rw[List.take_add_one,HY.out];simp
     exact List.take_subset_take_left l (by omega) h1)
    go_wp2_with fail
    go_ret
    exact⟨ret_bool HR.out.symm,rfl⟩
   ·have q1:(y==x)=false:=beq_eq_false_iff_ne.2 e
    have HN2:=Lib.hid (show(l.take (m+1)).contains x=false by rw[HT.out];exact beq_eq_false_iff_ne.2 (fun g=>e g.symm))
    clear HT e
    go_wp2_with fail
    go_round
    case rel=>exact⟨m+1,by go_num,by omega,HN2⟩
    case measure=>simp[RowKit.intOf];omega
  ·obtain rfl:m=k:=by omega
   go_wp2_with fail
   go_ret
   exact⟨ret_bool (by rw[←HP.out,HN.out]),rfl⟩
theorem sin_any (l:List (List UInt8)) (V:Value) (x:List UInt8) (w:World) (h:StrsAt w V l):
  Calls Tryz.prog 16 #[V,.string ⟨x.toArray⟩] w fun e w'=>e= .returned (.bool (l.contains x))∧w=w':=by
 rcases h with⟨rfl,a,cap,rfl⟩|⟨b,off,cap,rfl,_,h3,h4,h5⟩
 ·simp only[List.contains_nil]
  go_enter Tryz.func16,Tryz.ntmps16
  go_wp2_with fail
  go_loop [5] (fun i=>i= .int .i64 0) (fun _=>0)
  case atStart=>exact rfl
  case round=>
   obtain rfl:=hrel
   go_wp2_with fail
   go_ret
   exact⟨rfl,rfl⟩
 ·have:=lin_any l b off l.length cap x w (Nat.le_refl _) h3 h4 h5
  rw[List.take_length] at this
  exact this
open Go.RowKit

set_option maxHeartbeats 2000000 in
theorem mfine_any (x:Ms.Nd) {a:Option Addr} {n c:Nat} (A:Option Addr) (i C:Nat) (prev:Option Int) (mark:Bool) (w:World) (ht:x.text.length≤2000000) (hC:i≤C) (hC2:C≤9223372036854775807)
  (hp:(i=0∧prev=none)∨ ∃b off q,A=some ⟨b,off,none⟩∧prev=some q∧0<i∧w.cell? ⟨b,off+(i-1)*4,none⟩=some (.int .i64 q)):
  Calls Tryz.prog 134 #[.agg #[.int .i64 x.kind,.string ⟨x.text.toArray⟩,.int .i64 x.off,.slice a n c],.slice A i C,.bool mark] w fun e w'=>e= .returned (.bool (Ms.fineB x prev mark))∧Below w.heap.size w w':=by
 have CN:=Lib.hid fun wx=>mname_any x.text wx (by omega)
 unfold Ms.fineB
 generalize x.kind=K at*
 generalize x.off=O at*
 generalize Ms.nameB x.text=NB at*
 generalize x.text=T at*
 have W0:=Lib.hid (blw_alloc w (.cells #[.int .i64 K,.string ⟨T.toArray⟩,.int .i64 O,.slice a n c] 34))
 by_cases k1:K=1
 ·subst k1
  rw[if_pos rfl]
  clear CN
  cases T with
  |nil=>
   go_enter Tryz.func134,Tryz.ntmps134
   go_wp2_with fail
   go_ret
   exact⟨ret_bool (by simp),W0.out⟩
  |cons t0 tr=>
   have e1:(t0::tr).isEmpty=false:=rfl
   have e2:((t0::tr)== [])=false:=rfl
   generalize t0::tr=T at*
   rcases hp with⟨rfl,rfl⟩|⟨b,off,q,rfl,rfl,hi,hc⟩
   ·go_enter Tryz.func134,Tryz.ntmps134
    go_wp2_with fail
    go_ret
    exact⟨ret_bool (by rw[e1];rfl),W0.out⟩
   ·have b0:((i:Int)==0)=false:=beq_no (by omega)
    obtain⟨j,hj⟩: ∃j,j=i-1:=⟨_,rfl⟩
    rw[←hj] at hc
    have hc2:=cell_keep hc W0.out
    have wj:IntKind.i64.wrap ((i:Int)-1)=(j:Int):=by rw[IntWalk.i64_in _ (by omega)];omega
    have ej:(i:Int)-1=(j:Int):=by omega
    have hlt:(j:Int)<(i:Int):=by omega
    have hlt2:j<i:=by omega
    clear hj hi hc
    by_cases hq:q=1
    ·subst hq
     go_enter Tryz.func134,Tryz.ntmps134
     go_wp2_with fail
     go_ret
     exact⟨ret_bool (by rw[e1];rfl),W0.out⟩
    ·have q1:(q==1)=false:=beq_no hq
     have q2:(q !=1)=true:=by rw[bne,q1];rfl
     have q3:((some q:Option Int)==some 1)=false:=by simpa using hq
     clear hq
     go_enter Tryz.func134,Tryz.ntmps134
     go_wp2_with fail
     go_ret
     exact⟨ret_bool (by rw[e1,q3];rfl),W0.out⟩
 ·have b1:(K==1)=false:=beq_no k1
  rw[if_neg k1]
  clear hp
  by_cases k2:K=2
  ·subst k2
   rw[if_pos (.inl rfl)]
   clear k1 b1
   go_enter Tryz.func134,Tryz.ntmps134
   go_wp2_with fail
   refine(CN.out _).mono ?_
   rintro e w1 ⟨rfl,hb⟩
   go_wp2_with fail
   go_ret
   exact⟨rfl,blw_trans W0.out hb⟩
  ·have b2:(K==2)=false:=beq_no k2
   by_cases k3:K=3
   ·subst k3
    rw[if_pos (.inr (.inl rfl))]
    clear k1 b1 b2 k2
    go_enter Tryz.func134,Tryz.ntmps134
    go_wp2_with fail
    refine(CN.out _).mono ?_
    rintro e w1 ⟨rfl,hb⟩
    go_wp2_with fail
    go_ret
    exact⟨rfl,blw_trans W0.out hb⟩
   ·have b3:(K==3)=false:=beq_no k3
    by_cases k4:K=4
    ·subst k4
     rw[if_pos (.inr (.inr (.inl rfl)))]
     clear k1 b1 b2 k2 b3 k3
     go_enter Tryz.func134,Tryz.ntmps134
     go_wp2_with fail
     refine(CN.out _).mono ?_
     rintro e w1 ⟨rfl,hb⟩
     go_wp2_with fail
     go_ret
     exact⟨rfl,blw_trans W0.out hb⟩
    ·have b4:(K==4)=false:=beq_no k4
     by_cases k5:K=5
     ·subst k5
      rw[if_pos (.inr (.inr (.inr rfl)))]
      clear k1 b1 b2 k2 b3 k3 b4 k4
      go_enter Tryz.func134,Tryz.ntmps134
      go_wp2_with fail
      refine(CN.out _).mono ?_
      rintro e w1 ⟨rfl,hb⟩
      go_wp2_with fail
      go_ret
      exact⟨rfl,blw_trans W0.out hb⟩
     ·have b5:(K==5)=false:=beq_no k5
      rw[if_neg (by omega)]
      clear CN
      by_cases k6:K=6
      ·subst k6
       clear k1 k2 k3 k4 k5 b1 b2 b3 b4 b5
       go_enter Tryz.func134,Tryz.ntmps134
       go_wp2_with fail
       go_ret
       exact⟨ret_bool (by simp),W0.out⟩
      ·have b6:(K==6)=false:=beq_no k6
       rw[decide_eq_false k6,Bool.false_and]
       clear k1 k2 k3 k4 k5 k6
       go_enter Tryz.func134,Tryz.ntmps134
       go_wp2_with fail
       go_ret
       exact⟨rfl,W0.out⟩

set_option maxHeartbeats 2000000 in
theorem five_any (w:World):Calls Tryz.prog 19 #[] w fun e w'=> ∃V,e= .returned V∧StrsAt w' V Ms.five∧Below w.heap.size w w':=by
 go_enter Tryz.func19,Tryz.ntmps19
 go_wp2_with fail
 go_ret
 refine⟨_,rfl,.inr ⟨w.heap.size,0,5,rfl,by decide,by decide,by decide,fun j x hx=>?_⟩,blw_alloc _ _⟩
 match j,hx with
 |0,hx=>cases hx;simp[go_sem]
 |1,hx=>cases hx;simp[go_sem]
 |2,hx=>cases hx;simp[go_sem]
 |3,hx=>cases hx;simp[go_sem]
 |4,hx=>cases hx;simp[go_sem]

set_option maxHeartbeats 2000000 in
theorem qkey_any (x:Ms.Nd) {a:Option Addr} {n c:Nat} (k:List UInt8) (w:World) (hk:k.length≤2000000):
  Calls Tryz.prog 181 #[.agg #[.int .i64 x.kind,.string ⟨x.text.toArray⟩,.int .i64 x.off,.slice a n c],.string ⟨k.toArray⟩] w fun e w'=>e= .returned (.bool (!Ms.keyB x k))∧Below w.heap.size w w':=by
 have CN:=Lib.hid fun wx=>qname_any k wx (by omega)
 have CX:=Lib.hid fun wx=>qexact_any k wx (by omega)
 have CI:=Lib.hid fun V wx (h:StrsAt wx V Ms.five)=>sin_any Ms.five V k wx h
 unfold Ms.keyB
 generalize x.kind=K at*
 generalize x.off=O at*
 generalize x.text=T at*
 generalize Ms.nameB k=NB at*
 generalize Ms.exV k=EX at*
 generalize Ms.five.contains k=FB at*
 have W0:=Lib.hid (blw_alloc w (.cells #[.int .i64 K,.string ⟨T.toArray⟩,.int .i64 O,.slice a n c] 34))
 by_cases k5:K=5
 ·subst k5
  rw[if_pos rfl]
  go_enter Tryz.func181,Tryz.ntmps181
  go_wp2_with fail
  refine(CN.out _).mono ?_
  rintro e w1 ⟨rfl,hb⟩
  go_wp2_with fail
  go_ret
  exact⟨rfl,blw_trans W0.out hb⟩
 ·have b5:(K==5)=false:=beq_no k5
  rw[if_neg k5]
  by_cases ho:k=Ms.other
  ·subst ho
   unfold Ms.other at*
   clear CN CX CI
   go_enter Tryz.func181,Tryz.ntmps181
   go_wp2_with fail
   go_ret
   exact⟨ret_bool (by simp),W0.out⟩
  ·have o0:(k==Ms.other)=false:=beq_eq_false_iff_ne.2 ho
   have o1:(k== [111,116,104,101,114])=false:=o0
   have o2:(k != [111,116,104,101,114])=true:=by rw[bne,o1];rfl
   rw[o0]
   clear o0 ho CN k5
   go_enter Tryz.func181,Tryz.ntmps181
   go_wp2_with fail
   refine(five_any _).mono ?_
   rintro e w1 ⟨V,rfl,hV,hb⟩
   have W1:=Lib.hid (blw_trans W0.out hb)
   clear hb
   obtain⟨va,vn,vc,rfl⟩: ∃a n c,V= .slice a n c:=by
    rcases hV with⟨_,a,cap,e⟩|⟨b,off,cap,e,_⟩
    ·exact⟨_,_,_,e⟩
    ·exact⟨_,_,_,e⟩
   go_wp2_with fail
   refine(CI.out _ _ hV).mono ?_
   rintro e w' ⟨rfl,rfl⟩
   clear hV CI
   cases FB with
   |true=>
    go_wp2_with fail
    go_ret
    exact⟨ret_bool (by simp),W1.out⟩
   |false=>
    go_wp2_with fail
    refine(CX.out _).mono ?_
    rintro e w2 ⟨rfl,hb⟩
    go_wp2_with fail
    go_ret
    exact⟨ret_bool (by rw[Bool.eq_iff_iff];simp),blw_trans W1.out hb⟩
end Go.Proofs.YtldbfkccieipjaaGreatDoor
