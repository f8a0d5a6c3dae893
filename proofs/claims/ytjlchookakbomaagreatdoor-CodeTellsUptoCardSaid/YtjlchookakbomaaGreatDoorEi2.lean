/- The walks of slices.IndexFunc and slices.ContainsFunc at needs, and of the two closures. Condition: what is handed over tells a truth of each element, and turns nothing old. -/
import Derived.Test.YtjlchookakbomaaGreatDoorShelfA
import Derived.WalkSmall
import Derived.Stop.LaidErr
import Derived.LaidSub
import Derived.Test.YtjlchookakbomaaGreatDoorRows
import Derived.LaidMore
import Derived.Lib.AtoiErrMem
import Derived.Deep.RegionHeld3
import Derived.Test.YtjlchookakbomaaGreatDoorShelf
import Derived.Lib.LaidTab
import Derived.Test.YtjlchookakbomaaGreatDoorEi1
import Derived.Test.YtjlchookakbomaaGreatDoorShelfC
import Derived.Lib.Walk
import Derived.Shelf.Abstract
import Derived.Deep.LoopGhost
import Derived.Deep.Draws
set_option maxHeartbeats 2000000
set_option maxRecDepth 100000
namespace Go.Proofs.YtjlchookakbomaaGreatDoor
open Go.RowKit
theorem gSyn: Tryz.prog.globalNamed "strconv.ErrSyntax"=some 9:=by kernel_rfl
theorem gSynT:(Tryz.prog.globals[9]?).map (·.type)=some 28:=by kernel_rfl
theorem gRng: Tryz.prog.globalNamed "strconv.ErrRange"=some 10:=by kernel_rfl
theorem gRngT:(Tryz.prog.globals[10]?).map (·.type)=some 28:=by kernel_rfl
structure NumW (w:World):Prop where
 s: ∃tp p,w.var? Tryz.prog "strconv.ErrSyntax"=some #[.iface tp p]
 r: ∃tp p,w.var? Tryz.prog "strconv.ErrRange"=some #[.iface tp p]
theorem NumW.below {w w':World} (h:NumW w) (hb:Below w.heap.size w w'):NumW w':=by
 obtain⟨⟨t1,p1,h1⟩,⟨t2,p2,h2⟩⟩:=h
 exact⟨⟨t1,p1,var?_below hb gSyn (World.block_lt_of_cell? w _ (by have c:=World.var?_cell gSyn h1 0;simpa using c)) h1⟩,
  ⟨t2,p2,var?_below hb gRng (World.block_lt_of_cell? w _ (by have c:=World.var?_cell gRng h2 0;simpa using c)) h2⟩⟩
theorem zFV (x:List UInt8) (v:Int) (w:World) (hx:x.length≤4000000000) (h:Lib.atoiAll x= .ok v):
  Calls Tryz.prog 157 #[.string ⟨x.toArray⟩] w fun e w'=>e= .returned (.tuple #[.int .i64 v,.nilIface])∧Below w.heap.size w w':=by
 refine(Tryz.strconv_Atoi_ok ⟨x.toArray⟩ (by show x.toArray.size≤_;simp;omega) v (by simpa using h) w).mono ?_
 rintro e w' ⟨rfl,rfl|⟨t,rfl⟩⟩
 ·exact⟨rfl,Below.refl _ _⟩
 exact⟨rfl,Lib.bytesWorld_below _ _ _⟩
def IsBad (w:World) (e:Ending) (w':World):Prop:= ∃u N,e= .returned (.tuple #[.int .i64 u,.iface 288 (.pointer (some ⟨N,0,none⟩))])∧Below w.heap.size w w'
theorem zHi (x:List UInt8) (w:World) (hW:NumW w) (hx:x.length≤4000000000) (h: ∀v,Lib.atoiAll x≠ .ok v):
  Calls Tryz.prog 157 #[.string ⟨x.toArray⟩] w (IsBad w):=by
 obtain⟨⟨t1,p1,h1⟩,⟨t2,p2,h2⟩⟩:=hW
 have hs:(⟨x.toArray⟩:ByteArray).size≤281474976710656:=by show x.toArray.size≤_;simp;omega
 cases hq:Lib.atoiAll x with
 |ok v=>exact absurd hq (h v)
 |range=>
  refine(Tryz.strconv_Atoi_range_var ⟨x.toArray⟩ hs (by simpa using hq) t2 p2 w h2).mono ?_
  rintro e w' ⟨N,rfl,_,_,hb⟩
  exact⟨_,N,rfl,hb⟩
 |_=>
  refine(Tryz.strconv_Atoi_syntax_var ⟨x.toArray⟩ hs (by simpa using hq) t1 p1 w h1).mono ?_
  rintro e w' ⟨N,rfl,_,_,hb⟩
  exact⟨_,N,rfl,hb⟩
theorem cellsErr: Tryz.prog.cellsOf 309=1:=by kernel_rfl
theorem cellsStr: Tryz.prog.cellsOf 9=1:=by kernel_rfl
theorem starErr: "*"++ "errors.errorString"= "*errors.errorString":=by decide
theorem rowErr (u:TypeId) (h: Tryz.prog.typeName? 3 u=some "*errors.errorString"):u= 307:=
 typeName_ptr_named (nm:= "errors.errorString") (by rw[starErr];kernel_rfl) (by kernel_rfl) (by decide) u (by rw[starErr];exact h)
theorem zHj {L:List (String×DataW Unit)} {W:World} (h:laidMetH Tryz.prog L W) (hs:L.filter (fun x=>x.1== "strconv.ErrSyntax")= [("strconv.ErrSyntax",Rows.laid_strconv_ErrSyntax)]) (hr:L.filter (fun x=>x.1== "strconv.ErrRange")= [("strconv.ErrRange",Rows.laid_strconv_ErrRange)]):NumW W:=by
 have g1:=laidMetH.filter (fun x=>x.1== "strconv.ErrSyntax") h
 have g2:=laidMetH.filter (fun x=>x.1== "strconv.ErrRange") h
 rw[hs,MakeChecks.laidMetH_plain _ _ _ (by kernel_rfl)] at g1
 rw[hr,MakeChecks.laidMetH_plain _ _ _ (by kernel_rfl)] at g2
 obtain⟨a0,s0,hv0,-,-,-⟩:=laid_sentinel g1 gSyn gSynT Tryz.underlying28 rowErr Tryz.underlying307 Tryz.underlying309 rfl rfl Tryz.underlying9 cellsErr cellsStr
 obtain⟨a1,s1,hv1,-,-,-⟩:=laid_sentinel g2 gRng gRngT Tryz.underlying28 rowErr Tryz.underlying307 Tryz.underlying309 rfl rfl Tryz.underlying9 cellsErr cellsStr
 exact⟨⟨_,_,hv0⟩,⟨_,_,hv1⟩⟩
open Go.RowKit
def MaxW (w:World):Prop:= ∃m,w.cell? ⟨5,0,none⟩=some (.int .i64 m)
theorem MaxW.below {w w':World} (h:MaxW w) (hb:Below w.heap.size w w'):MaxW w':=h.imp fun _ g=>cK g hb
theorem MaxW.alloc {w:World} (h:MaxW w) (o:Obj):MaxW (w.alloc o):=h.below (bA w o)
open Go.RowKit

section
variable {P:Program} {l:List Oper} {Q:Exit→Act→World→Prop} {md:Region.Mode} {S:World→Prop}
theorem zKa {d:Option Nat} {oi:Oper} {v:Value} {fuel:Nat} {listed:Array Bool} {a:Act} {w:World} (i:Nat) (hi:l[i]?=some oi) (hd:oi.dst=d)
  (hs:Region.noSelect l.toArray=true) (hf:Region.free md l.toArray listed i=true) (hr:(Region.ready md l.toArray listed).contains i=true)
  (hQ: ∀c a w,Q (.panic c) (a.put d v) w→Q (.panic c) a w) (hw:Region.wanted oi (yielded l.toArray a.tmps)=true) (hS:S w)
  (hrun: ∀w,S w→(execOp a.eval oi).run P w= .ok (.value v) w)
  (h:wpAnyH P md l.toArray Q S fuel (listed.setIfInBounds i true) (a.put d v) w):wpAnyH P md l.toArray Q S (fuel+1) listed a w:=by
 subst hd
 exact wpAnyH_take (by simpa using hi) hs hf hr hQ (.inl ⟨hw,hrun⟩) hS h
theorem zI3 {d:Option Nat} {oi:Oper} {fuel:Nat} {listed:Array Bool} {a:Act} {w:World} (i:Nat) (hi:l[i]?=some oi) (hd:oi.dst=d)
  (hs:Region.noSelect l.toArray=true) (hf:Region.free md l.toArray listed i=true) (hr:(Region.ready md l.toArray listed).contains i=true)
  (hQ: ∀c a w,Q (.panic c) (a.put d undef) w→Q (.panic c) a w) (hw:Region.wanted oi (yielded l.toArray a.tmps)=false) (hS:S w)
  (h:wpAnyH P md l.toArray Q S fuel (listed.setIfInBounds i true) (a.put d undef) w):wpAnyH P md l.toArray Q S (fuel+1) listed a w:=by
 subst hd
 exact wpAnyH_take (by simpa using hi) hs hf hr hQ (.inr ⟨hw,rfl⟩) hS h
theorem zAc {oi:Oper} {fuel:Nat} {listed:Array Bool} {a:Act} {w:World} (i:Nat) (hi:l[i]?=some oi) (hr:Region.ready md l.toArray listed= [i]) (hw:Region.wanted oi (yielded l.toArray a.tmps)=true)
  (h: ∀K':Act→World→Prop,Shut (∀a w,S w→(S w→wpAnyH P md l.toArray Q S fuel (listed.setIfInBounds i true) a w)→K' a w)→Oper.wp P oi a w K' Q):wpAnyH P md l.toArray Q S (fuel+1) listed a w:=
 wpAnyH_ready hr (by simp) (AllReadyH.cons (by simpa using hi) (fun K' hK=>by rw[if_pos hw];exact h K' hK) AllReadyH.nil)
theorem tkr {d:Option Nat} {oi:Oper} {v:Value} {fuel:Nat} {listed:Array Bool} {a:Act} {w:World} (i:Nat) (hi:l[i]?=some oi) (hd:oi.dst=d)
  (hS:S w) (hrun: ∀w,S w→(execOp a.eval oi).run P w= .ok (.value v) w) (h:wpAnyH P md l.toArray Q S fuel (listed.setIfInBounds i true) (a.put d v) w)
  (hs:Region.noSelect l.toArray=true:=by kernel_rfl) (hf:Region.free md l.toArray listed i=true:=by kernel_rfl) (hr:(Region.ready md l.toArray listed).contains i=true:=by kernel_rfl)
  (hQ: ∀c a w,Q (.panic c) (a.put d v) w→Q (.panic c) a w:=by exact fun _ _ _ h=>h) (hw:Region.wanted oi (yielded l.toArray a.tmps)=true:=by rfl):wpAnyH P md l.toArray Q S (fuel+1) listed a w:=
 zKa i hi hd hs hf hr hQ hw hS hrun h
theorem tks {d:Option Nat} {oi:Oper} {fuel:Nat} {listed:Array Bool} {a:Act} {w:World} (i:Nat) (hi:l[i]?=some oi) (hd:oi.dst=d)
  (hS:S w) (h:wpAnyH P md l.toArray Q S fuel (listed.setIfInBounds i true) (a.put d undef) w)
  (hs:Region.noSelect l.toArray=true:=by kernel_rfl) (hf:Region.free md l.toArray listed i=true:=by kernel_rfl) (hr:(Region.ready md l.toArray listed).contains i=true:=by kernel_rfl)
  (hQ: ∀c a w,Q (.panic c) (a.put d undef) w→Q (.panic c) a w:=by exact fun _ _ _ h=>h) (hw:Region.wanted oi (yielded l.toArray a.tmps)=false:=by rfl):wpAnyH P md l.toArray Q S (fuel+1) listed a w:=
 zI3 i hi hd hs hf hr hQ hw hS h
end
open Go.RowKit Go.Lib

theorem gPow: Tryz.prog.globalNamed "internal/strconv.uint64pow10"=some 6:=by kernel_rfl
def PowW (w:World):Prop:=Lib.TabIs Tryz.prog w "internal/strconv.uint64pow10" .u64 Lib.pow10Tab
theorem PowW.lt {w:World} (h:PowW w): 6<w.heap.size:=
 World.block_lt_of_cell? w ⟨6,0,none⟩ (TabIs.cell h gPow 0 (by rw[pow10Tab_length];decide))
theorem PowW.below {w w':World} (h:PowW w) (hb:Below w.heap.size w w'):PowW w':=var?_below hb gPow h.lt h
theorem PowW.alloc {w:World} (h:PowW w) (o:Obj):PowW (w.alloc o):=h.below (bA w o)
theorem PowW.drewN {w:World} (h:PowW w) (n:Nat):PowW (w.drewN n):=h.below (zAb (Below.refl _ _) n)
theorem zKb (w:World) (k:Nat) (os:Array Obj):Below w.heap.size w (Sort.grow (w.drewN k) os):=
 ⟨rfl,rfl,rfl,by show w.heap.size≤(w.heap++os).size;rw[Array.size_append];omega,fun _ hj=>Sort.heap_grow_old (w.drewN k) os hj⟩
theorem zCE (n:Int) (w:World) (hp:PowW w) (n0: -9223372036854775808≤n) (n1:n≤9223372036854775807):
  Calls Tryz.prog 56 #[.int .i64 n] w fun e w'=>e= .returned (.string ⟨(Lib.itoa n).toArray⟩)∧Below w.heap.size w w':=
 (Tryz.strconv_Itoa n n0 n1 w hp).mono fun _ _ ⟨he,k,os,hw⟩=>⟨he,hw▸zKb w k os⟩
theorem zDS (n:Int) (w:World) (hp:PowW w) (n0:0≤n) (n1:n≤9223372036854775807):
  Calls Tryz.prog 56 #[.int .i64 n] w fun e w'=>e= .returned (.string ⟨(Lib.decDigits n.toNat).toArray⟩)∧Below w.heap.size w w':=by
 have c:=zCE n w hp (by omega) n1
 unfold Lib.itoa at c
 rw[if_neg (by omega)] at c
 exact c
open Go.RowKit
namespace Ms
open Go.Lib
def exV (key:List UInt8):Int:=if hasPrefix key [61]=true∧key.length≤4 then Byt.numP (trimPrefix key [61]) else-1
theorem zKc {l:List UInt8} (h:0≤Byt.numP l):atoiAll l= .ok (Byt.numP l)∧decDigits (Byt.numP l).toNat=l:=by
 obtain⟨h1,h2⟩:=Byt.zI0 h
 have z:=Byt.zEV 0 (Byt.numP l) (by omega)
 have e:Byt.sgn (Byt.numP l)++Byt.zdig 0 (Byt.numP l).natAbs=l:=by
  unfold Byt.sgn Byt.zdig
  rw[if_neg (by omega),show(Byt.numP l).natAbs=(Byt.numP l).toNat by omega,h1];rfl
 rw[e] at z
 exact⟨z,h1⟩
theorem zLO {l:List UInt8} (h: ¬0≤Byt.numP l):Byt.numP l= -1:=by
 have:=(Byt.zHg l).1;omega
theorem zFW: ∀(k u:Nat),(decDigits u).length≤k→u<10^k
 |0,u,h=>absurd (List.length_eq_zero_iff.1 (Nat.le_zero.1 h)) (Byt.zA8 u)
 |k+1,u,h=>by
  by_cases hu:u<10
  ·exact Nat.lt_of_lt_of_le hu (by rw[Nat.pow_succ];have:=Nat.pow_pos (n:=k) (show 0<10 by omega);omega)
  rw[Dtx.dd2 hu,List.length_append,List.length_singleton] at h
  have:=zFW k (u/10) (by omega)
  rw[Nat.pow_succ];omega
theorem zEA {key:List UInt8} (h:hasPrefix key [61]=true):(trimPrefix key [61]).length+1=key.length:=by
 unfold trimPrefix
 rw[if_pos h,List.length_drop]
 cases key with
 |nil=>exact absurd h (by decide)
 |cons x r=>simp
theorem zLP {key:List UInt8} (h:hasPrefix key [61]=false∨(∀n,atoiAll (trimPrefix key [61])≠ .ok n)∨ ∃n,atoiAll (trimPrefix key [61])= .ok n∧(n<0∨999<n∨itoa n≠trimPrefix key [61])):exV key= -1:=by
 unfold exV
 by_cases h0:hasPrefix key [61]=true∧key.length≤4
 ·rw[if_pos h0]
  by_cases hn:0≤Byt.numP (trimPrefix key [61])
  ·exfalso
   obtain⟨a1,a2⟩:=zKc hn
   rcases h with h|h|⟨n,h1,h2⟩
   ·rw[h] at h0;exact absurd h0.1 (by simp)
   ·exact h _ a1
   rw[a1] at h1
   injection h1 with h1
   have hl:=zEA h0.1
   have h9:=zFW 3 (Byt.numP (trimPrefix key [61])).toNat (by rw[a2];omega)
   rcases h2 with h2|h2|h2
   ·omega
   ·omega
   exact h2 (by rw[←h1];unfold itoa;rw[if_neg (by omega),a2])
  exact zLO hn
 rw[if_neg h0]
theorem zLQ {key:List UInt8} {n:Int} (h:hasPrefix key [61]=true) (_:atoiAll (trimPrefix key [61])= .ok n) (h2:0≤n) (h3:n≤999) (h4:itoa n=trimPrefix key [61]):exV key=n:=by
 have e:trimPrefix key [61]=decDigits n.toNat:=by rw[←h4];unfold itoa;rw[if_neg (by omega)]
 have hl:=zEA h
 have hd:=Byt.zAD 3 n.toNat (by omega) (by omega)
 unfold exV
 rw[e] at hl
 rw[if_pos ⟨h,by omega⟩,e,Byt.zFT _ (by omega)]
 omega
theorem zLC (key:List UInt8): -1≤exV key∧exV key≤1000000000000000:=by
 unfold exV
 split
 ·exact Byt.zHg _
 omega
end Ms
theorem zI4 (s:List UInt8) (w:World):Calls Tryz.prog 89 #[.string ⟨s.toArray⟩,.string ⟨#[61]⟩] w fun e w'=>e= .returned (.tuple #[.string ⟨(Lib.trimPrefix s [61]).toArray⟩,.bool (Lib.hasPrefix s [61])])∧w=w':=
 (Tryz.strings_CutPrefix ⟨s.toArray⟩ ⟨#[61]⟩ w).mono fun _ _ h=>⟨h.1,h.2.symm⟩

theorem zE5 (key:List UInt8) (w:World) (hp:PowW w) (hn:NumW w) (hs:key.length≤4000000000):
  Calls Tryz.prog 103 #[.string ⟨key.toArray⟩] w fun e w'=>e= .returned (.int .i64 (Ms.exV key))∧Below w.heap.size w w':=by
 have C1:=lH fun w=>zI4 key w
 have HN:=lH (@Ms.zLP key)
 have HS:=lH fun (n:Int) (g1:Lib.hasPrefix key [61]=true) g2 g3 g4 g5=> @Ms.zLQ key n g1 g2 g3 g4 g5
 have hl:(Lib.trimPrefix key [61]).length≤4000000000:=by have:=Lib.trimPrefix_le key [61];omega
 generalize Ms.exV key=V at*
 generalize Lib.hasPrefix key [61]=B at*
 generalize Lib.trimPrefix key [61]=R at*
 have CI:=lH fun (n:Int) (h0:0≤n) (h1:n≤999) (wx:World) (hb:Below w.heap.size w wx)=>zCE n wx (hp.below hb) (by omega) (by omega)
 by_cases ha: ∃v,Lib.atoiAll R= .ok v
 ·obtain⟨n,ha⟩:=ha
  have CA:=lH fun wx=>zFV R n wx hl ha
  cases B with
  |false=>
   have e:=HN.out (.inl rfl)
   subst e
   clear HN HS CI ha hl hs hp hn
   go_enter Tryz.func103,Tryz.ntmps103
   go_wp2_with fail
   refine(C1.out _).mono ?_
   rintro e w' ⟨rfl,rfl⟩
   go_wp2_with fail
   refine(CA.out _).mono ?_
   rintro e w1 ⟨rfl,hb⟩
   go_wp2_with fail
   go_ret
   exact⟨rfl,hb⟩
  |true=>
   rcases Int.lt_or_le n 0 with h0|h0
   ·have e:=HN.out (.inr (.inr ⟨n,ha,.inl h0⟩))
    subst e
    have d0:decide (n<0)=true:=zAd h0
    clear HN HS CI ha hl hs hp hn h0
    go_enter Tryz.func103,Tryz.ntmps103
    go_wp2_with fail
    refine(C1.out _).mono ?_
    rintro e w' ⟨rfl,rfl⟩
    go_wp2_with fail
    refine(CA.out _).mono ?_
    rintro e w1 ⟨rfl,hb⟩
    go_wp2_with fail
    go_ret
    exact⟨rfl,hb⟩
   have d0:decide (n<0)=false:=zAa (by omega)
   rcases Int.lt_or_le 999 n with h9|h9
   ·have e:=HN.out (.inr (.inr ⟨n,ha,.inr (.inl h9)⟩))
    subst e
    have d1:decide (999<n)=true:=zAd h9
    clear HN HS CI ha hl hs hp hn h0 h9
    go_enter Tryz.func103,Tryz.ntmps103
    go_wp2_with fail
    refine(C1.out _).mono ?_
    rintro e w' ⟨rfl,rfl⟩
    go_wp2_with fail
    refine(CA.out _).mono ?_
    rintro e w1 ⟨rfl,hb⟩
    go_wp2_with fail
    go_ret
    exact⟨rfl,hb⟩
   have d1:decide (999<n)=false:=zAa (by omega)
   have CIh:=lH (CI.out n h0 h9)
   have HV:Hid ((Lib.itoa n=R→V=n)∧(Lib.itoa n≠R→V= -1)):=lH ⟨fun h=>HS.out n rfl ha h0 h9 h,fun h=>HN.out (.inr (.inr ⟨n,ha,.inr (.inr h)⟩))⟩
   clear HN HS CI ha hl hs hp hn h0 h9
   generalize Lib.itoa n=T at*
   go_enter Tryz.func103,Tryz.ntmps103
   go_wp2_with fail
   refine(C1.out _).mono ?_
   rintro e w' ⟨rfl,rfl⟩
   go_wp2_with fail
   refine(CA.out _).mono ?_
   rintro e w1 ⟨rfl,hb⟩
   have W1:=lH hb
   clear hb
   go_wp2_with fail
   refine(CIh.out _ W1.out).mono ?_
   rintro e w2 ⟨rfl,hb⟩
   have W2:=lH (bT W1.out hb)
   clear hb CIh W1
   by_cases hT:T=R
   ·have e:=HV.out.1 hT
    subst hT
    subst e
    go_wp2_with fail
    go_ret
    exact⟨rfl,W2.out⟩
   have e:=HV.out.2 hT
   subst e
   have b0:(T==R)=false:=beq_eq_false_iff_ne.2 hT
   have b1:(T !=R)=true:=by rw[bne,b0];rfl
   clear hT HV
   go_wp2_with fail
   go_ret
   exact⟨rfl,W2.out⟩
 have CA:=lH fun wx hW=>zHi R wx hW hl fun v h=>ha ⟨v,h⟩
 have e:=HN.out (.inr (.inl fun v h=>ha ⟨v,h⟩))
 subst e
 have HNW:=lH hn
 clear HN HS CI ha hl hs hp hn
 cases B
 all_goals
  go_enter Tryz.func103,Tryz.ntmps103
  go_wp2_with fail
  refine(C1.out _).mono ?_
  rintro e w' ⟨rfl,rfl⟩
  go_wp2_with fail
  refine(CA.out _ HNW.out).mono ?_
  rintro e w1 ⟨u,nb,rfl,hb⟩
  go_wp2_with fail
  go_ret
  exact⟨rfl,hb⟩

theorem zEa (key:List UInt8) (w:World) (hs:key.length≤4000000000):
  Calls Tryz.prog 68 #[.string ⟨key.toArray⟩] w fun e w'=>e= .returned (.int .i64 (Ms.exV key))∧Below w.heap.size w w':=by
 have C1:=lH fun w=>(zHZ key [61] w).mono fun e w' (h:e= .returned (.bool (key.take ([61]:List UInt8).length== [61]))∧w'=w)=>(⟨h.1,h.2.symm⟩:e= .returned (.bool (key.take ([61]:List UInt8).length== [61]))∧w=w')
 have ep:(key.take ([61]:List UInt8).length== [61])=Lib.hasPrefix key [61]:=by
  cases key with
  |nil=>rfl
  |cons x r=>simp[Lib.hasPrefix,List.isPrefixOf,Bool.beq_comm]
 rw[ep] at C1
 unfold Ms.exV
 cases hB:Lib.hasPrefix key [61] with
 |false=>
  rw[hB] at C1
  rw[if_neg (by simp)]
  clear ep hB
  go_enter Tryz.func68,Tryz.ntmps68
  go_wp2_with fail
  refine(C1.out _).mono ?_
  rintro e w' ⟨rfl,rfl⟩
  go_wp2_with fail
  go_ret
  exact⟨rfl,Below.refl _ _⟩
 |true=>
  rw[hB] at C1
  by_cases h4:key.length≤4
  ·rw[if_pos ⟨rfl,h4⟩]
   have h5: ¬(4:Int)<(key.length:Int):=by omega
   have hk:1≤key.length:=by have:=Ms.zEA hB;omega
   have SL:=fun w=>zBd (P:= Tryz.prog) 9 Tryz.underlying9 key .i64 1 hk w
   rw[show((1:Nat):Int)=1 from rfl] at SL
   have e1:key.drop 1=Lib.trimPrefix key [61]:=by unfold Lib.trimPrefix;rw[if_pos hB];rfl
   rw[e1] at SL
   have C2:=lH fun w=>zCd (Lib.trimPrefix key [61]) w (by have:=Lib.trimPrefix_le key [61];omega)
   generalize Lib.trimPrefix key [61]=R at*
   clear ep hB e1 h4 hs hk
   go_enter Tryz.func68,Tryz.ntmps68
   go_wp2_with fail
   refine(C1.out _).mono ?_
   rintro e w' ⟨rfl,rfl⟩
   go_wp2_with fail
   refine(C2.out _).mono ?_
   rintro e w1 ⟨rfl,hb⟩
   go_wp2_with fail
   go_ret
   exact⟨rfl,hb⟩
  rw[if_neg (fun h=>h4 h.2)]
  have h5:(4:Int)<(key.length:Int):=by omega
  clear ep hB h4 hs
  go_enter Tryz.func68,Tryz.ntmps68
  go_wp2_with fail
  refine(C1.out _).mono ?_
  rintro e w' ⟨rfl,rfl⟩
  go_wp2_with fail
  go_ret
  exact⟨rfl,Below.refl _ _⟩
open Go.RowKit
namespace Ms
def other:List UInt8:= [111,116,104,101,114]
def five:List (List UInt8):= [[122,101,114,111],[111,110,101],[116,119,111],[102,101,119],[109,97,110,121]]
def fineB (x:Nd) (prev:Option Int) (mark:Bool):Bool:=
 if x.kind=1 then !x.text.isEmpty&&!(prev==some 1) else if x.kind=2∨x.kind=3∨x.kind=4∨x.kind=5 then nameB x.text else decide (x.kind=6)&&mark
def keyB (x:Nd) (k:List UInt8):Bool:=if x.kind=5 then nameB k else five.contains k||k==other||decide (0≤exV k)
def csE (G:Bool→List Nd→Int) (x:Nd) (mark:Bool):List (List UInt8)→List (List UInt8×List Nd)→Int
 |seen,[]=>if seen.contains other then 0 else 2
 |seen,y::r=>if !keyB x y.1 then 3 else if seen.contains y.1 then 5 else if G (mark||decide (x.kind=4)) y.2≠0 then G (mark||decide (x.kind=4)) y.2 else csE G x mark (seen++ [y.1]) r
def ndE (G:Bool→List Nd→Int) (x:Nd) (prev:Option Int) (mark:Bool):Int:=
 if !fineB x prev mark then 3 else if x.kind=4∧(x.off<0∨9<x.off) then 1 else if x.kind=4∨x.kind=5 then csE G x mark [] x.cases else 0
def msE (G:Bool→List Nd→Int) (mark:Bool):Option Int→List Nd→Int
 |_,[]=>0
 |prev,x::r=>if ndE G x prev mark≠0 then ndE G x prev mark else msE G mark (some x.kind) r
def chk:Nat→Bool→List Nd→Int
 |0,_,_=>0
 |f+1,mark,m=>msE (chk f) mark none m
def msgE (f:Nat) (m:List Nd):Int:=if (lrg 6 m).2 then 4 else chk f false m
end Ms
open Go.RowKit
namespace Ms
theorem zDr {F:List Nd→Int×Bool}: ∀(L:List (List Nd)) (n:Int),(lgo F n L).2=false→(∀b∈L,(F b).2=false)∧(lgo F n L).1=n+(L.map fun b=>(F b).1).sum∧(lgo F n L).1≤60
 | [],n,h=>by
  have h':decide (60<n)=false:=h
  have:=of_decide_eq_false h'
  exact⟨by simp,by show n=_;simp,by show n≤60;omega⟩
 |b::r,n,h=>by
  unfold lgo at h⊢
  split at h
  ·cases h
  rename_i hc
  rw[if_neg hc]
  have h1:=zDr r (n+(F b).1) h
  have hb:(F b).2=false:=by
   cases hb:(F b).2 with
   |false=>rfl
   |true=>exact absurd (by rw[hb];rfl) hc
  refine⟨fun c hc=>?_,by rw[h1.2.1,List.map_cons,List.sum_cons];omega,h1.2.2⟩
  rcases List.mem_cons.1 hc with rfl|hc
  ·exact hb
  exact h1.1 c hc
theorem zCF (f:Nat): ∀(m:List Nd),cnt (f+1) m=m.length+((bodies m).map (cnt f)).sum
 | []=>rfl
 |x::r=>by
  have h:=zCF f r
  have e:cnt (f+1) (x::r)=(1+((casesOf x).map fun y=>cnt f y.2).sum)+cnt (f+1) r:=by simp[cnt]
  rw[e,h,zBF,List.map_append,List.sum_append,List.map_map,List.length_cons]
  show 1+((casesOf x).map (cnt f∘(·.2))).sum+_=_
  omega
theorem zHk {c:List Nd→Nat} {g:List Nd→Int}: ∀(L:List (List Nd)),(∀b∈L,(c b:Int)≤g b)→((L.map c).sum:Int)≤(L.map g).sum
 | [],_=>by simp
 |b::r,h=>by
  have h1:=zHk r (fun b hb=>h b (by simp[hb]))
  have h2:=h b (by simp)
  simp only[List.map_cons,List.sum_cons]
  omega
theorem zHl: ∀(d:Nat) (m:List Nd),(lrg d m).2=false→ ∀f,(cnt f m:Int)≤(lrg d m).1
 |0,m,h,f=>by
  have:m= []:=by
   cases m with
   |nil=>rfl
   |cons x r=>cases h
  subst this
  cases f<;>simp[cnt,lrg]
 |d+1,m,h,f=>by
  have hs:=zDr (F:=lrg d) (bodies m) m.length h
  have e:(lrg (d+1) m).1=m.length+((bodies m).map fun b=>(lrg d b).1).sum:=hs.2.1
  have hb:=fun f=>zHk (c:=cnt f) (g:=fun b=>(lrg d b).1) (bodies m) (fun b hb=>zHl d b (hs.1 b hb) f)
  cases f with
  |zero=>
   have:=hb 0
   rw[e]
   show(0:Int)≤_
   omega
  |succ f=>
   have:=hb f
   rw[e,zCF]
   omega
theorem zBa {f:Nat} {m:List Nd} (h:msgE f m=0):cnt f m≤60:=by
 unfold msgE at h
 cases hl:(lrg 6 m).2 with
 |true=>rw[hl] at h;cases h
 |false=>
  have h1:=zHl 6 m hl f
  have h2:=(zDr (F:=lrg 5) (bodies m) m.length hl).2.2
  have h3:(lrg 6 m).1≤60:=h2
  omega
def namE (f:Nat) (m:List Nd):Int:=if msgE f m≠0 then msgE f m else if (allN f [] m).any (fun n=>n.2.1&&n.2.2) then 7 else 0
def lstN (f:Nat) (m:List Nd):List Need:=if namE f m=0 then allN f [] m else []
def selB (l:List Need) (t:List UInt8):Bool:=l.any fun n=>n.1==t&&n.2.2
def chs:Nat→List Nd→List UInt8→Bool
 |0,_,_=>false
 |f+1,m,t=>m.any fun x=>(x.kind==5&&x.text==t)||(casesOf x).any fun y=>chs f y.2 t
theorem zFX: ∀{l:List Need} {i:Nat} {n:Need} (a b:Bool) (t:List UInt8),l[i]?=some n→selB (l.modify i (orN a b)) t=(selB l t||(n.1==t&&b))
 | [],i,n,a,b,t,h=>by simp at h
 |x::r,0,n,a,b,t,h=>by
  simp at h;subst h
  show(x.1==t&&(x.2.2||b)||selB r t)=(x.1==t&&x.2.2||selB r t||(x.1==t&&b))
  cases x.1==t<;>cases x.2.2<;>cases b<;>cases selB r t<;>rfl
 |x::r,i+1,n,a,b,t,h=>by
  have h':=zFX (l:=r) (i:=i) a b t (by simpa using h)
  rw[List.modify_succ_cons]
  show(x.1==t&&x.2.2||selB (r.modify i (orN a b)) t)=(x.1==t&&x.2.2||selB r t||(n.1==t&&b))
  rw[h',Bool.or_assoc]
theorem zE6 (l:List Need) (t:List UInt8): ∃n,(grownN l t)[l.findIdx (fun n=>n.1==t)]?=some n∧n.1=t:=by
 unfold grownN
 split
 ·rename_i h
  refine⟨_,List.getElem?_eq_getElem h,?_⟩
  have:=List.findIdx_getElem (xs:=l) (p:=fun n=>n.1==t) (w:=h)
  simpa using this
 rename_i h
 have e:l.findIdx (fun n=>n.1==t)=l.length:=by have:=List.findIdx_le_length (xs:=l) (p:=fun n=>n.1==t);omega
 rw[e]
 exact⟨(t,false,false),by simp,rfl⟩
theorem zH0 (l:List Need) (t s:List UInt8):selB (grownN l t) s=selB l s:=by
 unfold grownN
 split
 ·rfl
 unfold selB;simp
theorem zKd (l:List Need) (x:Nd) (t:List UInt8):selB (addN l x) t=(selB l t||(x.kind==5&&x.text==t)):=by
 unfold addN
 split
 ·rename_i h
  have:(x.kind==5)=false:=by
   rcases h with h|h<;>rw[h]<;>rfl
  rw[this];simp
 obtain⟨n,hn,e⟩:=zE6 l x.text
 rw[zFX _ _ t hn,zH0,e]
 congr 1
 rw[Bool.and_comm]
 congr 1
theorem zHm {F:List Need→List Nd→List Need} {c:List Nd→Bool} {t:List UInt8} (hF: ∀l b,selB (F l b) t=(selB l t||c b)): ∀(bs:List (List Nd)) (l:List Need),selB (goN F l bs) t=(selB l t||bs.any c)
 | [],l=>by simp[goN]
 |b::r,l=>by
  show selB (goN F (F l b) r) t=_
  rw[zHm hF r (F l b),hF,List.any_cons,Bool.or_assoc]
theorem zDT: ∀(f:Nat) (l:List Need) (m:List Nd) (t:List UInt8),selB (allN f l m) t=(selB l t||chs f m t)
 |0,l,m,t=>by simp[allN,chs]
 |f+1,l,m,t=>by
  induction m generalizing l with
  |nil=>simp[allN,chs]
  |cons x r ih=>
   show selB (allN (f+1) (goN (allN f) (addN l x) ((casesOf x).map (·.2))) r) t=_
   rw[ih,zHm (c:=fun b=>chs f b t) (fun l b=>zDT f l b t),zKd]
   show _=(selB l t||((x.kind==5&&x.text==t||(casesOf x).any fun y=>chs f y.2 t)||chs (f+1) r t))
   rw[List.any_map]
   simp only[Bool.or_assoc]
   rfl
theorem zHn (f:Nat) (m:List Nd) (t:List UInt8):chs f m t=selB (allN f [] m) t:=by rw[zDT];rfl
abbrev Dist (l:List Need):Prop:=(l.map (·.1)).Nodup
theorem zEB: ∀(l:List Need) (i:Nat) (a b:Bool),(l.modify i (orN a b)).map (·.1)=l.map (·.1)
 | [],i,a,b=>by simp
 |x::r,0,a,b=>rfl
 |x::r,i+1,a,b=>by rw[List.modify_succ_cons,List.map_cons,zEB r i a b];rfl
theorem zKe {l:List Need} (h:Dist l) (x:Nd):Dist (addN l x):=by
 unfold addN
 split
 ·exact h
 unfold Dist
 rw[zEB]
 unfold grownN
 split
 ·exact h
 rename_i hl
 rw[List.map_append,List.nodup_append]
 refine⟨h,by simp,fun a ha b hb e=>hl ?_⟩
 obtain rfl:b=x.text:=by simpa using hb
 subst e
 obtain⟨n,hn,e⟩:=List.mem_map.1 ha
 exact List.findIdx_lt_length_of_exists ⟨n,hn,by simpa using e⟩
theorem zHo {F:List Need→List Nd→List Need} (hF: ∀l b,Dist l→Dist (F l b)): ∀(bs:List (List Nd)) (l:List Need),Dist l→Dist (goN F l bs)
 | [],_,h=>h
 |b::r,l,h=>zHo hF r (F l b) (hF l b h)
theorem zFY: ∀(f:Nat) (l:List Need) (m:List Nd),Dist l→Dist (allN f l m)
 |0,_,_,h=>h
 |f+1,l,m,h=>by
  induction m generalizing l with
  |nil=>exact h
  |cons x r ih=>exact ih _ (zHo (fun l b=>zFY f l b) _ _ (zKe h x))
theorem zEb {l:List Need} (h:Dist l) {n:Need} (hn:n∈l):selB l n.1=n.2.2:=by
 induction l with
 |nil=>cases hn
 |cons x r ih=>
  rw[show Dist (x::r)=List.Nodup (x.1::r.map (·.1)) from rfl,List.nodup_cons] at h
  show(x.1==n.1&&x.2.2||selB r n.1)=_
  rcases List.mem_cons.1 hn with rfl|hm
  ·have:selB r n.1=false:=by
    cases hs:selB r n.1 with
    |false=>rfl
    |true=>
     obtain⟨y,hy,e⟩:=List.any_eq_true.1 hs
     simp at e
     exact absurd (List.mem_map.2 ⟨y,hy,e.1⟩) h.1
   rw[this];simp
  have:(x.1==n.1)=false:=by
   rw[beq_eq_false_iff_ne]
   intro e
   exact h.1 (List.mem_map.2 ⟨n,hm,e.symm⟩)
  rw[this,ih h.2 hm];simp
theorem zLR {l:List Need} (h:Dist l):(l.any fun n=>n.2.1&&n.2.2)=l.any fun n=>n.2.1&&selB l n.1:=by
 rw[Bool.eq_iff_iff,List.any_eq_true,List.any_eq_true]
 constructor
 ·rintro⟨n,hn,e⟩;exact⟨n,hn,by rw[zEb h hn];exact e⟩
 rintro⟨n,hn,e⟩;exact⟨n,hn,by rw[zEb h hn] at e;exact e⟩
theorem zKf (f:Nat) (m:List Nd):(lstN f m).length≤60:=by
 unfold lstN
 split
 ·rename_i h
  have h0:msgE f m=0:=by
   unfold namE at h
   split at h
   ·exact h
   rename_i h';exact Decidable.not_not.1 h'
  have:=zBB f [] m
  have:=zBa h0
  simp at*;omega
 simp
end Ms
open Go.RowKit Go.Lib Ms

theorem zC8 {α:Type} {l:List α} {p:α→Bool} {k:Nat} {x:α} (hx:l[k]?=some x) (h0:(l.take k).any p=false) (h1:p x=true):l.findIdx p=k:=by
 obtain⟨hk,e⟩:=List.getElem?_eq_some_iff.1 hx
 refine(List.findIdx_eq hk).2 ⟨by rw[e];exact h1,fun j hj=>?_⟩
 have hj2:j<l.length:=by omega
 have hm:l[j]∈l.take k:=by
  rw[List.mem_take_iff_getElem]
  exact⟨j,by omega,rfl⟩
 cases hp:p l[j] with
 |false=>rfl
 |true=>rw[List.any_eq_true.2 ⟨_,hm,hp⟩] at h0;cases h0
theorem idx_none {α:Type} {l:List α} {p:α→Bool} (h0:l.any p=false):l.findIdx p=l.length:=by
 rw[List.findIdx_eq_length]
 intro x hx
 cases hp:p x with
 |false=>rfl
 |true=>rw[List.any_eq_true.2 ⟨_,hx,hp⟩] at h0;cases h0
theorem zLS {α:Type} {l:List α} {p:α→Bool}:l.any p=decide (l.findIdx p<l.length):=by
 cases h:l.any p with
 |false=>rw[idx_none h];simp
 |true=>
  obtain⟨x,hx,hp⟩:=List.any_eq_true.1 h
  exact(decide_eq_true (List.findIdx_lt_length_of_exists ⟨x,hx,hp⟩)).symm
def fstV (l:List Need) (p:Need→Bool):Int:=if l.findIdx p<l.length then (l.findIdx p:Int) else-1

theorem zFZ (l:List Need) (p:Need→Bool) (g:Nat) (lb:Array Value) (eg: ∀args w,(callFunc g args).run Tryz.prog w= .ok (.enter g args) w) (v:Value) (w:World) (hl:NeedsAt w v l)
  (CP:Hid (∀x∈l,∀wx,Below w.heap.size w wx→Calls Tryz.prog g (#[.agg #[.string ⟨x.1.toArray⟩,.bool x.2.1,.bool x.2.2]]++lb) wx fun e w'=>e= .returned (.bool (p x))∧Below wx.heap.size wx w')):
  Calls Tryz.prog 124 #[v,.func (.func g) #[] lb] w fun e w'=>e= .returned (.int .i64 (fstV l p))∧Below w.heap.size w w':=by
 have HLB:=lH (show ∀wx,Below w.heap.size w wx→NeedsAt wx v l from fun wx hb=>zGR hl hb)
 obtain⟨A,cap,rfl,hm,_⟩:=hl.spread
 unfold maxLen at hm
 clear hl
 have HF:=lH (show fstV l p=if l.findIdx p<l.length then (l.findIdx p:Int) else-1 from rfl)
 generalize fstV l p=R at*
 go_enter Tryz.func124,Tryz.ntmps124
 go_wp2_with fail
 go_loopw [5,8] (fun _ i wr=> ∃k:Nat,i= .int .i64 k∧k≤l.length∧Hid ((l.take k).any p=false)∧Hid (Below w.heap.size w wr)) (fun _ i _=>l.length-(RowKit.intOf i).toNat)
 case atStart=>exact⟨0,rfl,Nat.zero_le _,lH rfl,lH (Below.refl _ _)⟩
 case round=>
  obtain⟨k,rfl,hk,HA,HB⟩:=hrel
  by_cases hlt:k<l.length
  ·obtain⟨x,hx⟩: ∃x,l[k]?=some x:=⟨l[k],List.getElem?_eq_getElem hlt⟩
   have HX:=lH (any_take' (p:=p) hx)
   have hxm:=List.mem_of_getElem? hx
   obtain⟨A',cap',eA,_,hsp⟩:=(HLB.out wr HB.out).spread
   injection eA with e1 e2 e3
   subst e1
   obtain⟨b,off,rfl,hxc⟩:=hsp k x hx
   clear hsp e2 e3
   obtain⟨x0,x1,x2⟩:=hxc
   have CX:=lH (CP.out x hxm _ HB.out)
   cases hq:p x with
   |true=>
    rw[hq] at CX
    have hi:=zC8 hx HA.out hq
    have HT:=lH (show R=(k:Int) by rw[HF.out,hi,if_pos hlt])
    clear hq hx hxm hi
    go_wp2_with (go_at_fn g;refine CX.out.mono ?_;rintro e w' ⟨rfl,hb⟩;have HB2:=lH (bT HB.out hb);clear hb)
    go_ret
    exact⟨zAl HT.out.symm,HB2.out⟩
   |false=>
    rw[hq] at CX
    have HT:=lH (show(l.take (k+1)).any p=false by rw[HX.out,hq,HA.out];rfl)
    clear hq hx hxm
    go_wp2_with (go_at_fn g;refine CX.out.mono ?_;rintro e w' ⟨rfl,hb⟩;have HB2:=lH (bT HB.out hb);clear hb)
    go_roundw
    case rel=>exact⟨k+1,by go_num,by omega,HT,HB2⟩
    case measure=>simp[RowKit.intOf];omega
  have HT:=lH (show R= -1 by
   have h0:l.any p=false:=by rw[←List.take_of_length_le (l:=l) (i:=k) (by omega)];exact HA.out
   rw[HF.out,idx_none h0,if_neg (Nat.lt_irrefl _)])
  go_wp2_with fail
  go_ret
  exact⟨zAl HT.out.symm,HB.out⟩

theorem zKg (l:List Need) (p:Need→Bool) (g:Nat) (lb:Array Value) (eg: ∀args w,(callFunc g args).run Tryz.prog w= .ok (.enter g args) w) (v:Value) (w:World) (hl:NeedsAt w v l)
  (CP:Hid (∀x∈l,∀wx,Below w.heap.size w wx→Calls Tryz.prog g (#[.agg #[.string ⟨x.1.toArray⟩,.bool x.2.1,.bool x.2.2]]++lb) wx fun e w'=>e= .returned (.bool (p x))∧Below wx.heap.size wx w')):
  Calls Tryz.prog 81 #[v,.func (.func g) #[] lb] w fun e w'=>e= .returned (.bool (l.any p))∧Below w.heap.size w w':=by
 have CI:=lH (zFZ l p g lb eg v w hl CP)
 obtain⟨za,zn,zc,rfl⟩:=hl.isSlice
 have HF:=lH (show l.any p=decide (0≤fstV l p) by
  rw[zLS]
  unfold fstV
  by_cases h:l.findIdx p<l.length
  ·rw[if_pos h,decide_eq_true h];exact(decide_eq_true (by omega)).symm
  rw[if_neg h,decide_eq_false h];rfl)
 generalize fstV l p=R at*
 generalize l.any p=Z at*
 clear hl CP eg
 go_enter Tryz.func81,Tryz.ntmps81
 go_wp2_with fail
 refine CI.out.mono ?_
 rintro e w1 ⟨rfl,hb⟩
 have W1:=lH hb
 clear hb
 go_wp2_with fail
 go_ret
 exact⟨zAg (by rw[HF.out]),W1.out⟩

theorem zKh (x:Need) (q:Nat) (t:List UInt8) (w:World) (hq:w.cell? ⟨q,1,none⟩=some (.string ⟨t.toArray⟩)):
  Calls Tryz.prog 163 (#[.agg #[.string ⟨x.1.toArray⟩,.bool x.2.1,.bool x.2.2]]++ #[.pointer (some ⟨q,0,none⟩)]) w fun e w'=>e= .returned (.bool (x.1==t))∧Below w.heap.size w w':=by
 obtain⟨a,n,c⟩:=x
 dsimp only
 show Calls _ _ #[_,_] _ _
 have hlt:=World.block_lt_of_cell? _ _ hq
 have hne:q≠w.heap.size:=by dsimp only at hlt;omega
 go_enter Tryz.func163,Tryz.ntmps163
 go_wp2_with fail
 go_ret
 exact⟨rfl,bA _ _⟩

theorem zLT (x:Need) (w:World):
  Calls Tryz.prog 82 (#[.agg #[.string ⟨x.1.toArray⟩,.bool x.2.1,.bool x.2.2]]++ #[]) w fun e w'=>e= .returned (.bool (x.2.1&&x.2.2))∧Below w.heap.size w w':=by
 obtain⟨a,n,c⟩:=x
 dsimp only
 show Calls _ _ #[_] _ _
 cases n with
 |false=>
  go_enter Tryz.func82,Tryz.ntmps82
  go_wp2_with fail
  go_ret
  exact⟨rfl,bA _ _⟩
 |true=>
  go_enter Tryz.func82,Tryz.ntmps82
  go_wp2_with fail
  go_ret
  exact⟨zAg (by simp),bA _ _⟩
theorem zLU (args:Array Value) (w:World):(callFunc 163 args).run Tryz.prog w= .ok (.enter 163 args) w:=enters_of Tryz.func163 (by kernel_rfl) rfl args w
theorem zM9 (args:Array Value) (w:World):(callFunc 82 args).run Tryz.prog w= .ok (.enter 82 args) w:=enters_of Tryz.func82 (by kernel_rfl) rfl args w
end Go.Proofs.YtjlchookakbomaaGreatDoor
