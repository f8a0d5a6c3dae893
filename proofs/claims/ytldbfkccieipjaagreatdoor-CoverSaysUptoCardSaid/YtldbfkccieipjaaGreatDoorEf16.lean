/- A map with string keys, made by the call: a store of a new key, a look-up, as whole equations to lay ahead of a walk. -/
import Derived.Test.YtldbfkccieipjaaGreatDoorEf12
import Derived.Test.YtldbfkccieipjaaGreatDoorEf13
import Derived.Test.YtldbfkccieipjaaGreatDoorEf15
import Derived.Test.YtldbfkccieipjaaGreatDoorEf7
import Derived.Test.YtldbfkccieipjaaGreatDoorRows
import Derived.Test.YtldbfkccieipjaaGreatDoorEf6
import Derived.OpenShut
import Derived.LaidSub
import Derived.MakeChecks
import Derived.Test.YtldbfkccieipjaaGreatDoorEf8
import Derived.Test.YtldbfkccieipjaaGreatDoorEf5
import Derived.Test.YtldbfkccieipjaaGreatDoorEf0
import Derived.Test.YtldbfkccieipjaaGreatDoorEf1
import Derived.Test.YtldbfkccieipjaaGreatDoorEf4
import Derived.Test.YtldbfkccieipjaaGreatDoorEf3
import Derived.WalkKit
import Derived.MapKept
namespace Go.Proofs.YtldbfkccieipjaaGreatDoor
set_option maxRecDepth 100000
open Go.RowKit Ms
open Dcm (okD)
namespace Ms
/-- the last case other -/
def lstO:Cs→Nat→Nat→Nat
 | [],_,b=>b
 |y::r,i,b=>lstO r (i+1) (if (y.1==other)=true then i else b)
theorem lstO_snoc: ∀(l:Cs) (y:List UInt8×List Nd) (i b:Nat),lstO (l++ [y]) i b=if (y.1==other)=true then i+l.length else lstO l i b
 | [],y,i,b=>rfl
 |z::l,y,i,b=>by
  show lstO (l++ [y]) (i+1) _=_
  rw[lstO_snoc l y (i+1)]
  show _=if _ then i+(l.length+1) else _
  rw[show i+1+l.length=i+(l.length+1) by omega]
  rfl
theorem lst_step {cs:Cs} {k:Nat} {y:List UInt8×List Nd} (h:cs[k]?=some y):lstO (cs.take (k+1)) 0 0=if (y.1==other)=true then k else lstO (cs.take k) 0 0:=by
 have hk:=(List.getElem?_eq_some_iff.1 h).1
 rw[List.take_add_one,h,Option.toList_some,lstO_snoc,List.length_take,Nat.min_eq_left (by omega),Nat.zero_add]
/-- what the code chooses -/
def chW (cs:Cs) (t:List UInt8):Nat:=(keyI cs t).getD (lstO cs 0 0)
theorem lst_none: ∀(l:Cs) (i b:Nat),(∀y∈l,(y.1==other)=false)→lstO l i b=b
 | [],_,_,_=>rfl
 |y::l,i,b,h=>by
  show lstO l (i+1) _=b
  rw[h y (by simp),if_neg (by simp)]
  exact lst_none l _ _ fun z hz=>h z (by simp[hz])
theorem lst_nodup: ∀(l:Cs) (i b:Nat),(l.map (·.1)).Nodup→lstO l i b=((keyI l other).map (i+ ·)).getD b
 | [],_,_,_=>rfl
 |y::l,i,b,h=>by
  rw[List.map_cons,List.nodup_cons] at h
  show lstO l (i+1) _=((List.findIdx? _ (y::l)).map (i+ ·)).getD b
  rw[List.findIdx?_cons]
  cases hy:y.1==other with
  |true=>
   rw[if_pos rfl,if_pos rfl,lst_none]
   ·simp
   ·intro z hz
    have e:y.1=other:=by simpa using hy
    rw[beq_eq_false_iff_ne]
    intro e2
    exact h.1 (List.mem_map.2 ⟨z,hz,e2.trans e.symm⟩)
  |false=>
   rw[if_neg (by simp),if_neg (by simp),lst_nodup l (i+1) b h.2]
   show _=(((keyI l other).map (· +1)).map (i+ ·)).getD b
   cases keyI l other with
   |none=>rfl
   |some j=>simp;omega
theorem chW_cho {cs:Cs} (h:(cs.map (·.1)).Nodup) (t:List UInt8):chW cs t=choI cs t:=by
 unfold chW choI
 rw[lst_nodup cs 0 0 h]
 cases keyI cs t with
 |some j=>rfl
 |none=>cases keyI cs other<;>simp
theorem keyI_lt {cs:Cs} {t:List UInt8} {i:Nat} (h:keyI cs t=some i):i<cs.length:=by
 have:=List.findIdx?_eq_some_iff_findIdx_eq.1 h
 exact this.1
theorem choI_lt {cs:Cs} (h:cs≠ []) (t:List UInt8):choI cs t<cs.length:=by
 have h0:0<cs.length:=List.length_pos_iff.2 h
 unfold choI
 cases h1:keyI cs t with
 |some j=>exact keyI_lt h1
 |none=>
  cases h2:keyI cs other with
  |some j=>exact keyI_lt h2
  |none=>exact h0
theorem cntI_lt {E:Ev} {cs:Cs} (h:cs≠ []) (c s lc ls:Int):cntI E cs c s lc ls<cs.length:=by
 have h0:0<cs.length:=List.length_pos_iff.2 h
 unfold cntI
 cases h1:exI E cs c s with
 |some j=>exact(List.findIdx?_eq_some_iff_findIdx_eq.1 h1).1
 |none=>
  cases h2:keyI cs (E.kind lc ls) with
  |some j=>exact keyI_lt h2
  |none=>
   cases h3:keyI cs other with
   |some j=>exact keyI_lt h3
   |none=>exact h0
end Ms

set_option maxHeartbeats 2000000 in
theorem choice_any {f:Nat} (K O:Int) (T:List UInt8) (v:Value) (cs:Cs) (t:List UInt8) (w:World) (h:CassAt f w v cs) (hl:cs.length≤2000000):
  Calls Tryz.prog 92 #[.agg #[.int .i64 K,.string ⟨T.toArray⟩,.int .i64 O,v],.string ⟨t.toArray⟩] w fun e w'=>e= .returned (.int .i64 (chW cs t:Int))∧Below w.heap.size w w':=by
 have HX:=Lib.hid (show ∀wx,Below w.heap.size w wx→CassAt f wx v cs from fun wx hb=>cass_below h hb)
 obtain⟨A,cap,rfl,hm,_⟩:=h.spread
 have hcap:cs.length≤cap∨cs.length=0:=by
  rcases h with⟨e,_⟩|⟨_,_,_,e,_,q,_,_⟩
  ·exact .inr (by rw[e];rfl)
  ·injection e with _ _ e;exact .inl (by omega)
 have HR:=Lib.hid (show chW cs t=(keyI cs t).getD (lstO cs 0 0) from rfl)
 clear h
 generalize chW cs t=R at*
 generalize hL:cs.length=L at*
 go_enter Tryz.func92,Tryz.ntmps92
 go_wp2_with fail
 go_loopw [5,6,7,11] (fun v5 _ _ v11 wr=> ∃i:Nat,v5= .int .i64 ((lstO (cs.take i) 0 0:Nat):Int)∧v11= .int .i64 (i:Int)∧i≤L∧Hid (keyI (cs.take i) t=none)∧Hid (Below w.heap.size w wr)) (fun _ _ _ v11 _=>L-(RowKit.intOf v11).toNat)
 case atStart=>exact⟨0,rfl,rfl,Nat.zero_le _,Lib.hid rfl,Lib.hid (blw_alloc _ _)⟩
 case round=>
  obtain⟨i,rfl,rfl,hi,HK,HB⟩:=hrel
  by_cases hlt:i<L
  ·have hi':(i:Int)<(L:Int):=by omega
   have hcc:L≤cap:=by omega
   obtain⟨y,hy⟩: ∃y,cs[i]?=some y:=⟨cs[i]'(by omega),List.getElem?_eq_getElem (by omega)⟩
   obtain⟨A',cap',eA,_,hsp⟩:=(HX.out wr HB.out).spread
   injection eA with e1 e2 e3
   subst e1
   obtain⟨b,off,rfl,hyc⟩:=hsp i y hy
   obtain⟨a9,n9,c9,x0,x1,_⟩:=hyc
   have HS:=Lib.hid (lst_step hy)
   have HK2:=Lib.hid (show keyI (cs.take (i+1)) t=(keyI (cs.take i) t).or (if (y.1==t)=true then some i else none) from by
    unfold keyI
    rw[List.take_add_one,hy,Option.toList_some,List.findIdx?_append,List.length_take,Nat.min_eq_left (by omega),List.findIdx?_cons,List.findIdx?_nil]
    cases y.1==t<;>simp)
   have HKA:=Lib.hid (show(y.1==t)=true→keyI cs t=some i from fun e=>by
    have h1:=HK.out
    have h2:keyI (cs.take i++cs.drop i) t=(keyI (cs.take i) t).or ((keyI (cs.drop i) t).map (· +i)):=by
     unfold keyI
     rw[List.findIdx?_append,List.length_take,Nat.min_eq_left (by omega)]
    rw[List.take_append_drop,h1] at h2
    rw[h2]
    obtain⟨hi2,e2⟩:=List.getElem?_eq_some_iff.1 hy
    unfold keyI
    rw[List.drop_eq_getElem_cons hi2,e2,List.findIdx?_cons,e]
    simp)
   have W1:=Lib.hid (blw_trans HB.out (blw_alloc wr (.cells #[.string ⟨y.1.toArray⟩,.slice a9 n9 c9] 41)))
   clear hsp e2 e3 hy
   generalize lstO (cs.take i) 0 0=B at*
   generalize y.1=k at*
   have wi:IntKind.i64.wrap ((i:Int)+1)=(i:Int)+1:=IntWalk.i64_in _ (by omega)
   cases hq:k==t with
   |true=>
    have HT:=Lib.hid (show R=i by rw[HR.out,HKA.out hq];rfl)
    clear HKA HK2 HS HK HR
    go_wp2_with fail
    go_ret
    exact⟨ret_int (by rw[HT.out]),by repeat(first|exact W1.out|refine blw_drewN ?_ _)⟩
   |false=>
    have HT:=Lib.hid (show keyI (cs.take (i+1)) t=none by rw[HK2.out,HK.out,hq];rfl)
    clear HKA HK2 HK
    cases hz:k==other with
    |true=>
     have HU:=Lib.hid (show lstO (cs.take (i+1)) 0 0=i by rw[HS.out,hz,if_pos rfl])
     unfold other at hz
     clear HS
     go_wp2_with fail
     go_roundw
     case rel=>exact⟨i+1,by rw[HU.out],by go_num,by omega,HT,Lib.hid (by repeat(first|exact W1.out|refine blw_drewN ?_ _))⟩
     case measure=>simp[RowKit.intOf];omega
    |false=>
     have HU:=Lib.hid (show lstO (cs.take (i+1)) 0 0=B by rw[HS.out,hz,if_neg (by simp)])
     unfold other at hz
     clear HS
     go_wp2_with fail
     go_roundw
     case rel=>exact⟨i+1,by rw[HU.out],by go_num,by omega,HT,Lib.hid (by repeat(first|exact W1.out|refine blw_drewN ?_ _))⟩
     case measure=>simp[RowKit.intOf];omega
  ·have ei:i=L:=by omega
   subst ei
   have HT:=Lib.hid (show R=lstO (cs.take i) 0 0 by
    have h1:=HK.out
    rw[List.take_of_length_le (by omega)] at h1⊢
    rw[HR.out,h1];rfl)
   go_wp2_with fail
   go_ret
   exact⟨ret_int (by rw[HT.out]),HB.out⟩

/-- the pattern of messages' numbers -/
def patM:Nt.Pt:=⟨[],[],1,0,3,3,0⟩
/-- what a message tells of a number -/
def numM (c s:Int):List UInt8:=ftxt patM 46 44 c s
/-- the listed variables of package eval -/
structure NumerW (w:World):Prop where
 p0:w.cell? ⟨2,0,none⟩=some (.string ⟨#[]⟩)
 p1:w.cell? ⟨2,1,none⟩=some (.string ⟨#[]⟩)
 p2:w.cell? ⟨2,2,none⟩=some (.int .i64 1)
 p3:w.cell? ⟨2,3,none⟩=some (.int .i64 0)
 p4:w.cell? ⟨2,4,none⟩=some (.int .i64 3)
 p5:w.cell? ⟨2,5,none⟩=some (.int .i64 3)
 p6:w.cell? ⟨2,6,none⟩=some (.int .i64 0)
 s0:w.cell? ⟨3,0,none⟩=some (.int .u8 46)
 s1:w.cell? ⟨3,1,none⟩=some (.int .u8 44)
theorem NumerW.below {w w':World} (h:NumerW w) (hb:Below w.heap.size w w'):NumerW w':=
 ⟨cell_keep h.p0 hb,cell_keep h.p1 hb,cell_keep h.p2 hb,cell_keep h.p3 hb,cell_keep h.p4 hb,cell_keep h.p5 hb,cell_keep h.p6 hb,cell_keep h.s0 hb,cell_keep h.s1 hb⟩

set_option maxHeartbeats 1000000 in
theorem numeral_any (c s:Int) (w:World) (hN:NumerW w) (hT:PowW w) (hM:MaxW w) (hd:okD c s):
  Calls Tryz.prog 127 #[.agg #[.int .i64 c,.int .i64 s]] w fun e w'=>e= .returned (.tuple #[.string ⟨(numM c s).toArray⟩,.nilIface])∧Below w.heap.size w w':=by
 have C1:=Lib.hid fun (wx:World) (hb:Below w.heap.size w wx)=>fmt_any patM 46 44 c s wx (hT.below hb) (hM.below hb) (by decide) (by decide)
 have he:Nt.fmtE patM 46 44 c s=0:=by
  unfold Nt.fmtE
  rw[if_neg (by decide)]
  exact if_pos hd
 rw[show ftxt patM 46 44 c s=numM c s from rfl,he] at C1
 rw[show errN 0=Value.nilIface from rfl,show pV patM= .agg #[.string ⟨#[]⟩,.string ⟨#[]⟩,.int .i64 1,.int .i64 0,.int .i64 3,.int .i64 3,.int .i64 0] from rfl,show yV 46 44= .agg #[.int .u8 46,.int .u8 44] from rfl] at C1
 generalize numM c s=X at*
 have WA:=Lib.hid (blw_alloc w (.cells #[.int .i64 c,.int .i64 s] 31))
 have N1:=hN.below WA.out
 obtain⟨p0,p1,p2,p3,p4,p5,p6,s0,s1⟩:=N1
 clear hN hT hM hd he
 go_enter Tryz.func127,Tryz.ntmps127
 go_wp2_with fail
 refine(C1.out _ WA.out).mono ?_
 rintro e w1 ⟨rfl,hb⟩
 have W1:=Lib.hid (blw_trans WA.out hb)
 clear hb p0 p1 p2 p3 p4 p5 p6 s0 s1
 go_wp2_with fail
 go_ret2
 exact⟨rfl,W1.out⟩

set_option maxHeartbeats 1000000 in
theorem mexact_any (key:List UInt8) (w:World) (hp:PowW w) (hn:NumW w) (hs:key.length≤4000000000):
  Calls Tryz.prog 129 #[.string ⟨key.toArray⟩] w fun e w'=>e= .returned (.tuple #[.int .i64 (exV key),.bool (decide (0≤exV key))])∧Below w.heap.size w w':=by
 have C1:=Lib.hid fun (wx:World) (hb:Below w.heap.size w wx)=>exact_any key wx (hp.below hb) (hn.below hb) hs
 generalize exV key=V at*
 clear hp hn hs
 go_enter Tryz.func129,Tryz.ntmps129
 go_wp2_with fail
 refine(C1.out _ (Below.refl _ _)).mono ?_
 rintro e w1 ⟨rfl,hb⟩
 have W1:=Lib.hid hb
 clear hb
 go_wp2_with fail
 refine(C1.out _ W1.out).mono ?_
 rintro e w2 ⟨rfl,hb⟩
 have W2:=Lib.hid (blw_trans W1.out hb)
 clear hb
 go_wp2_with fail
 go_ret2
 exact⟨rfl,W2.out⟩
open Go.RowKit Go.ChangeShapes Go.WideShapes
theorem gPat: Tryz.prog.globalNamed "linguister/eval.pattern"=some 2:=by kernel_rfl
theorem gPatT:(Tryz.prog.globals[2]?).map (·.type)=some 81:=by kernel_rfl
theorem gSgn: Tryz.prog.globalNamed "linguister/eval.signs"=some 3:=by kernel_rfl
theorem gSgnT:(Tryz.prog.globals[3]?).map (·.type)=some 83:=by kernel_rfl
theorem cellsPat: Tryz.prog.cellsOf 81=7:=by kernel_rfl
theorem cellsSgn: Tryz.prog.cellsOf 83=2:=by kernel_rfl
theorem numerW_of {L:List (String×DataW Unit)} {W:World} (h:laidMetH Tryz.prog L W) (hp:L.filter (fun x=>x.1== "linguister/eval.pattern")= [("linguister/eval.pattern",Rows.laid_linguister_eval_pattern)]) (hs:L.filter (fun x=>x.1== "linguister/eval.signs")= [("linguister/eval.signs",Rows.laid_linguister_eval_signs)]):NumerW W:=by
 have g1:=laidMetH.filter (fun x=>x.1== "linguister/eval.pattern") h
 rw[hp,MakeChecks.laidMetH_plain _ _ _ (by kernel_rfl)] at g1
 have g2:=laidMetH.filter (fun x=>x.1== "linguister/eval.signs") h
 rw[hs,MakeChecks.laidMetH_plain _ _ _ (by kernel_rfl)] at g2
 obtain⟨ps,⟨gg,t,cs,fuel,p,q,hg,ht,hvar,hd,_,_⟩,_⟩:=g1
 obtain rfl:=Option.some.inj (gPat.symm.trans hg)
 obtain rfl:=Option.some.inj (gPatT.symm.trans ht)
 obtain⟨qs,⟨gg,t,cz,fuel2,p2,q2,hg,ht,hvar2,hd2,_,_⟩,_⟩:=g2
 obtain rfl:=Option.some.inj (gSgn.symm.trans hg)
 obtain rfl:=Option.some.inj (gSgnT.symm.trans ht)
 obtain⟨ys,n,_,hy,hcl,hyl,hf⟩:=DataW.trod_struct Tryz.underlying81 hd
 obtain⟨zs,n2,_,hz,hzl,hzn,hz2⟩:=DataW.trod_struct Tryz.underlying83 hd2
 rw[cellsPat] at hcl
 rw[cellsSgn] at hzl
 obtain⟨c0,c1,c2,c3,c4,c5,c6,hcs⟩: ∃c0 c1 c2 c3 c4 c5 c6,cs.toList= [c0,c1,c2,c3,c4,c5,c6]:=by
  match hh:cs.toList,hcl with
  | [c0,c1,c2,c3,c4,c5,c6],_=>exact⟨c0,c1,c2,c3,c4,c5,c6,rfl⟩
 obtain⟨x0,x1,hcz⟩: ∃x0 x1,cz.toList= [x0,x1]:=by
  match hh:cz.toList,hzl with
  | [x0,x1],_=>exact⟨x0,x1,rfl⟩
 rw[hcs] at hf
 rw[hcz] at hz2
 obtain⟨y0,y1,y2,y3,y4,y5,y6,rfl⟩: ∃a0 a1 a2 a3 a4 a5 a6,ys= [a0,a1,a2,a3,a4,a5,a6]:=by
  match ys,hyl with
  | [a0,a1,a2,a3,a4,a5,a6],_=>exact⟨a0,a1,a2,a3,a4,a5,a6,rfl⟩
 obtain⟨z0,z1,rfl⟩: ∃a0 a1,zs= [a0,a1]:=by
  match zs,hzn with
  | [a0,a1],_=>exact⟨a0,a1,rfl⟩
 have ks: Tryz.prog.cellsOf 9=1:=by kernel_rfl
 have ki: Tryz.prog.cellsOf 3=1:=by kernel_rfl
 have ku: Tryz.prog.cellsOf 5=1:=by kernel_rfl
 have r0:DataW.trod (fun _=>()) Tryz.prog W 0 (fun _=>true) false n 9 [c0]=some y0:=by have:=hf 0 _ rfl;change DataW.trod (fun _=>()) Tryz.prog W 0 (fun _=>true) false n 9 (List.take (Tryz.prog.cellsOf 9) [c0,c1,c2,c3,c4,c5,c6])=some y0 at this;rw[ks] at this;exact this
 have r1:DataW.trod (fun _=>()) Tryz.prog W 0 (fun _=>true) false n 9 [c1]=some y1:=by have:=hf 1 _ rfl;change DataW.trod (fun _=>()) Tryz.prog W 0 (fun _=>true) false n 9 (List.take (Tryz.prog.cellsOf 9) [c1,c2,c3,c4,c5,c6])=some y1 at this;rw[ks] at this;exact this
 have r2:DataW.trod (fun _=>()) Tryz.prog W 0 (fun _=>true) false n 3 [c2]=some y2:=by have:=hf 2 _ rfl;change DataW.trod (fun _=>()) Tryz.prog W 0 (fun _=>true) false n 3 (List.take (Tryz.prog.cellsOf 3) [c2,c3,c4,c5,c6])=some y2 at this;rw[ki] at this;exact this
 have r3:DataW.trod (fun _=>()) Tryz.prog W 0 (fun _=>true) false n 3 [c3]=some y3:=by have:=hf 3 _ rfl;change DataW.trod (fun _=>()) Tryz.prog W 0 (fun _=>true) false n 3 (List.take (Tryz.prog.cellsOf 3) [c3,c4,c5,c6])=some y3 at this;rw[ki] at this;exact this
 have r4:DataW.trod (fun _=>()) Tryz.prog W 0 (fun _=>true) false n 3 [c4]=some y4:=by have:=hf 4 _ rfl;change DataW.trod (fun _=>()) Tryz.prog W 0 (fun _=>true) false n 3 (List.take (Tryz.prog.cellsOf 3) [c4,c5,c6])=some y4 at this;rw[ki] at this;exact this
 have r5:DataW.trod (fun _=>()) Tryz.prog W 0 (fun _=>true) false n 3 [c5]=some y5:=by have:=hf 5 _ rfl;change DataW.trod (fun _=>()) Tryz.prog W 0 (fun _=>true) false n 3 (List.take (Tryz.prog.cellsOf 3) [c5,c6])=some y5 at this;rw[ki] at this;exact this
 have r6:DataW.trod (fun _=>()) Tryz.prog W 0 (fun _=>true) false n 3 [c6]=some y6:=by have:=hf 6 _ rfl;change DataW.trod (fun _=>()) Tryz.prog W 0 (fun _=>true) false n 3 (List.take (Tryz.prog.cellsOf 3) [c6])=some y6 at this;rw[ki] at this;exact this
 have u0:DataW.trod (fun _=>()) Tryz.prog W 0 (fun _=>true) false n2 5 [x0]=some z0:=by have:=hz2 0 _ rfl;change DataW.trod (fun _=>()) Tryz.prog W 0 (fun _=>true) false n2 5 (List.take (Tryz.prog.cellsOf 5) [x0,x1])=some z0 at this;rw[ku] at this;exact this
 have u1:DataW.trod (fun _=>()) Tryz.prog W 0 (fun _=>true) false n2 5 [x1]=some z1:=by have:=hz2 1 _ rfl;change DataW.trod (fun _=>()) Tryz.prog W 0 (fun _=>true) false n2 5 (List.take (Tryz.prog.cellsOf 5) [x1])=some z1 at this;rw[ku] at this;exact this
 obtain⟨b0,e0,ey0,_⟩:=DataW.trod_string Tryz.underlying9 r0
 obtain⟨b1,e1,ey1,_⟩:=DataW.trod_string Tryz.underlying9 r1
 obtain⟨b2,e2,ey2,_⟩:=DataW.trod_int Tryz.underlying3 r2
 obtain⟨b3,e3,ey3,_⟩:=DataW.trod_int Tryz.underlying3 r3
 obtain⟨b4,e4,ey4,_⟩:=DataW.trod_int Tryz.underlying3 r4
 obtain⟨b5,e5,ey5,_⟩:=DataW.trod_int Tryz.underlying3 r5
 obtain⟨b6,e6,ey6,_⟩:=DataW.trod_int Tryz.underlying3 r6
 obtain⟨k0,ez0,ek0,_⟩:=DataW.trod_int Tryz.underlying5 u0
 obtain⟨k1,ez1,ek1,_⟩:=DataW.trod_int Tryz.underlying5 u1
 rw[ey0,ey1,ey2,ey3,ey4,ey5,ey6] at hy
 rw[ek0,ek1] at hz
 have hy1:=congrArg Prod.fst hy
 have hz1:=congrArg Prod.fst hz
 simp only[Rows.laid_linguister_eval_pattern,List.map_cons,List.map_nil,DataW.agg.injEq,List.cons.injEq,DataW.lit.injEq,Lit.string.injEq,Lit.int.injEq,true_and,and_true] at hy1
 simp only[Rows.laid_linguister_eval_signs,List.map_cons,List.map_nil,DataW.agg.injEq,List.cons.injEq,DataW.lit.injEq,Lit.int.injEq,true_and,and_true] at hz1
 obtain⟨g0,g1,rfl,rfl,rfl,rfl,rfl⟩:=hy1
 obtain⟨rfl,rfl⟩:=hz1
 have v: ∀(i:Nat) (u:Value),cs.toList[i]?=some u→W.cell? ⟨2,i,none⟩=some u:=fun i u hu=>by
  rw[World.var?_cell gPat hvar i,←Array.getElem?_toList];exact hu
 have v2: ∀(i:Nat) (u:Value),cz.toList[i]?=some u→W.cell? ⟨3,i,none⟩=some u:=fun i u hu=>by
  rw[World.var?_cell gSgn hvar2 i,←Array.getElem?_toList];exact hu
 have em: ∀b:ByteArray,[]=b.data.toList→b=⟨#[]⟩:=fun b hb=>by
  have:b.data= #[]:=by rw[←Array.toList_inj];exact hb.symm
  cases b;simp_all
 have h0:=em b0 g0
 have h1:=em b1 g1
 subst h0 h1
 refine⟨v 0 _ ?_,v 1 _ ?_,v 2 _ ?_,v 3 _ ?_,v 4 _ ?_,v 5 _ ?_,v 6 _ ?_,v2 0 _ ?_,v2 1 _ ?_⟩
 ·rw[hcs];exact congrArg some (List.cons.inj e0).1
 ·rw[hcs];exact congrArg some (List.cons.inj e1).1
 ·rw[hcs];exact congrArg some (List.cons.inj e2).1
 ·rw[hcs];exact congrArg some (List.cons.inj e3).1
 ·rw[hcs];exact congrArg some (List.cons.inj e4).1
 ·rw[hcs];exact congrArg some (List.cons.inj e5).1
 ·rw[hcs];exact congrArg some (List.cons.inj e6).1
 ·rw[hcz];exact congrArg some (List.cons.inj ez0).1
 ·rw[hcz];exact congrArg some (List.cons.inj ez1).1
open Go.RowKit Go.WideShapes Go.ChangeShapes Go.Deep Ms
section
variable {H:Type} {enc:TypeId×Value→H} {P:Program} {w:World} {base:Nat} {sp:Nat→Bool} {held:Bool}
section
variable {s t u:TypeId} {f0 f1 f2 f3 g0 g1:Field}
/-- args that came in -/
theorem argt_open (hs:P.underlying s=some (.slice t)) (ht:P.underlying t=some (.struct #[f0,f1,f2,f3])) (hc:P.cellsOf t=5) (k0:P.underlying f0.type=some .string) (k1:P.underlying f1.type=some .bool) (k2:P.underlying f2.type=some (.struct #[g0,g1])) (k3:P.underlying f3.type=some .string)
  (j0:P.underlying g0.type=some (.int .i64)) (j1:P.underlying g1.type=some (.int .i64)) (o0:f0.offset=0∧P.cellsOf f0.type=1) (o1:f1.offset=1∧P.cellsOf f1.type=1) (o2:f2.offset=2∧P.cellsOf f2.type=2) (o3:f3.offset=4∧P.cellsOf f3.type=1) (hG:oneCellFields P #[g0,g1]=true)
  {fuel:Nat} {a:Option Addr} {n c:Nat} {d:DataW H} {p:List MemPlace} (h:DataW.trod enc P w base sp held fuel s (Value.slice a n c).cells.toList=some (d,p)) (hK:Rows.uptoBulk d≤1048576):
  ∃l:List Ag,ArgsAt w (.slice a n c) l∧l.length<Rows.uptoBulk d∧ ∀x∈l,x.name.length≤1048576∧x.txt.length≤1048576:=by
 have h':DataW.trod enc P w base sp held fuel s [.slice a n c]=some (d,p):=by simpa[Value.cells] using h
 obtain⟨a',n',c',l,e,hs,hl⟩:=sl_less (enc:=enc) (P:=P) (base:=base) (sp:=sp) (held:=held) (fuel:=fuel) (e:=t) (t:=s) (w:=w) (C:=fun w b k (x:Ag)=>ArgC w b k x∧x.name.length≤1048576∧x.txt.length≤1048576) 1048576 hs hc (by omega) (fun b off cs n y q1 q2 q qK=>by
  obtain⟨ys,n',_,hy,_,hyl,hf⟩:=DataW.trod_struct ht q
  obtain⟨c0,c1,c2,c3,c4,rfl⟩: ∃c0 c1 c2 c3 c4,cs= [c0,c1,c2,c3,c4]:=by
   match cs,q2 with
   | [c0,c1,c2,c3,c4],_=>exact⟨c0,c1,c2,c3,c4,rfl⟩
  obtain⟨y0,y1,y2,y3,rfl⟩: ∃a0 a1 a2 a3,ys= [a0,a1,a2,a3]:=by
   match ys,hyl with
   | [a0,a1,a2,a3],_=>exact⟨a0,a1,a2,a3,rfl⟩
  have r0:DataW.trod enc P w base sp held n' f0.type [c0]=some y0:=by have:=hf 0 f0 rfl;rwa [o0.1,o0.2] at this
  have r1:DataW.trod enc P w base sp held n' f1.type [c1]=some y1:=by have:=hf 1 f1 rfl;rwa [o1.1,o1.2] at this
  have r2:DataW.trod enc P w base sp held n' f2.type [c2,c3]=some y2:=by have:=hf 2 f2 rfl;rwa [o2.1,o2.2] at this
  have r3:DataW.trod enc P w base sp held n' f3.type [c4]=some y3:=by have:=hf 3 f3 rfl;rwa [o3.1,o3.2] at this
  have hb:Rows.uptoBulk y0.1≤1048576∧Rows.uptoBulk y3.1≤1048576:=by
   rw[hy] at qK
   simp only[List.map_cons,List.map_nil,Rows.uptoBulk,Rows.uptoBulkAll] at qK
   omega
  obtain⟨zs,n2,_,_,_,hzl,hg⟩:=DataW.trod_struct k2 r2
  obtain⟨z0,z1,rfl⟩: ∃a0 a1,zs= [a0,a1]:=by
   match zs,hzl with
   | [a0,a1],_=>exact⟨a0,a1,rfl⟩
  have s0:DataW.trod enc P w base sp held n2 g0.type [c2]=some z0:=by have:=hg 0 g0 rfl;rwa [(hone_of hG 0 g0 rfl).1,(hone_of hG 0 g0 rfl).2] at this
  have s1:DataW.trod enc P w base sp held n2 g1.type [c3]=some z1:=by have:=hg 1 g1 rfl;rwa [(hone_of hG 1 g1 rfl).1,(hone_of hG 1 g1 rfl).2] at this
  obtain⟨t0,e0,ey0,_⟩:=DataW.trod_string k0 r0
  obtain⟨b1,e1,_⟩:=DataW.trod_bool k1 r1
  obtain⟨i2,e2,_⟩:=DataW.trod_int j0 s0
  obtain⟨i3,e3,_⟩:=DataW.trod_int j1 s1
  obtain⟨t4,e4,ey4,_⟩:=DataW.trod_string k3 r3
  obtain rfl:c0= .string t0:=by simpa using e0
  obtain rfl:c1= .bool b1:=by simpa using e1
  obtain rfl:c2= .int .i64 i2:=by simpa using e2
  obtain rfl:c3= .int .i64 i3:=by simpa using e3
  obtain rfl:c4= .string t4:=by simpa using e4
  have ht:t0.data.toList.length+1≤Rows.uptoBulk y0.1:=by rw[ey0];simp[Rows.uptoBulk]
  have ht4:t4.data.toList.length+1≤Rows.uptoBulk y3.1:=by rw[ey4];simp[Rows.uptoBulk]
  exact⟨⟨t0.data.toList,b1,i2,i3,t4.data.toList⟩,⟨q1 0 (by omega),q1 1 (by omega),q1 2 (by omega),q1 3 (by omega),q1 4 (by omega)⟩,by show t0.data.toList.length≤_∧t4.data.toList.length≤_;omega⟩) (v:= .slice a n c) (y:=(d,p)) h' hK
 rw[←e] at hs
 refine⟨l,by rcases hs with h|⟨b,off,cap,h1,h2,h3,h4,h5⟩;exact .inl h;exact .inr ⟨b,off,cap,h1,h2,h3,h4,fun j x hx=>(h5 j x hx).1⟩,hl,fun x hx=>?_⟩
 obtain⟨j,hj,ej⟩:=List.getElem_of_mem hx
 obtain⟨A,cap,_,_,hh⟩:=hs.spread
 obtain⟨b,off,_,hq⟩:=hh j x (by rw[List.getElem?_eq_getElem hj,ej])
 exact hq.2
end
end
section
variable {H:Type} {enc:TypeId×Value→H} {w:World} {base:Nat} {sp:Nat→Bool} {held:Bool} {fuel:Nat} {a:Option Addr} {n c:Nat} {d:DataW H} {p:List MemPlace}
theorem argx_open (h:DataW.trod enc Tryz.prog w base sp held fuel 23 (Value.slice a n c).cells.toList=some (d,p)) (hK:Rows.uptoBulk d≤1048576): ∃l:List Ag,ArgsAt w (.slice a n c) l∧l.length<Rows.uptoBulk d∧ ∀x∈l,x.name.length≤1048576∧x.txt.length≤1048576:=
 argt_open Tryz.underlying23 Tryz.underlying36 cellsArg Tryz.underlying9 Tryz.underlying4 Tryz.underlying31 Tryz.underlying9 Tryz.underlying3 Tryz.underlying3 ⟨rfl,by kernel_rfl⟩ ⟨rfl,by kernel_rfl⟩ ⟨rfl,by kernel_rfl⟩ ⟨rfl,by kernel_rfl⟩ (by kernel_rfl) h hK
end
open Go.RowKit
namespace Ms
theorem lgo_sum {F:List Nd→Int×Bool}: ∀(L:List (List Nd)) (n:Int),(lgo F n L).2=false→(∀b∈L,(F b).2=false)∧(lgo F n L).1=n+(L.map fun b=>(F b).1).sum∧(lgo F n L).1≤60
 | [],n,h=>by
  have h':decide (60<n)=false:=h
  have:=of_decide_eq_false h'
  exact⟨by simp,by show n=_;simp,by show n≤60;omega⟩
 |b::r,n,h=>by
  unfold lgo at h⊢
  split at h
  ·cases h
  ·rename_i hc
   rw[if_neg hc]
   have h1:=lgo_sum r (n+(F b).1) h
   have hb:(F b).2=false:=by
    cases hb:(F b).2 with
    |false=>rfl
    |true=>exact absurd (by rw[hb];rfl) hc
   refine⟨fun c hc=>?_,by rw[h1.2.1,List.map_cons,List.sum_cons];omega,h1.2.2⟩
   rcases List.mem_cons.1 hc with rfl|hc
   ·exact hb
   ·exact h1.1 c hc
theorem cnt_bodies (f:Nat): ∀(m:List Nd),cnt (f+1) m=m.length+((bodies m).map (cnt f)).sum
 | []=>rfl
 |x::r=>by
  have h:=cnt_bodies f r
  have e:cnt (f+1) (x::r)=(1+((casesOf x).map fun y=>cnt f y.2).sum)+cnt (f+1) r:=by simp[cnt]
  rw[e,h,bodies_cons,List.map_append,List.sum_append,List.map_map,List.length_cons]
  show 1+((casesOf x).map (cnt f∘(·.2))).sum+_=_
  omega
theorem cnt_sum {c:List Nd→Nat} {g:List Nd→Int}: ∀(L:List (List Nd)),(∀b∈L,(c b:Int)≤g b)→((L.map c).sum:Int)≤(L.map g).sum
 | [],_=>by simp
 |b::r,h=>by
  have h1:=cnt_sum r (fun b hb=>h b (by simp[hb]))
  have h2:=h b (by simp)
  simp only[List.map_cons,List.sum_cons]
  omega
theorem cnt_lrg: ∀(d:Nat) (m:List Nd),(lrg d m).2=false→ ∀f,(cnt f m:Int)≤(lrg d m).1
 |0,m,h,f=>by
  have:m= []:=by
   cases m with
   |nil=>rfl
   |cons x r=>cases h
  subst this
  cases f<;>simp[cnt,lrg]
 |d+1,m,h,f=>by
  have hs:=lgo_sum (F:=lrg d) (bodies m) m.length h
  have e:(lrg (d+1) m).1=m.length+((bodies m).map fun b=>(lrg d b).1).sum:=hs.2.1
  have hb:=fun f=>cnt_sum (c:=cnt f) (g:=fun b=>(lrg d b).1) (bodies m) (fun b hb=>cnt_lrg d b (hs.1 b hb) f)
  cases f with
  |zero=>
   have:=hb 0
   rw[e]
   show(0:Int)≤_
   omega
  |succ f=>
   have:=hb f
   rw[e,cnt_bodies]
   omega
theorem cnt_small {f:Nat} {m:List Nd} (h:msgE f m=0):cnt f m≤60:=by
 unfold msgE at h
 cases hl:(lrg 6 m).2 with
 |true=>rw[hl] at h;cases h
 |false=>
  have h1:=cnt_lrg 6 m hl f
  have h2:=(lgo_sum (F:=lrg 5) (bodies m) m.length hl).2.2
  have h3:(lrg 6 m).1≤60:=h2
  omega
/-- what is wrong with a message's names -/
def namE (f:Nat) (m:List Nd):Int:=if msgE f m≠0 then msgE f m else if (allN f [] m).any (fun n=>n.2.1&&n.2.2) then 7 else 0
/-- the names -/
def lstN (f:Nat) (m:List Nd):List Need:=if namE f m=0 then allN f [] m else []
/-- does a Select have the name? -/
def selB (l:List Need) (t:List UInt8):Bool:=l.any fun n=>n.1==t&&n.2.2
/-- does the message choose by it? -/
def chs:Nat→List Nd→List UInt8→Bool
 |0,_,_=>false
 |f+1,m,t=>m.any fun x=>(x.kind==5&&x.text==t)||(casesOf x).any fun y=>chs f y.2 t
theorem selB_mod: ∀{l:List Need} {i:Nat} {n:Need} (a b:Bool) (t:List UInt8),l[i]?=some n→selB (l.modify i (orN a b)) t=(selB l t||(n.1==t&&b))
 | [],i,n,a,b,t,h=>by simp at h
 |x::r,0,n,a,b,t,h=>by
  simp at h;subst h
  show(x.1==t&&(x.2.2||b)||selB r t)=(x.1==t&&x.2.2||selB r t||(x.1==t&&b))
  cases x.1==t<;>cases x.2.2<;>cases b<;>cases selB r t<;>rfl
 |x::r,i+1,n,a,b,t,h=>by
  have h':=selB_mod (l:=r) (i:=i) a b t (by simpa using h)
  rw[List.modify_succ_cons]
  show(x.1==t&&x.2.2||selB (r.modify i (orN a b)) t)=(x.1==t&&x.2.2||selB r t||(n.1==t&&b))
  rw[h',Bool.or_assoc]
theorem grownN_at (l:List Need) (t:List UInt8): ∃n,(grownN l t)[l.findIdx (fun n=>n.1==t)]?=some n∧n.1=t:=by
 unfold grownN
 split
 ·rename_i h
  refine⟨_,List.getElem?_eq_getElem h,?_⟩
  have:=List.findIdx_getElem (xs:=l) (p:=fun n=>n.1==t) (w:=h)
  simpa using this
 ·rename_i h
  have e:l.findIdx (fun n=>n.1==t)=l.length:=by have:=List.findIdx_le_length (xs:=l) (p:=fun n=>n.1==t);omega
  rw[e]
  exact⟨(t,false,false),by simp,rfl⟩
theorem selB_grown (l:List Need) (t s:List UInt8):selB (grownN l t) s=selB l s:=by
 unfold grownN
 split
 ·rfl
 ·unfold selB;simp
theorem selB_add (l:List Need) (x:Nd) (t:List UInt8):selB (addN l x) t=(selB l t||(x.kind==5&&x.text==t)):=by
 unfold addN
 split
 ·rename_i h
  have:(x.kind==5)=false:=by
   rcases h with h|h<;>rw[h]<;>rfl
  rw[this];simp
 ·obtain⟨n,hn,e⟩:=grownN_at l x.text
  rw[selB_mod _ _ t hn,selB_grown,e]
  congr 1
  rw[Bool.and_comm]
  congr 1
theorem selB_go {F:List Need→List Nd→List Need} {c:List Nd→Bool} {t:List UInt8} (hF: ∀l b,selB (F l b) t=(selB l t||c b)): ∀(bs:List (List Nd)) (l:List Need),selB (goN F l bs) t=(selB l t||bs.any c)
 | [],l=>by simp[goN]
 |b::r,l=>by
  show selB (goN F (F l b) r) t=_
  rw[selB_go hF r (F l b),hF,List.any_cons,Bool.or_assoc]
theorem selB_all: ∀(f:Nat) (l:List Need) (m:List Nd) (t:List UInt8),selB (allN f l m) t=(selB l t||chs f m t)
 |0,l,m,t=>by simp[allN,chs]
 |f+1,l,m,t=>by
  induction m generalizing l with
  |nil=>simp[allN,chs]
  |cons x r ih=>
   show selB (allN (f+1) (goN (allN f) (addN l x) ((casesOf x).map (·.2))) r) t=_
   rw[ih,selB_go (c:=fun b=>chs f b t) (fun l b=>selB_all f l b t),selB_add]
   show _=(selB l t||((x.kind==5&&x.text==t||(casesOf x).any fun y=>chs f y.2 t)||chs (f+1) r t))
   rw[List.any_map]
   simp only[Bool.or_assoc]
   rfl
theorem sel_chs (f:Nat) (m:List Nd) (t:List UInt8):chs f m t=selB (allN f [] m) t:=by rw[selB_all];rfl
/-- the names differ -/
abbrev Dist (l:List Need):Prop:=(l.map (·.1)).Nodup
theorem map_mod: ∀(l:List Need) (i:Nat) (a b:Bool),(l.modify i (orN a b)).map (·.1)=l.map (·.1)
 | [],i,a,b=>by simp
 |x::r,0,a,b=>rfl
 |x::r,i+1,a,b=>by rw[List.modify_succ_cons,List.map_cons,map_mod r i a b];rfl
theorem dist_add {l:List Need} (h:Dist l) (x:Nd):Dist (addN l x):=by
 unfold addN
 split
 ·exact h
 ·unfold Dist
  rw[map_mod]
  unfold grownN
  split
  ·exact h
  ·rename_i hl
   rw[List.map_append,List.nodup_append]
   refine⟨h,by simp,fun a ha b hb e=>hl ?_⟩
   obtain rfl:b=x.text:=by simpa using hb
   subst e
   obtain⟨n,hn,e⟩:=List.mem_map.1 ha
   exact List.findIdx_lt_length_of_exists ⟨n,hn,by simpa using e⟩
theorem dist_go {F:List Need→List Nd→List Need} (hF: ∀l b,Dist l→Dist (F l b)): ∀(bs:List (List Nd)) (l:List Need),Dist l→Dist (goN F l bs)
 | [],_,h=>h
 |b::r,l,h=>dist_go hF r (F l b) (hF l b h)
theorem dist_all: ∀(f:Nat) (l:List Need) (m:List Nd),Dist l→Dist (allN f l m)
 |0,_,_,h=>h
 |f+1,l,m,h=>by
  induction m generalizing l with
  |nil=>exact h
  |cons x r ih=>exact ih _ (dist_go (fun l b=>dist_all f l b) _ _ (dist_add h x))
theorem sel_at {l:List Need} (h:Dist l) {n:Need} (hn:n∈l):selB l n.1=n.2.2:=by
 induction l with
 |nil=>cases hn
 |cons x r ih=>
  rw[show Dist (x::r)=List.Nodup (x.1::r.map (·.1)) from rfl,List.nodup_cons] at h
  show(x.1==n.1&&x.2.2||selB r n.1)=_
  rcases List.mem_cons.1 hn with rfl|hm
  ·have:selB r n.1=false:=by
    cases hs:selB r n.1 with
    |false=>rfl
    |true=>
     obtain⟨y,hy,e⟩:=List.any_eq_true.1 hs
     simp at e
     exact absurd (List.mem_map.2 ⟨y,hy,e.1⟩) h.1
   rw[this];simp
  ·have:(x.1==n.1)=false:=by
    rw[beq_eq_false_iff_ne]
    intro e
    exact h.1 (List.mem_map.2 ⟨n,hm,e.symm⟩)
   rw[this,ih h.2 hm];simp
/-- the two ways of asking are one -/
theorem any_sel {l:List Need} (h:Dist l):(l.any fun n=>n.2.1&&n.2.2)=l.any fun n=>n.2.1&&selB l n.1:=by
 rw[Bool.eq_iff_iff,List.any_eq_true,List.any_eq_true]
 constructor
 ·rintro⟨n,hn,e⟩;exact⟨n,hn,by rw[sel_at h hn];exact e⟩
 ·rintro⟨n,hn,e⟩;exact⟨n,hn,by rw[sel_at h hn] at e;exact e⟩
theorem lstN_len (f:Nat) (m:List Nd):(lstN f m).length≤60:=by
 unfold lstN
 split
 ·rename_i h
  have h0:msgE f m=0:=by
   unfold namE at h
   split at h
   ·exact h
   ·rename_i h';exact Decidable.not_not.1 h'
  have:=allN_len f [] m
  have:=cnt_small h0
  simp at*;omega
 ·simp
end Ms
open Go.RowKit
namespace Ms
/-- is the number none? -/
def badA (a:Ag):Bool:=!decide (Dcm.okD a.co a.sc)
def hasA (l:List Ag) (t:List UInt8):Bool:=l.any fun a=>a.name==t
/-- what is wrong with the args by themselves -/
def argE:List Ag→List Ag→Int
 |_,[]=>0
 |d,a::r=>if !nameB a.name then 3 else if a.num&&badA a then 1 else if hasA d a.name then 5 else argE (d++ [a]) r
/-- with the needs -/
def askE (args:List Ag):List Need→Int
 | []=>0
 |n::r=>match args.find? (fun a=>a.name==n.1) with
  |none=>2
  |some a=>if (n.2.1&&!a.num)||(n.2.2&&a.num) then 7 else askE args r
/-- with all -/
def fitE (f:Nat) (m:List Nd) (args:List Ag):Int:=if namE f m≠0 then namE f m else if argE [] args≠0 then argE [] args else askE args (allN f [] m)
end Ms
open Go.RowKit
namespace Ms
theorem csE_bodies {G:Bool→List Nd→Int} {x:Nd} {mark:Bool}: ∀(l:List (List UInt8×List Nd)) (seen:List (List UInt8)),csE G x mark seen l=0→ ∀y∈l,G (mark||decide (x.kind=4)) y.2=0
 | [],_,_,y,hy=>by simp at hy
 |z::r,seen,h,y,hy=>by
  unfold csE at h
  split at h
  ·cases h
  ·split at h
   ·cases h
   ·split at h
    ·rename_i h1;exact absurd h h1
    ·rename_i h1
     rcases List.mem_cons.1 hy with rfl|hy
     ·exact Decidable.not_not.1 h1
     ·exact csE_bodies r _ h y hy
theorem namE_zero {f:Nat} {m:List Nd} (h:namE f m=0):msgE f m=0∧((allN f [] m).any fun n=>n.2.1&&n.2.2)=false∧lstN f m=allN f [] m:=by
 have hl:lstN f m=allN f [] m:=by unfold lstN;rw[if_pos h]
 unfold namE at h
 split at h
 ·rename_i h1;exact absurd h h1
 ·rename_i h1
  refine⟨Decidable.not_not.1 h1,?_,hl⟩
  split at h
  ·cases h
  ·rename_i h2;simpa using h2
theorem names_dist (f:Nat) (m:List Nd):Dist (allN f [] m):=dist_all f [] m (by simp[Dist])
theorem askE_cons (A:List Ag) (n:Need) (r:List Need):askE A (n::r)=match A.find? (fun a=>a.name==n.1) with
  |none=>2
  |some a=>if (n.2.1&&!a.num)||(n.2.2&&a.num) then 7 else askE A r:=rfl
theorem any_not {l:List Need} (h:(l.any fun n=>n.2.1&&n.2.2)=false): ∀n∈l,(n.2.1&&n.2.2)=false:=by
 intro n hn
 cases hc:n.2.1&&n.2.2 with
 |false=>rfl
 |true=>
  have:(l.any fun n=>n.2.1&&n.2.2)=true:=List.any_eq_true.2 ⟨n,hn,hc⟩
  rw[this] at h;cases h
theorem find_idx {α:Type} (p:α→Bool): ∀l:List α,l.find? p=l[l.findIdx p]?
 | []=>rfl
 |a::l=>by cases h:p a<;>simp[List.findIdx_cons,h,find_idx p l]
/-- the place of a name -/
def idxA (l:List Ag) (t:List UInt8):Int:=if l.findIdx (fun a=>a.name==t)<l.length then (l.findIdx (fun a=>a.name==t):Int) else-1
theorem idxA_lt (l:List Ag) (t:List UInt8):idxA l t<0↔hasA l t=false:=by
 have e:=List.findIdx_lt_length (xs:=l) (p:=fun a=>a.name==t)
 unfold idxA hasA
 constructor
 ·intro h
  split at h
  ·omega
  ·rename_i h1
   rw[e] at h1
   cases hc:l.any fun a=>a.name==t with
   |false=>rfl
   |true=>exact absurd (List.any_eq_true.1 hc) h1
 ·intro h
  rw[if_neg]
  ·omega
  ·intro h1
   rw[List.any_eq_true.2 (e.1 h1)] at h;cases h
theorem idxA_find (l:List Ag) (t:List UInt8):(hasA l t=false∧l.find? (fun a=>a.name==t)=none∧idxA l t= -1)∨ ∃(k:Nat) (a:Ag),l[k]?=some a∧l.find? (fun a=>a.name==t)=some a∧idxA l t=(k:Int)∧k<l.length:=by
 by_cases h:l.findIdx (fun a=>a.name==t)<l.length
 ·exact .inr ⟨l.findIdx (fun a=>a.name==t),l[l.findIdx (fun a=>a.name==t)],List.getElem?_eq_getElem h,(find_idx _ l).trans (List.getElem?_eq_getElem h),by unfold idxA;rw[if_pos h],h⟩
 ·have h0:idxA l t= -1:=by unfold idxA;rw[if_neg h]
  have h1:=(idxA_lt l t).1 (by omega)
  refine .inl ⟨h1,?_,h0⟩
  rw[List.find?_eq_none]
  intro a ha e
  unfold hasA at h1
  rw[List.any_eq_true.2 ⟨a,ha,e⟩] at h1;cases h1
end Ms
open Go.RowKit
namespace Ms
theorem lgo_ge {F:List Nd→Int×Bool}: ∀(L:List (List Nd)) (n:Int),(∀b∈L,0≤(F b).1)→n≤(lgo F n L).1
 | [],n,_=>Int.le_refl n
 |b::r,n,h=>by
  have hb:=h b (by simp)
  unfold lgo
  split
  ·show n≤n+(F b).1;omega
  ·have:=lgo_ge r (n+(F b).1) fun c hc=>h c (by simp[hc])
   omega
theorem lrg_ge: ∀(d:Nat) (m:List Nd),0≤(lrg d m).1
 |0,m=>Int.le_refl 0
 |d+1,m=>by
  have:=lgo_ge (F:=lrg d) (bodies m) m.length fun b _=>lrg_ge d b
  show 0≤(lgo (lrg d) m.length (bodies m)).1
  omega
theorem sum_ge {g:List Nd→Int}: ∀(L:List (List Nd)),(∀b∈L,0≤g b)→0≤(L.map g).sum
 | [],_=>by simp
 |b::r,h=>by
  have h1:=sum_ge r fun c hc=>h c (by simp[hc])
  have h2:=h b (by simp)
  rw[List.map_cons,List.sum_cons];omega
theorem lgo_ok {F:List Nd→Int×Bool}: ∀(L:List (List Nd)) (n:Int),(∀b∈L,(F b).2=false∧0≤(F b).1)→n+(L.map fun b=>(F b).1).sum≤60→(lgo F n L).2=false
 | [],n,_,h=>by
  have h':n≤60:=by simpa using h
  show decide (60<n)=false
  exact decide_eq_false (by omega)
 |b::r,n,h,hs=>by
  have hb:=h b (by simp)
  rw[List.map_cons,List.sum_cons] at hs
  have hr:=sum_ge (g:=fun b=>(F b).1) r fun c hc=>(h c (by simp[hc])).2
  unfold lgo
  rw[if_neg]
  ·exact lgo_ok r _ (fun c hc=>h c (by simp[hc])) (by omega)
  ·rw[hb.1,Bool.false_or]
   simp
   omega
theorem lrg_part {m n:List Nd} (h:(lrg 6 (m++n)).2=false):(lrg 6 m).2=false∧(lrg 6 n).2=false:=by
 have eb:bodies (m++n)=bodies m++bodies n:=by unfold bodies;rw[List.map_append,List.flatten_append]
 have hs:=lgo_sum (F:=lrg 5) (bodies (m++n)) (m++n).length h
 rw[eb] at hs
 rw[List.map_append,List.sum_append,List.length_append] at hs
 have g1:=sum_ge (g:=fun b=>(lrg 5 b).1) (bodies m) fun b _=>lrg_ge 5 b
 have g2:=sum_ge (g:=fun b=>(lrg 5 b).1) (bodies n) fun b _=>lrg_ge 5 b
 have hs3:=hs.2.2
 rw[←eb,←List.length_append] at hs3
 have hle:=hs.2.1
 rw[←eb,←List.length_append] at hle
 rw[hle,List.length_append] at hs3
 refine⟨lgo_ok (F:=lrg 5) (bodies m) m.length (fun b hb=>⟨hs.1 b (List.mem_append_left _ hb),lrg_ge 5 b⟩) (by push_cast at hs3;omega),lgo_ok (F:=lrg 5) (bodies n) n.length (fun b hb=>⟨hs.1 b (List.mem_append_right _ hb),lrg_ge 5 b⟩) (by push_cast at hs3;omega)⟩
theorem fine_none {x:Nd} {prev:Option Int} {mark:Bool} (h:fineB x prev mark=true):fineB x none mark=true:=by
 unfold fineB at*
 split
 ·rename_i h1
  rw[if_pos h1] at h
  simp at h⊢
  exact h.1
 ·rename_i h1
  rw[if_neg h1] at h
  exact h
theorem nd_none {G:Bool→List Nd→Int} {x:Nd} {prev:Option Int} {mark:Bool} (h:ndE G x prev mark=0):ndE G x none mark=0:=by
 unfold ndE at*
 split at h
 ·cases h
 ·rename_i h1
  have hf:=fine_none (by simpa using h1)
  rw[hf]
  exact h
theorem ms_none {G:Bool→List Nd→Int} {mark:Bool}: ∀{m:List Nd} {prev:Option Int},msE G mark prev m=0→msE G mark none m=0
 | [],_,_=>rfl
 |x::r,prev,h=>by
  unfold msE at h⊢
  split at h
  ·rename_i h1;exact absurd h h1
  ·rename_i h1
   have h0:=nd_none (Decidable.not_not.1 h1)
   rw[if_neg (by simp[h0])]
   exact h
theorem ms_part {G:Bool→List Nd→Int} {mark:Bool} {n:List Nd}: ∀{m:List Nd} {prev:Option Int},msE G mark prev (m++n)=0→msE G mark prev m=0∧msE G mark none n=0
 | [],prev,h=>⟨rfl,ms_none h⟩
 |x::r,prev,h=>by
  have h':msE G mark prev (x::(r++n))=0:=h
  unfold msE at h'
  split at h'
  ·rename_i h1;exact absurd h' h1
  ·rename_i h1
   have h2:=ms_part (m:=r) h'
   refine⟨?_,h2.2⟩
   unfold msE
   rw[if_neg h1]
   exact h2.1
theorem msg_part {f:Nat} {m n:List Nd} (h:msgE f (m++n)=0):msgE f m=0∧msgE f n=0:=by
 unfold msgE at h
 split at h
 ·cases h
 ·rename_i h1
  have hl:=lrg_part (by simpa using h1)
  unfold msgE
  rw[if_neg (by simp[hl.1]),if_neg (by simp[hl.2])]
  cases f with
  |zero=>exact⟨rfl,rfl⟩
  |succ g=>exact ms_part h
/-- must a name be a number? -/
def numB (l:List Need) (t:List UInt8):Bool:=l.any fun n=>n.1==t&&n.2.1
def nms:Nat→List Nd→List UInt8→Bool
 |0,_,_=>false
 |f+1,m,t=>m.any fun x=>((x.kind==3||x.kind==4)&&x.text==t)||(casesOf x).any fun y=>nms f y.2 t
/-- is there the name? -/
def hasN (l:List Need) (t:List UInt8):Bool:=l.any fun n=>n.1==t
def mnt:Nat→List Nd→List UInt8→Bool
 |0,_,_=>false
 |f+1,m,t=>m.any fun x=>(!(x.kind==1||x.kind==6)&&x.text==t)||(casesOf x).any fun y=>mnt f y.2 t
theorem numB_mod: ∀{l:List Need} {i:Nat} {n:Need} (a b:Bool) (t:List UInt8),l[i]?=some n→numB (l.modify i (orN a b)) t=(numB l t||(n.1==t&&a))
 | [],i,n,a,b,t,h=>by simp at h
 |x::r,0,n,a,b,t,h=>by
  simp at h;subst h
  show(x.1==t&&(x.2.1||a)||numB r t)=(x.1==t&&x.2.1||numB r t||(x.1==t&&a))
  cases x.1==t<;>cases x.2.1<;>cases a<;>cases numB r t<;>rfl
 |x::r,i+1,n,a,b,t,h=>by
  have h':=numB_mod (l:=r) (i:=i) a b t (by simpa using h)
  rw[List.modify_succ_cons]
  show(x.1==t&&x.2.1||numB (r.modify i (orN a b)) t)=(x.1==t&&x.2.1||numB r t||(n.1==t&&a))
  rw[h',Bool.or_assoc]
theorem numB_grown (l:List Need) (t s:List UInt8):numB (grownN l t) s=numB l s:=by
 unfold grownN
 split
 ·rfl
 ·unfold numB;simp
theorem numB_add (l:List Need) (x:Nd) (t:List UInt8):numB (addN l x) t=(numB l t||((x.kind==3||x.kind==4)&&x.text==t)):=by
 unfold addN
 split
 ·rename_i h
  have:(x.kind==3||x.kind==4)=false:=by rcases h with h|h<;>rw[h]<;>rfl
  rw[this];simp
 ·obtain⟨n,hn,e⟩:=grownN_at l x.text
  rw[numB_mod _ _ t hn,numB_grown,e]
  congr 1
  rw[Bool.and_comm]
  congr 1
theorem numB_go {F:List Need→List Nd→List Need} {c:List Nd→Bool} {t:List UInt8} (hF: ∀l b,numB (F l b) t=(numB l t||c b)): ∀(bs:List (List Nd)) (l:List Need),numB (goN F l bs) t=(numB l t||bs.any c)
 | [],l=>by simp[goN]
 |b::r,l=>by
  show numB (goN F (F l b) r) t=_
  rw[numB_go hF r (F l b),hF,List.any_cons,Bool.or_assoc]
theorem numB_all: ∀(f:Nat) (l:List Need) (m:List Nd) (t:List UInt8),numB (allN f l m) t=(numB l t||nms f m t)
 |0,l,m,t=>by simp[allN,nms]
 |f+1,l,m,t=>by
  induction m generalizing l with
  |nil=>simp[allN,nms]
  |cons x r ih=>
   show numB (allN (f+1) (goN (allN f) (addN l x) ((casesOf x).map (·.2))) r) t=_
   rw[ih,numB_go (c:=fun b=>nms f b t) (fun l b=>numB_all f l b t),numB_add]
   show _=(numB l t||(((x.kind==3||x.kind==4)&&x.text==t||(casesOf x).any fun y=>nms f y.2 t)||nms (f+1) r t))
   rw[List.any_map]
   simp only[Bool.or_assoc]
   rfl
theorem hasN_map {l k:List Need} (e:k.map (·.1)=l.map (·.1)) (t:List UInt8):hasN k t=hasN l t:=by
 have key: ∀l:List Need,hasN l t=(l.map (·.1)).contains t:=by
  intro l
  unfold hasN
  induction l with
  |nil=>rfl
  |cons x r ih=>
   rw[List.any_cons,List.map_cons,List.contains_cons,ih]
   congr 1
   rw[Bool.eq_iff_iff,beq_iff_eq,beq_iff_eq]
   exact eq_comm
 rw[key,key,e]
theorem hasN_grown (l:List Need) (t s:List UInt8):hasN (grownN l t) s=(hasN l s||t==s):=by
 unfold grownN
 split
 ·rename_i h
  cases ht:t==s with
  |false=>rw[Bool.or_false]
  |true=>
   have e:t=s:=by simpa using ht
   subst e
   have:=List.findIdx_lt_length.1 h
   rw[show hasN l t=true from List.any_eq_true.2 this];rfl
 ·unfold hasN;rw[List.any_append];simp
theorem hasN_add (l:List Need) (x:Nd) (t:List UInt8):hasN (addN l x) t=(hasN l t||(!(x.kind==1||x.kind==6)&&x.text==t)):=by
 unfold addN
 split
 ·rename_i h
  have:(x.kind==1||x.kind==6)=true:=by rcases h with h|h<;>rw[h]<;>rfl
  rw[this];simp
 ·rename_i h
  have:(x.kind==1||x.kind==6)=false:=by
   rw[Bool.or_eq_false_iff,beq_eq_false_iff_ne,beq_eq_false_iff_ne]
   exact⟨fun e=>h (.inl e),fun e=>h (.inr e)⟩
  rw[this,hasN_map (map_mod _ _ _ _),hasN_grown]
  rfl
theorem hasN_go {F:List Need→List Nd→List Need} {c:List Nd→Bool} {t:List UInt8} (hF: ∀l b,hasN (F l b) t=(hasN l t||c b)): ∀(bs:List (List Nd)) (l:List Need),hasN (goN F l bs) t=(hasN l t||bs.any c)
 | [],l=>by simp[goN]
 |b::r,l=>by
  show hasN (goN F (F l b) r) t=_
  rw[hasN_go hF r (F l b),hF,List.any_cons,Bool.or_assoc]
theorem hasN_all: ∀(f:Nat) (l:List Need) (m:List Nd) (t:List UInt8),hasN (allN f l m) t=(hasN l t||mnt f m t)
 |0,l,m,t=>by simp[allN,mnt]
 |f+1,l,m,t=>by
  induction m generalizing l with
  |nil=>simp[allN,mnt]
  |cons x r ih=>
   show hasN (allN (f+1) (goN (allN f) (addN l x) ((casesOf x).map (·.2))) r) t=_
   rw[ih,hasN_go (c:=fun b=>mnt f b t) (fun l b=>hasN_all f l b t),hasN_add]
   show _=(hasN l t||((!(x.kind==1||x.kind==6)&&x.text==t||(casesOf x).any fun y=>mnt f y.2 t)||mnt (f+1) r t))
   rw[List.any_map]
   simp only[Bool.or_assoc]
   rfl
theorem num_at {l:List Need} (h:Dist l) {n:Need} (hn:n∈l):numB l n.1=n.2.1:=by
 induction l with
 |nil=>cases hn
 |cons x r ih=>
  rw[show Dist (x::r)=List.Nodup (x.1::r.map (·.1)) from rfl,List.nodup_cons] at h
  show(x.1==n.1&&x.2.1||numB r n.1)=_
  rcases List.mem_cons.1 hn with rfl|hm
  ·have:numB r n.1=false:=by
    cases hs:numB r n.1 with
    |false=>rfl
    |true=>
     obtain⟨y,hy,e⟩:=List.any_eq_true.1 hs
     simp at e
     exact absurd (List.mem_map.2 ⟨y,hy,e.1⟩) h.1
   rw[this];simp
  ·have:(x.1==n.1)=false:=by
    rw[beq_eq_false_iff_ne]
    intro e
    exact h.1 (List.mem_map.2 ⟨n,hm,e.symm⟩)
   rw[this,ih h.2 hm];simp
theorem askE_zero {A:List Ag}: ∀{l:List Need},askE A l=0↔ ∀n∈l,∃a,A.find? (fun a=>a.name==n.1)=some a∧((n.2.1&&!a.num)||(n.2.2&&a.num))=false
 | []=>by simp[askE]
 |n::r=>by
  have ih:=askE_zero (A:=A) (l:=r)
  rw[askE_cons]
  cases hf:A.find? (fun a=>a.name==n.1) with
  |none=>
   constructor
   ·intro h;cases h
   ·intro h
    obtain⟨a,ha,_⟩:=h n (by simp)
    rw[hf] at ha;cases ha
  |some a=>
   show(if ((n.2.1&&!a.num)||(n.2.2&&a.num))=true then (7:Int) else askE A r)=0↔_
   constructor
   ·intro h
    split at h
    ·cases h
    ·rename_i hc
     intro k hk
     rcases List.mem_cons.1 hk with rfl|hk
     ·exact⟨a,hf,by simpa using hc⟩
     ·exact ih.1 h k hk
   ·intro h
    obtain⟨a',ha,hc⟩:=h n (by simp)
    rw[hf] at ha
    obtain rfl:a=a':=by simpa using ha
    rw[if_neg (by rw[hc];simp)]
    exact ih.2 fun k hk=>h k (by simp[hk])
/-- what is asked of a part is asked of the whole -/
structure Less (f:Nat) (p m:List Nd):Prop where
 c: ∀t,chs f p t=true→chs f m t=true
 n: ∀t,nms f p t=true→nms f m t=true
 h: ∀t,mnt f p t=true→mnt f m t=true
theorem less_left (f:Nat) (m n:List Nd):Less f m (m++n):=by
 cases f with
 |zero=>exact⟨fun _ h=>h,fun _ h=>h,fun _ h=>h⟩
 |succ f=>refine⟨fun t h=>?_,fun t h=>?_,fun t h=>?_⟩<;>(first|unfold chs at h⊢ |unfold nms at h⊢ |unfold mnt at h⊢)<;>(rw[List.any_append,Bool.or_eq_true];exact .inl h)
theorem less_right (f:Nat) (m n:List Nd):Less f n (m++n):=by
 cases f with
 |zero=>exact⟨fun _ h=>h,fun _ h=>h,fun _ h=>h⟩
 |succ f=>refine⟨fun t h=>?_,fun t h=>?_,fun t h=>?_⟩<;>(first|unfold chs at h⊢ |unfold nms at h⊢ |unfold mnt at h⊢)<;>(rw[List.any_append,Bool.or_eq_true];exact .inr h)
theorem need_of (f:Nat) (m:List Nd) {n:Need} (hn:n∈allN f [] m):n.2.1=nms f m n.1∧n.2.2=chs f m n.1∧mnt f m n.1=true:=by
 have hd:=names_dist f m
 refine⟨?_,?_,?_⟩
 ·rw[←num_at hd hn,numB_all];rfl
 ·rw[←sel_at hd hn,selB_all];rfl
 ·have h1:hasN (allN f [] m) n.1=true:=List.any_eq_true.2 ⟨n,hn,by simp⟩
  rw[hasN_all] at h1
  exact h1
theorem need_there (f:Nat) (m:List Nd) {t:List UInt8} (h:mnt f m t=true): ∃n∈allN f [] m,n.1=t:=by
 have h1:hasN (allN f [] m) t=true:=by rw[hasN_all,h];simp
 obtain⟨n,hn,e⟩:=List.any_eq_true.1 h1
 exact⟨n,hn,by simpa using e⟩
theorem fit_part {f:Nat} {p m:List Nd} {args:List Ag} (hl:Less f p m) (hp:msgE f p=0) (h:fitE f m args=0):fitE f p args=0:=by
 unfold fitE at h
 split at h
 ·rename_i h1;exact absurd h h1
 ·rename_i h1
  have hN:=namE_zero (Decidable.not_not.1 h1)
  split at h
  ·rename_i h2;exact absurd h h2
  ·rename_i h2
   have hA:=Decidable.not_not.1 h2
   have hK:=askE_zero.1 h
   have hns:namE f p=0:=by
    unfold namE
    rw[if_neg (by simp[hp]),if_neg]
    intro hc
    obtain⟨n,hn,e⟩:=List.any_eq_true.1 hc
    obtain⟨q1,q2,q3⟩:=need_of f p hn
    rw[Bool.and_eq_true,q1,q2] at e
    obtain⟨k,hk,ek⟩:=need_there f m (hl.h _ q3)
    obtain⟨r1,r2,_⟩:=need_of f m hk
    rw[ek] at r1 r2
    have:=any_not hN.2.1 k hk
    rw[r1,r2,hl.n _ e.1,hl.c _ e.2] at this
    cases this
   unfold fitE
   rw[if_neg (by simp[hns]),if_neg (by simp[hA])]
   refine askE_zero.2 fun n hn=>?_
   obtain⟨q1,q2,q3⟩:=need_of f p hn
   obtain⟨k,hk,ek⟩:=need_there f m (hl.h _ q3)
   obtain⟨r1,r2,_⟩:=need_of f m hk
   obtain⟨a,ha,hc⟩:=hK k hk
   rw[ek] at ha r1 r2
   refine⟨a,ha,?_⟩
   rw[Bool.or_eq_false_iff] at hc⊢
   constructor
   ·cases hx:n.2.1 with
    |false=>rfl
    |true=>
     have:k.2.1=true:=by rw[r1];exact hl.n _ (by rw[←q1];exact hx)
     rw[this] at hc
     simpa using hc.1
   ·cases hx:n.2.2 with
    |false=>rfl
    |true=>
     have:k.2.2=true:=by rw[r2];exact hl.c _ (by rw[←q2];exact hx)
     rw[this] at hc
     simpa using hc.2
end Ms
open Go.RowKit
namespace Ms
/-- the value of a name -/
def valA (args:List Ag) (t:List UInt8):Bool×Int×Int×List UInt8:=match args.find? (fun a=>a.name==t) with
 |some a=>(a.num,a.co,a.sc,a.txt)
 |none=>(false,0,0,[])
/-- words, a text, words, a number -/
def plM (s:List UInt8):List Nd:= [.mk 1 (60::s) 0 [],.mk 2 [97] 0 [],.mk 1 [62] 0 [],.mk 3 [98] 0 []]
def plA (t:List UInt8) (c d:Int):List Ag:= [⟨[98],true,c,d,[]⟩,⟨[97],false,0,0,t⟩]
theorem pl_msg (s:List UInt8):msgE 1 (plM s)=0:=rfl
theorem pl_names (s:List UInt8):allN 1 [] (plM s)= [([97],false,false),([98],true,false)]:=rfl
theorem pl_namE (s:List UInt8):namE 1 (plM s)=0:=by
 unfold namE
 rw[pl_msg,pl_names]
 rfl
theorem pl_fit (s t:List UInt8) (c d:Int):fitE 1 (plM s) (plA t c d)=if Dcm.okD c d then 0 else 1:=by
 unfold fitE
 rw[pl_namE,pl_names]
 have ha:nameB [97]=true:=by decide+kernel
 have hb:nameB [98]=true:=by decide+kernel
 have e0:argE [] (plA t c d)=if badA ⟨[98],true,c,d,[]⟩=true then 1 else 0:=by
  show(if (!nameB [98])=true then (3:Int) else if (true&&badA ⟨[98],true,c,d,[]⟩)=true then 1 else if hasA [] [98]=true then 5 else if (!nameB [97])=true then 3 else if (false&&badA ⟨[97],false,0,0,t⟩)=true then 1 else if hasA [⟨[98],true,c,d,[]⟩] [97]=true then 5 else 0)=_
  rw[ha,hb]
  rfl
 rw[e0]
 by_cases h:Dcm.okD c d
 ·have:badA ⟨[98],true,c,d,[]⟩=false:=by unfold badA;simp[h]
  rw[this,if_pos h]
  rfl
 ·have:badA ⟨[98],true,c,d,[]⟩=true:=by unfold badA;simp[h]
  rw[this,if_neg h]
  rfl
theorem pl_said (E:Ev) (s t:List UInt8) (c d:Int):saidM E (valA (plA t c d)) 1 0 0 (plM s)=some ((60::s)++(t++([62]++(E.num c d++ [])))):=rfl
/-- marks, within a Plural, within a Plural and a Select -/
def mkM (o i:Int):List Nd:= [.mk 4 [110] o [(other,[.mk 6 [] 0 [],.mk 4 [110] i [(other,[.mk 5 [115] 0 [(other,[.mk 6 [] 0 []])]])],.mk 6 [] 0 []])]]
def mkA (c d:Int):List Ag:= [⟨[110],true,c,d,[]⟩,⟨[115],false,0,0,[]⟩]
theorem one_cnt (E:Ev) (b:List Nd) (c s lc ls:Int):cntI E [(other,b)] c s lc ls=0:=by
 unfold cntI exI keyI
 simp only[List.findIdx?_cons,List.findIdx?_nil,Option.map_none]
 split<;>split<;>rfl
theorem one_cho (b:List Nd) (t:List UInt8):choI [(other,b)] t=0:=by
 unfold choI keyI
 simp only[List.findIdx?_cons,List.findIdx?_nil,Option.map_none]
 split<;>rfl
theorem said4 (E:Ev) (val:List UInt8→Bool×Int×Int×List UInt8) (G:Int→Int→List Nd→Option (List UInt8)) (mc ms:Int) (t:List UInt8) (o:Int) (b:List Nd):saidX E val G mc ms (.mk 4 t o [(other,b)])=match E.less (val t).2.1 (val t).2.2.1 o with
  |none=>none
  |some l=>G l.1 l.2 b:=by
 show(match E.less (val t).2.1 (val t).2.2.1 o with
  |none=>none
  |some l=>G l.1 l.2 (bodyI (.mk 4 t o [(other,b)]) (cntI E [(other,b)] (val t).2.1 (val t).2.2.1 l.1 l.2)))=_
 cases E.less (val t).2.1 (val t).2.2.1 o with
 |none=>rfl
 |some l=>
  show G l.1 l.2 (bodyI (.mk 4 t o [(other,b)]) (cntI E [(other,b)] (val t).2.1 (val t).2.2.1 l.1 l.2))=G l.1 l.2 b
  rw[one_cnt]
  rfl
theorem said5 (E:Ev) (val:List UInt8→Bool×Int×Int×List UInt8) (G:Int→Int→List Nd→Option (List UInt8)) (mc ms:Int) (t:List UInt8) (o:Int) (b:List Nd):saidX E val G mc ms (.mk 5 t o [(other,b)])=G mc ms b:=by
 show G mc ms (bodyI (.mk 5 t o [(other,b)]) (choI [(other,b)] (val t).2.2.2))=_
 rw[one_cho]
 rfl
theorem said6 (E:Ev) (val:List UInt8→Bool×Int×Int×List UInt8) (G:Int→Int→List Nd→Option (List UInt8)) (mc ms:Int) (t:List UInt8) (o:Int) (cs:Cs):saidX E val G mc ms (.mk 6 t o cs)=some (E.num mc ms):=rfl
theorem mk_said (E:Ev) (o i c d:Int):saidM E (valA (mkA c d)) 4 0 0 (mkM o i)=match E.less c d o with
  |none=>none
  |some a=>match E.less c d i with
   |none=>none
   |some b=>some (E.num a.1 a.2++(E.num b.1 b.2++E.num a.1 a.2)):=by
 have v:valA (mkA c d) [110]=(true,c,d,[]):=rfl
 unfold mkM
 simp only[saidM,catM,said4,said5,said6,v]
 cases E.less c d o with
 |none=>rfl
 |some a=>
  cases E.less c d i with
  |none=>rfl
  |some b=>simp
theorem cs_one {G:Bool→List Nd→Int} {x:Nd} {mark:Bool} {b:List Nd} (hk:keyB x other=true) (hG:G (mark||decide (x.kind=4)) b=0):csE G x mark [] [(other,b)]=0:=by
 unfold csE
 rw[hk,if_neg (by simp),if_neg (by simp),hG,if_neg (by simp)]
 unfold csE
 rw[if_pos (by simp[List.contains_eq_mem])]
theorem nd_plural {G:Bool→List Nd→Int} {t:List UInt8} {o:Int} {cs:Cs} {prev:Option Int} {mark:Bool} (ht:nameB t=true) (h0:0≤o) (h1:o≤9) (hc:csE G (.mk 4 t o cs) mark [] cs=0):ndE G (.mk 4 t o cs) prev mark=0:=by
 unfold ndE
 have hf:fineB (.mk 4 t o cs) prev mark=true:=ht
 have ho: ¬(o<0∨9<o):=by omega
 rw[hf,if_neg (by simp),if_neg (fun h=>ho h.2)]
 exact hc
theorem nd_select {G:Bool→List Nd→Int} {t:List UInt8} {o:Int} {cs:Cs} {prev:Option Int} {mark:Bool} (ht:nameB t=true) (hc:csE G (.mk 5 t o cs) mark [] cs=0):ndE G (.mk 5 t o cs) prev mark=0:=by
 unfold ndE
 have hf:fineB (.mk 5 t o cs) prev mark=true:=ht
 rw[hf,if_neg (by simp),if_neg (fun h=>absurd (show(5:Int)=4 from h.1) (by decide))]
 exact hc
theorem ms_cons {G:Bool→List Nd→Int} {mark:Bool} {prev:Option Int} {x:Nd} {r:List Nd} (h:ndE G x prev mark=0) (h2:msE G mark (some x.kind) r=0):msE G mark prev (x::r)=0:=by
 unfold msE
 rw[h,if_neg (by simp)]
 exact h2
theorem mk_msg {o i:Int} (ho:0≤o∧o≤9) (hi:0≤i∧i≤9):msgE 4 (mkM o i)=0:=by
 have hn:nameB [110]=true:=by decide+kernel
 have hs:nameB [115]=true:=by decide+kernel
 have k4: ∀t o cs,keyB (.mk 4 t o cs) other=true:=fun t o cs=>by
  show(five.contains other||other==other||decide (0≤exV other))=true
  simp
 have k5: ∀t o cs,keyB (.mk 5 t o cs) other=true:=fun t o cs=>by
  show nameB other=true
  decide+kernel
 unfold msgE
 rw[show(lrg 6 (mkM o i)).2=false from rfl,if_neg (by simp)]
 show msE (chk 3) false none (mkM o i)=0
 refine ms_cons (nd_plural hn ho.1 ho.2 (cs_one (k4 _ _ _) ?_)) rfl
 show msE (chk 2) true none [.mk 6 [] 0 [],.mk 4 [110] i [(other,[.mk 5 [115] 0 [(other,[.mk 6 [] 0 []])]])],.mk 6 [] 0 []]=0
 refine ms_cons rfl (ms_cons (nd_plural hn hi.1 hi.2 (cs_one (k4 _ _ _) ?_)) rfl)
 show msE (chk 1) true none [.mk 5 [115] 0 [(other,[.mk 6 [] 0 []])]]=0
 refine ms_cons (nd_select hs (cs_one (k5 _ _ _) ?_)) rfl
 rfl
theorem mk_names (o i:Int):allN 4 [] (mkM o i)= [([110],true,false),([115],false,true)]:=rfl
theorem mk_fit {o i c d:Int} (ho:0≤o∧o≤9) (hi:0≤i∧i≤9) (h:Dcm.okD c d):fitE 4 (mkM o i) (mkA c d)=0:=by
 have hn:namE 4 (mkM o i)=0:=by
  unfold namE
  rw[mk_msg ho hi,mk_names]
  rfl
 unfold fitE
 rw[hn,mk_names]
 have ha:nameB [110]=true:=by decide+kernel
 have hs:nameB [115]=true:=by decide+kernel
 have hb:badA ⟨[110],true,c,d,[]⟩=false:=by unfold badA;simp[h]
 have e0:argE [] (mkA c d)=0:=by
  show(if (!nameB [110])=true then (3:Int) else if (true&&badA ⟨[110],true,c,d,[]⟩)=true then 1 else if hasA [] [110]=true then 5 else if (!nameB [115])=true then 3 else if (false&&badA ⟨[115],false,0,0,[]⟩)=true then 1 else if hasA [⟨[110],true,c,d,[]⟩] [115]=true then 5 else 0)=0
  rw[ha,hb,hs]
  rfl
 rw[e0]
 rfl
end Ms
open Go.RowKit
namespace Ms
/-- what a right node gives a walk -/
structure WfX (nm:List UInt8→Bool) (G:List Nd→Prop) (x:Nd):Prop where
 kind:x.kind=1∨x.kind=2∨x.kind=3∨x.kind=4∨x.kind=5∨x.kind=6
 off:x.kind=4→0≤x.off∧x.off≤9
 num:x.kind=3∨x.kind=4→nm x.text=true
 some:x.kind=4∨x.kind=5→x.cases≠ []
 once:x.kind=4∨x.kind=5→(x.cases.map (·.1)).Nodup
 body:x.kind=4∨x.kind=5→ ∀y∈x.cases,G y.2
def WfM (nm:List UInt8→Bool):Nat→List Nd→Prop
 |0,_=>True
 |f+1,m=> ∀x∈m,WfX nm (WfM nm f) x
theorem csE_fine {G:Bool→List Nd→Int} {x:Nd} {mark:Bool}: ∀(l:List (List UInt8×List Nd)) (seen:List (List UInt8)),csE G x mark seen l=0→(∀k∈seen,k∉l.map (·.1))∧(l.map (·.1)).Nodup∧(seen++l.map (·.1)).contains other=true
 | [],seen,h=>by
  unfold csE at h
  refine⟨by simp,by simp,?_⟩
  cases hc:seen.contains other with
  |true=>simpa using hc
  |false=>rw[hc] at h;simp at h
 |y::r,seen,h=>by
  unfold csE at h
  split at h
  ·simp at h
  ·split at h
   ·simp at h
   ·rename_i _ h1
    split at h
    ·rename_i h2;exact absurd h h2
    ·obtain⟨a1,a2,a3⟩:=csE_fine r (seen++ [y.1]) h
     have h1':y.1∉seen:=by simpa using h1
     refine⟨fun k hk=>?_,?_,?_⟩
     ·rw[List.map_cons,List.mem_cons]
      rintro(e|e)
      ·exact h1' (e▸hk)
      ·exact a1 k (by simp[hk]) e
     ·rw[List.map_cons,List.nodup_cons]
      exact⟨a1 y.1 (by simp),a2⟩
     ·rw[List.append_assoc] at a3
      exact a3
theorem nd_fine {G:Bool→List Nd→Int} {x:Nd} {prev:Option Int} {mark:Bool} (h:ndE G x prev mark=0):
  (x.kind=1∨x.kind=2∨x.kind=3∨x.kind=4∨x.kind=5∨x.kind=6)∧(x.kind=4→0≤x.off∧x.off≤9)∧(x.kind=4∨x.kind=5→csE G x mark [] x.cases=0):=by
 unfold ndE at h
 split at h
 ·simp at h
 ·rename_i h1
  split at h
  ·simp at h
  ·rename_i h2
   refine⟨?_,fun h4=>?_,fun h45=>?_⟩
   ·have h1':fineB x prev mark=true:=by simpa using h1
    unfold fineB at h1'
    split at h1'
    ·rename_i e;exact .inl e
    ·split at h1'
     ·rename_i e;rcases e with e|e|e|e<;>simp[e]
     ·have:x.kind=6:=by
       rw[Bool.and_eq_true] at h1'
       exact of_decide_eq_true h1'.1
      simp[this]
   ·omega
   ·rwa [if_pos h45] at h
theorem ms_each {G:Bool→List Nd→Int} {mark:Bool}: ∀{m:List Nd} {prev:Option Int},msE G mark prev m=0→ ∀x∈m,∃p,ndE G x p mark=0
 | [],_,_,x,hx=>by simp at hx
 |y::r,prev,h,x,hx=>by
  unfold msE at h
  split at h
  ·rename_i h1;exact absurd h h1
  ·rename_i h1
   rcases List.mem_cons.1 hx with rfl|hx
   ·exact⟨prev,by simpa using h1⟩
   ·exact ms_each h x hx
theorem wf_of (nm:List UInt8→Bool): ∀(f:Nat) (mark:Bool) (m:List Nd),chk f mark m=0→(∀t,nms f m t=true→nm t=true)→WfM nm f m
 |0,_,_,_,_=>trivial
 |f+1,mark,m,h,hn=>by
  intro x hx
  obtain⟨p,hp⟩:=ms_each (show msE (chk f) mark none m=0 from h) x hx
  obtain⟨h1,h2,h3⟩:=nd_fine hp
  refine⟨h1,h2,fun h34=>hn _ ?_,fun h45=>?_,fun h45=>(csE_fine _ _ (h3 h45)).2.1,fun h45 y hy=>?_⟩
  ·unfold nms
   rw[List.any_eq_true]
   refine⟨x,hx,?_⟩
   rcases h34 with e|e<;>simp[e]
  ·intro e
   have:=(csE_fine _ _ (h3 h45)).2.2
   rw[e] at this
   exact absurd this (by decide)
  ·refine wf_of nm f (mark||decide (x.kind=4)) y.2 (csE_bodies _ _ (h3 h45) y hy) fun t ht=>hn t ?_
   unfold nms
   rw[List.any_eq_true]
   refine⟨x,hx,?_⟩
   rw[Bool.or_eq_true]
   refine .inr (List.any_eq_true.2 ⟨y,?_,ht⟩)
   unfold casesOf
   rwa [if_pos h45]
/-- right args: the numbers among them are right -/
theorem arg_okd: ∀(A d:List Ag),argE d A=0→ ∀a∈A,a.num=true→Dcm.okD a.co a.sc
 | [],_,_,a,ha,_=>by simp at ha
 |b::r,d,h,a,ha,hn=>by
  unfold argE at h
  split at h
  ·simp at h
  ·split at h
   ·simp at h
   ·rename_i h2
    split at h
    ·simp at h
    ·rcases List.mem_cons.1 ha with rfl|ha
     ·have:badA a=false:=by simpa[hn] using h2
      unfold badA at this
      simpa using this
     ·exact arg_okd r _ h a ha hn
/-- .. and of different names -/
theorem arg_once: ∀(A d:List Ag),argE d A=0→(∀a∈d,a.name∉A.map (·.name))∧(A.map (·.name)).Nodup
 | [],_,_=>by simp
 |b::r,d,h=>by
  unfold argE at h
  split at h
  ·simp at h
  ·split at h
   ·simp at h
   ·split at h
    ·simp at h
    ·rename_i h3
     obtain⟨h4,h5⟩:=arg_once r _ h
     have h3': ∀a∈d,a.name≠b.name:=by
      intro a ha e
      apply h3
      unfold hasA
      exact List.any_eq_true.2 ⟨a,ha,by simp[e]⟩
     refine⟨fun a ha=>?_,?_⟩
     ·rw[List.map_cons,List.mem_cons]
      rintro(e|e)
      ·exact h3' a ha e
      ·exact h4 a (by simp[ha]) e
     ·rw[List.map_cons,List.nodup_cons]
      exact⟨h4 b (by simp),h5⟩
theorem nms_mnt: ∀(f:Nat) (m:List Nd) (t:List UInt8),nms f m t=true→mnt f m t=true
 |0,m,t,h=>by simp[nms] at h
 |f+1,m,t,h=>by
  unfold nms at h
  unfold mnt
  rw[List.any_eq_true] at h⊢
  obtain⟨x,hx,hxt⟩:=h
  refine⟨x,hx,?_⟩
  rw[Bool.or_eq_true] at hxt⊢
  rcases hxt with hxt|hxt
  ·refine .inl ?_
   simp only[Bool.and_eq_true,Bool.or_eq_true,beq_iff_eq] at hxt
   rcases hxt with⟨e|e,e2⟩<;>simp[e,e2]
  ·refine .inr ?_
   rw[List.any_eq_true] at hxt⊢
   obtain⟨y,hy,hyt⟩:=hxt
   exact⟨y,hy,nms_mnt f y.2 t hyt⟩
/-- a message and args that fit -/
theorem wf_fit {f:Nat} {m:List Nd} {args:List Ag} (h:fitE f m args=0):WfM (fun t=>(valA args t).1) f m∧argE [] args=0∧cnt f m≤60:=by
 unfold fitE at h
 split at h
 ·rename_i h1;exact absurd h h1
 ·rename_i h1
  have h1':namE f m=0:=by simpa using h1
  split at h
  ·rename_i h2;exact absurd h h2
  ·rename_i h2
   have h2':argE [] args=0:=by simpa using h2
   obtain⟨hm,_,_⟩:=namE_zero h1'
   refine⟨?_,h2',cnt_small hm⟩
   unfold msgE at hm
   split at hm
   ·simp at hm
   ·refine wf_of _ f false m hm fun t ht=>?_
    have hmt:mnt f m t=true:=nms_mnt f m t ht
    obtain⟨n,hn,e⟩:=need_there f m hmt
    obtain⟨a,ha,hb⟩:=askE_zero.1 h n hn
    have hq:=(need_of f m hn).1
    rw[e,ht] at hq
    rw[hq] at hb
    unfold valA
    rw[e] at ha
    rw[ha]
    show a.num=true
    cases hz:a.num with
    |true=>rfl
    |false=>rw[hz] at hb;simp at hb
end Ms
open Go.RowKit Ms
/-- what the rules L give -/
def evS (L:List (List UInt8)):Ev where
 num:=numM
 dtx:=Byt.decText
 kind c s:=Rul.kindS L (Rul.opsD c s) 0
 less c s o:=if addOk c s (-o) 0 then some (Dcm.addC c s (-o) 0,Dcm.addS s 0) else none
 same c s n:=decide (Dcm.nrm c s=Dcm.nrm n 0)
namespace Ms
/-- is there room? -/
def roomE (o:Option (List UInt8)):Int:=if o.isSome then 0 else 1
/-- what is said behind l, if there is room -/
def SaidIs (o:Option (List UInt8)) (l l':List UInt8):Prop:= ∀t,o=some t→l'=l++t
/-- the arg of a name -/
def argOf (args:List Ag) (t:List UInt8):Ag:=(args.find? fun a=>a.name==t).getD ⟨[],false,0,0,[]⟩
theorem val_arg (args:List Ag) (t:List UInt8):valA args t=((argOf args t).num,(argOf args t).co,(argOf args t).sc,(argOf args t).txt):=by
 unfold valA argOf
 cases args.find? fun a=>a.name==t<;>rfl
theorem arg_in {args:List Ag} {t:List UInt8} (h:(argOf args t).num=true):argOf args t∈args:=by
 unfold argOf at*
 cases hf:args.find? fun a=>a.name==t with
 |none=>rw[hf] at h;simp at h
 |some a=>exact List.mem_of_find?_eq_some hf
theorem arg_txt {args:List Ag} {K:Nat} (h: ∀a∈args,a.txt.length≤K) (t:List UInt8):(argOf args t).txt.length≤K:=by
 unfold argOf
 cases hf:args.find? fun a=>a.name==t with
 |none=>exact Nat.zero_le _
 |some a=>exact h a (List.mem_of_find?_eq_some hf)
theorem cat_none {F:Nd→Option (List UInt8)} {m:List Nd} {i:Nat} {x:Nd} {p:List UInt8} (h:m[i]?=some x) (hF:F x=none):(catM F (m.drop i)).map (p++ ·)=none:=by
 obtain⟨hi,e⟩:=List.getElem?_eq_some_iff.1 h
 rw[List.drop_eq_getElem_cons hi,e]
 show Option.map _ (match F x with|none=>none|some t=>(catM F (m.drop (i+1))).map (t++ ·))=none
 rw[hF]
 rfl
theorem cat_some {F:Nd→Option (List UInt8)} {m:List Nd} {i:Nat} {x:Nd} {p t:List UInt8} (h:m[i]?=some x) (hF:F x=some t):(catM F (m.drop i)).map (p++ ·)=(catM F (m.drop (i+1))).map ((p++t)++ ·):=by
 obtain⟨hi,e⟩:=List.getElem?_eq_some_iff.1 h
 rw[List.drop_eq_getElem_cons hi,e]
 show Option.map _ (match F x with|none=>none|some t=>(catM F (m.drop (i+1))).map (t++ ·))=_
 rw[hF]
 show Option.map _ ((catM F (m.drop (i+1))).map (t++ ·))=_
 rw[Option.map_map]
 congr 1
 funext z
 exact(List.append_assoc p t z).symm
theorem cat_end {F:Nd→Option (List UInt8)} {m:List Nd} {i:Nat} {p:List UInt8} (h:m.length≤i):(catM F (m.drop i)).map (p++ ·)=some p:=by
 rw[List.drop_of_length_le h]
 show some (p++ [])=some p
 rw[List.append_nil]
theorem less_okd {L:List (List UInt8)} {c s o:Int} {l:Int×Int} (h:(evS L).less c s o=some l):Dcm.okD l.1 l.2:=by
 have h':(if addOk c s (-o) 0 then some (Dcm.addC c s (-o) 0,Dcm.addS s 0) else none)=some l:=h
 split at h'
 ·rename_i ha
  injection h' with h'
  subst h'
  obtain⟨h1,h2,h3,h4⟩:=ha
  obtain⟨s0,s9,_,_⟩:=h1
  refine⟨?_,?_,h3,h4⟩<;>(show _;unfold Dcm.addS;split<;>omega)
 ·cases h'
theorem numM_len (c s:Int) (h:Dcm.okD c s):(numM c s).length≤700:=by
 unfold numM ftxt
 split
 ·have:=Nt.shown_len patM 46 44 c s h (by decide)
  simpa[patM] using this
 ·simp
theorem numM_shown {c s:Int} (h:Dcm.okD c s):numM c s=Nt.shown patM 46 44 c s:=by
 unfold numM ftxt
 rw[if_pos]
 unfold Nt.fmtE
 rw[if_neg (by decide)]
 exact if_pos h
theorem dtx_len (c s:Int) (h:Dcm.okD c s):(Byt.decText c s).length≤100:=Byt.dec_len c s h
end Ms
end Go.Proofs.YtldbfkccieipjaaGreatDoor
namespace Rul
open Go Go.Lib Go.Proofs.YtldbfkccieipjaaGreatDoor

def ruOneR:Rule:= [[⟨118,0,false,[(0,0)]⟩,⟨105,10,false,[(1,1)]⟩,⟨105,100,true,[(11,11)]⟩]]
def ruOneS:List UInt8:= [118,32,61,32,48,32,97,110,100,32,105,32,37,32,49,48,32,61,32,49,32,97,110,100,32,105,32,37,32,49,48,48,32,33,61,32,49,49]
theorem ruOne_p:parseOk ruOneS=true∧ruleP ruOneS=ruOneR:=by
 have:=parse_text (r:=ruOneR) (by decide)
 rwa [show ruleT ruOneR=ruOneS by decide+kernel] at this
def slavR:Rule:= [[⟨118,0,false,[(0,0)]⟩,⟨105,10,false,[(2,4)]⟩,⟨105,100,true,[(12,14)]⟩]]
def slavS:List UInt8:= [118,32,61,32,48,32,97,110,100,32,105,32,37,32,49,48,32,61,32,50,46,46,52,32,97,110,100,32,105,32,37,32,49,48,48,32,33,61,32,49,50,46,46,49,52]
theorem slav_p:parseOk slavS=true∧ruleP slavS=slavR:=by
 have:=parse_text (r:=slavR) (by decide)
 rwa [show ruleT slavR=slavS by decide+kernel] at this
def ruManyR:Rule:= [[⟨118,0,false,[(0,0)]⟩,⟨105,10,false,[(0,0)]⟩],[⟨118,0,false,[(0,0)]⟩,⟨105,10,false,[(5,9)]⟩],[⟨118,0,false,[(0,0)]⟩,⟨105,100,false,[(11,14)]⟩]]
def ruManyS:List UInt8:= [118,32,61,32,48,32,97,110,100,32,105,32,37,32,49,48,32,61,32,48,32,111,114,32,118,32,61,32,48,32,97,110,100,32,105,32,37,32,49,48,32,61,32,53,46,46,57,32,111,114,32,118,32,61,32,48,32,97,110,100,32,105,32,37,32,49,48,48,32,61,32,49,49,46,46,49,52]
theorem ruMany_p:parseOk ruManyS=true∧ruleP ruManyS=ruManyR:=by
 have:=parse_text (r:=ruManyR) (by decide)
 rwa [show ruleT ruManyR=ruManyS by decide+kernel] at this
def plManyR:Rule:= [[⟨118,0,false,[(0,0)]⟩,⟨105,0,true,[(1,1)]⟩,⟨105,10,false,[(0,1)]⟩],[⟨118,0,false,[(0,0)]⟩,⟨105,10,false,[(5,9)]⟩],[⟨118,0,false,[(0,0)]⟩,⟨105,100,false,[(12,14)]⟩]]
def plManyS:List UInt8:= [118,32,61,32,48,32,97,110,100,32,105,32,33,61,32,49,32,97,110,100,32,105,32,37,32,49,48,32,61,32,48,46,46,49,32,111,114,32,118,32,61,32,48,32,97,110,100,32,105,32,37,32,49,48,32,61,32,53,46,46,57,32,111,114,32,118,32,61,32,48,32,97,110,100,32,105,32,37,32,49,48,48,32,61,32,49,50,46,46,49,52]
theorem plMany_p:parseOk plManyS=true∧ruleP plManyS=plManyR:=by
 have:=parse_text (r:=plManyR) (by decide)
 rwa [show ruleT plManyR=plManyS by decide+kernel] at this
def enOneR:Rule:= [[⟨105,0,false,[(1,1)]⟩,⟨118,0,false,[(0,0)]⟩]]
def enOneS:List UInt8:= [105,32,61,32,49,32,97,110,100,32,118,32,61,32,48]
theorem enOne_p:parseOk enOneS=true∧ruleP enOneS=enOneR:=by
 have:=parse_text (r:=enOneR) (by decide)
 rwa [show ruleT enOneR=enOneS by decide+kernel] at this
def frOneR:Rule:= [[⟨105,0,false,[(0,0),(1,1)]⟩]]
def frOneS:List UInt8:= [105,32,61,32,48,44,49]
theorem frOne_p:parseOk frOneS=true∧ruleP frOneS=frOneR:=by
 have:=parse_text (r:=frOneR) (by decide)
 rwa [show ruleT frOneR=frOneS by decide+kernel] at this
def arZeroR:Rule:= [[⟨110,0,false,[(0,0)]⟩]]
def arZeroS:List UInt8:= [110,32,61,32,48]
theorem arZero_p:parseOk arZeroS=true∧ruleP arZeroS=arZeroR:=by
 have:=parse_text (r:=arZeroR) (by decide)
 rwa [show ruleT arZeroR=arZeroS by decide+kernel] at this
def arOneR:Rule:= [[⟨110,0,false,[(1,1)]⟩]]
def arOneS:List UInt8:= [110,32,61,32,49]
theorem arOne_p:parseOk arOneS=true∧ruleP arOneS=arOneR:=by
 have:=parse_text (r:=arOneR) (by decide)
 rwa [show ruleT arOneR=arOneS by decide+kernel] at this
def arTwoR:Rule:= [[⟨110,0,false,[(2,2)]⟩]]
def arTwoS:List UInt8:= [110,32,61,32,50]
theorem arTwo_p:parseOk arTwoS=true∧ruleP arTwoS=arTwoR:=by
 have:=parse_text (r:=arTwoR) (by decide)
 rwa [show ruleT arTwoR=arTwoS by decide+kernel] at this
def arFewR:Rule:= [[⟨110,100,false,[(3,10)]⟩]]
def arFewS:List UInt8:= [110,32,37,32,49,48,48,32,61,32,51,46,46,49,48]
theorem arFew_p:parseOk arFewS=true∧ruleP arFewS=arFewR:=by
 have:=parse_text (r:=arFewR) (by decide)
 rwa [show ruleT arFewR=arFewS by decide+kernel] at this
def arManyR:Rule:= [[⟨110,100,false,[(11,99)]⟩]]
def arManyS:List UInt8:= [110,32,37,32,49,48,48,32,61,32,49,49,46,46,57,57]
theorem arMany_p:parseOk arManyS=true∧ruleP arManyS=arManyR:=by
 have:=parse_text (r:=arManyR) (by decide)
 rwa [show ruleT arManyR=arManyS by decide+kernel] at this

theorem text_ok {t:List UInt8} {R:Rule} (h:parseOk t=true∧ruleP t=R):textOk t=true:=by
 unfold textOk
 rw[h.1,Bool.or_true]
def ruL:List (List UInt8):= [[],ruOneS,[],slavS,ruManyS]
def plL:List (List UInt8):= [[],enOneS,[],slavS,plManyS]
def arL:List (List UInt8):= [arZeroS,arOneS,arTwoS,arFewS,arManyS]
def enL:List (List UInt8):= [[],enOneS,[],[],[]]
def frL:List (List UInt8):= [[],frOneS,[],[],[]]
def jaL:List (List UInt8):= [[],[],[],[],[]]
theorem none_ok:textOk []=true:=rfl
theorem ru_ok:setOk ruL=true:=by simp[setOk,ruL,text_ok ruOne_p,text_ok slav_p,text_ok ruMany_p,none_ok]
theorem pl_ok:setOk plL=true:=by simp[setOk,plL,text_ok enOne_p,text_ok slav_p,text_ok plMany_p,none_ok]
theorem ar_ok:setOk arL=true:=by simp[setOk,arL,text_ok arZero_p,text_ok arOne_p,text_ok arTwo_p,text_ok arFew_p,text_ok arMany_p]
theorem en_ok:setOk enL=true:=by simp[setOk,enL,text_ok enOne_p,none_ok]
theorem fr_ok:setOk frL=true:=by simp[setOk,frL,text_ok frOne_p,none_ok]
theorem ja_ok:setOk jaL=true:=by simp[setOk,jaL,none_ok]
end Rul
namespace Go.Proofs.YtldbfkccieipjaaGreatDoor
open Go.RowKit Go.MapKept

theorem map_new {P:Program} (T K E:TypeId) (hT:P.underlying T=some (.map K E)) (hK:P.underlying K=some .string) (es:Array MapEntry) (c:Nat) (k:ByteArray) (v:Value)
  (hf:Instr.findNow .string (.string k) es.toList 0=some none) (w:World):
  (Instr.mapUpdate T (.map (some w.heap.size)) (.string k) v).run P (w.alloc (.map es c))= .ok () (w.alloc (.map (es.push {key:= .string k,val:=v,born:=c}) (c+1))):=by
 have hb:(w.alloc (.map es c)).heap[w.heap.size]?=some (.map es c):=by show(w.heap.push _)[w.heap.size]?=_;simp
 have e:({(w.alloc (.map es c)) with heap:=(w.alloc (.map es c)).heap.setIfInBounds w.heap.size (.map (es.push {key:= .string k,val:=v,born:=c}) (c+1))}:World)=w.alloc (.map (es.push {key:= .string k,val:=v,born:=c}) (c+1)):=by
  show({w with heap:=(w.heap.push _).setIfInBounds w.heap.size _}:World)={w with heap:=w.heap.push _}
  congr 1
  apply Array.ext_getElem?
  intro i
  rw[Array.getElem?_setIfInBounds]
  simp only[Array.getElem?_push,Array.size_push]
  by_cases h:w.heap.size=i
  ·subst h;simp
  ·simp[h,Ne.symm h]
 rw[←e]
 simp[Instr.mapUpdate,run_underlying hT,MapKept.run_getObj_map hb,run_checkKey hK (show IsKey .string (.string k) from trivial),run_findKey hK hf,MapKept.run_setObj_map _ hb,Result.andThen]
theorem map_look {P:Program} (T K E:TypeId) (hT:P.underlying T=some (.map K E)) (hK:P.underlying K=some .string) (es:Array MapEntry) (c r i:Nat) (k:ByteArray) (v:Value) (w:World)
  (hb:w.heap[r]?=some (.map es c)) (hf:Instr.findNow .string (.string k) es.toList 0=some (some (i,v))):
  (Instr.lookup T (.map (some r)) (.string k) true).run P w= .ok (.tuple #[v,.bool true]) w:=by
 simp[Instr.lookup,run_underlying hT,MapKept.run_getObj_map hb,run_checkKey hK (show IsKey .string (.string k) from trivial),run_findKey hK hf,Result.andThen]
theorem map_none {P:Program} (T K E:TypeId) (hT:P.underlying T=some (.map K E)) (hK:P.underlying K=some .string) (es:Array MapEntry) (c r:Nat) (k:ByteArray) (z:Value) (w:World)
  (hz:(zeroValue E).run P w= .ok z w) (hb:w.heap[r]?=some (.map es c)) (hf:Instr.findNow .string (.string k) es.toList 0=some none):
  (Instr.lookup T (.map (some r)) (.string k) true).run P w= .ok (.tuple #[z,.bool false]) w:=by
 simp[Instr.lookup,run_underlying hT,MapKept.run_getObj_map hb,run_checkKey hK (show IsKey .string (.string k) from trivial),run_findKey hK hf,hz,Result.andThen]
theorem top_alloc (w:World) (o:Obj) (n:Nat) (h:n=w.heap.size):(w.alloc o).heap[n]?=some o:=by subst h;show(w.heap.push _)[w.heap.size]?=_;simp
end Go.Proofs.YtldbfkccieipjaaGreatDoor
