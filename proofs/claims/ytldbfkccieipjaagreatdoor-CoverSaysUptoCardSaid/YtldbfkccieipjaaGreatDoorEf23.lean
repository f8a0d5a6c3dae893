/- The walk of linguisterref1.DecText: a number's text. No conditions but the argument's own. -/
import Derived.Test.YtldbfkccieipjaaGreatDoorEf19
import Derived.Test.YtldbfkccieipjaaGreatDoorEf22
import Derived.Test.YtldbfkccieipjaaGreatDoorEf16
import Derived.Test.YtldbfkccieipjaaGreatDoorEf17
import Derived.Test.YtldbfkccieipjaaGreatDoorEf15
import Derived.Test.YtldbfkccieipjaaGreatDoorEf5
import Derived.Test.YtldbfkccieipjaaGreatDoorEf13
import Derived.Test.YtldbfkccieipjaaGreatDoorEf6
import Derived.Test.YtldbfkccieipjaaGreatDoorEf7
import Derived.Test.YtldbfkccieipjaaGreatDoorEf2
import Derived.Test.YtldbfkccieipjaaGreatDoorEf4
namespace Go.Proofs.YtldbfkccieipjaaGreatDoor
set_option maxRecDepth 100000
open Go.RowKit Ms
open Dcm (okD)
namespace Ms
def sayO (L:List (List UInt8)) (f:Nat) (m:List Nd) (args:List Ag):Option (List UInt8):=saidM (evS L) (valA args) f 0 0 m
/-- what is wrong -/
def sayE (L:List (List UInt8)) (f:Nat) (m:List Nd) (args:List Ag):Int:=if fitE f m args=0 then roomE (sayO L f m args) else fitE f m args
/-- what is said -/
def sayT (L:List (List UInt8)) (f:Nat) (m:List Nd) (args:List Ag):List UInt8:=if fitE f m args=0 then (sayO L f m args).getD [] else []
/-- the args of a right message are right -/
theorem args_fine {args:List Ag} (h:argE [] args=0) (ht: ∀a∈args,a.txt.length≤2000000):ArgsFine args:=⟨fun a ha hn=>arg_okd args [] h a ha hn,ht⟩
theorem ahead_none: ∀{args:List Ag} {i:Nat} {x:Ag},(args.map (·.name)).Nodup→args[i]?=some x→(args.take i).find? (fun a=>a.name==x.name)=none
 | [],i,x,_,h=>by simp at h
 |a::r,0,x,_,_=>rfl
 |a::r,i+1,x,hd,h=>by
  rw[List.map_cons,List.nodup_cons] at hd
  have hm:x∈r:=List.mem_of_getElem? (i:=i) (by simpa using h)
  rw[List.take_succ_cons,List.find?_cons]
  have hne:(a.name==x.name)=false:=by
   rw[beq_eq_false_iff_ne]
   intro e
   exact hd.1 (List.mem_map.2 ⟨x,hm,e.symm⟩)
  rw[hne]
  exact ahead_none hd.2 (by simpa using h)
theorem not_ahead {args:List Ag} (h:(args.map (·.name)).Nodup) {i:Nat} {x:Ag} (hx:args[i]?=some x):(mapOf (args.take i)).find? (fun p=>p.1==x.name)=none:=by
 rw[find_mapOf,ahead_none h hx]
 rfl
end Ms
theorem Talk.put {S:Spk} {W0:World} {args:List Ag} {l:List UInt8} {w:World} (h:Talk S W0 args l w) (x:Ag) (hx:(mapOf args).find? (fun p=>p.1==x.name)=none):
  ∃w',(Instr.mapUpdate 70 (.map (some S.B)) (.string ⟨x.name.toArray⟩) (argV x)).run Tryz.prog w= .ok () w'∧(W0.heap.size≤S.B→Talk S W0 (args++ [x]) l w')∧(∀base W,base≤S.B→Below base W w→Below base W w'):=by
 obtain⟨w',h1,h2,h3,_,h5⟩:=h.map.put (P:= Tryz.prog) 70 9 36 Tryz.underlying70 Tryz.underlying9 x hx
 refine⟨w',h1,fun hB=>⟨?_,?_,h5 _ _ hB h.base,h.sb,h.ne⟩,h5⟩
 ·obtain⟨k0,p,v,k1,k2,k3,k4⟩:=h.spk
  refine⟨k0,p,v,k1,(h3 S.q fun e=>h.ne e.symm).trans k2,?_,k4⟩
  refine⟨k3.1,?_⟩
  rcases k3.2 with q|⟨g,cap,cur,q1,q2,q3,q4⟩
  ·exact .inl q
  ·refine .inr ⟨g,cap,cur,q1,q2,(h3 g fun e=>?_).trans q3,q4⟩
   obtain⟨es,c,m1,_⟩:=h.map
   rw[e,m1] at q3
   cases q3
 ·unfold mapOf at*
  rw[List.map_append]
  exact h2
/-- five cells of a block are laid -/
abbrev set5 (w:World) (q:Nat) (x0 x1 x2 x3 x4:Value):World:=((((w.setCell ⟨q,0,none⟩ x0).setCell ⟨q,1,none⟩ x1).setCell ⟨q,2,none⟩ x2).setCell ⟨q,3,none⟩ x3).setCell ⟨q,4,none⟩ x4
theorem set5_at {w:World} {q:Nat} {a0 a1 a2 a3 a4 c5 p v x0 x1 x2 x3 x4:Value} {T:TypeId} (h:w.heap[q]?=some (.cells #[a0,a1,a2,a3,a4,c5,p,v] T (0,0))):(set5 w q x0 x1 x2 x3 x4).heap[q]?=some (.cells #[x0,x1,x2,x3,x4,c5,p,v] T (0,0)):=by
 simp[set5,World.setCell,Array.getElem?_modify,h]
theorem set5_far {w:World} {q k:Nat} {x0 x1 x2 x3 x4:Value} (h:k≠q):(set5 w q x0 x1 x2 x3 x4).heap[k]?=w.heap[k]?:=by
 have h': ∀(w:World) (j:Nat) (x:Value),(w.setCell ⟨q,j,none⟩ x).heap[k]?=w.heap[k]?:=fun w j x=>Below.heap_setCell _ _ _ _ h
 unfold set5
 rw[h',h',h',h',h']
theorem set5_below {w w0:World} {B q:Nat} {x0 x1 x2 x3 x4:Value} (hb:Below B w0 w) (hq:B≤q):Below B w0 (set5 w q x0 x1 x2 x3 x4):=
 ((((hb.setCell (p:=⟨q,0,none⟩) hq _).setCell (p:=⟨q,1,none⟩) hq _).setCell (p:=⟨q,2,none⟩) hq _).setCell (p:=⟨q,3,none⟩) hq _).setCell (p:=⟨q,4,none⟩) hq _
set_option maxHeartbeats 4000000 in
theorem esay_bad {f:Nat} {v va:Value} {m:List Nd} {args:List Ag} (lang:List UInt8) (w:World) (hw:MW w) (h:MsgAt f w v m) (hl:m.length≤2000000) (ha:ArgsAt w va args) (hal:args.length≤2000000) (hna: ∀a∈args,a.name.length≤4000000000) (hF: ¬fitE f m args=0):
  Calls Tryz.prog 11 #[v,.string ⟨lang.toArray⟩,va] w fun e w'=>e= .returned (.tuple #[.string ⟨#[]⟩,errV (fitE f m args)])∧Below w.heap.size w w':=by
 have CF:=Lib.hid (fits_any w hw h hl ha hal hna)
 rw[show errN (fitE f m args)=errV (fitE f m args) from if_neg hF] at CF
 generalize fitE f m args=FE at*
 clear hw h hl ha hal hna hF
 go_enter Tryz.func11,Tryz.ntmps11
 go_wp2_with fail
 refine CF.out.mono ?_
 rintro e w1 ⟨rfl,hb⟩
 have W1:=Lib.hid hb
 clear hb CF
 go_wp2_with fail
 go_ret2
 exact⟨rfl,W1.out⟩
set_option maxHeartbeats 4000000 in
theorem esay_fit {f:Nat} {v va:Value} {m:List Nd} {args:List Ag} (lang t0 t1 t2 t3 t4:List UInt8) (b:Bool) (w:World) (hw:MW w) (hE:EvW w) (h:MsgAt f w v m) (hl:m.length≤2000000) (ha:ArgsAt w va args) (hal:args.length≤2000000) (hna: ∀a∈args,a.name.length≤4000000000) (htx: ∀a∈args,a.txt.length≤2000000)
  (hS:SetFine t0 t1 t2 t3 t4) (hb0:b=false→t0= []∧t1= []∧t2= []∧t3= []∧t4= [])
  (CL: ∀w:World,Calls Tryz.prog 20 #[.string ⟨lang.toArray⟩] w fun e w'=>e= .returned (.tuple #[setV t0 t1 t2 t3 t4,if b then .nilIface else errV 2])∧Below w.heap.size w w') (hF:fitE f m args=0):
  Calls Tryz.prog 11 #[v,.string ⟨lang.toArray⟩,va] w fun e w'=>e= .returned (.tuple #[.string ⟨((sayO [t0,t1,t2,t3,t4] f m args).getD []).toArray⟩,errN (roomE (sayO [t0,t1,t2,t3,t4] f m args))])∧Below w.heap.size w w':=by
 have CF:=Lib.hid (fits_any w hw h hl ha hal hna)
 rw[hF] at CF
 obtain⟨hwf,hae,hcn⟩:=wf_fit hF
 have HND:=Lib.hid (arg_once args [] hae).2
 have HAF:=Lib.hid (args_fine hae htx)
 obtain⟨R,hR⟩: ∃R,R=sayO [t0,t1,t2,t3,t4] f m args:=⟨_,rfl⟩
 rw[←hR]
 obtain⟨NN,hNN⟩: ∃NN,NN=cnt f m*4000000:=⟨_,rfl⟩
 have CS:=Lib.hid fun (S:Spk) (hSE:S.t0=t0∧S.t1=t1∧S.t2=t2∧S.t3=t3∧S.t4=t4) (w1:World) (hT:Talk S w args [] w1)=>(show Calls Tryz.prog 28 #[.pointer (some ⟨S.q,0,none⟩),v,.agg #[.int .i64 0,.int .i64 0]] w1 fun e w'=>OneP S w args [] w1 R NN e w' from by
  obtain⟨rfl,rfl,rfl,rfl,rfl⟩:=hSE
  rw[hR,hNN]
  refine say_any S w args hE hS HAF.out f v m w1 [] 0 0 h hl hwf hT (by decide) ?_
  have:=Nat.mul_le_mul_right 4000000 hcn
  simp only[List.length_nil,Nat.zero_add]
  exact Nat.le_trans this (by decide))
 have CLh:=Lib.hid CL
 have hlen:NN≤60*4000000:=by rw[hNN];exact Nat.mul_le_mul_right 4000000 hcn
 obtain⟨AV,acap,rfl,_,hel⟩:=ha.spread
 have hcap:args.length≤acap∨args.length=0:=by
  rcases ha with⟨e,_⟩|⟨_,_,_,e,_,q,_,_⟩
  ·exact .inr (by rw[e];rfl)
  ·injection e with _ _ e;exact .inl (by omega)
 have HX:=Lib.hid hel
 clear hw hE h ha hna htx CL hF hwf hae hcn hel hR hNN
 generalize hN:args.length=N at*
 unfold setV at CLh
 go_enter Tryz.func11,Tryz.ntmps11
 go_wp2_with fail
 refine CF.out.mono ?_
 rintro e w1 ⟨rfl,hb⟩
 have W1:=Lib.hid hb
 clear hb CF
 rw[errN_zero]
 have MM:=run_makeMap (P:= Tryz.prog) (w:=w1) 70
 have WM:=Lib.hid (blw_alloc w1 (.map #[] 0))
 have KM:=Lib.hid (map_made (val:=argV) w1)
 go_wp2_with fail
 clear MM
 obtain⟨B,hBe⟩: ∃B,B=w1.heap.size:=⟨_,rfl⟩
 rw[←hBe] at KM
 have hB0:w.heap.size≤B:=by have:=W1.out.size;omega
 have hBm:B<(w1.alloc (.map #[] 0)).heap.size:=KM.out.lt
 simp only[←hBe]
 have hsz:(w1.alloc (.map #[] 0)).heap.size=B+1:=by simp[hBe]
 have O3:=Lib.hid (obj_made (w1.alloc (.map #[] 0)) #[.string ⟨#[]⟩,.string ⟨#[]⟩,.string ⟨#[]⟩,.string ⟨#[]⟩,.string ⟨#[]⟩,.map (some B),.pointer none,.slice none 0 0] 76)
 rw[hsz] at O3
 have W3:=Lib.hid (blw_trans (blw_trans W1.out WM.out) (blw_alloc (w1.alloc (.map #[] 0)) (.cells #[.string ⟨#[]⟩,.string ⟨#[]⟩,.string ⟨#[]⟩,.string ⟨#[]⟩,.string ⟨#[]⟩,.map (some B),.pointer none,.slice none 0 0] 76)))
 have K3:=Lib.hid (KM.out.below (blw_alloc (w1.alloc (.map #[] 0)) (.cells #[.string ⟨#[]⟩,.string ⟨#[]⟩,.string ⟨#[]⟩,.string ⟨#[]⟩,.string ⟨#[]⟩,.map (some B),.pointer none,.slice none 0 0] 76)))
 generalize (w1.alloc (.map #[] 0)).alloc (.cells #[.string ⟨#[]⟩,.string ⟨#[]⟩,.string ⟨#[]⟩,.string ⟨#[]⟩,.string ⟨#[]⟩,.map (some B),.pointer none,.slice none 0 0] 76)=w3 at*
 clear hsz hBm KM WM W1 hBe
 obtain⟨q,hqe⟩: ∃q,q=B+1:=⟨_,rfl⟩
 rw[←hqe] at O3
 simp only[←hqe]
 have HQ:=Lib.hid (show w.heap.size≤q∧B≠q from⟨by omega,by omega⟩)
 clear hqe
 obtain⟨ev,hev⟩: ∃ev,ev=(if b then Value.nilIface else errV 2):=⟨_,rfl⟩
 have CL2:=Lib.hid (CLh.out w3)
 rw[←hev] at CL2
 have HEV:=Lib.hid hev
 clear hev
 refine CL2.out.mono ?_
 rintro e w4 ⟨rfl,hb⟩
 have W4:=Lib.hid (blw_trans W3.out hb)
 have K4:=Lib.hid (K3.out.below hb)
 have O4:=Lib.hid ((hb.block q (Array.getElem?_eq_some_iff.1 O3.out).1).trans O3.out)
 obtain⟨S,hS5⟩: ∃S:Spk,S=⟨t0,t1,t2,t3,t4,B,q,w.heap.size⟩:=⟨_,rfl⟩
 have TK:Hid (∀wx,Below w.heap.size w wx→wx.heap[q]?=some (.cells #[.string ⟨t0.toArray⟩,.string ⟨t1.toArray⟩,.string ⟨t2.toArray⟩,.string ⟨t3.toArray⟩,.string ⟨t4.toArray⟩,.map (some B),.pointer none,.slice none 0 0] 76 (0,0))→MapAt argV B (mapOf []) wx→Talk S w [] [] wx):=Lib.hid fun wx hb ho hm=>by
  rw[hS5]
  exact⟨⟨HQ.out.1,.pointer none,.slice none 0 0,.inl rfl,ho,World.ownsRow_nil _ _ _ _,by simp[Value.ownBlock]⟩,hm,hb,rfl,HQ.out.2⟩
 clear hb W3 K3 O3 CLh CL2
 go_upto_region 6 with fail
 have W5:=Lib.hid (blw_trans W4.out (blw_alloc w4 (.cells #[.string ⟨t0.toArray⟩,.string ⟨t1.toArray⟩,.string ⟨t2.toArray⟩,.string ⟨t3.toArray⟩,.string ⟨t4.toArray⟩] 54)))
 have K5:=Lib.hid (K4.out.below (blw_alloc w4 (.cells #[.string ⟨t0.toArray⟩,.string ⟨t1.toArray⟩,.string ⟨t2.toArray⟩,.string ⟨t3.toArray⟩,.string ⟨t4.toArray⟩] 54)))
 have O5:=Lib.hid (((blw_alloc w4 (.cells #[.string ⟨t0.toArray⟩,.string ⟨t1.toArray⟩,.string ⟨t2.toArray⟩,.string ⟨t3.toArray⟩,.string ⟨t4.toArray⟩] 54)).block q (Array.getElem?_eq_some_iff.1 O4.out).1).trans O4.out)
 have B5:=Lib.hid (Boxed.made w4 #[.string ⟨t0.toArray⟩,.string ⟨t1.toArray⟩,.string ⟨t2.toArray⟩,.string ⟨t3.toArray⟩,.string ⟨t4.toArray⟩] 54)
 generalize w4.alloc (.cells #[.string ⟨t0.toArray⟩,.string ⟨t1.toArray⟩,.string ⟨t2.toArray⟩,.string ⟨t3.toArray⟩,.string ⟨t4.toArray⟩] 54)=w5 at*
 go_cut [11,30] from 24 to 30 (fun _ v30 wx=>v30= .bool b∧wx=w5)
 case first=>
  cases b with
  |false=>
   have hv:ev=errV 2:=HEV.out
   subst hv
   go_wp2_with fail
   go_meet
   exact⟨rfl,rfl⟩
  |true=>
   have hv:ev=Value.nilIface:=HEV.out
   subst hv
   go_wp2_with fail
   go_meet
   exact⟨rfl,rfl⟩
 case rest=>
 obtain⟨rfl,hwc⟩:=hcut
 subst hwc
 clear HEV
 go_upto_if 30 with fail
 generalize wc=w5 at*
 go_cut [] from 31 to 34 (fun wx=>Hid (Talk S w [] [] wx))
 case first=>
  cases b with
  |false=>
   obtain⟨rfl,rfl,rfl,rfl,rfl⟩:=hb0 rfl
   go_wp2_with fail
   go_meet
   exact Lib.hid (TK.out _ W5.out O5.out K5.out)
  |true=>
   have c0:w5.cell? ⟨q,0,none⟩=some (.string ⟨#[]⟩):=by rw[Lib.cell_of_heap O5.out];rfl
   have c1:w5.cell? ⟨q,1,none⟩=some (.string ⟨#[]⟩):=by rw[Lib.cell_of_heap O5.out];rfl
   have c2:w5.cell? ⟨q,2,none⟩=some (.string ⟨#[]⟩):=by rw[Lib.cell_of_heap O5.out];rfl
   have c3:w5.cell? ⟨q,3,none⟩=some (.string ⟨#[]⟩):=by rw[Lib.cell_of_heap O5.out];rfl
   have c4:w5.cell? ⟨q,4,none⟩=some (.string ⟨#[]⟩):=by rw[Lib.cell_of_heap O5.out];rfl
   have f0:=Lib.frozen_of_heap O5.out 0
   have f1:=Lib.frozen_of_heap O5.out 1
   have f2:=Lib.frozen_of_heap O5.out 2
   have f3:=Lib.frozen_of_heap O5.out 3
   have f4:=Lib.frozen_of_heap O5.out 4
   have b0:w5.cell? ⟨w4.heap.size,0,none⟩=some (.string ⟨t0.toArray⟩):=B5.out.cell 0 _ rfl
   have b1:w5.cell? ⟨w4.heap.size,1,none⟩=some (.string ⟨t1.toArray⟩):=B5.out.cell 1 _ rfl
   have b2:w5.cell? ⟨w4.heap.size,2,none⟩=some (.string ⟨t2.toArray⟩):=B5.out.cell 2 _ rfl
   have b3:w5.cell? ⟨w4.heap.size,3,none⟩=some (.string ⟨t3.toArray⟩):=B5.out.cell 3 _ rfl
   have b4:w5.cell? ⟨w4.heap.size,4,none⟩=some (.string ⟨t4.toArray⟩):=B5.out.cell 4 _ rfl
   go_wp2_with fail
   go_meet
   exact Lib.hid (TK.out _ (set5_below W5.out HQ.out.1) (set5_at O5.out) (K5.out.kept (set5_far HQ.out.2)))
 case rest=>
 have T5:=hcut
 clear hcut W5 K5 O5 B5 W4 K4 O4 TK hb0
 generalize w4.heap.size=qz at*
 have HSE:=Lib.hid (show S.t0=t0∧S.t1=t1∧S.t2=t2∧S.t3=t3∧S.t4=t4 from by rw[hS5];exact⟨rfl,rfl,rfl,rfl,rfl⟩)
 have hSB:S.B=B:=by rw[hS5]
 have hSq:S.q=q:=by rw[hS5]
 clear hS5
 subst hSB hSq
 go_wp2_with fail
 go_loopw [37] (fun vi wr=> ∃i:Nat,vi= .int .i64 (i:Int)∧i≤N∧Hid (Talk S w (args.take i) [] wr)) (fun vi _=>N-(RowKit.intOf vi).toNat)
 case atStart=>exact⟨0,rfl,Nat.zero_le _,T5⟩
 case round=>
  obtain⟨i,rfl,hi,HT⟩:=hrel
  clear T5
  by_cases hlt:i<N
  ·have hi':(i:Int)<(N:Int):=by omega
   have hcc:N≤acap:=by omega
   obtain⟨x,hxi⟩: ∃x,args[i]?=some x:=⟨args[i]'(by omega),List.getElem?_eq_getElem (by omega)⟩
   obtain⟨bk,off,rfl,p0,p1,p2,p3,p4⟩:=HX.out i x hxi
   have g0:=cell_keep p0 HT.out.base
   have g1:=cell_keep p1 HT.out.base
   have g2:=cell_keep p2 HT.out.base
   have g3:=cell_keep p3 HT.out.base
   have g4:=cell_keep p4 HT.out.base
   have lb:=World.block_lt_of_cell? _ _ g0
   have wi:IntKind.i64.wrap ((i:Int)+1)=(i:Int)+1:=IntWalk.i64_in _ (by omega)
   have HNA:=Lib.hid (not_ahead HND.out hxi)
   have HTK:=Lib.hid (show args.take (i+1)=args.take i++ [x] from by rw[List.take_add_one,hxi];rfl)
   obtain⟨T,bn,co,sc,tx⟩:=x
   have TA:=Lib.hid ((HT.out.below (blw_alloc wr (.cells #[.string ⟨T.toArray⟩,.bool bn,.int .i64 co,.int .i64 sc,.string ⟨tx.toArray⟩] 36))).below (Below.drew (Below.refl _ _)))
   have BA:=Lib.hid (Boxed.made wr #[.string ⟨T.toArray⟩,.bool bn,.int .i64 co,.int .i64 sc,.string ⟨tx.toArray⟩] 36)
   clear p0 p1 p2 p3 p4 hxi HX HT
   go_wp2_with fail
   generalize wr.alloc (.cells #[.string ⟨T.toArray⟩,.bool bn,.int .i64 co,.int .i64 sc,.string ⟨tx.toArray⟩] 36)=w6 at*
   generalize wr.heap.size=pa at*
   obtain⟨pp,pv,_,hbk,_,_⟩:=TA.out.spk.2
   have c5:w6.drew.cell? ⟨S.q,5,none⟩=some (.map (some S.B)):=by rw[Lib.cell_of_heap hbk];rfl
   have c5':w6.cell? ⟨S.q,5,none⟩=some (.map (some S.B)):=c5
   have sl:S.q<w6.heap.size:=TA.out.spk.lt.2
   have a0:w6.cell? ⟨pa,0,none⟩=some (.string ⟨T.toArray⟩):=BA.out.cell 0 _ rfl
   have a1:w6.cell? ⟨pa,1,none⟩=some (.bool bn):=BA.out.cell 1 _ rfl
   have a2:w6.cell? ⟨pa,2,none⟩=some (.int .i64 co):=BA.out.cell 2 _ rfl
   have a3:w6.cell? ⟨pa,3,none⟩=some (.int .i64 sc):=BA.out.cell 3 _ rfl
   have a4:w6.cell? ⟨pa,4,none⟩=some (.string ⟨tx.toArray⟩):=BA.out.cell 4 _ rfl
   have al:=BA.out.lt
   obtain⟨w7,MU,HP,_⟩:=TA.out.put ⟨T,bn,co,sc,tx⟩ HNA.out
   have T7:=Lib.hid (show Talk S w (args.take (i+1)) [] w7 by rw[HTK.out];exact HP hB0)
   have MU':(Instr.mapUpdate 70 (.map (some S.B)) (.string ⟨T.toArray⟩) (.agg #[.string ⟨T.toArray⟩,.bool bn,.int .i64 co,.int .i64 sc,.string ⟨tx.toArray⟩])).run Tryz.prog w6.drew= .ok () w7:=MU
   clear hbk HP MU TA BA HTK HNA g0 g1 g2 g3 g4 lb
   go_region
   go_wp2_with fail
   go_roundw
   case rel=>exact⟨i+1,by go_num,by omega,T7⟩
   case measure=>simp[RowKit.intOf];omega
  ·have ei:i=N:=by omega
   subst ei
   have hi': ¬(i:Int)<(i:Int):=by omega
   have TZ:=Lib.hid (show Talk S w args [] wr by have:=HT.out;rwa [List.take_of_length_le (by omega)] at this)
   have CSi:=Lib.hid (CS.out S HSE.out wr TZ.out)
   clear HX HT TZ
   go_wp2_with fail
   refine CSi.out.mono ?_
   rintro e w8 ⟨rfl,l8,ht,hk,hs,hln⟩
   have T8:=Lib.hid ht
   clear ht hk CSi CS
   cases R with
   |none=>
    rw[room_none,errN_one]
    go_wp2_with fail
    go_ret2
    exact⟨rfl,T8.out.base⟩
   |some t=>
    obtain rfl:l8=t:=hs t rfl
    have CB:=Lib.hid (btext_any S l8 w8 T8.out.spk (by simp only[List.length_nil,Nat.zero_add] at hln;omega))
    rw[room_some,errN_zero]
    have W8:=Lib.hid T8.out.base
    have sb:=T8.out.sb
    clear hs T8
    go_wp2_with fail
    refine CB.out.mono ?_
    rintro e w9 ⟨rfl,hb⟩
    rw[sb] at hb
    have W9:=Lib.hid (W8.out.trans hb)
    clear hb CB W8
    go_wp2_with fail
    go_ret2
    exact⟨rfl,W9.out⟩
theorem esay_any {f:Nat} {v va:Value} {m:List Nd} {args:List Ag} (lang t0 t1 t2 t3 t4:List UInt8) (b:Bool) (w:World) (hw:MW w) (hE:EvW w) (h:MsgAt f w v m) (hl:m.length≤2000000) (ha:ArgsAt w va args) (hal:args.length≤2000000) (hna: ∀a∈args,a.name.length≤4000000000) (htx: ∀a∈args,a.txt.length≤2000000)
  (hS:SetFine t0 t1 t2 t3 t4) (hb0:b=false→t0= []∧t1= []∧t2= []∧t3= []∧t4= [])
  (CL: ∀w:World,Calls Tryz.prog 20 #[.string ⟨lang.toArray⟩] w fun e w'=>e= .returned (.tuple #[setV t0 t1 t2 t3 t4,if b then .nilIface else errV 2])∧Below w.heap.size w w'):
  Calls Tryz.prog 11 #[v,.string ⟨lang.toArray⟩,va] w fun e w'=>e= .returned (.tuple #[.string ⟨(sayT [t0,t1,t2,t3,t4] f m args).toArray⟩,errN (sayE [t0,t1,t2,t3,t4] f m args)])∧Below w.heap.size w w':=by
 unfold sayT sayE
 by_cases hF:fitE f m args=0
 ·rw[if_pos hF,if_pos hF]
  exact esay_fit lang t0 t1 t2 t3 t4 b w hw hE h hl ha hal hna htx hS hb0 CL hF
 ·rw[if_neg hF,if_neg hF,show errN (fitE f m args)=errV (fitE f m args) from if_neg hF]
  exact esay_bad lang w hw h hl ha hal hna hF
open Go.RowKit Ms
namespace Ms
def appM:List Nd:= [.mk 4 [110] 0 [([111,110,101],[.mk 1 [111,110,101,32,97,112,112,108,101] 0 []]),([111,116,104,101,114],[.mk 6 [] 0 [],.mk 1 [32,97,112,112,108,101,115] 0 []])]]
end Ms
theorem app_at {W:World} {p0 p2 p4 p5:Nat} (h0:Boxed W p0 #[.int .i64 1,.string ⟨#[111,110,101,32,97,112,112,108,101]⟩,.int .i64 0,.slice none 0 0])
  (h2:Boxed W p2 #[.int .i64 6,.string ⟨#[]⟩,.int .i64 0,.slice none 0 0,.int .i64 1,.string ⟨#[32,97,112,112,108,101,115]⟩,.int .i64 0,.slice none 0 0])
  (h4:Boxed W p4 #[.string ⟨#[111,110,101]⟩,.slice (some ⟨p0,0,none⟩) 1 1,.string ⟨#[111,116,104,101,114]⟩,.slice (some ⟨p2,0,none⟩) 2 2])
  (h5:Boxed W p5 #[.int .i64 4,.string ⟨#[110]⟩,.int .i64 0,.slice (some ⟨p4,0,none⟩) 2 2]):MsgAt 2 W (.slice (some ⟨p5,0,none⟩) 1 1) appM:=by
 refine .inr ⟨p5,0,1,rfl,by decide,by decide,by decide,fun j x hx=>?_⟩
 match j,hx with
 |0,hx=>
  obtain rfl:=Option.some.inj hx
  refine⟨some ⟨p4,0,none⟩,2,2,h5.cell 0 _ rfl,h5.cell 1 _ rfl,h5.cell 2 _ rfl,h5.cell 3 _ rfl,?_,by decide,by decide⟩
  refine .inr ⟨p4,0,2,rfl,by decide,by decide,by decide,fun j y hy=>?_⟩
  match j,hy with
  |0,hy=>
   obtain rfl:=Option.some.inj hy
   refine⟨some ⟨p0,0,none⟩,1,1,h4.cell 0 _ rfl,h4.cell 1 _ rfl,?_,by decide,by decide⟩
   refine .inr ⟨p0,0,1,rfl,by decide,by decide,by decide,fun j z hz=>?_⟩
   match j,hz with
   |0,hz=>
    obtain rfl:=Option.some.inj hz
    exact⟨none,0,0,h0.cell 0 _ rfl,h0.cell 1 _ rfl,h0.cell 2 _ rfl,h0.cell 3 _ rfl,.inl ⟨rfl,none,0,rfl⟩,by decide,by decide⟩
  |1,hy=>
   obtain rfl:=Option.some.inj hy
   refine⟨some ⟨p2,0,none⟩,2,2,h4.cell 2 _ rfl,h4.cell 3 _ rfl,?_,by decide,by decide⟩
   refine .inr ⟨p2,0,2,rfl,by decide,by decide,by decide,fun j z hz=>?_⟩
   match j,hz with
   |0,hz=>
    obtain rfl:=Option.some.inj hz
    exact⟨none,0,0,h2.cell 0 _ rfl,h2.cell 1 _ rfl,h2.cell 2 _ rfl,h2.cell 3 _ rfl,.inl ⟨rfl,none,0,rfl⟩,by decide,by decide⟩
   |1,hz=>
    obtain rfl:=Option.some.inj hz
    exact⟨none,0,0,h2.cell 4 _ rfl,h2.cell 5 _ rfl,h2.cell 6 _ rfl,h2.cell 7 _ rfl,.inl ⟨rfl,none,0,rfl⟩,by decide,by decide⟩
theorem boxed_here {W:World} {p:Nat} (vs:Array Value) (t:TypeId) (h:p=W.heap.size):Boxed (W.alloc (.cells vs t)) p vs:=by subst h;exact Boxed.made W vs t
set_option maxHeartbeats 2000000 in
theorem apples_any (w:World):Calls Tryz.prog 18 #[] w fun e w'=> ∃v,e= .returned v∧MsgAt 2 w' v appM∧Below w.heap.size w w':=by
 go_enter Tryz.func18,Tryz.ntmps18
 go_wp2_with fail
 go_ret
 refine⟨_,rfl,?_,?_⟩
 ·refine app_at (p0:=w.heap.size) (p2:=w.heap.size+1+1) (p4:=w.heap.size+1+1+1+1) (p5:=w.heap.size+1+1+1+1+1) ?_ ?_ ?_ ?_
  ·exact(((((boxed_here _ _ rfl).alloc _).alloc _).alloc _).alloc _).alloc _
  ·exact(((boxed_here _ _ (by simp)).alloc _).alloc _).alloc _
  ·exact(boxed_here _ _ (by simp)).alloc _
  ·exact boxed_here _ _ (by simp)
 ·exact(((((blw_alloc w _).alloc (by simp) _).alloc (by simp;omega) _).alloc (by simp;omega) _).alloc (by simp;omega) _).alloc (by simp;omega) _
open Go.RowKit Ms
open Dcm (okD)
/-- args that lie in a block of their own -/
theorem args_box {w:World} {p:Nat} {l:List Ag} (h:Boxed w p (afl l).toArray) (h0:0<l.length) (h1:l.length≤1000):ArgsAt w (.slice (some ⟨p,0,none⟩) l.length l.length) l:=by
 refine .inr ⟨p,0,l.length,rfl,h0,Nat.le_refl _,by unfold maxLen;omega,fun j x hx=>?_⟩
 obtain⟨q0,q1,q2,q3,q4⟩:=afl_at hx
 have g: ∀(k:Nat) (u:Value),(afl l)[k]?=some u→w.cell? ⟨p,k,none⟩=some u:=fun k u hk=>h.cell k u (by simpa using hk)
 rw[Nat.zero_add]
 exact⟨g _ _ q0,g _ _ q1,g _ _ q2,g _ _ q3,g _ _ q4⟩
def appA:List Ag:= [⟨[110],true,1200,0,[]⟩]
theorem app_said:sayE Rul.enL 2 appM appA=0∧sayT Rul.enL 2 appM appA= [49,44,50,48,48,32,97,112,112,108,101,115]:=by decide+kernel
set_option maxHeartbeats 1000000 in
theorem counted_any (w:World) (hw:MW w) (hE:EvW w):Calls Tryz.prog 10 #[] w fun e w'=>e= .returned (.bool true)∧Below w.heap.size w w':=by
 have CS:=Lib.hid fun (v va:Value) (wx:World) (hb:Below w.heap.size w wx) (hm:MsgAt 2 wx v appM) (ha:ArgsAt wx va appA)=>esay_any [101,110] [] Rul.enOneS [] [] [] true wx (hw.below hb) (hE.below hb) hm (by decide) ha (by decide) (by decide) (by decide) (setfine_of rfl Rul.en_ok (by decide+kernel)) (by simp) langRules_en
 clear hw hE
 go_enter Tryz.func10,Tryz.ntmps10
 go_wp2_with fail
 refine(apples_any w).mono ?_
 rintro e w1 ⟨v1,rfl,hm,hb⟩
 have W2:=Lib.hid (blw_trans hb (blw_alloc w1 (.cells #[.string ⟨#[110]⟩,.bool true,.int .i64 1200,.int .i64 0,.string ⟨#[]⟩] 36)))
 have M2:=Lib.hid (msg_below hm (blw_alloc w1 (.cells #[.string ⟨#[110]⟩,.bool true,.int .i64 1200,.int .i64 0,.string ⟨#[]⟩] 36)))
 have A2:=Lib.hid (show ArgsAt (w1.alloc (.cells #[.string ⟨#[110]⟩,.bool true,.int .i64 1200,.int .i64 0,.string ⟨#[]⟩] 36)) (.slice (some ⟨w1.heap.size,0,none⟩) 1 1) appA from args_box (l:=appA) (Boxed.made w1 _ _) (by decide) (by decide))
 have CSi:=Lib.hid (CS.out _ _ _ W2.out M2.out A2.out)
 rw[show[[],Rul.enOneS,[],[],[]]=Rul.enL from rfl,app_said.1,app_said.2,errN_zero] at CSi
 clear hm hb CS
 go_wp2_with fail
 refine CSi.out.mono ?_
 rintro e w3 ⟨rfl,hb⟩
 have W3:=Lib.hid (blw_trans W2.out hb)
 clear hb CSi W2 M2 A2
 go_wp2_with fail
 go_ret
 exact⟨rfl,W3.out⟩
open Go.RowKit
open Dcm (okD)

set_option maxHeartbeats 2000000 in
theorem rtrimmed_any (c s:Int) (w:World) (h:okD c s):
  Calls Tryz.prog 59 #[.agg #[.int .i64 c,.int .i64 s]] w fun e w'=>e= .returned (.agg #[.int .i64 (Nt.trim c s).1,.int .i64 (Nt.trim c s).2])∧Below w.heap.size w w':=by
 obtain⟨s0,s9,c0,c1⟩:=h
 obtain⟨m,rfl⟩: ∃m:Nat,s=(m:Int):=⟨s.toNat,by omega⟩
 unfold Nt.trim
 rw[Int.toNat_natCast]
 have D0:=Lib.hid ((Boxed.made w #[.int .i64 c,.int .i64 (m:Int)] 31).alloc (.cells #[.int .i64 0,.int .i64 0] 31))
 have Z0:=Lib.hid (Boxed.at (q:=w.heap.size+1) (Boxed.made (w.alloc (.cells #[.int .i64 c,.int .i64 (m:Int)] 31)) #[.int .i64 0,.int .i64 0] 31) (by simp))
 have W0:=Lib.hid (blw_trans (blw_alloc w (.cells #[.int .i64 c,.int .i64 (m:Int)] 31)) (blw_alloc _ (.cells #[.int .i64 0,.int .i64 0] 31)))
 obtain⟨T,hT⟩: ∃T,T=Dcm.strip m c:=⟨_,rfl⟩
 rw[←hT]
 have HT:=Lib.hid hT.symm
 clear hT
 go_enter Tryz.func59,Tryz.ntmps59
 go_wp2_with fail
 generalize (w.alloc (.cells #[.int .i64 c,.int .i64 (m:Int)] 31)).alloc (.cells #[.int .i64 0,.int .i64 0] 31)=w1 at*
 go_loopw [] (fun wr=> ∃(c':Int) (n:Nat),Hid (Boxed wr w.heap.size #[.int .i64 c',.int .i64 (n:Int)])∧Hid (Boxed wr (w.heap.size+1) #[.int .i64 0,.int .i64 0])∧Hid (Below w.heap.size w wr)∧Hid (Dcm.strip n c'=T)∧ -1000000000000000≤c'∧c'≤1000000000000000∧n≤9) (fun wr=>(RowKit.intOf ((wr.cell? ⟨w.heap.size,1,none⟩).getD .nilIface)).toNat)
 case atStart=>exact⟨c,m,D0,Z0,W0,HT,c0,c1,by omega⟩
 case round=>
  obtain⟨c',n,D,Z,HB,HS,b0,b1,n9⟩:=hrel
  clear D0 Z0 W0 HT c0 c1 s0 s9
  have d0:=D.out.cell 0 _ rfl
  have d1:=D.out.cell 1 _ rfl
  have df0:=D.out.free 0 (by simp)
  have df1:=D.out.free 1 (by simp)
  have dl:=D.out.lt
  have z0:=Z.out.cell 0 _ rfl
  have z1:=Z.out.cell 1 _ rfl
  have zf0:=Z.out.free 0 (by simp)
  have zf1:=Z.out.free 1 (by simp)
  have zl:=Z.out.lt
  cases n with
  |zero=>
   have e0:T=(0,c'):=HS.out.symm
   subst e0
   go_wp2_with fail
   refine bodyPost_ret (v:= .agg #[.int .i64 c',.int .i64 0]) (by simp[results,Tryz.results59,go_sem,z0,z1];try rfl) rfl ?_
   exact⟨rfl,by repeat(first|exact HB.out|refine blw_drewN ?_ _|refine Below.setCell ?_ (by first|(simp;done)|omega|(simp;omega)) _)⟩
  |succ n=>
   have hn:(0:Int)<((n+1:Nat):Int):=by omega
   have w1':IntKind.i64.wrap (((n+1:Nat):Int)-1)=(n:Int):=by rw[IntWalk.i64_in _ (by omega)];omega
   by_cases h0:c'%10=0
   ·have r0:(c'.tmod 10==0)=true:=by rw[rem_ten,decide_eq_true h0]
    have q0:IntKind.i64.wrap (c'.tdiv 10)=c'/10:=by rw[quo_ten h0,IntWalk.i64_in _ (by omega)]
    have HS':=Lib.hid (show Dcm.strip n (c'/10)=T by rw[←HS.out,Dcm.strip,if_pos h0])
    have bb0: -1000000000000000≤c'/10:=by omega
    have bb1:c'/10≤1000000000000000:=by omega
    have e1:((n+1:Nat):Int)-1=(n:Int):=by omega
    have D2:=Lib.hid ((D.out.set 0 (.int .i64 (c'/10)) (by simp)).set 1 (.int .i64 (n:Int)) (by simp))
    have Z2:=Lib.hid ((Z.out.far (q:=w.heap.size) (by omega) 0 (.int .i64 (c'/10))).far (q:=w.heap.size) (by omega) 1 (.int .i64 (n:Int)))
    generalize c'/10=c2 at*
    generalize hM:((n+1:Nat):Int)=M at*
    clear h0 HS b0 b1
    go_wp2_with fail
    go_roundw
    case rel=>exact⟨c2,n,Lib.hid D2.out,Lib.hid Z2.out,Lib.hid (by repeat(first|exact HB.out|refine blw_drewN ?_ _|refine Below.setCell ?_ (by first|(simp;done)|omega|(simp;omega)) _)),HS',bb0,bb1,by omega⟩
    case measure=>simp[RowKit.intOf,go_sem,d1];omega
   ·have r0:(c'.tmod 10==0)=false:=by rw[rem_ten,decide_eq_false h0]
    have e0:T=(n+1,c'):=by rw[←HS.out,Dcm.strip,if_neg h0]
    subst e0
    clear h0 HS
    go_wp2_with fail
    refine bodyPost_ret (v:= .agg #[.int .i64 c',.int .i64 ((n+1:Nat):Int)]) (by simp[results,Tryz.results59,go_sem,z0,z1];try rfl) rfl ?_
    exact⟨rfl,by repeat(first|exact HB.out|refine blw_drewN ?_ _|refine Below.setCell ?_ (by first|(simp;done)|omega|(simp;omega)) _)⟩
open Go.RowKit

set_option maxHeartbeats 1000000 in
theorem rgrouped_few (s:List UInt8) (g g2:Int) (c:List UInt8) (w:World) (h:g=0∨(s.length:Int)≤g) (_hs:s.length≤1000000000):
  Calls Tryz.prog 63 #[.string ⟨s.toArray⟩,.int .i64 g,.int .i64 g2,.string ⟨c.toArray⟩] w fun e w'=>e= .returned (.string ⟨s.toArray⟩)∧Drew w w':=by
 by_cases h0:g=0
 ·have b1:(g==0)=true:=beq_yes h0
  clear h h0
  go_enter Tryz.func63,Tryz.ntmps63
  go_wp2
  go_ret
  exact⟨rfl,Drew.refl _⟩
 ·have b1:(g==0)=false:=beq_no h0
  have b2:decide ((s.length:Int)≤g)=true:=dec_yes (by omega)
  clear h h0
  go_enter Tryz.func63,Tryz.ntmps63
  go_wp2
  go_ret
  exact⟨rfl,Drew.refl _⟩

set_option maxHeartbeats 1000000 in
theorem rgrouped_by (n:Nat): ∀(s:List UInt8) (g g2:Nat) (c:UInt8) (w:World),s.length≤n→s.length≤1000000000→0<g→g≤4→0<g2→g2≤4→
  Calls Tryz.prog 63 #[.string ⟨s.toArray⟩,.int .i64 g,.int .i64 g2,.string ⟨[c].toArray⟩] w fun e w'=>e= .returned (.string ⟨(Grp.grouped g g2 s c).toArray⟩)∧Drew w w':=by
 induction n with
 |zero=>
  intro s g g2 c w hn hs g1 g4 h1 h4
  rw[Grp.grouped_one c (by omega)]
  exact rgrouped_few s g g2 [c] w (.inr (by omega)) hs
 |succ n ih=>
  intro s g g2 c w hn hs g1 g4 h1 h4
  by_cases hlt:g<s.length
  ·have IH:=Lib.hid ih
   clear ih
   have b1:((g:Int)==0)=false:=beq_no (by omega)
   have d1:decide ((s.length:Int)≤(g:Int))=false:=dec_no (by omega)
   have b2:((g2:Int)==0)=false:=beq_no (by omega)
   have HG:=Lib.hid (Grp.grouped_cut (g2:=g2) c g1 hlt)
   have HL:=Lib.hid (Grp.grouped_len s.length g2 g2 (s.take (s.length-g)) c (by simp))
   have S1:=fun w=>slice_fromI (P:= Tryz.prog) 9 Tryz.underlying9 s ((s.length:Int)-(g:Int)) (s.length-g) (by omega) (by omega) w
   have S2:=fun w=>slice_toI (P:= Tryz.prog) 9 Tryz.underlying9 s ((s.length:Int)-(g:Int)) (s.length-g) (by omega) (by omega) w
   have CI:=Lib.hid fun w=>IH.out (s.take (s.length-g)) g2 g2 c w (by simp;omega) (by simp;omega) h1 h4 h1 h4
   have t1:(s.take (s.length-g)).length≤s.length:=by simp
   have t2:(s.drop (s.length-g)).length≤s.length:=by simp
   generalize Grp.grouped g g2 s c=RES at*
   generalize Grp.grouped g2 g2 (s.take (s.length-g)) c=X at*
   generalize s.take (s.length-g)=U at*
   generalize s.drop (s.length-g)=V at*
   have hx:=HL.out.1
   have A1:=fun w=>add_str (P:= Tryz.prog) X [c] (by simp;omega) w
   have A2: ∀w,(Op.stringOp .add ⟨(X++ [c]).toArray⟩ ⟨V.toArray⟩).run Tryz.prog w= .ok (.string ⟨RES.toArray⟩) w:=fun w=>by rw[HG.out];exact add_str (P:= Tryz.prog) (X++ [c]) V (by simp;omega) w
   generalize X++ [c]=Y at*
   clear HG HL
   go_enter Tryz.func63,Tryz.ntmps63
   go_wp2_with fail
   go_big_quiet ((go_at_call 63;exact quiet_drew (CI.out _)))
   go_wp2_with fail
   go_ret
   exact⟨rfl,by repeat(first|exact Drew.refl _|refine Drew.drewN ?_ _)⟩
  ·rw[Grp.grouped_one c (by omega)]
   exact rgrouped_few s g g2 [c] w (.inr (by omega)) hs
set_option maxHeartbeats 1000000 in
theorem rgrouped_alike (s:List UInt8) (g:Nat) (c:UInt8) (w:World) (hs:s.length≤1000000000) (g1:0<g) (g4:g≤4):
  Calls Tryz.prog 63 #[.string ⟨s.toArray⟩,.int .i64 g,.int .i64 0,.string ⟨[c].toArray⟩] w fun e w'=>e= .returned (.string ⟨(Grp.grouped g g s c).toArray⟩)∧Drew w w':=by
 by_cases hlt:g<s.length
 ·skip
  have b1:((g:Int)==0)=false:=beq_no (by omega)
  have d1:decide ((s.length:Int)≤(g:Int))=false:=dec_no (by omega)
  have HG:=Lib.hid (Grp.grouped_cut (g2:=g) c g1 hlt)
  have HL:=Lib.hid (Grp.grouped_len s.length g g (s.take (s.length-g)) c (by simp))
  have S1:=fun w=>slice_fromI (P:= Tryz.prog) 9 Tryz.underlying9 s ((s.length:Int)-(g:Int)) (s.length-g) (by omega) (by omega) w
  have S2:=fun w=>slice_toI (P:= Tryz.prog) 9 Tryz.underlying9 s ((s.length:Int)-(g:Int)) (s.length-g) (by omega) (by omega) w
  have CI:=Lib.hid fun w=>rgrouped_by s.length (s.take (s.length-g)) g g c w (by simp) (by simp;omega) g1 g4 g1 g4
  have t1:(s.take (s.length-g)).length≤s.length:=by simp
  have t2:(s.drop (s.length-g)).length≤s.length:=by simp
  generalize Grp.grouped g g s c=RES at*
  generalize Grp.grouped g g (s.take (s.length-g)) c=X at*
  generalize s.take (s.length-g)=U at*
  generalize s.drop (s.length-g)=V at*
  have hx:=HL.out.1
  have A1:=fun w=>add_str (P:= Tryz.prog) X [c] (by simp;omega) w
  have A2: ∀w,(Op.stringOp .add ⟨(X++ [c]).toArray⟩ ⟨V.toArray⟩).run Tryz.prog w= .ok (.string ⟨RES.toArray⟩) w:=fun w=>by rw[HG.out];exact add_str (P:= Tryz.prog) (X++ [c]) V (by simp;omega) w
  generalize X++ [c]=Y at*
  clear HG HL
  go_enter Tryz.func63,Tryz.ntmps63
  go_wp2_with fail
  go_big_quiet ((go_at_call 63;exact quiet_drew (CI.out _)))
  go_wp2_with fail
  go_ret
  exact⟨rfl,by repeat(first|exact Drew.refl _|refine Drew.drewN ?_ _)⟩
 ·rw[Grp.grouped_one c (by omega)]
  exact rgrouped_few s g 0 [c] w (.inr (by omega)) hs
theorem rgrouped_any (s:List UInt8) (g g2:Int) (c:UInt8) (w:World) (hs:s.length≤1000000000) (hG:rightG g g2):
  Calls Tryz.prog 63 #[.string ⟨s.toArray⟩,.int .i64 g,.int .i64 g2,.string ⟨#[c]⟩] w fun e w'=>e= .returned (.string ⟨(gout s g g2 c).toArray⟩)∧Drew w w':=by
 obtain⟨h1,h2,h3,h4⟩:=hG
 obtain⟨a,rfl⟩:=Int.eq_ofNat_of_zero_le h1
 obtain⟨b,rfl⟩:=Int.eq_ofNat_of_zero_le h3
 unfold gout
 by_cases ha:(a:Int)=0
 ·rw[if_pos ha]
  exact rgrouped_few s a b [c] w (.inl ha) hs
 ·rw[if_neg ha]
  by_cases hb:(b:Int)=0
  ·rw[if_pos hb,hb]
   exact rgrouped_alike s a c w hs (by omega) (by omega)
  ·rw[if_neg hb]
   exact rgrouped_by s.length s a b c w (Nat.le_refl _) hs (by omega) (by omega) (by omega) (by omega)
open Go.RowKit
open Dcm (P10 okD mag)

theorem ten_bel (n:Int) (w:World) (h0:0≤n) (h1:n≤9):Calls Tryz.prog 31 #[.int .i64 n] w fun e w'=>e= .returned (.int .i64 (P10 n))∧Below w.heap.size w w':=
 (ten_any n w h0 h1).mono fun _ _ h=>⟨h.1,by rw[←h.2];exact Below.refl _ _⟩

set_option maxHeartbeats 2000000 in
theorem rdect_whole (c s:Int) (w:World) (h:okD c s) (hs:s=0) (g:List UInt8) (hg:Byt.sgn c=g) (hcg:(c<0∧g= [45])∨(¬c<0∧g= [])):
  Calls Tryz.prog 62 #[.agg #[.int .i64 c,.int .i64 s]] w fun e w'=>e= .returned (.string ⟨(Byt.decText c s).toArray⟩)∧Below w.heap.size w w':=by
 have e2:=Byt.decText_two c s h
 have dl:=Byt.dec_len c s h
 obtain⟨s0,s9,c0,c1⟩:=h
 have hm:0≤mag c∧mag c≤1000000000000000:=by unfold mag;split<;>omega
 have hP:=Dcm.P10_bd s
 have q0:0≤mag c/P10 s:=Int.ediv_nonneg hm.1 (by omega)
 have q1:mag c/P10 s≤mag c:=Int.ediv_le_self _ hm.1
 subst hs
 have ew:Byt.magT (mag c) 0=Lib.decDigits (mag c/P10 0).toNat:=by
  rw[show mag c/P10 0=mag c from Int.ediv_one _];exact if_pos (Int.le_refl 0)
 rw[hg,ew] at e2
 have CD:=Lib.hid fun w=>digits_none (mag c/P10 0) w q0 (by omega)
 generalize Lib.decDigits (mag c/P10 0).toNat=M at*
 have HX:=Lib.hid e2
 rw[e2,List.length_append] at dl
 have AD: ∀w,(Op.stringOp .add ⟨#[45]⟩ ⟨M.toArray⟩).run Tryz.prog w= .ok (.string ⟨([45]++M).toArray⟩) w:=fun w=>add_str (P:= Tryz.prog) [45] M (by simp;omega) w
 generalize Byt.decText c 0=X at*
 clear e2 ew hg dl
 obtain⟨Y,hY⟩: ∃Y,[45]++M=Y:=⟨_,rfl⟩
 rw[hY] at AD
 have HY:=Lib.hid hY
 clear hY
 rcases hcg with⟨hc,rfl⟩|⟨hc,rfl⟩
 ·have dc:decide (c<0)=true:=dec_yes hc
  go_enter Tryz.func62,Tryz.ntmps62
  go_wp2_with fail
  refine(size_any _ _ (by omega) (by omega)).mono ?_
  rintro e w' ⟨rfl,rfl⟩
  go_wp2_with fail
  refine(ten_any _ _ (by omega) (by omega)).mono ?_
  rintro e w' ⟨rfl,rfl⟩
  go_wp2_with fail
  refine(CD.out _).mono ?_
  rintro e w1 ⟨rfl,hb⟩
  have B1_d:=Boxed.below (Boxed.made _ #[.int .i64 c,.int .i64 0] 31) hb
  have W1:=Lib.hid (blw_trans (blw_trans (Below.refl w.heap.size w) (blw_alloc _ _)) hb)
  clear hb
  have kd0:=B1_d.cell 0 _ rfl
  have kd1:=B1_d.cell 1 _ rfl
  have kdl:=B1_d.lt
  try simp at kd0 kd1 kdl
  go_wp2_with fail
  go_ret
  exact⟨ret_str (by rw[HX.out,HY.out]),W1.out⟩
 ·have dc:decide (c<0)=false:=dec_no hc
  go_enter Tryz.func62,Tryz.ntmps62
  go_wp2_with fail
  refine(size_any _ _ (by omega) (by omega)).mono ?_
  rintro e w' ⟨rfl,rfl⟩
  go_wp2_with fail
  refine(ten_any _ _ (by omega) (by omega)).mono ?_
  rintro e w' ⟨rfl,rfl⟩
  go_wp2_with fail
  refine(CD.out _).mono ?_
  rintro e w1 ⟨rfl,hb⟩
  have B1_d:=Boxed.below (Boxed.made _ #[.int .i64 c,.int .i64 0] 31) hb
  have W1:=Lib.hid (blw_trans (blw_trans (Below.refl w.heap.size w) (blw_alloc _ _)) hb)
  clear hb
  have kd0:=B1_d.cell 0 _ rfl
  have kd1:=B1_d.cell 1 _ rfl
  have kdl:=B1_d.lt
  try simp at kd0 kd1 kdl
  go_wp2_with fail
  go_ret
  exact⟨ret_str (by rw[HX.out,List.nil_append]),W1.out⟩

set_option maxHeartbeats 2000000 in
theorem rdect_point (c s:Int) (w:World) (h:okD c s) (hs:0<s) (g:List UInt8) (hg:Byt.sgn c=g) (hcg:(c<0∧g= [45])∨(¬c<0∧g= [])):
  Calls Tryz.prog 62 #[.agg #[.int .i64 c,.int .i64 s]] w fun e w'=>e= .returned (.string ⟨(Byt.decText c s).toArray⟩)∧Below w.heap.size w w':=by
 have e2:=Byt.decText_two c s h
 have dl:=Byt.dec_len c s h
 obtain⟨s0,s9,c0,c1⟩:=h
 have hm:0≤mag c∧mag c≤1000000000000000:=by unfold mag;split<;>omega
 have hP:=Dcm.P10_bd s
 have q0:0≤mag c/P10 s:=Int.ediv_nonneg hm.1 (by omega)
 have q1:mag c/P10 s≤mag c:=Int.ediv_le_self _ hm.1
 have r0:0≤mag c%P10 s:=Int.emod_nonneg _ (by omega)
 have r1:mag c%P10 s<P10 s:=Int.emod_lt_of_pos _ (by omega)
 have ew:Byt.magT (mag c) s=Lib.decDigits (mag c/P10 s).toNat++46::Dtx.pad s.toNat (mag c%P10 s).toNat:=if_neg (by omega)
 rw[hg,ew] at e2
 have CD:=Lib.hid fun w=>digits_none (mag c/P10 s) w q0 (by omega)
 have CP:=Lib.hid fun w=>digits_any (mag c%P10 s) s w r0 (by omega) s0 (by omega)
 generalize Lib.decDigits (mag c/P10 s).toNat=D at*
 generalize Dtx.pad s.toNat (mag c%P10 s).toNat=P at*
 have HX:=Lib.hid e2
 rw[e2,List.length_append,List.length_append,List.length_cons] at dl
 generalize Byt.decText c s=X at*
 obtain⟨X1,hX1⟩: ∃Y,D++ [46]=Y:=⟨_,rfl⟩
 obtain⟨M,hM⟩: ∃Y,X1++P=Y:=⟨_,rfl⟩
 have lX:X1.length=D.length+1:=by rw[←hX1];simp
 have lM:M.length=D.length+1+P.length:=by rw[←hM,List.length_append,lX]
 have A1: ∀w,(Op.stringOp .add ⟨D.toArray⟩ ⟨#[46]⟩).run Tryz.prog w= .ok (.string ⟨X1.toArray⟩) w:=fun w=>by rw[←hX1];exact add_str (P:= Tryz.prog) D [46] (by simp;omega) w
 have A2: ∀w,(Op.stringOp .add ⟨X1.toArray⟩ ⟨P.toArray⟩).run Tryz.prog w= .ok (.string ⟨M.toArray⟩) w:=fun w=>by rw[←hM];exact add_str (P:= Tryz.prog) X1 P (by omega) w
 obtain⟨Y,hY⟩: ∃Y,[45]++M=Y:=⟨_,rfl⟩
 have AD: ∀w,(Op.stringOp .add ⟨#[45]⟩ ⟨M.toArray⟩).run Tryz.prog w= .ok (.string ⟨Y.toArray⟩) w:=fun w=>by rw[←hY];exact add_str (P:= Tryz.prog) [45] M (by simp;omega) w
 have HY:=Lib.hid hY
 have HMM:=Lib.hid (show D++46::P=M by rw[←hM,←hX1];simp)
 have d0:decide (0<s)=true:=dec_yes hs
 have pn:P10 s≠0:=by omega
 have tm:(mag c).tmod (P10 s)=mag c%P10 s:=Int.tmod_eq_emod_of_nonneg hm.1
 clear e2 ew hg dl hX1 hM hY lX lM
 obtain⟨m0,m1⟩:=hm
 rcases hcg with⟨hc,rfl⟩|⟨hc,rfl⟩
 ·have dc:decide (c<0)=true:=dec_yes hc
  go_enter Tryz.func62,Tryz.ntmps62
  go_wp2_with fail
  refine(size_any _ _ (by omega) (by omega)).mono ?_
  rintro e w' ⟨rfl,rfl⟩
  go_wp2_with fail
  refine(ten_any _ _ (by omega) (by omega)).mono ?_
  rintro e w' ⟨rfl,rfl⟩
  go_wp2_with fail
  refine(CD.out _).mono ?_
  rintro e w1 ⟨rfl,hb⟩
  have B1_d:=Boxed.below (Boxed.made _ #[.int .i64 c,.int .i64 s] 31) hb
  have W1:=Lib.hid (blw_trans (blw_trans (Below.refl w.heap.size w) (blw_alloc _ _)) hb)
  clear hb
  have kd0:=B1_d.cell 0 _ rfl
  have kd1:=B1_d.cell 1 _ rfl
  have kdl:=B1_d.lt
  try simp at kd0 kd1 kdl
  go_wp2_with fail
  refine wp_region_held_drew (S:=fun w'=>w'.cell? ⟨w.heap.size,0,none⟩=some (.int .i64 c)∧w'.cell? ⟨w.heap.size,1,none⟩=some (.int .i64 s)∧Hid (Below w.heap.size w w')) (by kernel_rfl) (by exact⟨by simpa using kd0,by simpa using kd1,Lib.hid (blw_drewN W1.out 1)⟩) (fun hHeld=>?_)
  refine tkr (d:=(some 17)) (v:=?v1) 0 rfl rfl hHeld ?hy1 ?rs1
  case hy1=>(intro w hSw;(try dsimp only at hSw);go_simp)<;>(try with_reducible rfl)
  (try simp only[Act.put,List.setIfInBounds_toArray,List.set_cons_zero,List.set_cons_succ])
  refine tkr (d:=(some 18)) (v:=?v2) 1 rfl rfl hHeld ?hy2 ?rs2
  case hy2=>(intro w hSw;(try dsimp only at hSw);go_simp)<;>(try with_reducible rfl)
  (try simp only[Act.put,List.setIfInBounds_toArray,List.set_cons_zero,List.set_cons_succ])
  refine tkr (d:=(some 19)) (v:=?v3) 2 rfl rfl hHeld ?hy3 ?rs3
  case hy3=>(intro w hSw;(try dsimp only at hSw);go_simp)<;>(try with_reducible rfl)
  (try simp only[Act.put,List.setIfInBounds_toArray,List.set_cons_zero,List.set_cons_succ])
  refine tkr (d:=(some 20)) (v:=?v4) 3 rfl rfl hHeld ?hy4 ?rs4
  case hy4=>(intro w hSw;(try dsimp only at hSw);go_simp)<;>(try with_reducible rfl)
  (try simp only[Act.put,List.setIfInBounds_toArray,List.set_cons_zero,List.set_cons_succ])
  refine tkr (d:=(some 21)) (v:=?v5) 4 rfl rfl hHeld ?hy5 ?rs5
  case hy5=>(intro w hSw;(try dsimp only at hSw);go_simp)<;>(try with_reducible rfl)
  (try simp only[Act.put,List.setIfInBounds_toArray,List.set_cons_zero,List.set_cons_succ])
  refine tkr (d:=(some 24)) (v:=?v6) 7 rfl rfl hHeld ?hy6 ?rs6
  case hy6=>(intro w hSw;(try dsimp only at hSw);go_simp)<;>(try with_reducible rfl)
  (try simp only[Act.put,List.setIfInBounds_toArray,List.set_cons_zero,List.set_cons_succ])
  refine tkr (d:=(some 25)) (v:=?v7) 8 rfl rfl hHeld ?hy7 ?rs7
  case hy7=>(intro w hSw;(try dsimp only at hSw);go_simp)<;>(try with_reducible rfl)
  (try simp only[Act.put,List.setIfInBounds_toArray,List.set_cons_zero,List.set_cons_succ])
  refine take_call 5 rfl (by kernel_rfl) (by rfl) (fun K hK=>?_)
  go_simp
  refine(ten_bel _ _ (by omega) (by omega)).mono ?_
  rintro e w' ⟨rfl,hb⟩
  refine hK.out _ _ (by obtain⟨h0,h1,hw⟩:=hHeld;exact⟨cell_keep h0 hb,cell_keep h1 hb,Lib.hid (blw_trans hw.out hb)⟩) (fun hHeld=>?_)
  clear hK K
  (try simp only[Act.put,List.setIfInBounds_toArray,List.set_cons_zero,List.set_cons_succ])
  refine tkr (d:=(some 23)) (v:=?v9) 6 rfl rfl hHeld ?hy9 ?rs9
  case hy9=>(intro w hSw;(try dsimp only at hSw);go_simp)<;>(try with_reducible rfl)
  (try simp only[Act.put,List.setIfInBounds_toArray,List.set_cons_zero,List.set_cons_succ])
  refine take_call 9 rfl (by kernel_rfl) (by rfl) (fun K hK=>?_)
  go_simp
  refine(CP.out _).mono ?_
  rintro e w' ⟨rfl,hb⟩
  refine hK.out _ _ (by obtain⟨h0,h1,hw⟩:=hHeld;exact⟨cell_keep h0 hb,cell_keep h1 hb,Lib.hid (blw_trans hw.out hb)⟩) (fun hHeld=>?_)
  clear hK K
  (try simp only[Act.put,List.setIfInBounds_toArray,List.set_cons_zero,List.set_cons_succ])
  refine tkr (d:=(some 27)) (v:=?v11) 10 rfl rfl hHeld ?hy11 ?rs11
  case hy11=>(intro w hSw;(try dsimp only at hSw);go_simp)<;>(try with_reducible rfl)
  (try simp only[Act.put,List.setIfInBounds_toArray,List.set_cons_zero,List.set_cons_succ])
  refine tkr (d:=(some 4)) (v:=?v12) 11 rfl rfl hHeld ?hy12 ?rs12
  case hy12=>(intro w hSw;(try dsimp only at hSw);go_simp)<;>(try with_reducible rfl)
  (try simp only[Act.put,List.setIfInBounds_toArray,List.set_cons_zero,List.set_cons_succ])
  refine wpAnyH_done (by kernel_rfl) ?_ _
  obtain⟨z0,z1,zW⟩:=hHeld
  clear kd0 kd1 kdl W1 B1_d
  go_wp2_with fail
  go_ret
  exact⟨ret_str (by rw[HX.out,HMM.out,HY.out]),zW.out⟩
 ·have dc:decide (c<0)=false:=dec_no hc
  go_enter Tryz.func62,Tryz.ntmps62
  go_wp2_with fail
  refine(size_any _ _ (by omega) (by omega)).mono ?_
  rintro e w' ⟨rfl,rfl⟩
  go_wp2_with fail
  refine(ten_any _ _ (by omega) (by omega)).mono ?_
  rintro e w' ⟨rfl,rfl⟩
  go_wp2_with fail
  refine(CD.out _).mono ?_
  rintro e w1 ⟨rfl,hb⟩
  have B1_d:=Boxed.below (Boxed.made _ #[.int .i64 c,.int .i64 s] 31) hb
  have W1:=Lib.hid (blw_trans (blw_trans (Below.refl w.heap.size w) (blw_alloc _ _)) hb)
  clear hb
  have kd0:=B1_d.cell 0 _ rfl
  have kd1:=B1_d.cell 1 _ rfl
  have kdl:=B1_d.lt
  try simp at kd0 kd1 kdl
  go_wp2_with fail
  refine wp_region_held_drew (S:=fun w'=>w'.cell? ⟨w.heap.size,0,none⟩=some (.int .i64 c)∧w'.cell? ⟨w.heap.size,1,none⟩=some (.int .i64 s)∧Hid (Below w.heap.size w w')) (by kernel_rfl) (by exact⟨by simpa using kd0,by simpa using kd1,Lib.hid (blw_drewN W1.out 1)⟩) (fun hHeld=>?_)
  refine tkr (d:=(some 17)) (v:=?v13) 0 rfl rfl hHeld ?hy13 ?rs13
  case hy13=>(intro w hSw;(try dsimp only at hSw);go_simp)<;>(try with_reducible rfl)
  (try simp only[Act.put,List.setIfInBounds_toArray,List.set_cons_zero,List.set_cons_succ])
  refine tkr (d:=(some 18)) (v:=?v14) 1 rfl rfl hHeld ?hy14 ?rs14
  case hy14=>(intro w hSw;(try dsimp only at hSw);go_simp)<;>(try with_reducible rfl)
  (try simp only[Act.put,List.setIfInBounds_toArray,List.set_cons_zero,List.set_cons_succ])
  refine tkr (d:=(some 19)) (v:=?v15) 2 rfl rfl hHeld ?hy15 ?rs15
  case hy15=>(intro w hSw;(try dsimp only at hSw);go_simp)<;>(try with_reducible rfl)
  (try simp only[Act.put,List.setIfInBounds_toArray,List.set_cons_zero,List.set_cons_succ])
  refine tkr (d:=(some 20)) (v:=?v16) 3 rfl rfl hHeld ?hy16 ?rs16
  case hy16=>(intro w hSw;(try dsimp only at hSw);go_simp)<;>(try with_reducible rfl)
  (try simp only[Act.put,List.setIfInBounds_toArray,List.set_cons_zero,List.set_cons_succ])
  refine tkr (d:=(some 21)) (v:=?v17) 4 rfl rfl hHeld ?hy17 ?rs17
  case hy17=>(intro w hSw;(try dsimp only at hSw);go_simp)<;>(try with_reducible rfl)
  (try simp only[Act.put,List.setIfInBounds_toArray,List.set_cons_zero,List.set_cons_succ])
  refine tkr (d:=(some 24)) (v:=?v18) 7 rfl rfl hHeld ?hy18 ?rs18
  case hy18=>(intro w hSw;(try dsimp only at hSw);go_simp)<;>(try with_reducible rfl)
  (try simp only[Act.put,List.setIfInBounds_toArray,List.set_cons_zero,List.set_cons_succ])
  refine tkr (d:=(some 25)) (v:=?v19) 8 rfl rfl hHeld ?hy19 ?rs19
  case hy19=>(intro w hSw;(try dsimp only at hSw);go_simp)<;>(try with_reducible rfl)
  (try simp only[Act.put,List.setIfInBounds_toArray,List.set_cons_zero,List.set_cons_succ])
  refine take_call 5 rfl (by kernel_rfl) (by rfl) (fun K hK=>?_)
  go_simp
  refine(ten_bel _ _ (by omega) (by omega)).mono ?_
  rintro e w' ⟨rfl,hb⟩
  refine hK.out _ _ (by obtain⟨h0,h1,hw⟩:=hHeld;exact⟨cell_keep h0 hb,cell_keep h1 hb,Lib.hid (blw_trans hw.out hb)⟩) (fun hHeld=>?_)
  clear hK K
  (try simp only[Act.put,List.setIfInBounds_toArray,List.set_cons_zero,List.set_cons_succ])
  refine tkr (d:=(some 23)) (v:=?v21) 6 rfl rfl hHeld ?hy21 ?rs21
  case hy21=>(intro w hSw;(try dsimp only at hSw);go_simp)<;>(try with_reducible rfl)
  (try simp only[Act.put,List.setIfInBounds_toArray,List.set_cons_zero,List.set_cons_succ])
  refine take_call 9 rfl (by kernel_rfl) (by rfl) (fun K hK=>?_)
  go_simp
  refine(CP.out _).mono ?_
  rintro e w' ⟨rfl,hb⟩
  refine hK.out _ _ (by obtain⟨h0,h1,hw⟩:=hHeld;exact⟨cell_keep h0 hb,cell_keep h1 hb,Lib.hid (blw_trans hw.out hb)⟩) (fun hHeld=>?_)
  clear hK K
  (try simp only[Act.put,List.setIfInBounds_toArray,List.set_cons_zero,List.set_cons_succ])
  refine tkr (d:=(some 27)) (v:=?v23) 10 rfl rfl hHeld ?hy23 ?rs23
  case hy23=>(intro w hSw;(try dsimp only at hSw);go_simp)<;>(try with_reducible rfl)
  (try simp only[Act.put,List.setIfInBounds_toArray,List.set_cons_zero,List.set_cons_succ])
  refine tkr (d:=(some 4)) (v:=?v24) 11 rfl rfl hHeld ?hy24 ?rs24
  case hy24=>(intro w hSw;(try dsimp only at hSw);go_simp)<;>(try with_reducible rfl)
  (try simp only[Act.put,List.setIfInBounds_toArray,List.set_cons_zero,List.set_cons_succ])
  refine wpAnyH_done (by kernel_rfl) ?_ _
  obtain⟨z0,z1,zW⟩:=hHeld
  clear kd0 kd1 kdl W1 B1_d
  go_wp2_with fail
  go_ret
  exact⟨ret_str (by rw[HX.out,HMM.out,List.nil_append]),zW.out⟩

theorem rdect_any (c s:Int) (w:World) (h:okD c s):Calls Tryz.prog 62 #[.agg #[.int .i64 c,.int .i64 s]] w fun e w'=>e= .returned (.string ⟨(Byt.decText c s).toArray⟩)∧Below w.heap.size w w':=by
 have hcg:(c<0∧Byt.sgn c= [45])∨(¬c<0∧Byt.sgn c= []):=by
  by_cases hc:c<0
  ·exact .inl ⟨hc,if_pos hc⟩
  ·exact .inr ⟨hc,if_neg hc⟩
 by_cases hs:s=0
 ·exact rdect_whole c s w h hs _ rfl hcg
 ·exact rdect_point c s w h (by have:=h.1;omega) _ rfl hcg
end Go.Proofs.YtldbfkccieipjaaGreatDoor
