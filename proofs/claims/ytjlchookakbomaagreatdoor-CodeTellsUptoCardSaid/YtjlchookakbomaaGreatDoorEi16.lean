/- What the rules' functions want of the start. No walk. -/
import Derived.Test.YtjlchookakbomaaGreatDoorEi15
import Derived.Laws.Runes
import Derived.WalkMore
import Derived.Maps.OwnIn
set_option maxHeartbeats 8000000
set_option maxRecDepth 100000
namespace Go.Proofs.YtjlchookakbomaaGreatDoor
open Go.RowKit

theorem infoStrJ:(Tryz.prog.info? 9).map (fun i=>(i.zero,i.size,i.bytes))=some (some (.string ByteArray.empty),1,16):=by kernel_rfl

theorem zIw (l:List (Int×Int)) (f:Int×Int→List UInt8) (g:Nat) (eg: ∀args w,(callFunc g args).run Tryz.prog w= .ok (.enter g args) w) (v:Value) (sep:List UInt8) (w:World) (hl:SlAt 2 RngC w v l) (hm:l.length≤4000000001)
  (ht:Lst.total (l.map f) sep≤2000000000000)
  (CP:Hid (∀x∈l,∀wx,Below w.heap.size w wx→Calls Tryz.prog g #[.agg #[.int .i64 x.1,.int .i64 x.2]] wx fun e w'=>e= .returned (.string ⟨(f x).toArray⟩)∧Below wx.heap.size wx w')):
  Calls Tryz.prog 205 #[v,.string ⟨sep.toArray⟩,.func (.func g) #[] #[]] w fun e w'=>e= .returned (.string ⟨(Lib.join (l.map f) sep).toArray⟩)∧Below w.heap.size w w':=by
 obtain⟨i0,hi,hz0,hz1,hz2⟩:=info_parts infoStrJ
 obtain⟨za,zn,zc,rfl⟩:=hl.isSlice
 have HLB:=lH fun (wr:World) (hb:Below w.heap.size w wr)=>hl.rngs_below hb
 have hn:zn=l.length:=by
  obtain⟨A,cap,e,_⟩:=hl.spread
  injection e
 subst hn
 have CJ:=lH fun (v:Value) (w:World) (h:StrsAt w v (l.map f))=>zBJ (l.map f) v sep w h (by rw[List.length_map];omega) ht
 clear hl ht
 go_enter Tryz.func205,Tryz.ntmps205
 go_wp2_with fail
 go_loopw [7,12] (fun o i wr=> ∃k:Nat,i= .int .i64 (k:Int)∧k≤l.length∧Hid (wr.ownsRow w.heap.size 9 1 o k (((l.map f).take k).map txtV))∧Hid (Below w.heap.size w wr)) (fun _ i _=>l.length-(intOf i).toNat)
 case atStart=>exact⟨0,rfl,Nat.zero_le _,lH ⟨rfl,.inl ⟨rfl,rfl⟩⟩,lH (Below.refl _ _)⟩
 case round=>
  obtain⟨k,rfl,hk,HO,HB⟩:=hrel
  by_cases hlt:k<l.length
  ·obtain⟨x,hx⟩: ∃x,l[k]?=some x:=⟨l[k],List.getElem?_eq_getElem hlt⟩
   obtain⟨A',cap',eA,_,hsp⟩:=(HLB.out wr HB.out).spread
   injection eA with e1 e2 e3
   subst e1
   obtain⟨b,off,rfl,hxc⟩:=hsp k x hx
   clear hsp e2 e3
   obtain⟨x0,x1⟩:=hxc
   have CX:=lH fun wx hb=>CP.out x (List.mem_of_getElem? hx) wx hb
   have HT:=lH (show((l.map f).take (k+1)).map txtV=((l.map f).take k).map txtV++ [txtV (f x)] by
    rw[List.take_add_one,List.getElem?_map,hx];simp)
   clear hx
   generalize f x=fx at*
   go_wp2_with fail
   refine(CX.out _ (bT HB.out (bA _ _))).mono ?_
   rintro e w2 ⟨rfl,hb⟩
   have hb':=bT (bA wr _) hb
   have HB2:=lH (bT HB.out hb')
   have hown:=HO.out.kept (row:=none) ⟨hb'.os,hb'.tape,hb'.output,hb'.size,fun k hk _=>hb'.block k hk⟩ (by cases u7.ownBlock<;>simp)
   have hbs:=HB2.out.size
   clear hb hb' CX HO HB x0 x1
   go_wp2_with (at_builtin;refine wpList_append_own _ rfl _ _ 97 rfl w.heap.size 9 i0 (.string ByteArray.empty) 1 16 Tryz.underlying97 hi hz0 hz1 hz2 rfl (by decide) _ _ _ rfl (hown.alloc _) ⟨w2.heap.size,0,none⟩ 1 1 [txtV fx] rfl rfl (cell_one_new _ _ _) (fun x hx=>by simp at hx;subst hx;rfl) (by unfold maxLen;omega) (by omega) (by simp;omega) ?_;intro v' w1 hown' hgrow _)
   have HO':=lH (show w1.ownsRow w.heap.size 9 1 v' (k+1) (((l.map f).take (k+1)).map txtV) by rw[HT.out];exact hown')
   have HB':=lH (show Below w.heap.size w w1 from(HB2.out.alloc hbs _).grown hgrow (by simp;omega) (fun k hk=>(hown.lt k hk).1))
   clear hown hown' hgrow hbs HB2
   go_wp2_with fail
   go_roundw
   case rel=>exact⟨k+1,by go_num,by omega,HO',HB'⟩
   case measure=>simp[intOf];omega
  obtain rfl:k=l.length:=by omega
  have HS:=lH (show StrsAt wr u7 (l.map f) from StrsAt.of_row (n:=l.length) (by have h:=HO.out;rw[List.take_of_length_le (by rw[List.length_map];omega)] at h;exact h))
  go_wp2_with fail
  refine(CJ.out _ _ HS.out).mono ?_
  rintro e w2 ⟨rfl,hb⟩
  have HB2:=lH (bT HB.out hb)
  clear hb
  go_wp2_with fail
  go_ret
  exact⟨rfl,HB2.out⟩
open Go.RowKit

theorem zMu (c:UInt8) (h:Rul.opOk c=true):Utf8.encode (c.toNat:Int)=⟨#[c]⟩:=by
 have h':c∈ [110,105,118,119,102,116]:=by simpa[Rul.opOk] using h
 simp only[List.mem_cons,List.not_mem_nil,or_false] at h'
 rcases h' with rfl|rfl|rfl|rfl|rfl|rfl
 ·show Utf8.encode 110=⟨#[110]⟩
  kernel_rfl
 ·show Utf8.encode 105=⟨#[105]⟩
  kernel_rfl
 ·show Utf8.encode 118=⟨#[118]⟩
  kernel_rfl
 ·show Utf8.encode 119=⟨#[119]⟩
  kernel_rfl
 ·show Utf8.encode 102=⟨#[102]⟩
  kernel_rfl
 show Utf8.encode 116=⟨#[116]⟩
 kernel_rfl
theorem zJC (args:Array Value) (w:World):(callFunc 206 args).run Tryz.prog w= .ok (.enter 206 args) w:=enters_of Tryz.func206 (by kernel_rfl) rfl args w

theorem zG0 (r:Rul.Rl) (a:Option Addr) (n c:Nat) (w:World) (hp:PowW w) (hs:SlAt 2 RngC w (.slice a n c) r.rs) (hl:r.rs.length≤4000000001) (ht:Lst.total (r.rs.map Rul.rngT) [44]≤2000000000000) (hk:Rul.relOk r=true):
  Calls Tryz.prog 181 #[.agg #[.int .u8 (r.op.toNat:Int),.int .i64 r.mod,.bool r.no,.slice a n c]] w fun e w'=>e= .returned (.string ⟨(Rul.relT r).toArray⟩)∧Below w.heap.size w w':=by
 obtain⟨op,mod,no,rs⟩:=r
 simp only[Rul.relOk,Bool.and_eq_true,decide_eq_true_eq] at hk
 obtain⟨⟨⟨⟨ho,hm0⟩,hm1⟩,_⟩,hall⟩:=hk
 dsimp only at*
 have EO:=zMu op ho
 have i0:0≤(op.toNat:Int)∧(op.toNat:Int)<256:=by have:=op.toNat_lt;omega
 have CM:=lH fun w hp=>zDS mod w hp hm0 (by omega)
 have CJ:=lH fun (wx:World) (hb:Below w.heap.size w wx)=>zIw rs Rul.rngT 206 zJC (.slice a n c) [44] wx (hs.rngs_below hb) hl ht (lH fun x hx wy hy=>zIv x wy ((hp.below hb).below hy) (List.all_eq_true.1 hall x hx))
 have hT:=lH (show Rul.relT ⟨op,mod,no,rs⟩=(if mod=0 then [op] else [op]++Rul.pcS++Rul.dg mod)++(if no then Rul.neS else Rul.eqS)++Lib.join (rs.map Rul.rngT) [44] from rfl)
 generalize Rul.relT ⟨op,mod,no,rs⟩=T at*
 have hJ:(Lib.join (rs.map Rul.rngT) [44]).length≤2000000000000:=by have:=Lst.zCx (rs.map Rul.rngT) [44];omega
 generalize Lib.join (rs.map Rul.rngT) [44]=J at*
 have lm:(Lib.decDigits mod.toNat).length≤100:=by have:=Byt.zAD 7 mod.toNat (by omega) (by omega);omega
 have hdg:Rul.dg mod=Lib.decDigits mod.toNat:=rfl
 rw[hdg] at hT
 clear hdg
 generalize Lib.decDigits mod.toNat=DM at*
 generalize (op.toNat:Int)=opI at*
 have ew:wrap32 opI=opI:=IntWalk.wrap32_in _ ⟨by omega,by omega⟩
 clear ho hm0 hm1 hall hs ht hl
 obtain⟨SG,hSG⟩: ∃SG,SG=(if no then Rul.neS else Rul.eqS):=⟨_,rfl⟩
 have hSl:SG.length≤4:=by rw[hSG];cases no<;>decide
 obtain⟨P1,hP1⟩: ∃P1,P1=Rul.pcS++DM:=⟨_,rfl⟩
 have lP:P1.length≤103:=by rw[hP1,List.length_append];show 3+_≤_;omega
 obtain⟨X1,hX1⟩: ∃X1,X1=(if mod=0 then [op] else [op]++P1):=⟨_,rfl⟩
 have lX:X1.length≤104:=by rw[hX1];split<;>simp<;>omega
 obtain⟨X2,hX2⟩: ∃X2,X2=X1++SG:=⟨_,rfl⟩
 have lX2:X2.length≤108:=by rw[hX2,List.length_append];omega
 have hTT:=lH (show X2++J=T by rw[hX2,hX1,hP1,hSG,hT.out];simp only[List.append_assoc])
 have AP: ∀w,(Op.stringOp .add ⟨#[32,37,32]⟩ ⟨DM.toArray⟩).run Tryz.prog w= .ok (.string ⟨P1.toArray⟩) w:=fun w=>by rw[hP1];exact zAh (P:= Tryz.prog) [32,37,32] DM (by simp;omega) w
 have AT: ∀w,(Op.stringOp .add ⟨X2.toArray⟩ ⟨J.toArray⟩).run Tryz.prog w= .ok (.string ⟨T.toArray⟩) w:=fun w=>by rw[←hTT.out];exact zAh (P:= Tryz.prog) X2 J (by omega) w
 have B0:=lH (Boxed.made w #[.int .u8 opI,.int .i64 mod,.bool no,.slice a n c] 240)
 have W0:=lH (bA w (.cells #[.int .u8 opI,.int .i64 mod,.bool no,.slice a n c] 240))
 have P0:=lH (hp.alloc (.cells #[.int .u8 opI,.int .i64 mod,.bool no,.slice a n c] 240))
 by_cases hm:mod=0
 ·have e0:(mod==0)=true:=zAo hm
  rw[if_pos hm] at hX1
  subst hX1
  cases no with
  |true=>
   have A2: ∀w,(Op.stringOp .add ⟨#[op]⟩ ⟨#[32,33,61,32]⟩).run Tryz.prog w= .ok (.string ⟨X2.toArray⟩) w:=fun w=>by rw[hX2,hSG];exact zAh (P:= Tryz.prog) [op] [32,33,61,32] (by simp) w
   clear hX2 hP1 hT hm hSG
   go_enter Tryz.func181,Tryz.ntmps181
   go_wp2_with fail
   refine(CJ.out _ W0.out).mono ?_
   rintro e w2 ⟨rfl,hb⟩
   have W2:=lH (bT W0.out hb)
   clear hb CJ CM
   go_wp2_with fail
   go_ret
   exact⟨rfl,W2.out⟩
  |false=>
   have A2: ∀w,(Op.stringOp .add ⟨#[op]⟩ ⟨#[32,61,32]⟩).run Tryz.prog w= .ok (.string ⟨X2.toArray⟩) w:=fun w=>by rw[hX2,hSG];exact zAh (P:= Tryz.prog) [op] [32,61,32] (by simp) w
   clear hX2 hP1 hT hm hSG
   go_enter Tryz.func181,Tryz.ntmps181
   go_wp2_with fail
   refine(CJ.out _ W0.out).mono ?_
   rintro e w2 ⟨rfl,hb⟩
   have W2:=lH (bT W0.out hb)
   clear hb CJ CM
   go_wp2_with fail
   go_ret
   exact⟨rfl,W2.out⟩
 have e0:(mod==0)=false:=zAe hm
 rw[if_neg hm] at hX1
 have A1: ∀w,(Op.stringOp .add ⟨#[op]⟩ ⟨P1.toArray⟩).run Tryz.prog w= .ok (.string ⟨X1.toArray⟩) w:=fun w=>by rw[hX1];exact zAh (P:= Tryz.prog) [op] P1 (by simp;omega) w
 cases no with
 |true=>
  have A2: ∀w,(Op.stringOp .add ⟨X1.toArray⟩ ⟨#[32,33,61,32]⟩).run Tryz.prog w= .ok (.string ⟨X2.toArray⟩) w:=fun w=>by rw[hX2,hSG];exact zAh (P:= Tryz.prog) X1 [32,33,61,32] (by simp;omega) w
  clear hX1 hX2 hP1 hT hm hSG
  go_enter Tryz.func181,Tryz.ntmps181
  go_wp2_with fail
  refine(CM.out _ P0.out).mono ?_
  rintro e w1 ⟨rfl,hb⟩
  have W1:=lH (bT W0.out hb)
  have B1:=lH (B0.out.below hb)
  have k2:=B1.out.cell 2 _ rfl
  have k3:=B1.out.cell 3 _ rfl
  clear hb CM B0 W0 P0
  go_wp2_with fail
  refine(CJ.out _ W1.out).mono ?_
  rintro e w2 ⟨rfl,hb⟩
  have W2:=lH (bT W1.out hb)
  clear hb CJ
  go_wp2_with fail
  go_ret
  exact⟨rfl,W2.out⟩
 |false=>
  have A2: ∀w,(Op.stringOp .add ⟨X1.toArray⟩ ⟨#[32,61,32]⟩).run Tryz.prog w= .ok (.string ⟨X2.toArray⟩) w:=fun w=>by rw[hX2,hSG];exact zAh (P:= Tryz.prog) X1 [32,61,32] (by simp;omega) w
  clear hX1 hX2 hP1 hT hm hSG
  go_enter Tryz.func181,Tryz.ntmps181
  go_wp2_with fail
  refine(CM.out _ P0.out).mono ?_
  rintro e w1 ⟨rfl,hb⟩
  have W1:=lH (bT W0.out hb)
  have B1:=lH (B0.out.below hb)
  have k2:=B1.out.cell 2 _ rfl
  have k3:=B1.out.cell 3 _ rfl
  clear hb CM B0 W0 P0
  go_wp2_with fail
  refine(CJ.out _ W1.out).mono ?_
  rintro e w2 ⟨rfl,hb⟩
  have W2:=lH (bT W1.out hb)
  clear hb CJ
  go_wp2_with fail
  go_ret
  exact⟨rfl,W2.out⟩
open Go.RowKit

theorem zIx (l:List Rul.Rl) (f:Rul.Rl→List UInt8) (g:Nat) (eg: ∀args w,(callFunc g args).run Tryz.prog w= .ok (.enter g args) w) (v:Value) (sep:List UInt8) (w:World) (hl:SlAt 4 RelC w v l) (hm:l.length≤4000000001)
  (ht:Lst.total (l.map f) sep≤2000000000000)
  (CP:Hid (∀x∈l,∀a n c wx,Below w.heap.size w wx→SlAt 2 RngC wx (.slice a n c) x.rs→Calls Tryz.prog g #[.agg #[.int .u8 (x.op.toNat:Int),.int .i64 x.mod,.bool x.no,.slice a n c]] wx fun e w'=>e= .returned (.string ⟨(f x).toArray⟩)∧Below wx.heap.size wx w')):
  Calls Tryz.prog 180 #[v,.string ⟨sep.toArray⟩,.func (.func g) #[] #[]] w fun e w'=>e= .returned (.string ⟨(Lib.join (l.map f) sep).toArray⟩)∧Below w.heap.size w w':=by
 obtain⟨i0,hi,hz0,hz1,hz2⟩:=info_parts infoStrJ
 obtain⟨za,zn,zc,rfl⟩:=hl.isSlice
 have HLB:=lH fun (wr:World) (hb:Below w.heap.size w wr)=>hl.rels_below hb
 have hn:zn=l.length:=by
  obtain⟨A,cap,e,_⟩:=hl.spread
  injection e
 subst hn
 have CJ:=lH fun (v:Value) (w:World) (h:StrsAt w v (l.map f))=>zBJ (l.map f) v sep w h (by rw[List.length_map];omega) ht
 clear hl ht
 go_enter Tryz.func180,Tryz.ntmps180
 go_wp2_with fail
 go_loopw [7,12] (fun o i wr=> ∃k:Nat,i= .int .i64 (k:Int)∧k≤l.length∧Hid (wr.ownsRow w.heap.size 9 1 o k (((l.map f).take k).map txtV))∧Hid (Below w.heap.size w wr)) (fun _ i _=>l.length-(intOf i).toNat)
 case atStart=>exact⟨0,rfl,Nat.zero_le _,lH ⟨rfl,.inl ⟨rfl,rfl⟩⟩,lH (Below.refl _ _)⟩
 case round=>
  obtain⟨k,rfl,hk,HO,HB⟩:=hrel
  by_cases hlt:k<l.length
  ·obtain⟨x,hx⟩: ∃x,l[k]?=some x:=⟨l[k],List.getElem?_eq_getElem hlt⟩
   obtain⟨A',cap',eA,_,hsp⟩:=(HLB.out wr HB.out).spread
   injection eA with e1 e2 e3
   subst e1
   obtain⟨b,off,rfl,hxc⟩:=hsp k x hx
   clear hsp e2 e3
   obtain⟨a4,n4,c4,x0,x1,x2,x3,xs⟩:=hxc
   have HXS:=lH fun wx (hb:Below wr.heap.size wr wx)=>xs.rngs_below hb
   clear xs
   have CX:=lH fun wx hb h=>CP.out x (List.mem_of_getElem? hx) a4 n4 c4 wx hb h
   have HT:=lH (show((l.map f).take (k+1)).map txtV=((l.map f).take k).map txtV++ [txtV (f x)] by
    rw[List.take_add_one,List.getElem?_map,hx];simp)
   clear hx
   generalize f x=fx at*
   go_wp2_with fail
   refine(CX.out _ (bT HB.out (bA _ _)) (HXS.out _ (bA _ _))).mono ?_
   rintro e w2 ⟨rfl,hb⟩
   have hb':=bT (bA wr _) hb
   have HB2:=lH (bT HB.out hb')
   have hown:=HO.out.kept (row:=none) ⟨hb'.os,hb'.tape,hb'.output,hb'.size,fun k hk _=>hb'.block k hk⟩ (by cases u7.ownBlock<;>simp)
   have hbs:=HB2.out.size
   clear hb hb' CX HO HB HXS x0 x1 x2 x3
   go_wp2_with (at_builtin;refine wpList_append_own _ rfl _ _ 97 rfl w.heap.size 9 i0 (.string ByteArray.empty) 1 16 Tryz.underlying97 hi hz0 hz1 hz2 rfl (by decide) _ _ _ rfl (hown.alloc _) ⟨w2.heap.size,0,none⟩ 1 1 [txtV fx] rfl rfl (cell_one_new _ _ _) (fun x hx=>by simp at hx;subst hx;rfl) (by unfold maxLen;omega) (by omega) (by simp;omega) ?_;intro v' w1 hown' hgrow _)
   have HO':=lH (show w1.ownsRow w.heap.size 9 1 v' (k+1) (((l.map f).take (k+1)).map txtV) by rw[HT.out];exact hown')
   have HB':=lH (show Below w.heap.size w w1 from(HB2.out.alloc hbs _).grown hgrow (by simp;omega) (fun k hk=>(hown.lt k hk).1))
   clear hown hown' hgrow hbs HB2
   go_wp2_with fail
   go_roundw
   case rel=>exact⟨k+1,by go_num,by omega,HO',HB'⟩
   case measure=>simp[intOf];omega
  obtain rfl:k=l.length:=by omega
  have HS:=lH (show StrsAt wr u7 (l.map f) from StrsAt.of_row (n:=l.length) (by have h:=HO.out;rw[List.take_of_length_le (by rw[List.length_map];omega)] at h;exact h))
  go_wp2_with fail
  refine(CJ.out _ _ HS.out).mono ?_
  rintro e w2 ⟨rfl,hb⟩
  have HB2:=lH (bT HB.out hb)
  clear hb
  go_wp2_with fail
  go_ret
  exact⟨rfl,HB2.out⟩

theorem zG1 (l:List (List Rul.Rl)) (f:List Rul.Rl→List UInt8) (g:Nat) (eg: ∀args w,(callFunc g args).run Tryz.prog w= .ok (.enter g args) w) (v:Value) (sep:List UInt8) (w:World) (hl:SlAt 1 PartC w v l) (hm:l.length≤4000000001)
  (ht:Lst.total (l.map f) sep≤2000000000000)
  (CP:Hid (∀x∈l,∀a n c wx,Below w.heap.size w wx→SlAt 4 RelC wx (.slice a n c) x→Calls Tryz.prog g #[.slice a n c] wx fun e w'=>e= .returned (.string ⟨(f x).toArray⟩)∧Below wx.heap.size wx w')):
  Calls Tryz.prog 178 #[v,.string ⟨sep.toArray⟩,.func (.func g) #[] #[]] w fun e w'=>e= .returned (.string ⟨(Lib.join (l.map f) sep).toArray⟩)∧Below w.heap.size w w':=by
 obtain⟨i0,hi,hz0,hz1,hz2⟩:=info_parts infoStrJ
 obtain⟨za,zn,zc,rfl⟩:=hl.isSlice
 have HLB:=lH fun (wr:World) (hb:Below w.heap.size w wr)=>hl.rule_below hb
 have hn:zn=l.length:=by
  obtain⟨A,cap,e,_⟩:=hl.spread
  injection e
 subst hn
 have CJ:=lH fun (v:Value) (w:World) (h:StrsAt w v (l.map f))=>zBJ (l.map f) v sep w h (by rw[List.length_map];omega) ht
 clear hl ht
 go_enter Tryz.func178,Tryz.ntmps178
 go_wp2_with fail
 go_loopw [7,12] (fun o i wr=> ∃k:Nat,i= .int .i64 (k:Int)∧k≤l.length∧Hid (wr.ownsRow w.heap.size 9 1 o k (((l.map f).take k).map txtV))∧Hid (Below w.heap.size w wr)) (fun _ i _=>l.length-(intOf i).toNat)
 case atStart=>exact⟨0,rfl,Nat.zero_le _,lH ⟨rfl,.inl ⟨rfl,rfl⟩⟩,lH (Below.refl _ _)⟩
 case round=>
  obtain⟨k,rfl,hk,HO,HB⟩:=hrel
  by_cases hlt:k<l.length
  ·obtain⟨x,hx⟩: ∃x,l[k]?=some x:=⟨l[k],List.getElem?_eq_getElem hlt⟩
   obtain⟨A',cap',eA,_,hsp⟩:=(HLB.out wr HB.out).spread
   injection eA with e1 e2 e3
   subst e1
   obtain⟨b,off,rfl,hxc⟩:=hsp k x hx
   clear hsp e2 e3
   obtain⟨a4,n4,c4,x0,xs⟩:=hxc
   rw[Nat.mul_one] at x0
   have HXS:=lH xs
   clear xs
   have CX:=lH fun wx hb h=>CP.out x (List.mem_of_getElem? hx) a4 n4 c4 wx hb h
   have HT:=lH (show((l.map f).take (k+1)).map txtV=((l.map f).take k).map txtV++ [txtV (f x)] by
    rw[List.take_add_one,List.getElem?_map,hx];simp)
   clear hx
   generalize f x=fx at*
   go_wp2_with fail
   refine(CX.out _ HB.out HXS.out).mono ?_
   rintro e w2 ⟨rfl,hb⟩
   have hb':=hb
   have HB2:=lH (bT HB.out hb')
   have hown:=HO.out.kept (row:=none) ⟨hb'.os,hb'.tape,hb'.output,hb'.size,fun k hk _=>hb'.block k hk⟩ (by cases u7.ownBlock<;>simp)
   have hbs:=HB2.out.size
   clear hb hb' CX HO HB HXS x0
   go_wp2_with (at_builtin;refine wpList_append_own _ rfl _ _ 97 rfl w.heap.size 9 i0 (.string ByteArray.empty) 1 16 Tryz.underlying97 hi hz0 hz1 hz2 rfl (by decide) _ _ _ rfl (hown.alloc _) ⟨w2.heap.size,0,none⟩ 1 1 [txtV fx] rfl rfl (cell_one_new _ _ _) (fun x hx=>by simp at hx;subst hx;rfl) (by unfold maxLen;omega) (by omega) (by simp;omega) ?_;intro v' w1 hown' hgrow _)
   have HO':=lH (show w1.ownsRow w.heap.size 9 1 v' (k+1) (((l.map f).take (k+1)).map txtV) by rw[HT.out];exact hown')
   have HB':=lH (show Below w.heap.size w w1 from(HB2.out.alloc hbs _).grown hgrow (by simp;omega) (fun k hk=>(hown.lt k hk).1))
   clear hown hown' hgrow hbs HB2
   go_wp2_with fail
   go_roundw
   case rel=>exact⟨k+1,by go_num,by omega,HO',HB'⟩
   case measure=>simp[intOf];omega
  obtain rfl:k=l.length:=by omega
  have HS:=lH (show StrsAt wr u7 (l.map f) from StrsAt.of_row (n:=l.length) (by have h:=HO.out;rw[List.take_of_length_le (by rw[List.length_map];omega)] at h;exact h))
  go_wp2_with fail
  refine(CJ.out _ _ HS.out).mono ?_
  rintro e w2 ⟨rfl,hb⟩
  have HB2:=lH (bT HB.out hb)
  clear hb
  go_wp2_with fail
  go_ret
  exact⟨rfl,HB2.out⟩
open Go.RowKit

theorem zMv (c:UInt8):decide (0≤Lib.indexByte [110,105,118,119,102,116] c)=Rul.opOk c:=by
 have key: ∀n:Nat,n<256→decide (0≤Lib.indexByte [110,105,118,119,102,116] (UInt8.ofNat n))=Rul.opOk (UInt8.ofNat n):=by decide+kernel
 have:=key c.toNat c.toNat_lt
 simpa using this
theorem zNx (c:UInt8) (h:128≤c.toNat):Rul.opOk c=false:=by
 cases e:Rul.opOk c with
 |false=>rfl
 |true=>
  rcases Rul.zBr e with rfl|rfl|rfl|rfl|rfl|rfl<;>exact absurd h (by decide)
theorem zMw (n:Int) (h0:128≤n) (h1:n≤255): ∃b0 b1:UInt8,Utf8.encode n=⟨[b0,b1].toArray⟩∧128≤b1.toNat:=by
 have hv:Utf8.valid n=true:=by unfold Utf8.valid;simp;omega
 refine⟨UInt8.ofNat (0xC0+n.toNat/64),UInt8.ofNat (0x80+n.toNat%64),?_,?_⟩
 ·unfold Utf8.encode
  simp only[hv,if_true]
  rw[if_neg (by omega),if_pos (by omega)]
 rw[UInt8.toNat_ofNat'];omega
theorem zMx (c:UInt8) (h:128≤c.toNat):Lib.indexByte [118,119,102,116] c= -1:=by
 have key: ∀n:Nat,n<256→128≤n→Lib.indexByte [118,119,102,116] (UInt8.ofNat n)= -1:=by decide+kernel
 have:=key c.toNat c.toNat_lt h
 simpa using this

theorem zJD (r:Int) (w:World) (h0:0≤r) (h1:r<55296):Calls Tryz.prog 214 #[.int .i32 r] w fun e w'=>e= .returned (.bool true)∧w'=w:=by
 go_enter Tryz.func214,Tryz.ntmps214
 go_wp2_with fail
 go_ret
 exact⟨rfl,rfl⟩

theorem zKV (c:Int) (w:World) (h0:128≤c) (h1:c≤255):
  Calls Tryz.prog 193 #[.string ⟨#[110,105,118,119,102,116]⟩,.int .i32 c] w fun e w'=>e= .returned (.int .i64 (-1))∧Below w.heap.size w w':=by
 obtain⟨b0,b1,he,hb⟩:=zMw c h0 h1
 have CE: ∀w,(convert 21 9 (.int .i32 c)).run Tryz.prog w= .ok (.string ⟨[b0,b1].toArray⟩) w:=fun w=>(run_convert_int_string (P:= Tryz.prog) w 21 9 .i32 c (by rw[Tryz.underlying21];rfl) Tryz.underlying9).trans (by rw[he])
 have CV:=lH fun w=>zJD c w (by omega) (by omega)
 have I0:=fun w=>zA9 (P:= Tryz.prog) 9 Tryz.underlying9 [110,105,118,119,102,116] .i64 1 105 rfl w
 have I1:=fun w=>zA9 (P:= Tryz.prog) 9 Tryz.underlying9 [b0,b1] .i64 1 b1 rfl w
 have SL:=fun w=>zBd (P:= Tryz.prog) 9 Tryz.underlying9 [110,105,118,119,102,116] .i64 2 (by decide) w
 have CB:=lH fun (w:World)=> Tryz.strings_IndexByte ⟨#[118,119,102,116]⟩ (b1.toNat:Int) w
 have e1:Lib.indexByte (⟨#[118,119,102,116]⟩:ByteArray).data.toList ((b1.toNat:Int)).toNat.toUInt8= -1:=by
  have:((b1.toNat:Int)).toNat.toUInt8=b1:=by simp
  rw[this];exact zMx b1 hb
 rw[e1] at CB
 clear e1 he
 have hb2:=b1.toNat_lt
 go_enter Tryz.func193,Tryz.ntmps193
 go_wp2_with fail
 refine(CV.out _).mono ?_
 rintro e w' ⟨rfl,rfl⟩
 go_wp2_with fail
 go_step3
 go_wp2_with fail
 go_loopw [9] (fun i wr=>i= .int .i64 1∧wr=w') (fun _ _=>0)
 case atStart=>exact⟨rfl,rfl⟩
 case round=>
  obtain⟨rfl,rfl⟩:=hrel
  have hx:(⟨#[110,105,118,119,102,116]⟩:ByteArray).extract 2 6=⟨#[118,119,102,116]⟩:=by decide
  have hy:(⟨#[b0,b1]⟩:ByteArray)[1]'(by show 1<2;decide)=b1:=rfl
  have hw2:IntKind.i64.wrap 2=2:=by decide
  have hz:((⟨#[110,105,118,119,102,116]⟩:ByteArray)[1]'(by decide)).toNat=105:=by decide
  have hne:((105:Int)==(b1.toNat:Int))=false:=zAe (by omega)
  have hne2:(((105:Nat):Int) !=(b1.toNat:Int))=true:=by rw[bne,show(((105:Nat):Int)==(b1.toNat:Int))=false from hne];rfl
  go_wp2_with fail
  go_step3
  go_wp2_with fail
  go_quiet (fail)
  rename_i nq
  have HB:=lH (zAb (Below.refl wr.heap.size wr) nq)
  generalize wr.drewN nq=w2 at*
  go_wp2_with fail
  go_big_quiet ((go_at_call 84;exact zAt ((CB.out _).mono fun _ _ h=>⟨h.1,h.2.symm⟩)))
  go_wp2_with fail
  simp(config:={zetaDelta:=true}) only[Exit.then,Exit.noGoto,Exit.inBlock]
  go_ret
  exact⟨rfl,zAb HB.out _⟩

theorem zKW (c:Int) (w:World) (h0:128≤c) (h1:c≤255):
  Calls Tryz.prog 166 #[.string ⟨#[110,105,118,119,102,116]⟩,.int .i32 c] w fun e w'=>e= .returned (.bool false)∧Below w.heap.size w w':=by
 have CI:=lH (zKV c w h0 h1)
 go_enter Tryz.func166,Tryz.ntmps166
 go_wp2_with fail
 refine CI.out.mono ?_
 rintro e w' ⟨rfl,hb⟩
 go_wp2_with fail
 go_ret
 exact⟨rfl,hb⟩
theorem zJE (c:UInt8) (w:World):
  Calls Tryz.prog 166 #[.string ⟨#[110,105,118,119,102,116]⟩,.int .i32 (c.toNat:Int)] w fun e w'=>e= .returned (.bool (Rul.opOk c))∧Below w.heap.size w w':=by
 by_cases h:c.toNat<128
 ·have e:((c.toNat:Int)).toNat.toUInt8=c:=by simp
  have C:= Tryz.strings_ContainsRune_ascii ⟨#[110,105,118,119,102,116]⟩ (c.toNat:Int) w (by omega) (by omega)
  rw[e,zMv c] at C
  exact C.mono fun _ _ h=>⟨h.1,by rw[h.2];exact Below.refl _ _⟩
 have:=c.toNat_lt
 rw[zNx c (by omega)]
 exact zKW _ w (by omega) (by omega)
open Go.RowKit

def errR (n:Int):Value:=if n=0 then .nilIface else errV n

theorem zJF (p:Int×Int) (w:World):
  Calls Tryz.prog 207 (#[.agg #[.int .i64 p.1,.int .i64 p.2]]++ #[]) w fun e w'=>e= .returned (.bool (!Rul.rngOk p))∧Below w.heap.size w w':=by
 obtain⟨a,b⟩:=p
 dsimp only
 have HR:=lH (show Rul.rngOk (a,b)=(decide (0≤a)&&decide (a≤b)&&decide (b≤1000000)) from rfl)
 generalize Rul.rngOk (a,b)=R at*
 show Calls _ _ #[_] _ _
 by_cases h0:a<0
 ·have HF:=lH (show R=false by rw[HR.out,zAa (show ¬0≤a by omega)];rfl)
  go_enter Tryz.func207,Tryz.ntmps207
  go_wp2_with fail
  go_ret
  exact⟨zAg (by rw[HF.out];rfl),bA _ _⟩
 by_cases h1:b<a
 ·have HF:=lH (show R=false by rw[HR.out,zAa (show ¬a≤b by omega)];simp)
  go_enter Tryz.func207,Tryz.ntmps207
  go_wp2_with fail
  go_ret
  exact⟨zAg (by rw[HF.out];rfl),bA _ _⟩
 by_cases h2:1000000<b
 ·have HF:=lH (show R=false by rw[HR.out,zAa (show ¬b≤1000000 by omega)];simp)
  have d2:decide (1000000<b)=true:=zAd h2
  go_enter Tryz.func207,Tryz.ntmps207
  go_wp2_with fail
  go_ret
  exact⟨zAg (by rw[HF.out];first|rfl|simpa using h2),bA _ _⟩
 have HF:=lH (show R=true by rw[HR.out,zAd (show 0≤a by omega),zAd (show a≤b by omega),zAd (show b≤1000000 by omega)];rfl)
 have d2:decide (1000000<b)=false:=zAa h2
 go_enter Tryz.func207,Tryz.ntmps207
 go_wp2_with fail
 go_ret
 exact⟨zAg (by rw[HF.out];first|rfl|simpa using h2),bA _ _⟩
theorem zMy {l:List (Int×Int)}:(l.any fun p=>!Rul.rngOk p)=!(l.all Rul.rngOk):=by
 induction l with
 |nil=>rfl
 |cons x r ih=>rw[List.any_cons,List.all_cons,ih,Bool.not_and]
theorem zKX (args:Array Value) (w:World):(callFunc 207 args).run Tryz.prog w= .ok (.enter 207 args) w:=enters_of Tryz.func207 (by kernel_rfl) rfl args w
open Go.RowKit

theorem zGx (r:Rul.Rl) (a:Option Addr) (n c:Nat) (w:World) (hs:SlAt 2 RngC w (.slice a n c) r.rs) (hl:r.rs.length≤4000000001):
  Calls Tryz.prog 182 #[.agg #[.int .u8 (r.op.toNat:Int),.int .i64 r.mod,.bool r.no,.slice a n c]] w fun e w'=>e= .returned (.bool (Rul.relOk r))∧Below w.heap.size w w':=by
 obtain⟨op,mod,no,rs⟩:=r
 dsimp only at*
 have hn:n=rs.length:=by
  obtain⟨A,cap,e,_⟩:=hs.spread
  injection e
 have CR:=lH fun w=>zJE op w
 have HA:=lH fun (w':World) (hb:Below w.heap.size w w')=>zHL rs (fun p=>!Rul.rngOk p) 207 #[] zKX (.slice a n c) w' (hs.rngs_below hb) (lH fun x _ wx _=>zJF x wx)
 have HR:=lH (show Rul.relOk ⟨op,mod,no,rs⟩=(Rul.opOk op&&decide (0≤mod)&&decide (mod≤1000000)&&!rs.isEmpty&&rs.all Rul.rngOk) from rfl)
 generalize Rul.relOk ⟨op,mod,no,rs⟩=R at*
 generalize Rul.opOk op=O at*
 have hOB:(op.toNat:Int)<256:=by have:=op.toNat_lt;omega
 have hO0:0≤(op.toNat:Int):=by omega
 generalize (op.toNat:Int)=opI at*
 have hX:(rs.any fun p=>!Rul.rngOk p)=!(rs.all Rul.rngOk):=zMy
 rw[hX] at HA
 subst hn
 have hE:rs.isEmpty=decide ((rs.length:Int)=0):=by cases rs<;>simp<;>omega
 rw[hE] at HR
 generalize rs.all Rul.rngOk=L at*
 have hnl:(rs.length:Int)≤4000000001:=by omega
 clear hX hE hs hl
 generalize rs.length=n at*
 have ew:wrap32 opI=opI:=IntWalk.wrap32_in _ ⟨by omega,by omega⟩
 go_enter Tryz.func182,Tryz.ntmps182
 go_wp2_with fail
 refine(CR.out _).mono ?_
 rintro e w1 ⟨rfl,hb⟩
 have W1:=lH (bT (bA w (.cells #[.int .u8 opI,.int .i64 mod,.bool no,.slice a n c] 240)) hb)
 have B1:=lH ((Boxed.made w #[.int .u8 opI,.int .i64 mod,.bool no,.slice a n c] 240).below hb)
 have k1:=B1.out.cell 1 _ rfl
 have k3:=B1.out.cell 3 _ rfl
 clear hb CR ew
 cases O with
 |false=>
  obtain rfl:R=false:=HR.out
  go_wp2_with fail
  go_ret
  exact⟨rfl,W1.out⟩
 |true=>
  by_cases h0:mod<0
  ·obtain rfl:R=false:=by rw[HR.out,zAa (show ¬0≤mod by omega)];rfl
   go_wp2_with fail
   go_ret
   exact⟨rfl,W1.out⟩
  by_cases h1:1000000<mod
  ·obtain rfl:R=false:=by rw[HR.out,zAd (show 0≤mod by omega),zAa (show ¬mod≤1000000 by omega)];rfl
   go_wp2_with fail
   go_ret
   exact⟨rfl,W1.out⟩
  by_cases h2:(n:Int)=0
  ·obtain rfl:R=false:=by rw[HR.out,zAd (show 0≤mod by omega),zAd (show mod≤1000000 by omega),zAd h2];rfl
   have e2:((n:Int)==0)=true:=zAo h2
   go_wp2_with fail
   go_ret
   exact⟨rfl,W1.out⟩
  obtain rfl:R=L:=by rw[HR.out,zAd (show 0≤mod by omega),zAd (show mod≤1000000 by omega),zAa h2];simp
  have e2:((n:Int)==0)=false:=zAe h2
  have e1:decide (1000000<mod)=false:=zAa h1
  have e0:decide (mod<0)=false:=zAa h0
  clear h0 h1 h2 HR
  go_wp2_with fail
  refine(HA.out _ W1.out).mono ?_
  rintro e w2 ⟨rfl,hb⟩
  have W2:=lH (bT W1.out hb)
  clear hb HA W1 k1 k3
  go_wp2_with fail
  go_ret
  exact⟨zAg (by simp),W2.out⟩
open Go.RowKit

theorem zCW {r:Rul.Rule} {k:Nat} {l:List Rul.Rl} (h:r[k]?=some l):Rul.count (r.take (k+1))=Rul.count (r.take k)+l.length:=by
 unfold Rul.count
 rw[List.take_add_one,h]
 simp
theorem zGy {r:Rul.Rule} {k:Nat} {l:List Rul.Rl} (h:r[k]?=some l):Rul.count (r.take k)+l.length≤Rul.count r:=by
 rw[←zCW h]
 unfold Rul.count
 have e:r=r.take (k+1)++r.drop (k+1):=(List.take_append_drop _ _).symm
 conv=>rhs;rw[e]
 rw[List.map_append,List.sum_append]
 omega
theorem zGz {r:Rul.Rule} {k:Nat} {l:List Rul.Rl} (h:r[k]?=some l) (hb:Rul.partOk l=false):Rul.ruleE r=3:=by
 have hs:Rul.shapeOk r=false:=by
  unfold Rul.shapeOk
  have:r.all Rul.partOk=false:=by
   rw[List.all_eq_false]
   exact⟨l,List.mem_of_getElem? h,by rw[hb];decide⟩
  rw[this,Bool.and_false]
 unfold Rul.ruleE
 rw[hs];rfl
theorem zEM {l:List Rul.Rl} {j:Nat} {x:Rul.Rl} (h:l[j]?=some x) (hb:Rul.relOk x=false):Rul.partOk l=false:=by
 unfold Rul.partOk
 have:l.all Rul.relOk=false:=by
  rw[List.all_eq_false]
  exact⟨x,List.mem_of_getElem? h,by rw[hb];decide⟩
 rw[this,Bool.and_false]
theorem zB9 {α:Type} {p:α→Bool} {l:List α} {k:Nat} {x:α} (h:l[k]?=some x) (ha:(l.take k).all p=true) (hx:p x=true):(l.take (k+1)).all p=true:=by
 rw[List.take_add_one,h,List.all_append,ha]
 simp[hx]
theorem zGA {r:Rul.Rule} (h0:r.length≠0) (h:r.all Rul.partOk=true):Rul.ruleE r=if 20<Rul.count r then 4 else 0:=by
 have hs:Rul.shapeOk r=true:=by
  unfold Rul.shapeOk
  rw[h]
  cases r with
  |nil=>simp at h0
  |cons=>rfl
 unfold Rul.ruleE
 rw[hs];rfl
theorem zDn (r:Rul.Rule) (A:Option Addr) (n c:Nat) (w:World) (hr:SlAt 1 PartC w (.slice A n c) r) (hl:r.length≤1000000000) (hc:Rul.count r≤1000000000) (hrs: ∀l∈r,∀x∈l,x.rs.length≤4000000001):
  Calls Tryz.prog 151 #[.slice A n c] w fun e w'=>e= .returned (errR (Rul.ruleE r))∧Below w.heap.size w w':=by
 obtain⟨A',cap,e,hm,hcell⟩:=hr.spread
 injection e with e1 e2 e3
 subst e1 e2 e3
 have HLB:=lH fun (wr:World) (hb:Below w.heap.size w wr)=>hr.rule_below hb
 have HS:=lH hrs
 clear hr hcell hrs hm
 by_cases h0:r.length=0
 ·have e0:((r.length:Int)==0)=true:=zAo (by omega)
  obtain rfl:=List.length_eq_zero_iff.1 h0
  go_enter Tryz.func151,Tryz.ntmps151
  go_wp2_with fail
  go_ret
  exact⟨rfl,Below.refl _ _⟩
 have e0:((r.length:Int)==0)=false:=zAe (by omega)
 go_enter Tryz.func151,Tryz.ntmps151
 go_wp2_with fail
 go_loopw [3,14] (fun cn i wr=> ∃k:Nat,cn= .int .i64 (Rul.count (r.take k):Int)∧i= .int .i64 (k:Int)∧k≤r.length∧Hid ((r.take k).all Rul.partOk=true)∧Hid (Below w.heap.size w wr)) (fun _ i _=>r.length-(intOf i).toNat)
 case atStart=>exact⟨0,rfl,rfl,Nat.zero_le _,lH rfl,lH (Below.refl _ _)⟩
 case round=>
  obtain⟨k,rfl,rfl,hk,HA,HB⟩:=hrel
  by_cases hlt:k<r.length
  ·obtain⟨l,hx⟩: ∃l,r[k]?=some l:=⟨r[k],List.getElem?_eq_getElem hlt⟩
   obtain⟨A',cap',eA,_,hsp⟩:=(HLB.out wr HB.out).spread
   injection eA with e1 e2 e3
   subst e1
   obtain⟨b,off,rfl,hxc⟩:=hsp k l hx
   clear hsp e2 e3
   obtain⟨za,zn,zc,x0,xs⟩:=hxc
   rw[Nat.mul_one] at x0
   have HCT:=lH (zCW hx)
   have hcl:=zGy hx
   have HRS:=lH (HS.out l (List.mem_of_getElem? hx))
   have HBP:=lH fun hb=>zGz hx hb
   have HAT:=lH fun hb=>zB9 hx HA.out hb
   have HXL:=lH fun (wx:World) (hb:Below wr.heap.size wr wx)=>xs.rels_below hb
   obtain⟨A2,cap2,eA,_,_⟩:=xs.spread
   injection eA with e1 e2 e3
   subst e1 e2 e3
   clear hx xs
   cases l with
   |nil=>
    have HE:=lH (HBP.out rfl)
    go_wp2_with fail
    go_ret
    exact⟨by rw[HE.out];rfl,HB.out⟩
   |cons y ys=>
    have e20:(((y::ys).length:Int)==0)=false:=zAe (by rw[List.length_cons];omega)
    generalize hL:y::ys=L at*
    have hL0:0<L.length:=by rw[←hL,List.length_cons];omega
    have hL1:(0:Int)<(L.length:Int):=by omega
    have h0:L[0]?=some y:=by rw[←hL];rfl
    obtain⟨A3,cap3,eA,_,hsp⟩:=(HXL.out wr (Below.refl _ _)).spread
    injection eA with e1 e2 e3
    subst e1
    obtain⟨b2,off2,rfl,hxc⟩:=hsp 0 y h0
    clear hsp e2 e3
    rw[Nat.zero_mul,Nat.add_zero] at hxc
    obtain⟨a,n,c',y0,y1,y2,y3,ys'⟩:=hxc
    have CF:=lH fun w2 (hb:Below wr.heap.size wr w2)=>zGx y a n c' w2 (ys'.rngs_below hb) (HRS.out y (List.mem_of_getElem? h0))
    clear ys'
    cases hq:Rul.relOk y with
    |false=>
     rw[hq] at CF
     have HE:=lH (HBP.out (zEM h0 hq))
     clear hL
     go_wp2_with fail
     refine(CF.out _ (Below.refl _ _)).mono ?_
     rintro e w2 ⟨rfl,hb⟩
     have W2:=lH (bT HB.out hb)
     clear hb CF
     go_wp2_with fail
     go_ret
     exact⟨by rw[HE.out];rfl,W2.out⟩
    |true=>
     rw[hq] at CF
     clear hL
     go_wp2_with fail
     refine(CF.out _ (Below.refl _ _)).mono ?_
     rintro e w2 ⟨rfl,hb⟩
     have W2:=lH hb
     clear hb CF hq y0 y1 y2 y3 h0
     go_wp2_with fail
     go_loopw [3,31] (fun cn j wx=> ∃m:Nat,cn= .int .i64 ((Rul.count (r.take k)+m:Nat):Int)∧j= .int .i64 (m:Int)∧m≤L.length∧Hid ((L.take m).all Rul.relOk=true)∧Hid (Below wr.heap.size wr wx)) (fun _ j _=>L.length-(intOf j).toNat)
     case atStart=>exact⟨0,rfl,rfl,Nat.zero_le _,lH rfl,W2⟩
     case round=>
      obtain⟨m,rfl,rfl,hm,HM,HW⟩:=hrel
      by_cases hml:m<L.length
      ·obtain⟨x,hx⟩: ∃x,L[m]?=some x:=⟨L[m],List.getElem?_eq_getElem hml⟩
       obtain⟨A4,cap4,eA,_,hsp⟩:=(HXL.out wr HW.out).spread
       injection eA with e1 e2 e3
       obtain⟨b4,off4,e4,hxc⟩:=hsp m x hx
       rw[e4] at e1
       injection e1 with e1
       injection e1 with e5 e6 _
       subst e5 e6
       clear hsp e2 e3 e4
       obtain⟨a4,n4,c4,z0,z1,z2,z3,zs⟩:=hxc
       have CG:=lH fun w2 (hb:Below wr.heap.size wr w2)=>zGx x a4 n4 c4 w2 (zs.rngs_below hb) (HRS.out x (List.mem_of_getElem? hx))
       clear zs
       cases hq:Rul.relOk x with
       |false=>
        rw[hq] at CG
        have HE:=lH (HBP.out (zEM hx hq))
        clear hx hq
        go_wp2_with fail
        refine(CG.out _ (bA _ _)).mono ?_
        rintro e w3 ⟨rfl,hb⟩
        have W3:=lH (bT HB.out (bT HW.out (bT (bA _ _) hb)))
        clear hb CG
        go_wp2_with fail
        go_ret
        exact⟨by rw[HE.out];rfl,W3.out⟩
       |true=>
        rw[hq] at CG
        have HT:=lH (zB9 hx HM.out hq)
        clear hx hq
        go_wp2_with fail
        refine(CG.out _ (bA _ _)).mono ?_
        rintro e w3 ⟨rfl,hb⟩
        have W3:=lH (bT HW.out (bT (bA _ _) hb))
        clear hb CG z0 z1 z2 z3
        go_wp2_with fail
        exact⟨⟨m+1,by go_num,by go_num,by omega,HT,W3⟩,by simp[intOf];omega⟩
      have HT:=lH (HAT.out (by
       unfold Rul.partOk
       rw[show L.all Rul.relOk=true by rw[←List.take_of_length_le (l:=L) (i:=m) (by omega)];exact HM.out]
       cases L with
       |nil=>simp at hL0
       |cons=>rfl))
      obtain rfl:m=L.length:=by omega
      rw[←HCT.out]
      go_wp2_with fail
      exact⟨⟨k+1,rfl,by go_num,by omega,HT,lH (bT HB.out HW.out)⟩,by simp[intOf];omega⟩
  have HT:=lH (zGA h0 (show r.all Rul.partOk=true by rw[←List.take_of_length_le (l:=r) (i:=k) (by omega)];exact HA.out))
  rw[List.take_of_length_le (by omega)]
  by_cases h20:20<Rul.count r
  ·rw[if_pos h20] at HT
   have d:decide ((20:Int)<(Rul.count r:Int))=true:=zAd (by omega)
   go_wp2_with fail
   go_ret
   exact⟨by rw[HT.out];rfl,HB.out⟩
  rw[if_neg h20] at HT
  have d:decide ((20:Int)<(Rul.count r:Int))=false:=zAa (by omega)
  go_wp2_with fail
  go_ret
  exact⟨by rw[HT.out];rfl,HB.out⟩
open Go.RowKit

theorem zIy (args:Array Value) (w:World):(callFunc 181 args).run Tryz.prog w= .ok (.enter 181 args) w:=enters_of Tryz.func181 (by kernel_rfl) rfl args w
theorem zKY (args:Array Value) (w:World):(callFunc 179 args).run Tryz.prog w= .ok (.enter 179 args) w:=enters_of Tryz.func179 (by kernel_rfl) rfl args w

theorem zJG (l:List Rul.Rl) (a:Option Addr) (n c:Nat) (w:World) (hp:PowW w) (hs:SlAt 4 RelC w (.slice a n c) l) (hl:l.length≤4000000001) (ht:Lst.total (l.map Rul.relT) [32,97,110,100,32]≤2000000000000)
  (hr: ∀x∈l,x.rs.length≤4000000001∧Lst.total (x.rs.map Rul.rngT) [44]≤2000000000000∧Rul.relOk x=true):
  Calls Tryz.prog 179 #[.slice a n c] w fun e w'=>e= .returned (.string ⟨(Rul.partT l).toArray⟩)∧Below w.heap.size w w':=by
 have CJ:=lH (zIx l Rul.relT 181 zIy (.slice a n c) [32,97,110,100,32] w hs hl ht (lH fun x hx a n c wx hb h=>zG0 x a n c wx (hp.below hb) h (hr x hx).1 (hr x hx).2.1 (hr x hx).2.2))
 have hT:Rul.partT l=Lib.join (l.map Rul.relT) [32,97,110,100,32]:=rfl
 rw[hT]
 generalize Lib.join (l.map Rul.relT) [32,97,110,100,32]=T at*
 clear hT hs hr ht hl hp
 go_enter Tryz.func179,Tryz.ntmps179
 go_wp2_with fail
 refine CJ.out.mono ?_
 rintro e w2 ⟨rfl,hb⟩
 go_wp2_with fail
 go_ret
 exact⟨rfl,hb⟩

theorem zKZ (r:Rul.Rule) (A:Option Addr) (n c:Nat) (w:World) (hr:SlAt 1 PartC w (.slice A n c) r) (hl:r.length≤1000000000) (hc:Rul.count r≤1000000000) (hrs: ∀l∈r,∀x∈l,x.rs.length≤4000000001) (hE:Rul.ruleE r≠0):
  Calls Tryz.prog 150 #[.slice A n c] w fun e w'=>e= .returned (.tuple #[.string ⟨#[]⟩,errV (Rul.ruleE r)])∧Below w.heap.size w w':=by
 have CC:=lH (zDn r A n c w hr hl hc hrs)
 have e1:errR (Rul.ruleE r)=errV (Rul.ruleE r):=if_neg hE
 rw[e1] at CC
 generalize Rul.ruleE r=E at*
 clear e1 hr hrs hE
 go_enter Tryz.func150,Tryz.ntmps150
 go_wp2_with fail
 refine CC.out.mono ?_
 rintro e w2 ⟨rfl,hb⟩
 go_wp2_with fail
 go_ret2
 exact⟨rfl,hb⟩

theorem ruleE_zero {r:Rul.Rule} (h:Rul.ruleE r=0): ∀l∈r,∀x∈l,Rul.relOk x=true:=by
 have hs:Rul.shapeOk r=true:=by
  unfold Rul.ruleE at h
  cases hq:Rul.shapeOk r with
  |true=>rfl
  |false=>rw[hq] at h;simp at h
 simp only[Rul.shapeOk,Rul.partOk,Bool.and_eq_true,List.all_eq_true] at hs
 exact fun l hl x hx=>(hs.2 l hl).2 x hx

theorem zJH (r:Rul.Rule) (A:Option Addr) (n c:Nat) (w:World) (hp:PowW w) (hr:SlAt 1 PartC w (.slice A n c) r) (hl:r.length≤1000000000) (hc:Rul.count r≤1000000000) (hrs: ∀l∈r,∀x∈l,x.rs.length≤4000000001) (hE:Rul.ruleE r=0)
  (ht:Lst.total (r.map Rul.partT) [32,111,114,32]≤2000000000000) (hpt: ∀l∈r,l.length≤4000000001∧Lst.total (l.map Rul.relT) [32,97,110,100,32]≤2000000000000∧ ∀x∈l,Lst.total (x.rs.map Rul.rngT) [44]≤2000000000000):
  Calls Tryz.prog 150 #[.slice A n c] w fun e w'=>e= .returned (.tuple #[.string ⟨(Rul.ruleT r).toArray⟩,.nilIface])∧Below w.heap.size w w':=by
 have CC:=lH (zDn r A n c w hr hl hc hrs)
 have e1:errR (Rul.ruleE r)= .nilIface:=if_pos hE
 rw[e1] at CC
 have CJ:=lH fun (w':World) (hb:Below w.heap.size w w')=>zG1 r Rul.partT 179 zKY (.slice A n c) [32,111,114,32] w' (hr.rule_below hb) (by omega) ht
  (lH fun l hx a n c wx hy h=>zJG l a n c wx ((hp.below hb).below hy) h (hpt l hx).1 (hpt l hx).2.1 (fun x hxl=>⟨hrs l hx x hxl,(hpt l hx).2.2 x hxl,ruleE_zero hE l hx x hxl⟩))
 have hT:Rul.ruleT r=Lib.join (r.map Rul.partT) [32,111,114,32]:=rfl
 rw[hT]
 generalize Lib.join (r.map Rul.partT) [32,111,114,32]=T at*
 clear e1 hr hrs hE hpt ht hT hp
 go_enter Tryz.func150,Tryz.ntmps150
 go_wp2_with fail
 refine CC.out.mono ?_
 rintro e w2 ⟨rfl,hb⟩
 have W2:=lH hb
 clear hb
 go_wp2_with fail
 refine(CJ.out _ W2.out).mono ?_
 rintro e w3 ⟨rfl,hb⟩
 have W3:=lH (bT W2.out hb)
 clear hb
 go_wp2_with fail
 go_ret2
 exact⟨rfl,W3.out⟩

open Go.RowKit Go.Shelf

attribute [local go_sem] Oper.semAt_some

def ParsePost (s:List UInt8) (w':World) (v f:Value):Prop:=
 (Rul.parseOk s=true∧f= .nilIface∧ ∃a n c,v= .slice a n c∧SlAt 1 PartC w' (.slice a n c) (Rul.ruleP s))∨(Rul.parseOk s=false∧f=errV 3∧v= .slice none 0 0)
theorem infoRel:(Tryz.prog.info? 240).map (fun i=>(i.zero,i.size,i.bytes))=some (some (.agg #[.int .u8 0,.int .i64 0,.bool false,.slice none 0 0]),4,48):=by kernel_rfl
theorem infoPart:(Tryz.prog.info? 237).map (fun i=>(i.zero,i.size,i.bytes))=some (some (.slice none 0 0),1,24):=by kernel_rfl

theorem zEl (s:List UInt8) (w:World) (hM:MaxW w) (hN:NumW w) (hp:PowW w) (ht:s.length≤100000000):
  Calls Tryz.prog 101 #[.string ⟨s.toArray⟩] w fun e w'=> ∃v f,e= .returned (.tuple #[v,f])∧ParsePost s w' v f∧Below w.heap.size w w':=by
 have hMw:=lH hM
 have hNw:=lH hN
 have hPw:=lH hp
 clear hM hN hp
 refine(callsIn_wide (n:=10)).1 ?_
 refine callsIn_of_wp_marks Tryz.func101 rfl trivial ?_ rfl
 refine wpIn_wide.2 ?_
 simp only[Tryz.ntmps101,List.size_toArray,List.length_cons,List.length_nil,Nat.reduceAdd,Nat.reduceSub,Array.replicate_succ,Array.replicate_zero,List.push_toArray,List.append_toArray,List.nil_append,List.cons_append]
 go_wp2_with fail
 refine(zB7 s [32,111,114,32] _).mono ?_
 rintro e w2 ⟨rfl,rfl⟩
 have B0:=lH (Boxed.made w #[.slice none 0 0] 181)
 have W0:=lH (bA w (.cells #[.slice none 0 0] 181))
 have Z0:=lH (show(w.alloc (.cells #[.slice none 0 0] 181)).heap.size=w.heap.size+1 by simp)
 generalize w.alloc (.cells #[.slice none 0 0] 181)=wc at*
 go_wp2_with fail
 have z0:=Z0.out
 have hgM: 5<w.heap.size:=by
  obtain⟨m,hm⟩:=hMw.out
  exact World.block_lt_of_cell? w _ hm
 obtain⟨V,hV⟩: ∃V,((wc.alloc (.cells #[.string ⟨s.toArray⟩] 9)).alloc (.cells #[.string ⟨#[32,111,114,32]⟩] 9)).alloc (.cells #[.int .i64 0] 3)=V:=⟨_,rfl⟩
 have bS:=lH (((Boxed.made wc #[.string ⟨s.toArray⟩] 9).alloc (.cells #[.string ⟨#[32,111,114,32]⟩] 9)).alloc (.cells #[.int .i64 0] 3))
 have bP:=lH ((Boxed.made (wc.alloc (.cells #[.string ⟨s.toArray⟩] 9)) #[.string ⟨#[32,111,114,32]⟩] 9).alloc (.cells #[.int .i64 0] 3))
 have bV:=lH (Boxed.made ((wc.alloc (.cells #[.string ⟨s.toArray⟩] 9)).alloc (.cells #[.string ⟨#[32,111,114,32]⟩] 9)) #[.int .i64 0] 3)
 simp only[World.size_alloc] at bP bV
 have wV:=lH (((bA wc (.cells #[.string ⟨s.toArray⟩] 9)).alloc (by simp) (.cells #[.string ⟨#[32,111,114,32]⟩] 9)).alloc (by simp;omega) (.cells #[.int .i64 0] 3))
 have zV:V.heap.size=wc.heap.size+3:=by rw[←hV];simp
 rw[hV] at bS bP bV wV⊢
 clear hV
 have W9:=lH (bT W0.out wV.out)
 have A9:=lH (B0.out.below wV.out)
 clear W0 B0 wV
 refine(wpIn_wide (n:=10)).1 ?_
 refine zCk (F:=Fence.wide) (d:=5) (val:=fun x:List UInt8=>Value.string ⟨x.toArray⟩) (n:=10) rfl (by omega) (gf:= 203) (lb:= #[.pointer (some ⟨wc.heap.size+1,0,none⟩),.pointer (some ⟨wc.heap.size,0,none⟩),.pointer (some ⟨wc.heap.size+2,0,none⟩)]) rfl trivial (enters_of Tryz.func203 (by kernel_rfl) rfl)
  (zCS s [32,111,114,32] (wc.heap.size+1) wc.heap.size (wc.heap.size+2) w.heap.size 9 V (by omega) (by simp) (by omega) (by simp) hgM (by omega) (hMw.out.below W9.out) (by omega) (by omega) (by omega) (by omega) (by omega)
   (bP.out.cell 0 _ rfl) (bS.out.cell 0 _ rfl) (bV.out.cell 0 _ rfl) (bS.out.free 0 (by show 0<1;omega)))
  (by omega) KpS.trans (KpS.put (by omega) (by omega) (by omega) (by omega))
  (fun pre W=> ∃v ps S,PO w V.heap.size w.heap.size v v ps S pre W)
  (fun pre A C r hs g hr=>by
   obtain⟨v,ps,S,hs⟩:=hs
   exact⟨v,ps,S,hs.grown g fun k hk=>by
    obtain⟨h1,o,h2,h3⟩:=hr k hk
    exact⟨by omega,by omega,fun e=>(IsC.row hs.row e).not h2 h3,fun e=>(hs.own.is k e).not h2 h3⟩⟩)
  (fun pre A C hs g=>by
   obtain⟨v,ps,S,hs⟩:=hs
   exact⟨v,ps,S,hs.grown g fun k hk=>by
    injection hk with hk
    subst hk
    exact⟨by omega,by omega,fun e=>by have:=hs.row.lt _ e;omega,fun e=>by have:=hs.own.ge _ e;omega⟩⟩)
  ⟨.slice none 0 0,[],fun _=>False,A9.out,⟨rfl,.inl ⟨rfl,rfl⟩⟩,rfl,by simp,⟨by simp,by simp,by simp⟩,W9.out,Nat.le_refl _⟩
  ?assign ?body ?done
 case assign=>
  clear z0
  intro l pre x W K hi hK
  gi_wp2
  exact hK _ (KeepsFrom.refl _ _) ⟨Below.refl _ _,rfl,rfl,rfl⟩ hi
 case done=>
  rintro D W hD ⟨v,ps,S,hs⟩ hK
  have HL:=lH (show Hid (PO w V.heap.size w.heap.size v v ps S (Lib.split s [32,111,114,32]) W) from lH hs)
  obtain⟨a,n,c,rfl⟩: ∃a n c,v= .slice a n c:=by
   rcases hs.row.2 with⟨rfl,_⟩|⟨g',cap,cur,rfl,_⟩
   ·exact⟨_,_,_,rfl⟩
   exact⟨_,_,_,rfl⟩
  have HS:=lH hs
  have hcnt:=Rul.zEG s
  have hrs:=Rul.rs_P s
  have hli:SlAt 1 PartC W (.slice a n c) (Rul.ruleP s):=hs.lies
  have hpw:=hPw.out.below hs.low
  have k4:=hs.box.cell 0 _ rfl
  have hDl:=(Array.getElem?_eq_some_iff.1 hK).1
  have HK:=lH hK
  have ends: ∀w2,Below W.heap.size W w2→w2.heap[D]?=some (.deferred (some []))∧PO w V.heap.size w.heap.size (.slice a n c) (.slice a n c) ps S (Lib.split s [32,111,114,32]) w2∧PO w V.heap.size w.heap.size (.slice a n c) (.slice a n c) ps S (Lib.split s [32,111,114,32]) (w2.putObj D (.deferred none)):=fun w2 hb=>by
   have q:=HS.out.grown (zAU hb) (fun k e=>by cases e)
   have hD2:w2.heap[D]?=some (.deferred (some [])):=(hb.block D hDl).trans HK.out
   exact⟨hD2,q,q.grown (grownBy_putObj' _ D (.deferred none)) (fun k hk=>by
    injection hk with hk
    subst hk
    exact⟨by omega,by omega,fun e=>(IsC.row q.row e).not hD2 rfl,fun e=>(q.own.is _ e).not hD2 rfl⟩)⟩
  have EN:=lH ends
  clear ends hs hK HL A9 W9 bS bP bV
  by_cases hE:Rul.ruleE (Rul.ruleP s)=0
  ·have tot:=Rul.zFh hE (fun l hl x hx=>by have:=hrs l hl x hx;omega)
   have CT:=lH (zJH (Rul.ruleP s) a n c W hpw hli (by omega) (by omega) (fun l hl x hx=>by have:=hrs l hl x hx;omega) hE tot.1 tot.2)
   clear tot hrs hli
   by_cases hT:Rul.ruleT (Rul.ruleP s)=s
   ·have HO:=lH (Rul.zA3.2 ⟨hE,hT⟩)
    rw[hT] at CT
    clear hT hE hcnt hpw
    go_wp2_with fail
    refine CT.out.mono ?_
    rintro e w2 ⟨rfl,hb⟩
    obtain⟨hD2,q,q2⟩:=EN.out w2 hb
    have HD:=lH hD2
    have k4':=q.box.cell 0 _ rfl
    have Q2:=lH q2
    clear hb CT hD2 q q2 k4 EN
    go_wp2_with fail
    refine⟨by simp,.inl ⟨_,_,rfl,run_takeDeferred HD.out,?_⟩⟩
    refine⟨_,?res,_,_,rfl,.inl ⟨HO.out,rfl,_,_,_,rfl,Q2.out.lies⟩,Q2.out.low⟩
    case res=>simp[results,Tryz.results101,go_sem]
   have HO:=lH (show Rul.parseOk s=false by
    cases h:Rul.parseOk s with
    |false=>rfl
    |true=>exact absurd (Rul.zA3.1 h).2 hT)
   generalize Rul.ruleT (Rul.ruleP s)=T at*
   clear hE hcnt hpw
   have hT':(T==s)=false:=by simpa using hT
   go_wp2_with fail
   refine CT.out.mono ?_
   rintro e w2 ⟨rfl,hb⟩
   obtain⟨hD2,q,q2⟩:=EN.out w2 hb
   have HD:=lH hD2
   have Q2:=lH q2
   clear hb CT hD2 q q2 k4 EN
   go_wp2_with fail
   refine⟨by simp,.inl ⟨_,_,rfl,run_takeDeferred HD.out,?_⟩⟩
   refine⟨_,?res,_,_,rfl,.inr ⟨HO.out,rfl,rfl⟩,Q2.out.low⟩
   case res=>simp[results,Tryz.results101,go_sem]
  have CT:=lH (zKZ (Rul.ruleP s) a n c W hli (by omega) (by omega) (fun l hl x hx=>by have:=hrs l hl x hx;omega) hE)
  have HO:=lH (show Rul.parseOk s=false by
   cases h:Rul.parseOk s with
   |false=>rfl
   |true=>exact absurd (Rul.zA3.1 h).1 hE)
  generalize Rul.ruleE (Rul.ruleP s)=E at*
  clear hrs hli hE hcnt hpw
  go_wp2_with fail
  refine CT.out.mono ?_
  rintro e w2 ⟨rfl,hb⟩
  obtain⟨hD2,q,q2⟩:=EN.out w2 hb
  have HD:=lH hD2
  have Q2:=lH q2
  clear hb CT hD2 q q2 k4 EN
  go_wp2_with fail
  refine⟨by simp,.inl ⟨_,_,rfl,run_takeDeferred HD.out,?_⟩⟩
  refine⟨_,?res,_,_,rfl,.inr ⟨HO.out,rfl,rfl⟩,Q2.out.low⟩
  case res=>simp[results,Tryz.results101,go_sem]
 case body=>
  rintro l pre x W hl ⟨r,hr⟩ ⟨v,ps,S,hs⟩ hpre
  have hxl:x.length≤100000000:=by have:=zBn (hpre.subset (by simp):x∈Lib.split s [32,111,114,32]);omega
  have hpl:pre.length+1≤100000001:=by
   have h1:=hpre.length_le
   have h2:=Rul.zAA (s:=s) (sub:= [32,111,114,32]) (by simp)
   simp at h1
   omega
  have ho:=hs.olds (bp:=wc.heap.size+1) (bs:=wc.heap.size) (bv:=wc.heap.size+2) (by omega)
  have PT0:=lH (PT.start (bp:=wc.heap.size+1) (bs:=wc.heap.size) (bv:=wc.heap.size+2) hs)
  clear hs hpre A9 W9 bS bP bV
  have hlt:l<W.heap.size:=(Array.getElem?_eq_some_iff.1 hr).1
  clear z0
  gi_wp2_with (refine⟨trivial,?_⟩;gi_at_call 148;refine(CallsIn.inRound l (callsIn_wide.2 (zB7 x [32,97,110,100,32] _))).mono ?_;rintro e w2 ⟨rfl,rfl⟩;have BD:=lH (Boxed.made W #[.slice none 0 0] 237);have WD:=lH (bA W (.cells #[.slice none 0 0] 237));have ZD:=lH (show(W.alloc (.cells #[.slice none 0 0] 237)).heap.size=W.heap.size+1 by simp);generalize W.alloc (.cells #[.slice none 0 0] 237)=wd at*)
  have z0:=Z0.out
  have zd:=ZD.out
  obtain⟨V2,hV2⟩: ∃V2,((wd.alloc (.cells #[.string ⟨x.toArray⟩] 9)).alloc (.cells #[.string ⟨#[32,97,110,100,32]⟩] 9)).alloc (.cells #[.int .i64 0] 3)=V2:=⟨_,rfl⟩
  have bS:=lH (((Boxed.made wd #[.string ⟨x.toArray⟩] 9).alloc (.cells #[.string ⟨#[32,97,110,100,32]⟩] 9)).alloc (.cells #[.int .i64 0] 3))
  have bP:=lH ((Boxed.made (wd.alloc (.cells #[.string ⟨x.toArray⟩] 9)) #[.string ⟨#[32,97,110,100,32]⟩] 9).alloc (.cells #[.int .i64 0] 3))
  have bV:=lH (Boxed.made ((wd.alloc (.cells #[.string ⟨x.toArray⟩] 9)).alloc (.cells #[.string ⟨#[32,97,110,100,32]⟩] 9)) #[.int .i64 0] 3)
  simp only[World.size_alloc] at bP bV
  have wV:=lH (((bA wd (.cells #[.string ⟨x.toArray⟩] 9)).alloc (by simp) (.cells #[.string ⟨#[32,97,110,100,32]⟩] 9)).alloc (by simp;omega) (.cells #[.int .i64 0] 3))
  have zV2:V2.heap.size=wd.heap.size+3:=by rw[←hV2];simp
  rw[hV2] at bS bP bV wV⊢
  clear hV2
  have WV:=lH (bT WD.out wV.out)
  have BV:=lH (BD.out.below wV.out)
  have PV:=lH (PT0.out.below WV.out ho (by omega))
  have lw:=PT0.out.po.low.size
  have sz:=PT0.out.po.sz
  have FX:=lH (show Fix w V.heap.size w.heap.size (wc.heap.size+1) wc.heap.size (wc.heap.size+2) v S W V2.heap.size W.heap.size (wd.heap.size+1) wd.heap.size (wd.heap.size+2) from⟨ho,by omega,by omega,by omega⟩)
  have hl2:V2.heap[l]?=some (.loop r):=(WV.out.block l hlt).trans hr
  clear WD BD wV PT0 ho
  refine zEJ (F:=Fence.wide.inRound l) (d:=7) (val:=fun x:List UInt8=>Value.string ⟨x.toArray⟩) rfl hl2 (by omega) (gf:= 203) (lb:= #[.pointer (some ⟨wd.heap.size+1,0,none⟩),.pointer (some ⟨wd.heap.size,0,none⟩),.pointer (some ⟨wd.heap.size+2,0,none⟩)]) rfl trivial (enters_of Tryz.func203 (by kernel_rfl) rfl)
   (ListAt.inRound l (zCS x [32,97,110,100,32] (wd.heap.size+1) wd.heap.size (wd.heap.size+2) w.heap.size _ V2 (by omega) (by simp) (by omega) (by simp) hgM (by omega) (hMw.out.below PV.out.po.low) (by omega) (by omega) (by omega) (by omega) (by omega)
    (bP.out.cell 0 _ rfl) (bS.out.cell 0 _ rfl) (bV.out.cell 0 _ rfl) (bS.out.free 0 (by show 0<1;omega))))
   (by omega) KpS.trans (KpS.put (by omega) (by omega) (by omega) (by omega))
   (fun pre2 Wi=> ∃v2 qs S2,PT w V.heap.size w.heap.size (wc.heap.size+1) wc.heap.size (wc.heap.size+2) v ps S pre W Wi∧PI V2.heap.size W.heap.size v2 v2 qs S2 pre2 Wi)
   (fun pre2 A C r hs g hr=>by
    obtain⟨v2,qs,S2,h1,h2⟩:=hs
    exact⟨v2,qs,S2,h1.grown g FX.out.ho FX.out.hw (fun k hk=>by have:=(hr k hk).1;omega),h2.grown g fun k hk=>by
     obtain⟨e1,o,e2,e3⟩:=hr k hk
     exact⟨by omega,fun e=>(IsC.row h2.row e).not e2 e3,fun e=>(h2.own.is k e).not e2 e3⟩⟩)
   (fun pre2 A C hs g=>by
    obtain⟨v2,qs,S2,h1,h2⟩:=hs
    exact⟨v2,qs,S2,h1.grown g FX.out.ho FX.out.hw (fun k hk=>by injection hk with hk;omega),h2.grown g fun k hk=>by
     injection hk with hk
     subst hk
     exact⟨by omega,fun e=>by have:=h2.row.lt _ e;omega,fun e=>by have:=h2.own.ge _ e;omega⟩⟩)
   ⟨.slice none 0 0,[],fun _=>False,PV.out,BV.out,⟨rfl,.inl ⟨rfl,rfl⟩⟩,rfl,by simp,⟨by simp,by simp,by simp⟩,Nat.le_refl _⟩
   ?assign2 ?body2 ?done2
  case assign2=>
   clear z0 zd
   intro l2 pre2 y Wi K hi hK
   gi_wp2
   exact hK _ (KeepsFrom.refl _ _) ⟨Below.refl _ _,rfl,rfl,rfl⟩ hi
  case done2=>
   clear z0 zd
   rintro Wi ⟨v2,qs,S2,h1,h2⟩
   have HQL:=lH h1.po.len
   have P1:=lH (PQ.start (bp2:=wd.heap.size+1) (bs2:=wd.heap.size) (bv2:=wd.heap.size+2) h1 h2)
   obtain⟨a2,n2,c2,rfl⟩: ∃a n c,v2= .slice a n c:=by
    rcases h2.row.2 with⟨rfl,_⟩|⟨g',cap,cur,rfl,_⟩
    ·exact⟨_,_,_,rfl⟩
    exact⟨_,_,_,rfl⟩
   obtain⟨a1,n1,c1,rfl⟩: ∃a n c,v= .slice a n c:=by
    rcases h1.po.row.2 with⟨rfl,_⟩|⟨g',cap,cur,rfl,_⟩
    ·exact⟨_,_,_,rfl⟩
    exact⟨_,_,_,rfl⟩
   clear h1 h2 bS bP bV BV PV
   obtain⟨iR,hiR,hR0,hR1,hR2⟩:=info_parts infoPart
   have k4:=P1.out.pt.po.box.cell 0 _ rfl
   have k6:=P1.out.pi.box.cell 0 _ rfl
   have P:=lH (P1.out.below (bA Wi (.cells #[.slice a2 n2 c2] 237)) FX.out)
   have BN:=lH (Boxed.made Wi #[.slice a2 n2 c2] 237)
   clear P1
   gi_wp2_with (refine wpListIn_append_own_at _ rfl _ _ 181 rfl V.heap.size 237 iR _ 1 24 Tryz.underlying181 hiR hR0 hR1 hR2 rfl (by decide) (.slice a1 n1 c1) ps.length (ps.map (·.2)) (by simp[go_sem]) P.out.pt.po.row ⟨Wi.heap.size,0,none⟩ 1 1 [.slice a2 n2 c2] (by simp[go_sem]) rfl (zAz BN.out) (fun u hu=>by simp at hu;subst hu;rfl) (by have:=HQL.out;unfold maxLen;omega) (by have:=HQL.out;omega) P.out.pt.po.sz ?_;intro v' w6 hown hgrow hnil hat;clear hnil;obtain⟨g',cap',rfl⟩:=zAP hown (by omega);have U:=lH (P.out.close (x:=x) FX.out rfl hown hgrow hat);clear hown hgrow hat P BN k4 k6;have k3:=U.out.po.box.cell 0 _ rfl;have z3:=U.out.po.box.free 0 (by show 0<1;omega);have hlt3:=U.out.po.box.lt)
   replace U:=lH (U.out.stored (by have:=Z0.out;omega) (Nat.le_refl _) (by have:=Z0.out;omega) (by have:=Z0.out;omega))
   exact⟨U.out.kf,U.out.kp,_,_,_,U.out.po⟩
  case body2=>
   clear z0 zd
   rintro l2 pre2 y Wi hl2 ⟨r2,hr2⟩ ⟨v2,qs,S2,h1,h2⟩ hpre2
   have hyl:y.length≤4000000000:=by have:=zBn (hpre2.subset (by simp):y∈Lib.split x [32,97,110,100,32]);omega
   have HQL:=lH h2.len
   have hqn:pre2.length+1≤100000001:=by
    have h1:=hpre2.length_le
    have h2:=Rul.zAA (s:=x) (sub:= [32,97,110,100,32]) (by simp)
    simp at h1
    omega
   have CP:=lH fun w hM hN=>zIf y w hM hN hyl
   obtain⟨R,hR⟩: ∃R,Rul.relP y=R:=⟨_,rfl⟩
   rw[hR] at CP
   have HR:=lH hR
   obtain⟨a2,n2,c2,rfl⟩: ∃a n c,v2= .slice a n c:=by
    rcases h2.row.2 with⟨rfl,_⟩|⟨g',cap,cur,rfl,_⟩
    ·exact⟨_,_,_,rfl⟩
    exact⟨_,_,_,rfl⟩
   have P1:=lH (PQ.start (bp2:=wd.heap.size+1) (bs2:=wd.heap.size) (bv2:=wd.heap.size+2) h1 h2)
   clear hR h1 h2 bS bP bV BV PV hpre2
   gi_wp2
   obtain⟨iR,hiR,hR0,hR1,hR2⟩:=info_parts infoRel
   refine zDm (S:=fun _=>True) (by kernel_rfl) (by kernel_rfl) (fun _ _ h=>h) trivial (fun hY9=>?_)
   have P:=lH (P1.out.below (Below.drew (Below.refl _ _)) FX.out)
   clear P1
   generalize World.drew _=w3 at*
   refine tkr (d:=some 17) (v:=?v1) 1 rfl rfl hY9 ?hy1 ?rs1
   case hy1=>(intro w hSw;(try dsimp only at hSw);go_simp)<;>(try with_reducible rfl)
   (try simp only[Act.put,aI,aO,aS])
   refine zA4 0 2 rfl rfl (by kernel_rfl) (by rfl) (by rfl) (fun K hK=>?_) (fun K hK=>?_)
   ·have k3:=P.out.pi.box.cell 0 _ rfl
    go_simp
    clear k3
    refine hK.out _ _ trivial (fun hY9=>?_)
    clear hK K
    (try simp only[Act.put,aI,aO,aS])
    refine zAc 2 rfl (by kernel_rfl) (by rfl) (fun K hK=>?_)
    go_simp
    refine(CP.out _ (hMw.out.below P.out.pt.po.low) (hNw.out.below P.out.pt.po.low)).mono ?_
    rintro e w' ⟨pv,rfl,hsl,hfr,hb⟩
    obtain⟨pa,pn,pc,rfl⟩:=hsl.isSlice
    have HB:=lH (show ∀b,(Value.slice pa pn pc).ownBlock=some b→V2.heap.size≤b∧(Value.slice a2 n2 c2).ownBlock≠some b from fun b hb'=>⟨by have:=hfr b hb';have:=P.out.pi.sz;omega,fun e=>by have:=hfr b hb';have:=(P.out.pi.row.lt b e).2;omega⟩)
    have HSL:=lH hsl
    replace P:=lH (P.out.below hb FX.out)
    clear hsl hfr hb
    refine hK.out _ _ trivial (fun hY9=>?_)
    clear hK K
    (try simp only[Act.put,aI,aO,aS])
    refine zAc 3 rfl (by kernel_rfl) (by rfl) (fun K hK=>?_)
    go_simp
    refine hK.out _ _ trivial (fun hY9=>?_)
    clear hK K
    (try simp only[Act.put,aI,aO,aS])
    replace P:=lH (P.out.below (bA _ (.cells #[.int .u8 (R.op.toNat:Int),.int .i64 R.mod,.bool R.no,.slice pa pn pc] 240)) FX.out)
    replace HSL:=lH (HSL.out.rngs_below (bA w' (.cells #[.int .u8 (R.op.toNat:Int),.int .i64 R.mod,.bool R.no,.slice pa pn pc] 240)))
    have BN:=lH (Boxed.made _ #[.int .u8 (R.op.toNat:Int),.int .i64 R.mod,.bool R.no,.slice pa pn pc] 240:Boxed (World.alloc w' (.cells #[.int .u8 (R.op.toNat:Int),.int .i64 R.mod,.bool R.no,.slice pa pn pc] 240)) w'.heap.size _)
    generalize hq:w'.heap.size=q at*
    generalize World.alloc w' (.cells #[.int .u8 (R.op.toNat:Int),.int .i64 R.mod,.bool R.no,.slice pa pn pc] 240)=w5 at*
    clear hq
    refine zAc 4 rfl (by kernel_rfl) (by rfl) (fun K hK=>?_)
    refine zBt _ _ _ 237 rfl V2.heap.size 240 iR _ 4 48 Tryz.underlying237 hiR hR0 hR1 hR2 rfl (by decide) (.slice a2 n2 c2) qs.length (qflat qs) (by simp[go_sem]) P.out.pi.row ⟨q,0,none⟩ 1 1 [.int .u8 (R.op.toNat:Int),.int .i64 R.mod,.bool R.no,.slice pa pn pc] (by simp[go_sem]) rfl (zAz BN.out) (fun u hu=>by simp at hu;rcases hu with rfl|rfl|rfl|rfl<;>rfl) (by have:=HQL.out;unfold maxLen;omega) (by have:=HQL.out;omega) P.out.pi.sz ?_
    intro v' w6 hown hgrow hat
    obtain⟨g',cap',rfl⟩:=zAP hown (by omega)
    replace P:=lH (P.out.append (x:=y) FX.out (by rw[HR.out];exact hown) hgrow (by simpa using hat) (by rw[HR.out];exact HSL.out) HB.out)
    clear hown hgrow hat
    refine hK.out _ _ trivial (fun hY9=>?_)
    clear hK K
    (try simp only[Act.put,aI,aO,aS])
    refine zAc 5 rfl (by kernel_rfl) (by rfl) (fun K hK=>?_)
    have k3:=P.out.pi.box.cell 0 _ rfl
    have z3:=P.out.pi.box.free 0 (by show 0<1;omega)
    have hlt:=P.out.pi.box.lt
    go_simp
    clear k3 z3 hlt
    refine hK.out _ _ trivial (fun hY9=>?_)
    clear hK K
    (try simp only[Act.put,aI,aO,aS])
    replace P:=lH (P.out.stored FX.out)
    refine wpAnyH_done (by kernel_rfl) ?_ _
    exact⟨P.out.kf,P.out.kp,_,_,_,P.out.pt,P.out.pi⟩
   go_simp
   refine(CP.out _ (hMw.out.below P.out.pt.po.low) (hNw.out.below P.out.pt.po.low)).mono ?_
   rintro e w' ⟨pv,rfl,hsl,hfr,hb⟩
   obtain⟨pa,pn,pc,rfl⟩:=hsl.isSlice
   have HB:=lH (show ∀b,(Value.slice pa pn pc).ownBlock=some b→V2.heap.size≤b∧(Value.slice a2 n2 c2).ownBlock≠some b from fun b hb'=>⟨by have:=hfr b hb';have:=P.out.pi.sz;omega,fun e=>by have:=hfr b hb';have:=(P.out.pi.row.lt b e).2;omega⟩)
   have HSL:=lH hsl
   replace P:=lH (P.out.below hb FX.out)
   clear hsl hfr hb
   refine hK.out _ _ trivial (fun hY9=>?_)
   clear hK K
   (try simp only[Act.put,aI,aO,aS])
   refine zA4 0 3 rfl rfl (by kernel_rfl) (by rfl) (by rfl) (fun K hK=>?_) (fun K hK=>?_)
   ·have k3:=P.out.pi.box.cell 0 _ rfl
    go_simp
    clear k3
    refine hK.out _ _ trivial (fun hY9=>?_)
    clear hK K
    (try simp only[Act.put,aI,aO,aS])
    refine zAc 3 rfl (by kernel_rfl) (by rfl) (fun K hK=>?_)
    go_simp
    refine hK.out _ _ trivial (fun hY9=>?_)
    clear hK K
    (try simp only[Act.put,aI,aO,aS])
    replace P:=lH (P.out.below (bA _ (.cells #[.int .u8 (R.op.toNat:Int),.int .i64 R.mod,.bool R.no,.slice pa pn pc] 240)) FX.out)
    replace HSL:=lH (HSL.out.rngs_below (bA w' (.cells #[.int .u8 (R.op.toNat:Int),.int .i64 R.mod,.bool R.no,.slice pa pn pc] 240)))
    have BN:=lH (Boxed.made _ #[.int .u8 (R.op.toNat:Int),.int .i64 R.mod,.bool R.no,.slice pa pn pc] 240:Boxed (World.alloc w' (.cells #[.int .u8 (R.op.toNat:Int),.int .i64 R.mod,.bool R.no,.slice pa pn pc] 240)) w'.heap.size _)
    generalize hq:w'.heap.size=q at*
    generalize World.alloc w' (.cells #[.int .u8 (R.op.toNat:Int),.int .i64 R.mod,.bool R.no,.slice pa pn pc] 240)=w5 at*
    clear hq
    refine zAc 4 rfl (by kernel_rfl) (by rfl) (fun K hK=>?_)
    refine zBt _ _ _ 237 rfl V2.heap.size 240 iR _ 4 48 Tryz.underlying237 hiR hR0 hR1 hR2 rfl (by decide) (.slice a2 n2 c2) qs.length (qflat qs) (by simp[go_sem]) P.out.pi.row ⟨q,0,none⟩ 1 1 [.int .u8 (R.op.toNat:Int),.int .i64 R.mod,.bool R.no,.slice pa pn pc] (by simp[go_sem]) rfl (zAz BN.out) (fun u hu=>by simp at hu;rcases hu with rfl|rfl|rfl|rfl<;>rfl) (by have:=HQL.out;unfold maxLen;omega) (by have:=HQL.out;omega) P.out.pi.sz ?_
    intro v' w6 hown hgrow hat
    obtain⟨g',cap',rfl⟩:=zAP hown (by omega)
    replace P:=lH (P.out.append (x:=y) FX.out (by rw[HR.out];exact hown) hgrow (by simpa using hat) (by rw[HR.out];exact HSL.out) HB.out)
    clear hown hgrow hat
    refine hK.out _ _ trivial (fun hY9=>?_)
    clear hK K
    (try simp only[Act.put,aI,aO,aS])
    refine zAc 5 rfl (by kernel_rfl) (by rfl) (fun K hK=>?_)
    have k3:=P.out.pi.box.cell 0 _ rfl
    have z3:=P.out.pi.box.free 0 (by show 0<1;omega)
    have hlt:=P.out.pi.box.lt
    go_simp
    clear k3 z3 hlt
    refine hK.out _ _ trivial (fun hY9=>?_)
    clear hK K
    (try simp only[Act.put,aI,aO,aS])
    replace P:=lH (P.out.stored FX.out)
    refine wpAnyH_done (by kernel_rfl) ?_ _
    exact⟨P.out.kf,P.out.kp,_,_,_,P.out.pt,P.out.pi⟩
   go_simp
   refine hK.out _ _ trivial (fun hY9=>?_)
   clear hK K
   (try simp only[Act.put,aI,aO,aS])
   replace P:=lH (P.out.below (bA _ (.cells #[.int .u8 (R.op.toNat:Int),.int .i64 R.mod,.bool R.no,.slice pa pn pc] 240)) FX.out)
   replace HSL:=lH (HSL.out.rngs_below (bA w' (.cells #[.int .u8 (R.op.toNat:Int),.int .i64 R.mod,.bool R.no,.slice pa pn pc] 240)))
   have BN:=lH (Boxed.made _ #[.int .u8 (R.op.toNat:Int),.int .i64 R.mod,.bool R.no,.slice pa pn pc] 240:Boxed (World.alloc w' (.cells #[.int .u8 (R.op.toNat:Int),.int .i64 R.mod,.bool R.no,.slice pa pn pc] 240)) w'.heap.size _)
   generalize hq:w'.heap.size=q at*
   generalize World.alloc w' (.cells #[.int .u8 (R.op.toNat:Int),.int .i64 R.mod,.bool R.no,.slice pa pn pc] 240)=w5 at*
   clear hq
   refine zAc 0 rfl (by kernel_rfl) (by rfl) (fun K hK=>?_)
   have k3:=P.out.pi.box.cell 0 _ rfl
   go_simp
   clear k3
   refine hK.out _ _ trivial (fun hY9=>?_)
   clear hK K
   (try simp only[Act.put,aI,aO,aS])
   refine zAc 4 rfl (by kernel_rfl) (by rfl) (fun K hK=>?_)
   refine zBt _ _ _ 237 rfl V2.heap.size 240 iR _ 4 48 Tryz.underlying237 hiR hR0 hR1 hR2 rfl (by decide) (.slice a2 n2 c2) qs.length (qflat qs) (by simp[go_sem]) P.out.pi.row ⟨q,0,none⟩ 1 1 [.int .u8 (R.op.toNat:Int),.int .i64 R.mod,.bool R.no,.slice pa pn pc] (by simp[go_sem]) rfl (zAz BN.out) (fun u hu=>by simp at hu;rcases hu with rfl|rfl|rfl|rfl<;>rfl) (by have:=HQL.out;unfold maxLen;omega) (by have:=HQL.out;omega) P.out.pi.sz ?_
   intro v' w6 hown hgrow hat
   obtain⟨g',cap',rfl⟩:=zAP hown (by omega)
   replace P:=lH (P.out.append (x:=y) FX.out (by rw[HR.out];exact hown) hgrow (by simpa using hat) (by rw[HR.out];exact HSL.out) HB.out)
   clear hown hgrow hat
   refine hK.out _ _ trivial (fun hY9=>?_)
   clear hK K
   (try simp only[Act.put,aI,aO,aS])
   refine zAc 5 rfl (by kernel_rfl) (by rfl) (fun K hK=>?_)
   have k3:=P.out.pi.box.cell 0 _ rfl
   have z3:=P.out.pi.box.free 0 (by show 0<1;omega)
   have hlt:=P.out.pi.box.lt
   go_simp
   clear k3 z3 hlt
   refine hK.out _ _ trivial (fun hY9=>?_)
   clear hK K
   (try simp only[Act.put,aI,aO,aS])
   replace P:=lH (P.out.stored FX.out)
   refine wpAnyH_done (by kernel_rfl) ?_ _
   exact⟨P.out.kf,P.out.kp,_,_,_,P.out.pt,P.out.pi⟩
open Go.RowKit

structure TR (w:World):Prop where
 p:PowW w
 n:NumW w
 m:MaxW w
theorem TR.below {w w':World} (h:TR w) (hb:Below w.heap.size w w'):TR w':=⟨h.p.below hb,h.n.below hb,h.m.below hb⟩
end Go.Proofs.YtjlchookakbomaaGreatDoor
