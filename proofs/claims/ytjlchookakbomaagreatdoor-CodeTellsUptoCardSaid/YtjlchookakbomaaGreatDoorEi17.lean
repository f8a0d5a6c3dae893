/- dec.Check, Ten, Size alone: for seats that hold no more of package dec. -/
import Derived.Test.YtjlchookakbomaaGreatDoorEi16
set_option maxHeartbeats 4000000
set_option maxRecDepth 100000
namespace Go.Proofs.YtjlchookakbomaaGreatDoor
open Go.RowKit

theorem zEm (t0 t1 t2 t3 t4:List UInt8) (w:World):
  Calls Tryz.prog 100 #[.agg #[.string ⟨t0.toArray⟩,.string ⟨t1.toArray⟩,.string ⟨t2.toArray⟩,.string ⟨t3.toArray⟩,.string ⟨t4.toArray⟩]] w fun e w'=>e= .returned (.agg #[.string ⟨t0.toArray⟩,.string ⟨t1.toArray⟩,.string ⟨t2.toArray⟩,.string ⟨t3.toArray⟩,.string ⟨t4.toArray⟩])∧Below w.heap.size w w':=by
 go_enter Tryz.func100,Tryz.ntmps100
 go_wp2
 refine bodyPost_ret (v:= .agg #[.string ⟨t0.toArray⟩,.string ⟨t1.toArray⟩,.string ⟨t2.toArray⟩,.string ⟨t3.toArray⟩,.string ⟨t4.toArray⟩]) (by simp[results,Tryz.results100,go_sem]) rfl ⟨rfl,?_⟩
 repeat(first|exact Below.refl _ _|exact bA _ _|refine Below.setCell ?_ (by first|(simp;done)|omega|(simp;omega)) _|refine Below.alloc ?_ (by first|(simp;done)|omega|(simp;omega)) _)

theorem zHM (t0 t1 t2 t3 t4 x:List UInt8) (k:Nat) (h: [t0,t1,t2,t3,t4][k]?=some x) (w:World):
  (Instr.index 179 (.agg #[.string ⟨t0.toArray⟩,.string ⟨t1.toArray⟩,.string ⟨t2.toArray⟩,.string ⟨t3.toArray⟩,.string ⟨t4.toArray⟩]) (.int .i64 (k:Int))).run Tryz.prog w= .ok (.string ⟨x.toArray⟩) w:=by
 have u:= Tryz.underlying179
 have z:= Tryz.sizeOf9
 have a9:= Tryz.isAgg9
 match k,h with
 |0,h=>simp at h;subst h;simp[Instr.index,run_underlying u,go_sem,z,a9,Result.andThen]
 |1,h=>simp at h;subst h;simp[Instr.index,run_underlying u,go_sem,z,a9,Result.andThen]
 |2,h=>simp at h;subst h;simp[Instr.index,run_underlying u,go_sem,z,a9,Result.andThen]
 |3,h=>simp at h;subst h;simp[Instr.index,run_underlying u,go_sem,z,a9,Result.andThen]
 |4,h=>simp at h;subst h;simp[Instr.index,run_underlying u,go_sem,z,a9,Result.andThen]
 |k+5,h=>simp at h

theorem zIz (t0 t1 t2 t3 t4:List UInt8) (w:World) (hT:TR w) (hl: ∀t∈ [t0,t1,t2,t3,t4],t.length≤100000000):
  Calls Tryz.prog 98 #[.agg #[.string ⟨t0.toArray⟩,.string ⟨t1.toArray⟩,.string ⟨t2.toArray⟩,.string ⟨t3.toArray⟩,.string ⟨t4.toArray⟩]] w fun e w'=>e= .returned (if Rul.setOk [t0,t1,t2,t3,t4]=true then .nilIface else errV 3)∧Below w.heap.size w w':=by
 have HT:=lH hT
 have HL:=lH hl
 obtain⟨E,hE⟩: ∃E,(if Rul.setOk [t0,t1,t2,t3,t4]=true then Value.nilIface else errV 3)=E:=⟨_,rfl⟩
 rw[hE]
 have HE:=lH hE
 clear hE hl hT
 have CT:=lH fun w=>zEm t0 t1 t2 t3 t4 w
 have IX:=fun k x h w=>zHM t0 t1 t2 t3 t4 x k h w
 have HIX:=lH IX
 clear IX
 have W0:=lH (bA w (.cells #[.string ⟨t0.toArray⟩,.string ⟨t1.toArray⟩,.string ⟨t2.toArray⟩,.string ⟨t3.toArray⟩,.string ⟨t4.toArray⟩] 58))
 obtain⟨L,hLL⟩: ∃L,[t0,t1,t2,t3,t4]=L:=⟨_,rfl⟩
 have HN:=lH (show L.length=5 by rw[←hLL];rfl)
 rw[hLL] at HL HE HIX
 clear hLL
 go_enter Tryz.func98,Tryz.ntmps98
 go_wp2_with fail
 refine(CT.out _).mono ?_
 rintro e v ⟨rfl,hb⟩
 have W1:=lH (bT W0.out hb)
 clear hb CT W0
 generalize Value.agg #[.string ⟨t0.toArray⟩,.string ⟨t1.toArray⟩,.string ⟨t2.toArray⟩,.string ⟨t3.toArray⟩,.string ⟨t4.toArray⟩]=AG at*
 go_wp2_with fail
 go_loopw [9] (fun i wr=> ∃k:Nat,i= .int .i64 k∧k≤5∧Hid ((L.take k).all Rul.textOk=true)∧Hid (Below w.heap.size w wr)) (fun i _=>5-(RowKit.intOf i).toNat)
 case atStart=>exact⟨0,rfl,by omega,lH (by simp),W1⟩
 case round=>
  obtain⟨k,rfl,hk,HA,HB⟩:=hrel
  by_cases hlt:k<5
  ·obtain⟨x,hx⟩: ∃x,L[k]?=some x:=⟨L[k]'(by have:=HN.out;omega),List.getElem?_eq_getElem (by have:=HN.out;omega)⟩
   have IXk:=fun w=>HIX.out k x hx w
   have HX:=lH hx
   have hxl:=HL.out x (List.mem_of_getElem? hx)
   have CP:=lH (zEl x wr (HT.out.below HB.out).m (HT.out.below HB.out).n (HT.out.below HB.out).p hxl)
   have k5:(k:Int)<5:=by omega
   clear hx
   by_cases he:x= []
   ·subst he
    have HA2:=lH (Rul.zHC HX.out HA.out rfl)
    go_wp2_with fail
    go_roundw
    case rel=>exact⟨k+1,by go_num,by omega,HA2,HB⟩
    case measure=>simp[RowKit.intOf];omega
   have e0:(x== [])=false:=beq_eq_false_iff_ne.2 he
   have he':x.isEmpty=false:=by cases x<;>simp at he⊢
   go_wp2_with fail
   refine CP.out.mono ?_
   rintro e w2 ⟨v2,f2,rfl,hP,hb⟩
   have W2:=lH (bT HB.out hb)
   rcases hP with⟨hok,rfl,_⟩|⟨hno,rfl,rfl⟩
   ·have HA2:=lH (Rul.zHC HX.out HA.out (show Rul.textOk x=true by unfold Rul.textOk;rw[he',hok];rfl))
    clear hb hok
    go_wp2_with fail
    go_roundw
    case rel=>exact⟨k+1,by go_num,by omega,HA2,W2⟩
    case measure=>simp[RowKit.intOf];omega
   have HF:=lH (Rul.zNv (List.mem_of_getElem? HX.out) (show Rul.textOk x=false by unfold Rul.textOk;rw[he',hno];rfl))
   have HEE:=HE.out
   rw[HF.out,if_neg (by decide)] at HEE
   subst HEE
   clear hb hno
   go_wp2_with fail
   go_ret
   exact⟨rfl,W2.out⟩
  have e:k=5:=by omega
  subst e
  have HEE:=HE.out
  have h5:=HA.out
  rw[List.take_of_length_le (by have:=HN.out;omega)] at h5
  rw[if_pos (show Rul.setOk L=true from h5)] at HEE
  subst HEE
  go_wp2_with fail
  go_ret
  exact⟨rfl,HB.out⟩
open Go.RowKit Go.MapKept

theorem zBE {P:Program} (T K E:TypeId) (hT:P.underlying T=some (.map K E)) (hK:P.underlying K=some (.int .u8)) (es:Array MapEntry) (c:Nat) (k:Int) (v:Value)
  (hf:Instr.findNow (.int .u8) (.int .u8 k) es.toList 0=some none) (w:World):
  (Instr.mapUpdate T (.map (some w.heap.size)) (.int .u8 k) v).run P (w.alloc (.map es c))= .ok () (w.alloc (.map (es.push {key:= .int .u8 k,val:=v,born:=c}) (c+1))):=by
 have hb:(w.alloc (.map es c)).heap[w.heap.size]?=some (.map es c):=by show(w.heap.push _)[w.heap.size]?=_;simp
 have e:({(w.alloc (.map es c)) with heap:=(w.alloc (.map es c)).heap.setIfInBounds w.heap.size (.map (es.push {key:= .int .u8 k,val:=v,born:=c}) (c+1))}:World)=w.alloc (.map (es.push {key:= .int .u8 k,val:=v,born:=c}) (c+1)):=by
  show({w with heap:=(w.heap.push _).setIfInBounds w.heap.size _}:World)={w with heap:=w.heap.push _}
  congr 1
  apply Array.ext_getElem?
  intro i
  rw[Array.getElem?_setIfInBounds]
  simp only[Array.getElem?_push,Array.size_push]
  by_cases h:w.heap.size=i
  ·subst h;simp
  simp[h,Ne.symm h]
 rw[←e]
 simp[Instr.mapUpdate,run_underlying hT,MapKept.run_getObj_map hb,run_checkKey hK (show IsKey (.int .u8) (.int .u8 k) from rfl),run_findKey hK hf,MapKept.run_setObj_map _ hb,Result.andThen]
theorem zJI {P:Program} (T K E:TypeId) (hT:P.underlying T=some (.map K E)) (hK:P.underlying K=some (.int .u8)) (es:Array MapEntry) (c r i:Nat) (k:Int) (v:Value) (w:World)
  (hb:w.heap[r]?=some (.map es c)) (hf:Instr.findNow (.int .u8) (.int .u8 k) es.toList 0=some (some (i,v))):
  (Instr.lookup T (.map (some r)) (.int .u8 k) false).run P w= .ok v w:=by
 simp[Instr.lookup,run_underlying hT,MapKept.run_getObj_map hb,run_checkKey hK (show IsKey (.int .u8) (.int .u8 k) from rfl),run_findKey hK hf,Result.andThen]
theorem top_alloc' (w:World) (o:Obj) (n:Nat) (h:n=w.heap.size):(w.alloc o).heap[n]?=some o:=by subst h;show(w.heap.push _)[w.heap.size]?=_;simp
open Go.RowKit Go.Lib

theorem zMz (l:List (Rul.Rl)) (p:Rul.Rl→Bool) (g:Nat) (lb:Array Value) (eg: ∀args w,(callFunc g args).run Tryz.prog w= .ok (.enter g args) w) (v:Value) (w:World) (hl:SlAt 4 RelC w v l)
  (CP:Hid (∀x∈l,∀za zn zc,∀wx,Below w.heap.size w wx→SlAt 2 RngC wx (.slice za zn zc) x.rs→Calls Tryz.prog g (#[.agg #[.int .u8 (x.op.toNat:Int),.int .i64 x.mod,.bool x.no,.slice za zn zc]]++lb) wx fun e w'=>e= .returned (.bool (p x))∧Below wx.heap.size wx w')):
  Calls Tryz.prog 184 #[v,.func (.func g) #[] lb] w fun e w'=> ∃i:Int,e= .returned (.int .i64 i)∧decide (0≤i)=l.any p∧Below w.heap.size w w':=by
 have HLB:=lH (show ∀wx,Below w.heap.size w wx→SlAt 4 RelC wx v l from fun wx hb=>hl.rels_below hb)
 obtain⟨A,cap,rfl,hm,_⟩:=hl.spread
 unfold maxLen at hm
 clear hl
 go_enter Tryz.func184,Tryz.ntmps184
 go_wp2_with fail
 go_loopw [5,8] (fun _ i wr=> ∃k:Nat,i= .int .i64 k∧k≤l.length∧Hid ((l.take k).any p=false)∧Hid (Below w.heap.size w wr)) (fun _ i _=>l.length-(RowKit.intOf i).toNat)
 case atStart=>exact⟨0,rfl,Nat.zero_le _,lH rfl,lH (Below.refl _ _)⟩
 case round=>
  obtain⟨k,rfl,hk,HA,HB⟩:=hrel
  by_cases hlt:k<l.length
  ·obtain⟨x,hx⟩: ∃x,l[k]?=some x:=⟨l[k],List.getElem?_eq_getElem hlt⟩
   have HX:=lH (any_take' (p:=p) hx)
   have hxm:=List.mem_of_getElem? hx
   obtain⟨A',cap',eA,_,hsp⟩:=(HLB.out wr HB.out).spread
   injection eA with e1 e2 e3
   subst e1
   obtain⟨b,off,rfl,hxc⟩:=hsp k x hx
   clear hsp e2 e3
   obtain⟨za,zn,zc,x0,x1,x2,x3,xs⟩:=hxc
   have HXS:=lH xs
   clear xs
   have CX:=lH (CP.out x hxm za zn zc _ HB.out HXS.out)
   clear hx hxm
   cases hq:p x with
   |true=>
    rw[hq] at CX
    have HT:=lH (show l.any p=true by
     have h1:(l.take (k+1)).any p=true:=by rw[HX.out,hq];simp
     obtain⟨y,hy,e⟩:=List.any_eq_true.1 h1
     exact List.any_eq_true.2 ⟨y,List.mem_of_mem_take hy,e⟩)
    clear hq
    go_wp2_with (go_at_fn g;refine CX.out.mono ?_;rintro e w' ⟨rfl,hb⟩;have HB2:=lH (bT HB.out hb);clear hb)
    go_ret
    exact⟨_,rfl,by rw[HT.out];exact decide_eq_true (by omega),HB2.out⟩
   |false=>
    rw[hq] at CX
    have HT:=lH (show(l.take (k+1)).any p=false by rw[HX.out,hq,HA.out];rfl)
    clear hq
    go_wp2_with (go_at_fn g;refine CX.out.mono ?_;rintro e w' ⟨rfl,hb⟩;have HB2:=lH (bT HB.out hb);clear hb)
    go_roundw
    case rel=>exact⟨k+1,by go_num,by omega,HT,HB2⟩
    case measure=>simp[RowKit.intOf];omega
  have HT:=lH (show l.any p=false by rw[←List.take_of_length_le (l:=l) (i:=k) (by omega)];exact HA.out)
  go_wp2_with fail
  go_ret
  exact⟨_,rfl,by rw[HT.out];rfl,HB.out⟩

theorem zMA (l:List (Rul.Rl)) (p:Rul.Rl→Bool) (g:Nat) (lb:Array Value) (eg: ∀args w,(callFunc g args).run Tryz.prog w= .ok (.enter g args) w) (v:Value) (w:World) (hl:SlAt 4 RelC w v l)
  (CP:Hid (∀x∈l,∀za zn zc,∀wx,Below w.heap.size w wx→SlAt 2 RngC wx (.slice za zn zc) x.rs→Calls Tryz.prog g (#[.agg #[.int .u8 (x.op.toNat:Int),.int .i64 x.mod,.bool x.no,.slice za zn zc]]++lb) wx fun e w'=>e= .returned (.bool (p x))∧Below wx.heap.size wx w')):
  Calls Tryz.prog 154 #[v,.func (.func g) #[] lb] w fun e w'=>e= .returned (.bool (l.any p))∧Below w.heap.size w w':=by
 have CI:=lH (zMz l p g lb eg v w hl CP)
 obtain⟨za,zn,zc,rfl⟩:=hl.isSlice
 clear hl CP eg
 go_enter Tryz.func154,Tryz.ntmps154
 go_wp2_with fail
 refine CI.out.mono ?_
 rintro e w1 ⟨i,rfl,hi,hb⟩
 have HI:=lH hi
 clear hi
 go_wp2_with fail
 go_ret
 exact⟨zAg HI.out,hb⟩
theorem zK0 (l:List (List Rul.Rl)) (p:List Rul.Rl→Bool) (g:Nat) (lb:Array Value) (eg: ∀args w,(callFunc g args).run Tryz.prog w= .ok (.enter g args) w) (v:Value) (w:World) (hl:SlAt 1 PartC w v l)
  (CP:Hid (∀x∈l,∀za zn zc,∀wx,Below w.heap.size w wx→SlAt 4 RelC wx (.slice za zn zc) x→Calls Tryz.prog g (#[.slice za zn zc]++lb) wx fun e w'=>e= .returned (.bool (p x))∧Below wx.heap.size wx w')):
  Calls Tryz.prog 183 #[v,.func (.func g) #[] lb] w fun e w'=> ∃i:Int,e= .returned (.int .i64 i)∧decide (0≤i)=l.any p∧Below w.heap.size w w':=by
 have HLB:=lH (show ∀wx,Below w.heap.size w wx→SlAt 1 PartC wx v l from fun wx hb=>hl.rule_below hb)
 obtain⟨A,cap,rfl,hm,_⟩:=hl.spread
 unfold maxLen at hm
 clear hl
 go_enter Tryz.func183,Tryz.ntmps183
 go_wp2_with fail
 go_loopw [5,8] (fun _ i wr=> ∃k:Nat,i= .int .i64 k∧k≤l.length∧Hid ((l.take k).any p=false)∧Hid (Below w.heap.size w wr)) (fun _ i _=>l.length-(RowKit.intOf i).toNat)
 case atStart=>exact⟨0,rfl,Nat.zero_le _,lH rfl,lH (Below.refl _ _)⟩
 case round=>
  obtain⟨k,rfl,hk,HA,HB⟩:=hrel
  by_cases hlt:k<l.length
  ·obtain⟨x,hx⟩: ∃x,l[k]?=some x:=⟨l[k],List.getElem?_eq_getElem hlt⟩
   have HX:=lH (any_take' (p:=p) hx)
   have hxm:=List.mem_of_getElem? hx
   obtain⟨A',cap',eA,_,hsp⟩:=(HLB.out wr HB.out).spread
   injection eA with e1 e2 e3
   subst e1
   obtain⟨b,off,rfl,hxc⟩:=hsp k x hx
   clear hsp e2 e3
   obtain⟨za,zn,zc,x0,xs⟩:=hxc
   rw[Nat.mul_one] at x0
   have HXS:=lH xs
   clear xs
   have CX:=lH (CP.out x hxm za zn zc _ HB.out HXS.out)
   clear hx hxm
   cases hq:p x with
   |true=>
    rw[hq] at CX
    have HT:=lH (show l.any p=true by
     have h1:(l.take (k+1)).any p=true:=by rw[HX.out,hq];simp
     obtain⟨y,hy,e⟩:=List.any_eq_true.1 h1
     exact List.any_eq_true.2 ⟨y,List.mem_of_mem_take hy,e⟩)
    clear hq
    go_wp2_with (go_at_fn g;refine CX.out.mono ?_;rintro e w' ⟨rfl,hb⟩;have HB2:=lH (bT HB.out hb);clear hb)
    go_ret
    exact⟨_,rfl,by rw[HT.out];exact decide_eq_true (by omega),HB2.out⟩
   |false=>
    rw[hq] at CX
    have HT:=lH (show(l.take (k+1)).any p=false by rw[HX.out,hq,HA.out];rfl)
    clear hq
    go_wp2_with (go_at_fn g;refine CX.out.mono ?_;rintro e w' ⟨rfl,hb⟩;have HB2:=lH (bT HB.out hb);clear hb)
    go_roundw
    case rel=>exact⟨k+1,by go_num,by omega,HT,HB2⟩
    case measure=>simp[RowKit.intOf];omega
  have HT:=lH (show l.any p=false by rw[←List.take_of_length_le (l:=l) (i:=k) (by omega)];exact HA.out)
  go_wp2_with fail
  go_ret
  exact⟨_,rfl,by rw[HT.out];rfl,HB.out⟩

theorem zK1 (l:List (List Rul.Rl)) (p:List Rul.Rl→Bool) (g:Nat) (lb:Array Value) (eg: ∀args w,(callFunc g args).run Tryz.prog w= .ok (.enter g args) w) (v:Value) (w:World) (hl:SlAt 1 PartC w v l)
  (CP:Hid (∀x∈l,∀za zn zc,∀wx,Below w.heap.size w wx→SlAt 4 RelC wx (.slice za zn zc) x→Calls Tryz.prog g (#[.slice za zn zc]++lb) wx fun e w'=>e= .returned (.bool (p x))∧Below wx.heap.size wx w')):
  Calls Tryz.prog 152 #[v,.func (.func g) #[] lb] w fun e w'=>e= .returned (.bool (l.any p))∧Below w.heap.size w w':=by
 have CI:=lH (zK0 l p g lb eg v w hl CP)
 obtain⟨za,zn,zc,rfl⟩:=hl.isSlice
 clear hl CP eg
 go_enter Tryz.func152,Tryz.ntmps152
 go_wp2_with fail
 refine CI.out.mono ?_
 rintro e w1 ⟨i,rfl,hi,hb⟩
 have HI:=lH hi
 clear hi
 go_wp2_with fail
 go_ret
 exact⟨zAg HI.out,hb⟩
open Go.RowKit

theorem zIA (x:Int) (p:Int×Int) (q:Nat) (w:World) (h:w.cell? ⟨q,0,none⟩=some (.int .i64 x)):
  Calls Tryz.prog 186 (#[.agg #[.int .i64 p.1,.int .i64 p.2]]++ #[.pointer (some ⟨q,0,none⟩)]) w fun e w'=>e= .returned (.bool (Rul.rngHas x p))∧Below w.heap.size w w':=by
 obtain⟨a,b⟩:=p
 dsimp only
 have HR:=lH (show Rul.rngHas x (a,b)=(decide (a≤x)&&decide (x≤b)) from rfl)
 have hq:=World.block_lt_of_cell? w _ h
 generalize Rul.rngHas x (a,b)=R at*
 show Calls _ _ #[_,_] _ _
 by_cases h0:a≤x
 ·have d0:decide (a≤x)=true:=zAd h0
  have d0':decide (x≥a)=true:=zAd h0
  by_cases h1:x≤b
  ·have d1:decide (x≤b)=true:=zAd h1
   obtain rfl:R=true:=by rw[HR.out,d0,d1];rfl
   go_enter Tryz.func186,Tryz.ntmps186
   go_wp2_with fail
   go_ret
   exact⟨zAg (by simp),bA _ _⟩
  have d1:decide (x≤b)=false:=zAa h1
  obtain rfl:R=false:=by rw[HR.out,d0,d1];rfl
  go_enter Tryz.func186,Tryz.ntmps186
  go_wp2_with fail
  go_ret
  exact⟨zAg (by simp),bA _ _⟩
 have d0:decide (a≤x)=false:=zAa h0
 obtain rfl:R=false:=by rw[HR.out,d0];rfl
 have d0':decide (x≥a)=false:=zAa h0
 go_enter Tryz.func186,Tryz.ntmps186
 go_wp2_with fail
 go_ret
 exact⟨zAg (by simp),bA _ _⟩
theorem zJJ (args:Array Value) (w:World):(callFunc 186 args).run Tryz.prog w= .ok (.enter 186 args) w:=enters_of Tryz.func186 (by kernel_rfl) rfl args w

def hm0 (_:Rul.Op5):Array MapEntry:= #[]
def hm1 (o:Rul.Op5):Array MapEntry:=(hm0 o).push {key:= .int .u8 110,val:= .int .i64 o.i,born:=0}
def hm2 (o:Rul.Op5):Array MapEntry:=(hm1 o).push {key:= .int .u8 105,val:= .int .i64 o.i,born:=1}
def hm3 (o:Rul.Op5):Array MapEntry:=(hm2 o).push {key:= .int .u8 118,val:= .int .i64 o.v,born:=2}
def hm4 (o:Rul.Op5):Array MapEntry:=(hm3 o).push {key:= .int .u8 119,val:= .int .i64 o.w,born:=3}
def hm5 (o:Rul.Op5):Array MapEntry:=(hm4 o).push {key:= .int .u8 102,val:= .int .i64 o.f,born:=4}
def hm6 (o:Rul.Op5):Array MapEntry:=(hm5 o).push {key:= .int .u8 116,val:= .int .i64 o.t,born:=5}
theorem zNy {c:UInt8} (h:Rul.opOk c=true) (o:Rul.Op5): ∃i,Instr.findNow (.int .u8) (.int .u8 (c.toNat:Int)) (hm6 o).toList 0=some (some (i,.int .i64 (Rul.opv c o))):=by
 rcases Rul.zBr h with rfl|rfl|rfl|rfl|rfl|rfl
 ·exact⟨0,by kernel_rfl⟩
 ·exact⟨1,by kernel_rfl⟩
 ·exact⟨2,by kernel_rfl⟩
 ·exact⟨3,by kernel_rfl⟩
 ·exact⟨4,by kernel_rfl⟩
 exact⟨5,by kernel_rfl⟩

theorem zJK (r:Rul.Rl) (o:Rul.Op5) (a:Option Addr) (n c:Nat) (w:World) (hs:SlAt 2 RngC w (.slice a n c) r.rs) (hok:Rul.opOk r.op=true):
  Calls Tryz.prog 156 #[.agg #[.int .u8 (r.op.toNat:Int),.int .i64 r.mod,.bool r.no,.slice a n c],.agg #[.int .i64 o.i,.int .i64 o.v,.int .i64 o.w,.int .i64 o.f,.int .i64 o.t]] w fun e w'=>e= .returned (.bool (Rul.relH r o))∧Below w.heap.size w w':=by
 obtain⟨op,mod,no,rs⟩:=r
 dsimp only at*
 obtain⟨wA,hwA⟩: ∃wA,(w.alloc (.cells #[.int .u8 (op.toNat:Int),.int .i64 mod,.bool no,.slice a n c] 240)).alloc (.cells #[.int .i64 o.i,.int .i64 o.v,.int .i64 o.w,.int .i64 o.f,.int .i64 o.t] 176)=wA:=⟨_,rfl⟩
 have zA:wA.heap.size=w.heap.size+2:=by rw[←hwA];simp
 have BR:=lH ((Boxed.made w #[.int .u8 (op.toNat:Int),.int .i64 mod,.bool no,.slice a n c] 240).alloc (.cells #[.int .i64 o.i,.int .i64 o.v,.int .i64 o.w,.int .i64 o.f,.int .i64 o.t] 176))
 have BO:=lH (Boxed.made (w.alloc (.cells #[.int .u8 (op.toNat:Int),.int .i64 mod,.bool no,.slice a n c] 240)) #[.int .i64 o.i,.int .i64 o.v,.int .i64 o.w,.int .i64 o.f,.int .i64 o.t] 176)
 have WA:=lH ((bA w (.cells #[.int .u8 (op.toNat:Int),.int .i64 mod,.bool no,.slice a n c] 240)).alloc (by simp) (.cells #[.int .i64 o.i,.int .i64 o.v,.int .i64 o.w,.int .i64 o.f,.int .i64 o.t] 176))
 simp only[World.size_alloc] at BO
 rw[hwA] at BR BO WA
 have hmm: ∀w,(Instr.makeMap 272 none).run Tryz.prog w= .ok (.map (some w.heap.size)) (w.alloc (.map (hm0 o) 0)):=fun w=> @run_makeMap Tryz.prog 272 w
 have I0:=zBE (P:= Tryz.prog) 272 5 3 Tryz.underlying272 Tryz.underlying5 (hm0 o) 0 110 (.int .i64 o.i) (by kernel_rfl) wA
 change (Instr.mapUpdate 272 (.map (some wA.heap.size)) (.int .u8 110) (.int .i64 o.i)).run Tryz.prog (wA.alloc (.map (hm0 o) 0))= .ok () (wA.alloc (.map (hm1 o) 1)) at I0
 rw[zA] at I0
 have I1:=zBE (P:= Tryz.prog) 272 5 3 Tryz.underlying272 Tryz.underlying5 (hm1 o) 1 105 (.int .i64 o.i) (by kernel_rfl) wA
 change (Instr.mapUpdate 272 (.map (some wA.heap.size)) (.int .u8 105) (.int .i64 o.i)).run Tryz.prog (wA.alloc (.map (hm1 o) 1))= .ok () (wA.alloc (.map (hm2 o) 2)) at I1
 rw[zA] at I1
 have I2:=zBE (P:= Tryz.prog) 272 5 3 Tryz.underlying272 Tryz.underlying5 (hm2 o) 2 118 (.int .i64 o.v) (by kernel_rfl) wA
 change (Instr.mapUpdate 272 (.map (some wA.heap.size)) (.int .u8 118) (.int .i64 o.v)).run Tryz.prog (wA.alloc (.map (hm2 o) 2))= .ok () (wA.alloc (.map (hm3 o) 3)) at I2
 rw[zA] at I2
 have I3:=zBE (P:= Tryz.prog) 272 5 3 Tryz.underlying272 Tryz.underlying5 (hm3 o) 3 119 (.int .i64 o.w) (by kernel_rfl) wA
 change (Instr.mapUpdate 272 (.map (some wA.heap.size)) (.int .u8 119) (.int .i64 o.w)).run Tryz.prog (wA.alloc (.map (hm3 o) 3))= .ok () (wA.alloc (.map (hm4 o) 4)) at I3
 rw[zA] at I3
 have I4:=zBE (P:= Tryz.prog) 272 5 3 Tryz.underlying272 Tryz.underlying5 (hm4 o) 4 102 (.int .i64 o.f) (by kernel_rfl) wA
 change (Instr.mapUpdate 272 (.map (some wA.heap.size)) (.int .u8 102) (.int .i64 o.f)).run Tryz.prog (wA.alloc (.map (hm4 o) 4))= .ok () (wA.alloc (.map (hm5 o) 5)) at I4
 rw[zA] at I4
 have I5:=zBE (P:= Tryz.prog) 272 5 3 Tryz.underlying272 Tryz.underlying5 (hm5 o) 5 116 (.int .i64 o.t) (by kernel_rfl) wA
 change (Instr.mapUpdate 272 (.map (some wA.heap.size)) (.int .u8 116) (.int .i64 o.t)).run Tryz.prog (wA.alloc (.map (hm5 o) 5))= .ok () (wA.alloc (.map (hm6 o) 6)) at I5
 rw[zA] at I5
 obtain⟨ix,hix⟩:=zNy hok o
 have LK:=zJI (P:= Tryz.prog) 272 5 3 Tryz.underlying272 Tryz.underlying5 (hm6 o) 6 (w.heap.size+2) ix (op.toNat:Int) (.int .i64 (Rul.opv op o)) (wA.alloc (.map (hm6 o) 6)) (top_alloc' wA _ _ zA.symm) hix
 clear hix
 have HX:=lH (show Rul.opx ⟨op,mod,no,rs⟩ o=if mod=0 then Rul.opv op o else (Rul.opv op o).tmod mod from rfl)
 have HR:=lH (show Rul.relH ⟨op,mod,no,rs⟩ o=((rs.any (Rul.rngHas (Rul.opx ⟨op,mod,no,rs⟩ o))&&(!decide (op=110)||decide (o.t=0))) !=no) from rfl)
 generalize Rul.opx ⟨op,mod,no,rs⟩ o=X at*
 generalize Rul.relH ⟨op,mod,no,rs⟩ o=R at*
 have HA:=lH fun (w':World) (hb:Below w.heap.size w w') (q:Nat) (hq:w'.cell? ⟨q,0,none⟩=some (.int .i64 X))=>zHL rs (Rul.rngHas X) 186 #[.pointer (some ⟨q,0,none⟩)] zJJ (.slice a n c) w' (hs.rngs_below hb) (lH fun x _ wx hx=>zIA X x q wx (cK hq hx))
 have ho110:decide (op=110)=decide ((op.toNat:Int)=110):=by
  by_cases h:op=110
  ·subst h;rfl
  rw[zAa h,zAa (fun e=>h (by apply UInt8.toNat_inj.1;show op.toNat=110;omega))]
 rw[ho110] at HR
 clear ho110
 generalize Rul.opv op o=Y at*
 generalize rs.any (Rul.rngHas X)=I at*
 generalize (op.toNat:Int)=opI at*
 clear hs hok
 subst hwA
 by_cases hm:mod=0
 ·subst hm
  obtain rfl:X=Y:=by rw[HX.out,if_pos rfl]
  clear HX
  go_enter Tryz.func156,Tryz.ntmps156
  go_wp2_with fail
  refine(HA.out _ ((WA.out.alloc (by simp only[World.size_alloc];omega) (.map (hm6 o) 6)).alloc (by simp only[World.size_alloc];omega) (.cells #[.int .i64 X] 3)) _ (by simp[go_sem])).mono ?_
  rintro e w2 ⟨rfl,hb⟩
  have BR2:=lH (((BR.out.alloc (.map (hm6 o) 6)).alloc (.cells #[.int .i64 X] 3)).below hb)
  have BO2:=lH (((BO.out.alloc (.map (hm6 o) 6)).alloc (.cells #[.int .i64 X] 3)).below hb)
  have W2:=lH (bT ((WA.out.alloc (by simp only[World.size_alloc];omega) (.map (hm6 o) 6)).alloc (by simp only[World.size_alloc];omega) (.cells #[.int .i64 X] 3)) hb)
  have k0:=BR2.out.cell 0 _ rfl
  have k2:=BR2.out.cell 2 _ rfl
  have k4:=BO2.out.cell 4 _ rfl
  clear hb HA BR BO WA LK hmm I0 I1 I2 I3 I4 I5
  generalize o.t=ot at*
  cases I with
  |false=>
   go_wp2_with fail
   go_ret
   exact⟨zAg (by rw[HR.out];simp),W2.out⟩
  |true=>
   by_cases h1:opI=110
   ·have d1:(opI==110)=true:=zAo h1
    by_cases h2:ot=0
    ·have d2:(ot==0)=true:=zAo h2
     have HF:=lH (show R=(true !=no) by rw[HR.out,zAd h1,zAd h2];rfl)
     clear HR
     go_wp2_with fail
     go_ret
     exact⟨zAg (by rw[HF.out];simp),W2.out⟩
    have d2:(ot==0)=false:=zAe h2
    have HF:=lH (show R=(false !=no) by rw[HR.out,zAd h1,zAa h2];rfl)
    clear HR
    go_wp2_with fail
    go_ret
    exact⟨zAg (by rw[HF.out];simp),W2.out⟩
   have d1:(opI==110)=false:=zAe h1
   have HF:=lH (show R=(true !=no) by rw[HR.out,zAa h1];simp)
   clear HR
   go_wp2_with fail
   go_ret
   exact⟨zAg (by rw[HF.out];simp),W2.out⟩
 have HXE:=HX.out
 rw[if_neg hm] at HXE
 have hm0:(mod==0)=false:=zAe hm
 clear HX
 go_enter Tryz.func156,Tryz.ntmps156
 go_wp2_with fail
 rw[←HXE]
 clear HXE hm hm0
 refine(HA.out _ ((WA.out.alloc (by simp only[World.size_alloc];omega) (.map (hm6 o) 6)).alloc (by simp only[World.size_alloc];omega) (.cells #[.int .i64 X] 3)) _ (by simp[go_sem])).mono ?_
 rintro e w2 ⟨rfl,hb⟩
 have BR2:=lH (((BR.out.alloc (.map (hm6 o) 6)).alloc (.cells #[.int .i64 X] 3)).below hb)
 have BO2:=lH (((BO.out.alloc (.map (hm6 o) 6)).alloc (.cells #[.int .i64 X] 3)).below hb)
 have W2:=lH (bT ((WA.out.alloc (by simp only[World.size_alloc];omega) (.map (hm6 o) 6)).alloc (by simp only[World.size_alloc];omega) (.cells #[.int .i64 X] 3)) hb)
 have k0:=BR2.out.cell 0 _ rfl
 have k2:=BR2.out.cell 2 _ rfl
 have k4:=BO2.out.cell 4 _ rfl
 clear hb HA BR BO WA LK hmm I0 I1 I2 I3 I4 I5
 generalize o.t=ot at*
 cases I with
 |false=>
  go_wp2_with fail
  go_ret
  exact⟨zAg (by rw[HR.out];simp),W2.out⟩
 |true=>
  by_cases h1:opI=110
  ·have d1:(opI==110)=true:=zAo h1
   by_cases h2:ot=0
   ·have d2:(ot==0)=true:=zAo h2
    have HF:=lH (show R=(true !=no) by rw[HR.out,zAd h1,zAd h2];rfl)
    clear HR
    go_wp2_with fail
    go_ret
    exact⟨zAg (by rw[HF.out];simp),W2.out⟩
   have d2:(ot==0)=false:=zAe h2
   have HF:=lH (show R=(false !=no) by rw[HR.out,zAd h1,zAa h2];rfl)
   clear HR
   go_wp2_with fail
   go_ret
   exact⟨zAg (by rw[HF.out];simp),W2.out⟩
  have d1:(opI==110)=false:=zAe h1
  have HF:=lH (show R=(true !=no) by rw[HR.out,zAa h1];simp)
  clear HR
  go_wp2_with fail
  go_ret
  exact⟨zAg (by rw[HF.out];simp),W2.out⟩
open Go.RowKit

def opsC (o:Rul.Op5):Array Value:= #[.int .i64 o.i,.int .i64 o.v,.int .i64 o.w,.int .i64 o.f,.int .i64 o.t]

theorem zG2 (r:Rul.Rl) (o:Rul.Op5) (q:Nat) (a:Option Addr) (n c:Nat) (w:World) (hs:SlAt 2 RngC w (.slice a n c) r.rs) (hok:Rul.opOk r.op=true) (hq:Boxed w q (opsC o)):
  Calls Tryz.prog 155 (#[.agg #[.int .u8 (r.op.toNat:Int),.int .i64 r.mod,.bool r.no,.slice a n c]]++ #[.pointer (some ⟨q,0,none⟩)]) w fun e w'=>e= .returned (.bool (!Rul.relH r o))∧Below w.heap.size w w':=by
 have CH:=lH fun (wx:World) (hb:Below w.heap.size w wx)=>zJK r o a n c wx (hs.rngs_below hb) hok
 obtain⟨op,mod,no,rs⟩:=r
 dsimp only at*
 generalize Rul.relH ⟨op,mod,no,rs⟩ o=R at*
 generalize (op.toNat:Int)=opI at*
 have k0:=hq.cell 0 _ rfl
 have k1:=hq.cell 1 _ rfl
 have k2:=hq.cell 2 _ rfl
 have k3:=hq.cell 3 _ rfl
 have k4:=hq.cell 4 _ rfl
 have hl:=hq.lt
 obtain⟨i,v,w5,f,t⟩:=o
 dsimp only at*
 clear hs hok hq
 show Calls _ _ #[_,_] _ _
 go_enter Tryz.func155,Tryz.ntmps155
 go_wp2_with fail
 refine(CH.out _ (bA w (.cells #[.int .u8 opI,.int .i64 mod,.bool no,.slice a n c] 240))).mono ?_
 rintro e w2 ⟨rfl,hb⟩
 have W2:=lH (bT (bA w (.cells #[.int .u8 opI,.int .i64 mod,.bool no,.slice a n c] 240)) hb)
 clear hb CH
 go_wp2_with fail
 go_ret
 exact⟨rfl,W2.out⟩
theorem zIB (args:Array Value) (w:World):(callFunc 155 args).run Tryz.prog w= .ok (.enter 155 args) w:=enters_of Tryz.func155 (by kernel_rfl) rfl args w

theorem zK2 {α:Type} {p:α→Bool} {l:List α}:(!(l.any fun x=>!p x))=l.all p:=by
 induction l with
 |nil=>rfl
 |cons x r ih=>rw[List.any_cons,List.all_cons,←ih,Bool.not_or,Bool.not_not]

theorem zIC (l:List Rul.Rl) (o:Rul.Op5) (q:Nat) (a:Option Addr) (n c:Nat) (w:World) (hs:SlAt 4 RelC w (.slice a n c) l) (hok: ∀x∈l,Rul.opOk x.op=true) (hq:Boxed w q (opsC o)):
  Calls Tryz.prog 153 (#[.slice a n c]++ #[.pointer (some ⟨q,0,none⟩)]) w fun e w'=>e= .returned (.bool (Rul.partH l o))∧Below w.heap.size w w':=by
 have HA:=lH (zMA l (fun x=>!Rul.relH x o) 155 #[.pointer (some ⟨q,0,none⟩)] zIB (.slice a n c) w hs (lH fun x hx za zn zc wx hb hr=>zG2 x o q za zn zc wx hr (hok x hx) (hq.below hb)))
 have HR:=lH (show(!(l.any fun x=>!Rul.relH x o))=Rul.partH l o from zK2)
 generalize (l.any fun x=>!Rul.relH x o)=I at*
 generalize Rul.partH l o=R at*
 have hl:=hq.lt
 clear hs hok hq
 show Calls _ _ #[_,_] _ _
 go_enter Tryz.func153,Tryz.ntmps153
 go_wp2_with fail
 refine HA.out.mono ?_
 rintro e w2 ⟨rfl,hb⟩
 go_wp2_with fail
 go_ret
 exact⟨zAg HR.out,hb⟩
theorem zJL (args:Array Value) (w:World):(callFunc 153 args).run Tryz.prog w= .ok (.enter 153 args) w:=enters_of Tryz.func153 (by kernel_rfl) rfl args w

theorem zID (r:Rul.Rule) (A:Option Addr) (n c:Nat) (o:Rul.Op5) (w:World) (hr:SlAt 1 PartC w (.slice A n c) r) (hl:r.length≤1000000000) (hc:Rul.count r≤1000000000) (hrs: ∀l∈r,∀x∈l,x.rs.length≤4000000001) (hE:Rul.ruleE r=0):
  Calls Tryz.prog 102 #[.slice A n c,.agg #[.int .i64 o.i,.int .i64 o.v,.int .i64 o.w,.int .i64 o.f,.int .i64 o.t]] w fun e w'=>e= .returned (.tuple #[.bool (Rul.ruleH r o),.nilIface])∧Below w.heap.size w w':=by
 have CC:=lH fun (wx:World) (hb:Below w.heap.size w wx)=>zDn r A n c wx (hr.rule_below hb) hl hc hrs
 have e1:errR (Rul.ruleE r)= .nilIface:=if_pos hE
 rw[e1] at CC
 have hop: ∀l∈r,∀x∈l,Rul.opOk x.op=true:=fun l hlr x hx=>Rul.zFE ((Rul.zAE ((Rul.zAC (Rul.ruleE_zero.1 hE).1).2 l hlr)).2 x hx)
 have HA:=lH fun (wx:World) (hb:Below w.heap.size w wx) (hq:Boxed wx w.heap.size (opsC o))=>zK1 r (Rul.partH · o) 153 #[.pointer (some ⟨w.heap.size,0,none⟩)] zJL (.slice A n c) wx (hr.rule_below hb)
  (lH fun l hlr za zn zc wy hy hs=>zIC l o w.heap.size za zn zc wy hs (hop l hlr) (hq.below hy))
 have HR:=lH (show r.any (Rul.partH · o)=Rul.ruleH r o from rfl)
 generalize Rul.ruleH r o=R at*
 generalize r.any (Rul.partH · o)=I at*
 obtain rfl:I=R:=HR.out
 clear e1 hr hrs hE hop HR
 have W1:=lH (bA w (.cells #[.int .i64 o.i,.int .i64 o.v,.int .i64 o.w,.int .i64 o.f,.int .i64 o.t] 176))
 have B1:=lH (Boxed.made w #[.int .i64 o.i,.int .i64 o.v,.int .i64 o.w,.int .i64 o.f,.int .i64 o.t] 176)
 change Hid (Boxed _ _ (opsC o)) at B1
 go_enter Tryz.func102,Tryz.ntmps102
 go_wp2_with fail
 refine(CC.out _ W1.out).mono ?_
 rintro e w2 ⟨rfl,hb⟩
 have W2:=lH (bT W1.out hb)
 have B2:=lH (B1.out.below hb)
 clear hb
 go_wp2_with fail
 refine(HA.out _ W2.out B2.out).mono ?_
 rintro e w3 ⟨rfl,hb⟩
 have W3:=lH (bT W2.out hb)
 clear hb
 go_wp2_with fail
 go_ret2
 exact⟨rfl,W3.out⟩
open Go.RowKit
open Dcm (P10 okD nrm)


open Go.RowKit
open Dcm (P10 okD nrm)


theorem zAp (n:Int) (w:World) (h0:0≤n) (h1:n≤9):
  Calls Tryz.prog 76 #[.int .i64 n] w fun e w'=>e= .returned (.int .i64 (P10 n))∧w=w':=by
 go_enter Tryz.func76,Tryz.ntmps76
 go_wp2
 go_loop [3,4] (fun t i=> ∃k:Int,0≤k∧k≤n∧i= .int .i64 k∧t= .int .i64 (P10 k)) (fun _ i=>(n-RowKit.intOf i).toNat)
 case atStart=>exact⟨0,by omega,by omega,rfl,rfl⟩
 case round=>
  obtain⟨k,k0,k1,rfl,rfl⟩:=hrel
  have hb:=Dcm.zAj k
  by_cases hlt:k<n
  ·have hs:=lH (Dcm.zB1 k k0 (by omega))
   go_wp2
   go_round
   case rel=>exact⟨k+1,by omega,by omega,by go_num,by rw[hs.out]⟩
   case measure=>simp[RowKit.intOf];omega
  obtain rfl:k=n:=by omega
  go_wp2
  go_ret
  exact⟨rfl,rfl⟩
theorem zAI (n:Int) (w:World) (h0: -9223372036854775807≤n) (h1:n≤9223372036854775807):
  Calls Tryz.prog 74 #[.int .i64 n] w fun e w'=>e= .returned (.int .i64 (Dcm.mag n))∧w=w':=by
 by_cases h:n<0
 ·have e:Dcm.mag n= -n:=by unfold Dcm.mag;rw[if_pos h]
  have E:=lH e
  clear e
  go_enter Tryz.func74,Tryz.ntmps74
  go_wp2
  go_ret
  exact⟨zAl (by rw[E.out]),rfl⟩
 have e:Dcm.mag n=n:=by unfold Dcm.mag;rw[if_neg h]
 have E:=lH e
 clear e
 go_enter Tryz.func74,Tryz.ntmps74
 go_wp2
 go_ret
 exact⟨zAl (by rw[E.out]),rfl⟩

end Go.Proofs.YtjlchookakbomaaGreatDoor
