/- The walk of apples, a message that counts. No conditions. -/
import Derived.Test.YtjlchookakbomaaGreatDoorEi22
set_option maxHeartbeats 2000000
set_option maxRecDepth 100000
namespace Go.Proofs.YtjlchookakbomaaGreatDoor
open Go.RowKit Ms
theorem zLc {f:Nat} {ua aa:Option Addr} {n c n' c':Nat} {va:Value} {m:List Nd} {args:List Ag} (lang:List UInt8) (w:World) (hw:MW w) (h:CodeAt f w (.slice ua n c) (.slice aa n' c') m) (hdp:Dp f m) (hcl:(clean f m).length≤2000000) (ha:ArgsAt w va args) (hal:args.length≤2000000) (hna: ∀a∈args,a.name.length≤4000000000) (hF: ¬fitE f m args=0):
  Calls Tryz.prog 11 #[.agg #[.slice ua n c,.slice aa n' c'],.string ⟨lang.toArray⟩,va] w fun e w'=>e= .returned (.tuple #[.string ⟨#[]⟩,errV (fitE f m args)])∧Below w.heap.size w w':=by
 have CF:=lH fun (wx:World) (hb:Below w.heap.size w wx)=>zGC (f:=f) wx (hw.below hb) (zAi h.2 hb) hcl (zAv ha hb) hal hna
 rw[zFm hdp,show errN (fitE f m args)=errV (fitE f m args) from if_neg hF] at CF
 have W0:=lH (bA w (.cells #[.slice ua n c,.slice aa n' c'] 26))
 generalize fitE f m args=FE at*
 clear hw h ha hal hna hF hdp hcl
 go_enter Tryz.func11,Tryz.ntmps11
 go_wp2_with fail
 refine(CF.out _ W0.out).mono ?_
 rintro e w1 ⟨rfl,hb⟩
 have W1:=lH (bT W0.out hb)
 clear hb CF W0
 go_wp2_with fail
 go_ret2
 exact⟨rfl,W1.out⟩
theorem zLd {f:Nat} {ua aa:Option Addr} {n c n' c':Nat} {va:Value} {m:List Nd} {args:List Ag} (lang t0 t1 t2 t3 t4:List UInt8) (b:Bool) (w:World) (hw:MW w) (hE:EvW w) (h:CodeAt f w (.slice ua n c) (.slice aa n' c') m) (hdp:Dp f m) (hl:m.length≤2000000) (ha:ArgsAt w va args) (hal:args.length≤2000000) (hna: ∀a∈args,a.name.length≤4000000000) (htx: ∀a∈args,a.txt.length≤2000000)
  (hS:SetFine t0 t1 t2 t3 t4) (hb0:b=false→t0= []∧t1= []∧t2= []∧t3= []∧t4= [])
  (CL: ∀w:World,Calls Tryz.prog 24 #[.string ⟨lang.toArray⟩] w fun e w'=>e= .returned (.tuple #[setV t0 t1 t2 t3 t4,if b then .nilIface else errV 2])∧Below w.heap.size w w'):
  Calls Tryz.prog 11 #[.agg #[.slice ua n c,.slice aa n' c'],.string ⟨lang.toArray⟩,va] w fun e w'=>e= .returned (.tuple #[.string ⟨(sayT [t0,t1,t2,t3,t4] f m args).toArray⟩,errN (sayE [t0,t1,t2,t3,t4] f m args)])∧Below w.heap.size w w':=by
 have hcl:(clean f m).length≤2000000:=by rw[zFn hdp];exact hl
 unfold sayT sayE
 by_cases hF:fitE f m args=0
 ·rw[if_pos hF,if_pos hF]
  exact zLb lang t0 t1 t2 t3 t4 b w hw hE h hdp hcl ha hal hna htx hS hb0 CL hF
 rw[if_neg hF,if_neg hF,show errN (fitE f m args)=errV (fitE f m args) from if_neg hF]
 exact zLc lang w hw h hdp hcl ha hal hna hF
open Go.RowKit Ms
namespace Ms
def appM:List Nd:= [.mk 4 [110] 0 [([111,110,101],[.mk 1 [111,110,101,32,97,112,112,108,101] 0 []]),([111,116,104,101,114],[.mk 6 [] 0 [],.mk 1 [32,97,112,112,108,101,115] 0 []])]]
end Ms
theorem zNz {W:World} {p0 p2 p4 p5:Nat} (h0:Boxed W p0 #[.int .i64 1,.string ⟨#[111,110,101,32,97,112,112,108,101]⟩,.int .i64 0,.slice none 0 0])
  (h2:Boxed W p2 #[.int .i64 6,.string ⟨#[]⟩,.int .i64 0,.slice none 0 0,.int .i64 1,.string ⟨#[32,97,112,112,108,101,115]⟩,.int .i64 0,.slice none 0 0])
  (h4:Boxed W p4 #[.string ⟨#[111,110,101]⟩,.slice (some ⟨p0,0,none⟩) 1 1,.string ⟨#[111,116,104,101,114]⟩,.slice (some ⟨p2,0,none⟩) 2 2])
  (h5:Boxed W p5 #[.int .i64 4,.string ⟨#[110]⟩,.int .i64 0,.slice (some ⟨p4,0,none⟩) 2 2]):MsgAt 2 W (.slice (some ⟨p5,0,none⟩) 1 1) appM:=by
 refine .inr ⟨p5,0,1,rfl,by decide,by decide,by decide,fun j x hx=>?_⟩
 match j,hx with
 |0,hx=>
  obtain rfl:=Option.some.inj hx
  refine⟨some ⟨p4,0,none⟩,2,2,h5.cell 0 _ rfl,h5.cell 1 _ rfl,h5.cell 2 _ rfl,h5.cell 3 _ rfl,?_,by decide,by decide⟩
  refine .inr ⟨p4,0,2,rfl,by decide,by decide,by decide,fun j y hy=>?_⟩
  match j,hy with
  |0,hy=>
   obtain rfl:=Option.some.inj hy
   refine⟨some ⟨p0,0,none⟩,1,1,h4.cell 0 _ rfl,h4.cell 1 _ rfl,?_,by decide,by decide⟩
   refine .inr ⟨p0,0,1,rfl,by decide,by decide,by decide,fun j z hz=>?_⟩
   match j,hz with
   |0,hz=>
    obtain rfl:=Option.some.inj hz
    exact⟨none,0,0,h0.cell 0 _ rfl,h0.cell 1 _ rfl,h0.cell 2 _ rfl,h0.cell 3 _ rfl,.inl ⟨rfl,none,0,rfl⟩,by decide,by decide⟩
  |1,hy=>
   obtain rfl:=Option.some.inj hy
   refine⟨some ⟨p2,0,none⟩,2,2,h4.cell 2 _ rfl,h4.cell 3 _ rfl,?_,by decide,by decide⟩
   refine .inr ⟨p2,0,2,rfl,by decide,by decide,by decide,fun j z hz=>?_⟩
   match j,hz with
   |0,hz=>
    obtain rfl:=Option.some.inj hz
    exact⟨none,0,0,h2.cell 0 _ rfl,h2.cell 1 _ rfl,h2.cell 2 _ rfl,h2.cell 3 _ rfl,.inl ⟨rfl,none,0,rfl⟩,by decide,by decide⟩
   |1,hz=>
    obtain rfl:=Option.some.inj hz
    exact⟨none,0,0,h2.cell 4 _ rfl,h2.cell 5 _ rfl,h2.cell 6 _ rfl,h2.cell 7 _ rfl,.inl ⟨rfl,none,0,rfl⟩,by decide,by decide⟩
theorem zBU {W:World} {p:Nat} (vs:Array Value) (t:TypeId) (h:p=W.heap.size):Boxed (W.alloc (.cells vs t)) p vs:=by subst h;exact Boxed.made W vs t
theorem zIF (w:World):Calls Tryz.prog 6 #[] w fun e w'=> ∃v,e= .returned v∧MsgAt 2 w' v appM∧Below w.heap.size w w':=by
 go_enter Tryz.func6,Tryz.ntmps6
 go_wp2_with fail
 go_ret
 refine⟨_,rfl,?_,?_⟩
 ·refine zNz (p0:=w.heap.size) (p2:=w.heap.size+1+1) (p4:=w.heap.size+1+1+1+1) (p5:=w.heap.size+1+1+1+1+1) ?_ ?_ ?_ ?_
  ·exact(((((zBU _ _ rfl).alloc _).alloc _).alloc _).alloc _).alloc _
  ·exact(((zBU _ _ (by simp)).alloc _).alloc _).alloc _
  ·exact(zBU _ _ (by simp)).alloc _
  exact zBU _ _ (by simp)
 exact(((((bA w _).alloc (by simp) _).alloc (by simp;omega) _).alloc (by simp;omega) _).alloc (by simp;omega) _).alloc (by simp;omega) _
end Go.Proofs.YtjlchookakbomaaGreatDoor
