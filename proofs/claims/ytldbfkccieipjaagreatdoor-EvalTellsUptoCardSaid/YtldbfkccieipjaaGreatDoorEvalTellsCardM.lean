/- The law EvalTells where what it reads is of bulk at most 1048576: the call returns true of every input, and turns nothing that was there. Conditions: the row's own. -/
import Derived.Test.YtldbfkccieipjaaGreatDoorEg6
import Derived.Test.YtldbfkccieipjaaGreatDoorEg8
import Derived.Test.YtldbfkccieipjaaGreatDoorCards
import Derived.Test.YtldbfkccieipjaaGreatDoorTie
import Derived.Deep.DeepHandedRow
import Derived.Deep.DeepWitnessRowRef
import Derived.Stop.Joined
namespace Go.Proofs.YtldbfkccieipjaaGreatDoor
open Go.RowKit Ms
open Dcm (okD)
set_option maxRecDepth 100000 in
set_option maxHeartbeats 4000000 in
theorem qsayof_any {f:Nat} {v va:Value} {m:List Nd} {args:List Ag} (lang t0 t1 t2 t3 t4:List UInt8) (b:Bool) (w:World) (h:MsgAt f w v m) (hl:m.length≤2000000) (ha:ArgsAt w va args) (hal:args.length≤2000000) (hna: ∀a∈args,a.name.length≤4000000000) (htx: ∀a∈args,a.txt.length≤2000000)
  (hS:SetFine t0 t1 t2 t3 t4) (CL: ∀w:World,Calls Tryz.prog 52 #[.string ⟨lang.toArray⟩] w fun e w'=>e= .returned (.tuple #[setV t0 t1 t2 t3 t4,.bool b])∧Below w.heap.size w w'):
  Calls Tryz.prog 23 #[v,.string ⟨lang.toArray⟩,va] w fun e w'=>e= .returned (.tuple #[.string ⟨(sayT [t0,t1,t2,t3,t4] f m args).toArray⟩,.int .i64 (sayE [t0,t1,t2,t3,t4] f m args)])∧Below w.heap.size w w':=by
 have CF:=lH (ffault_any w h hl ha hal hna)
 obtain⟨v1,v2,v3,rfl⟩:=h.isSlice
 obtain⟨u1,u2,u3,rfl⟩:=ha.isSlice
 unfold sayT sayE
 by_cases hF:fitE f m args=0
 ·rw[if_pos hF,if_pos hF]
  rw[hF] at CF
  obtain⟨hwf,hae,hcn⟩:=wf_fit hF
  obtain⟨hot,hha⟩:=has_fit hF
  have CS:=lH fun (wx:World) (hb:Below w.heap.size w wx)=>qsaid_any t0 t1 t2 t3 t4 args _ hS (args_fine hae htx) hal f _ m wx 0 0 (msg_below h hb) hl hwf hot hha (args_below ha hb) (by decide) (Nat.le_trans (Nat.mul_le_mul_right 4000000 hcn) (by decide))
  rw[show saidM (evS [t0,t1,t2,t3,t4]) (valA args) f 0 0 m=sayO [t0,t1,t2,t3,t4] f m args from rfl] at CS
  have CLh:=lH CL
  unfold setV at CLh
  clear h hl ha hal hna htx hS CL hF hwf hae hcn hot hha
  generalize sayO [t0,t1,t2,t3,t4] f m args=R at*
  go_enter Tryz.func23,Tryz.ntmps23
  go_wp2_with fail
  refine CF.out.mono ?_
  rintro e w1 ⟨rfl,hb⟩
  have W1:=lH hb
  clear hb CF
  go_wp2_with fail
  refine(CLh.out _).mono ?_
  rintro e w2 ⟨rfl,hb⟩
  have W2:=lH (bT (bT W1.out hb) (bA w2 (.cells #[.string ⟨t0.toArray⟩,.string ⟨t1.toArray⟩,.string ⟨t2.toArray⟩,.string ⟨t3.toArray⟩,.string ⟨t4.toArray⟩] 54)))
  have CSi:=lH (CS.out _ W2.out)
  clear hb CLh W1 CS
  go_wp2_with fail
  refine CSi.out.mono ?_
  rintro e w3 ⟨rfl,_,hb⟩
  have W3:=lH (bT W2.out hb)
  clear hb CSi W2
  cases R with
  |none=>
   rw[show((none:Option (List UInt8)).isSome)=false from rfl]
   go_wp2_with fail
   go_ret2
   exact⟨rfl,W3.out⟩
  |some t=>
   rw[show((some t:Option (List UInt8)).isSome)=true from rfl]
   go_wp2_with fail
   go_ret2
   exact⟨rfl,W3.out⟩
 ·rw[if_neg hF,if_neg hF]
  clear h hl ha hal hna htx hS CL
  generalize fitE f m args=FE at*
  have hF':(FE==0)=false:=beq_eq_false_iff_ne.2 hF
  go_enter Tryz.func23,Tryz.ntmps23
  go_wp2_with fail
  refine CF.out.mono ?_
  rintro e w1 ⟨rfl,hb⟩
  have W1:=lH hb
  clear hb CF
  go_wp2_with fail
  go_ret2
  exact⟨rfl,W1.out⟩
theorem errNo_sN (k:Int):ErrNo (errN k) k:=by
 unfold errN
 split
 ·rename_i h;subst h;exact ErrNo.nil
 ·exact ErrNo.no k
set_option maxRecDepth 100000 in
set_option maxHeartbeats 4000000 in
theorem etells_any {f:Nat} {v va:Value} {m:List Nd} {args:List Ag} (lang:List UInt8) (w:World) (hw:MW w) (hE:EvW w) (hH:HanW w) (h:MsgAt f w v m) (hl:m.length≤2000000) (ha:ArgsAt w va args) (hal:args.length≤2000000) (hna: ∀a∈args,a.name.length≤4000000000) (htx: ∀a∈args,a.txt.length≤2000000):
  Calls Tryz.prog 8 #[v,.string ⟨lang.toArray⟩,va] w fun e w'=>e= .returned (.bool true)∧Below w.heap.size w w':=by
 obtain⟨t0,t1,t2,t3,t4,b,hS,hb0,CL,CR⟩:=lang_set lang
 have CC:=lH (counted_any w hw hE)
 have CO:=lH fun (wx:World) (hb:Below w.heap.size w wx)=>qsayof_any lang t0 t1 t2 t3 t4 b wx (msg_below h hb) hl (args_below ha hb) hal hna htx hS CR
 have CS:=lH fun (wx:World) (hb:Below w.heap.size w wx)=>esay_any lang t0 t1 t2 t3 t4 b wx (hw.below hb) (hE.below hb) (msg_below h hb) hl (args_below ha hb) hal hna htx hS hb0 CL
 have CE:=lH fun (k:Int) wx (hb:Below w.heap.size w wx)=>sameErr_yes (errNo_sN k) wx (hH.below hb)
 obtain⟨v1,v2,v3,rfl⟩:=h.isSlice
 obtain⟨u1,u2,u3,rfl⟩:=ha.isSlice
 clear hw hE hH h hl ha hal hna htx hS hb0 CL CR
 generalize sayE [t0,t1,t2,t3,t4] f m args=SE at*
 generalize sayT [t0,t1,t2,t3,t4] f m args=ST at*
 go_enter Tryz.func8,Tryz.ntmps8
 go_wp2_with fail
 refine CC.out.mono ?_
 rintro e w1 ⟨rfl,hb⟩
 have W1:=lH hb
 clear hb CC
 go_wp2_with fail
 refine(CO.out _ W1.out).mono ?_
 rintro e w2 ⟨rfl,hb⟩
 have W2:=lH (bT W1.out hb)
 clear hb CO W1
 go_wp2_with fail
 refine(CS.out _ W2.out).mono ?_
 rintro e w3 ⟨rfl,hb⟩
 have W3:=lH (bT W2.out hb)
 clear hb CS W2
 have CEi:=lH (CE.out SE _ W3.out)
 go_wp2_with fail
 refine CEi.out.mono ?_
 rintro e w4 ⟨rfl,hb⟩
 have W4:=lH (bT W3.out hb)
 clear hb CE CEi W3
 go_wp2_with fail
 go_ret
 exact⟨ret_bool (by simp),W4.out⟩
end Go.Proofs.YtldbfkccieipjaaGreatDoor
namespace Go.Proofs.YtldbfkccieipjaaGreatDoor.lawEvalTells
open Go.ChangeShapes Go.WideShapes Go.ChangeAt Go.RowKit Go.Joins

theorem own:ownKnob Tryz.prog.godebug=none:=by kernel_rfl
theorem laidOut:laidOutB Tryz.prog=true:=by kernel_rfl

set_option maxRecDepth 100000 in
theorem contract (H:Type) (enc:TypeId×Value→H) (W:World) (base:Nat) (args:Array Value) (ds gs:List (DataW H)) (before:List MemPlace)
  (hval: ∀(j:Nat) t v,Tryz.f8.params[j]?=some t→args[j]?=some v→Value.okWide Tryz.prog W .any base t v)
  (hW:DataW.Whole enc Tryz.prog Tryz.f8.params.toList Rows.evalTellsSpec.vars false W args.toList ds gs before) (hk:Rows.uptoSmall H (ds++gs)=true) (hL:laidMetH Tryz.prog Rows.evalTellsUptoRow.laid W) (hS:W.ShapedOpen Tryz.prog):
  Calls Tryz.prog 8 args W fun e W'=> ∃v,e= .returned v∧Rows.evalTellsSpec.post enc Tryz.prog Tryz.f8 false true false false W args v W':=by
 have hpost: ∀W',Below W.heap.size W W'→Rows.evalTellsSpec.post enc Tryz.prog Tryz.f8 false true false false W args (.bool true) W':=fun W' hb=>
  law_post (tb:= 4) laidOut rfl Tryz.underlying4 rfl (by kernel_rfl) (fun ds h=>by match ds,h with| [x0,x1,x2],_=>rfl) hW hb
 obtain⟨p,q,hA0,hV,_,hfz,hnd⟩:=hW
 have hA:DataW.TrodAll enc Tryz.prog W 0 (fun _=>true) true Tryz.f8.params.toList args.toList ds p:=hA0
 obtain⟨rfl,rfl⟩:=trodVars_none hV
 rw[Tryz.params8] at hA hval
 obtain⟨v0,vs0,d0,ds0,p0,q0,hargs,rfl,hp0,h0,r0⟩:=trodAll_cons hA
 obtain⟨v1,vs1,d1,ds1,p1,q1,rfl,rfl,hp1,h1,r1⟩:=trodAll_cons r0
 obtain⟨v2,vs2,d2,ds2,p2,q2,rfl,rfl,hp2,h2,r2⟩:=trodAll_cons r1
 obtain⟨rfl,rfl,hp⟩:=trodAll_nil r2
 obtain rfl:args= #[v0,v1,v2]:=by cases args;simp_all
 obtain⟨m_a,m_n,m_c,rfl⟩:=okWide_slice Tryz.underlying22 (hval 0 22 v0 rfl rfl)
 obtain⟨m_f,m_h⟩:=h0
 obtain⟨l,rfl,rfl,rfl,w_l⟩:=ChangeMaps.open_string Tryz.underlying9 (hval 1 9 v1 rfl rfl) h1
 obtain⟨a_a,a_n,a_c,rfl⟩:=okWide_slice Tryz.underlying23 (hval 2 23 v2 rfl rfl)
 obtain⟨a_f,a_h⟩:=h2
 clear hA0 hfz hnd hval
 have hm:MaxW W:=Go.Proofs.cell_of_shapedOpen_int (zero:= #[.int .i64 0]) (t:= 3) hS (of_decide_eq_true (by kernel_rfl)) (by kernel_rfl) rfl (by kernel_rfl) (by kernel_rfl) Tryz.underlying3
 have hT:TR W:=⟨powW_of hL (by kernel_rfl),numW_of hL (by kernel_rfl) (by kernel_rfl),hm⟩
 have hM:MW W:=⟨powW_of hL (by kernel_rfl),numW_of hL (by kernel_rfl) (by kernel_rfl),kdW_of hL (by kernel_rfl)⟩
 have hE:EvW W:=⟨hT,kindsW_of hL (by kernel_rfl),numerW_of hL (by kernel_rfl) (by kernel_rfl)⟩
 have hH:HanW W:=hanW_of (by repeat(first|exact List.Mem.head _|refine List.Mem.tail _ ?_)) hL
 have hq:Rows.uptoBulkAll _≤1048576:=of_decide_eq_true hk
 simp only[List.append_nil,Rows.uptoBulkAll] at hq
 obtain⟨ms,m_at,m_len⟩:=nodes_open m_h (by omega)
 obtain⟨asx,a_at,a_len,a_nm⟩:=argx_open a_h (by omega)
 refine Calls.mono (?_:Calls Tryz.prog 8 #[.slice m_a m_n m_c,.string l,.slice a_a a_n a_c] W fun e w'=>e= .returned (.bool true)∧Below W.heap.size W w') fun e W' ⟨he,hb⟩=>⟨_,he,hpost W' hb⟩
 obtain⟨ll,rfl⟩: ∃x:List UInt8,l=⟨x.toArray⟩:=⟨l.data.toList,rfl⟩
 exact etells_any ll W hM hE hH m_at (by omega) a_at (by omega) (fun x hx=>by have:=(a_nm x hx).1;omega) (fun x hx=>by have:=(a_nm x hx).2;omega)

theorem start_met (os:Os):laidMetH Tryz.prog Rows.evalTellsUptoRow.laid (((World.doorLaid Tryz.prog 99 os).layVars Tryz.prog (Rows.evalTellsUptoRow.laid.filter fun x=>x.2.handleName?.isNone)).forCall (fun _ _=>0) ⟨#[],#[.slice none 0 0,.string ⟨#[]⟩,.slice none 0 0],[]⟩).memory:=
 laidMetH_of_parts3 (fuel:=8) (laidMet_over _ (by kernel_rfl) (by kernel_rfl)) (by kernel_rfl) (by kernel_rfl)
theorem start_reads (os:Os) {H:Type} (enc:TypeId×Value→H): ∃places,DataW.whole enc Tryz.prog (((World.doorLaid Tryz.prog 99 os).layVars Tryz.prog (Rows.evalTellsUptoRow.laid.filter fun x=>x.2.handleName?.isNone)).forCall (fun _ _=>0) ⟨#[],#[.slice none 0 0,.string ⟨#[]⟩,.slice none 0 0],[]⟩).memory Tryz.f8.params.toList Rows.evalTellsSpec.vars false (#[.slice none 0 0,.string ⟨#[]⟩,.slice none 0 0]:Array Value).toList 8=some ([.nil,.lit (.string []),.nil],[],places):=
 ⟨[],by kernel_rfl⟩

set_option maxRecDepth 100000 in
theorem lifted (os:Os) (started:os.Started) (H:Type) (enc:TypeId×Value→H) (F:Stop.Interp):
  ReturnsInHanded {} Tryz.checked os 8 .any ((Rows.OpenSpec.upto Rows.evalTellsSpec).preRow enc Tryz.prog Tryz.f8 Rows.evalTellsUptoRow.domain false Rows.evalTellsUptoRow.laid) (((Rows.OpenSpec.upto Rows.evalTellsSpec).at F).post enc Tryz.prog Tryz.f8 false true false false):=by
 obtain⟨places,hx⟩:=start_reads os enc
 refine returnsInHanded_of_row (C:= Tryz.checked) (s:=Rows.OpenSpec.upto Rows.evalTellsSpec) own started (by kernel_rfl) Tryz.func8
  (witness_row_atRef (enc:=enc) (C:= Tryz.checked) false ((World.doorLaid Tryz.prog 99 os).layVars Tryz.prog (Rows.evalTellsUptoRow.laid.filter fun x=>x.2.handleName?.isNone)) #[.slice none 0 0,.string ⟨#[]⟩,.slice none 0 0] (World.layVars_os _ _ _) (by kernel_rfl) (by kernel_rfl) (by kernel_rfl)
   (OpenSpec.preRow_of_cond 8 hx (by kernel_rfl) (fun k hk=>by cases hk;kernel_rfl) (by kernel_rfl) (start_met os))) ?_
 intro W base args ds gs before hval hW _ hcond _ hL hS _
 exact contract H enc W base args ds gs before hval hW (hcond _ rfl) hL hS

theorem cl1:(Rows.evalTellsUptoRow.inPlace== Tryz.pinned.checked.prog.inPlace 8)=true:=by kernel_rfl
theorem cl2:(Rows.evalTellsUptoRow.unfollowed== Tryz.pinned.checked.prog.unfollowed 8)=true:=by kernel_rfl
theorem cl3:(Rows.evalTellsUptoRow.recurses== Tryz.pinned.checked.prog.recurses 8)=true:=by kernel_rfl
theorem cl4:(Rows.evalTellsUptoRow.named== Tryz.pinned.checked.prog.varsNamed 8)=true:=by kernel_rfl
theorem closed:joinedFacts Tryz.pinned.checked.prog 8 Tryz.f8 (Rows.OpenSpec.upto Rows.evalTellsSpec).bare Rows.evalTellsUptoRow=true:=by
 unfold joinedFacts
 rw[cl1,cl2,cl3,cl4]
 kernel_rfl

theorem said:Rows.EvalTellsUptoSaid:=
 OpenClaim.holds_of_cond 8 Tryz.f8 rfl rfl rfl rfl rfl rfl rfl ⟨rfl,rfl,rfl,rfl,rfl⟩ rfl rfl rfl rfl rfl (by kernel_rfl) Tryz.func8 closed
  (of_decide_eq_true (by kernel_rfl)) (by unfold Func.isWrapper;first|(rw[if_pos (by decide+kernel)];kernel_rfl)|(rw[if_neg (by decide+kernel)];exact⟨rfl,rfl⟩))
  (fun os started H enc _ F=>by rw[OpenClaim.pre_eq_preRow];exact lifted os started H enc F)

theorem plain (f:FuncId) (fn:Func) (hf: Tryz.pinned.checked.prog.funcNamed "linguister/linguisterlaw3.EvalTells"=some f) (hfn: Tryz.pinned.checked.prog.funcs[f]?=some fn):
  true= Tryz.pinned.checked.prog.looks []∧ ∀(j:Nat) t,fn.params[j]?=some t→ Tryz.pinned.checked.prog.wantsStandIn t=false:=by
 obtain rfl:f= 8:=Option.some.inj ((show Tryz.prog.funcNamed "linguister/linguisterlaw3.EvalTells"=some 8 by kernel_rfl).symm.trans hf)|>.symm
 obtain rfl:fn= Tryz.f8:=(Option.some.inj (Tryz.func8.symm.trans hfn)).symm
 refine⟨by kernel_rfl,fun j t ht=>?_⟩
 rw[Tryz.params8] at ht
 have hm:t∈ [22,9,23]:=by simpa using Array.mem_of_getElem? ht
 have hall:([22,9,23].all fun u=>!Tryz.prog.wantsStandIn u)=true:=by kernel_rfl
 exact(show Tryz.prog.wantsStandIn t=false by simpa using List.all_eq_true.1 hall t hm)

theorem proved:Rows.EvalTellsUptoCardSaid:=
 Claim7.holds_tied_plain_at .later [] _ _ _ _ said (fun _ h=>by cases h) (by kernel_rfl) (fun _ h=>by cases h) evalTellsUpto_row_tie rfl ⟨rfl,rfl⟩ (by kernel_rfl) rfl plain (by kernel_rfl)
#print axioms proved
end Go.Proofs.YtldbfkccieipjaaGreatDoor.lawEvalTells
