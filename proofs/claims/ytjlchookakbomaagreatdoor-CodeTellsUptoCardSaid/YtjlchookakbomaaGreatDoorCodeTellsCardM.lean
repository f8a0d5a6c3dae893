/- The law CodeTells, proved where what it reads is of bulk at most 1048576: the call returns true of every input, and turns nothing that was there. Conditions: the row's own (the listed variables hold what the program's text lays; the card ties them). -/
import Derived.Test.YtjlchookakbomaaGreatDoorCards
import Derived.Test.YtjlchookakbomaaGreatDoorTie
import Derived.Deep.DeepHandedRow
import Derived.Deep.DeepWitnessRowRef
import Derived.Test.YtjlchookakbomaaGreatDoorEi37
namespace Go.Proofs.YtjlchookakbomaaGreatDoor.lawCodeTells
open Go.ChangeShapes Go.WideShapes Go.ChangeAt Go.RowKit Go.Joins

theorem own:ownKnob Tryz.prog.godebug=none:=by kernel_rfl
theorem laidOut:laidOutB Tryz.prog=true:=by kernel_rfl

set_option maxRecDepth 100000 in
theorem contract (H:Type) (enc:TypeId×Value→H) (W:World) (base:Nat) (args:Array Value) (ds gs:List (DataW H)) (before:List MemPlace)
  (hval: ∀(j:Nat) t v,Tryz.f3.params[j]?=some t→args[j]?=some v→Value.okWide Tryz.prog W .any base t v)
  (hW:DataW.Whole enc Tryz.prog Tryz.f3.params.toList Rows.codeTellsSpec.vars false W args.toList ds gs before) (hk:Rows.uptoSmall H (ds++gs)=true) (hL:laidMetH Tryz.prog Rows.codeTellsUptoRow.laid W) (hS:W.ShapedOpen Tryz.prog):
  Calls Tryz.prog 3 args W fun e W'=> ∃v,e= .returned v∧Rows.codeTellsSpec.post enc Tryz.prog Tryz.f3 false true false false W args v W':=by
 have hpost: ∀W',Below W.heap.size W W'→Rows.codeTellsSpec.post enc Tryz.prog Tryz.f3 false true false false W args (.bool true) W':=fun W' hb=>
  zLA (tb:= 4) laidOut rfl Tryz.underlying4 rfl (by kernel_rfl) (fun ds h=>by match ds,h with| [x0,x1,x2],_=>rfl) hW hb
 obtain⟨p,q,hA0,hV,_,hfz,hnd⟩:=hW
 have hA:DataW.TrodAll enc Tryz.prog W 0 (fun _=>true) true Tryz.f3.params.toList args.toList ds p:=hA0
 obtain⟨rfl,rfl⟩:=trodVars_none hV
 rw[Tryz.params3] at hA hval
 obtain⟨v0,vs0,d0,ds0,p0,q0,hargs,rfl,hp0,h0,r0⟩:=trodAll_cons hA
 obtain⟨v1,vs1,d1,ds1,p1,q1,rfl,rfl,hp1,h1,r1⟩:=trodAll_cons r0
 obtain⟨v2,vs2,d2,ds2,p2,q2,rfl,rfl,hp2,h2,r2⟩:=trodAll_cons r1
 obtain⟨rfl,rfl,hp⟩:=trodAll_nil r2
 obtain rfl:args= #[v0,v1,v2]:=by cases args;simp_all
 obtain⟨m_a,m_n,m_c,rfl⟩:=okWide_slice Tryz.underlying22 (hval 0 22 v0 rfl rfl)
 obtain⟨m_f,m_h⟩:=h0
 obtain⟨l,rfl,rfl,rfl,w_l⟩:=ChangeMaps.open_string Tryz.underlying9 (hval 1 9 v1 rfl rfl) h1
 obtain⟨a_a,a_n,a_c,rfl⟩:=okWide_slice Tryz.underlying23 (hval 2 23 v2 rfl rfl)
 obtain⟨a_f,a_h⟩:=h2
 clear hA0 hfz hnd hval
 have hm:MaxW W:=Go.Proofs.cell_of_shapedOpen_int (zero:= #[.int .i64 0]) (t:= 3) hS (of_decide_eq_true (by kernel_rfl)) (by kernel_rfl) rfl (by kernel_rfl) (by kernel_rfl) Tryz.underlying3
 have hT:TR W:=⟨zHV hL (by kernel_rfl),zHj hL (by kernel_rfl) (by kernel_rfl),hm⟩
 have hM:MW W:=⟨zHV hL (by kernel_rfl),zHj hL (by kernel_rfl) (by kernel_rfl),zNI hL (by kernel_rfl)⟩
 have hE:EvW W:=⟨hT,zJ1 hL (by kernel_rfl),zJ2 hL (by kernel_rfl) (by kernel_rfl)⟩
 have hH:HanW W:=zM1 (by repeat(first|exact List.Mem.head _|refine List.Mem.tail _ ?_)) hL
 have hq:Rows.uptoBulkAll _≤1048576:=of_decide_eq_true hk
 simp only[List.append_nil,Rows.uptoBulkAll] at hq
 obtain⟨ms,m_at,m_len⟩:=zIU m_h (by omega)
 obtain⟨asx,a_at,a_len,a_nm⟩:=zJ0 a_h (by omega)
 refine Calls.mono (?_:Calls Tryz.prog 3 #[.slice m_a m_n m_c,.string l,.slice a_a a_n a_c] W fun e w'=>e= .returned (.bool true)∧Below W.heap.size W w') fun e W' ⟨he,hb⟩=>⟨_,he,hpost W' hb⟩
 obtain⟨ll,rfl⟩: ∃x:List UInt8,l=⟨x.toArray⟩:=⟨l.data.toList,rfl⟩
 exact zG9 ll W hM hE hH m_at (by omega) a_at (by omega) (fun x hx=>by have:=(a_nm x hx).1;omega) (fun x hx=>by have:=(a_nm x hx).2;omega)

theorem zJ3 (os:Os):laidMetH Tryz.prog Rows.codeTellsUptoRow.laid (((World.doorLaid Tryz.prog 99 os).layVars Tryz.prog (Rows.codeTellsUptoRow.laid.filter fun x=>x.2.handleName?.isNone)).forCall (fun _ _=>0) ⟨#[],#[.slice none 0 0,.string ⟨#[]⟩,.slice none 0 0],[]⟩).memory:=
 laidMetH_of_parts3 (fuel:=8) (zGP _ (by kernel_rfl) (by kernel_rfl)) (by kernel_rfl) (by kernel_rfl)
theorem zHa (os:Os) {H:Type} (enc:TypeId×Value→H): ∃places,DataW.whole enc Tryz.prog (((World.doorLaid Tryz.prog 99 os).layVars Tryz.prog (Rows.codeTellsUptoRow.laid.filter fun x=>x.2.handleName?.isNone)).forCall (fun _ _=>0) ⟨#[],#[.slice none 0 0,.string ⟨#[]⟩,.slice none 0 0],[]⟩).memory Tryz.f3.params.toList Rows.codeTellsSpec.vars false (#[.slice none 0 0,.string ⟨#[]⟩,.slice none 0 0]:Array Value).toList 8=some ([.nil,.lit (.string []),.nil],[],places):=
 ⟨[],by kernel_rfl⟩

set_option maxRecDepth 100000 in
theorem lifted (os:Os) (started:os.Started) (H:Type) (enc:TypeId×Value→H) (F:Stop.Interp):
  ReturnsInHanded {} Tryz.checked os 3 .any ((Rows.OpenSpec.upto Rows.codeTellsSpec).preRow enc Tryz.prog Tryz.f3 Rows.codeTellsUptoRow.domain false Rows.codeTellsUptoRow.laid) (((Rows.OpenSpec.upto Rows.codeTellsSpec).at F).post enc Tryz.prog Tryz.f3 false true false false):=by
 obtain⟨places,hx⟩:=zHa os enc
 refine returnsInHanded_of_row (C:= Tryz.checked) (s:=Rows.OpenSpec.upto Rows.codeTellsSpec) own started (by kernel_rfl) Tryz.func3
  (witness_row_atRef (enc:=enc) (C:= Tryz.checked) false ((World.doorLaid Tryz.prog 99 os).layVars Tryz.prog (Rows.codeTellsUptoRow.laid.filter fun x=>x.2.handleName?.isNone)) #[.slice none 0 0,.string ⟨#[]⟩,.slice none 0 0] (World.layVars_os _ _ _) (by kernel_rfl) (by kernel_rfl) (by kernel_rfl)
   (OpenSpec.preRow_of_cond 8 hx (by kernel_rfl) (fun k hk=>by cases hk;kernel_rfl) (by kernel_rfl) (zJ3 os))) ?_
 intro W base args ds gs before hval hW _ hcond _ hL hS _
 exact contract H enc W base args ds gs before hval hW (hcond _ rfl) hL hS

theorem cl1:(Rows.codeTellsUptoRow.inPlace== Tryz.pinned.checked.prog.inPlace 3)=true:=by kernel_rfl
theorem cl2:(Rows.codeTellsUptoRow.unfollowed== Tryz.pinned.checked.prog.unfollowed 3)=true:=by kernel_rfl
theorem cl3:(Rows.codeTellsUptoRow.recurses== Tryz.pinned.checked.prog.recurses 3)=true:=by kernel_rfl
theorem cl4:(Rows.codeTellsUptoRow.named== Tryz.pinned.checked.prog.varsNamed 3)=true:=by kernel_rfl
theorem closed:joinedFacts Tryz.pinned.checked.prog 3 Tryz.f3 (Rows.OpenSpec.upto Rows.codeTellsSpec).bare Rows.codeTellsUptoRow=true:=by
 unfold joinedFacts
 rw[cl1,cl2,cl3,cl4]
 kernel_rfl

theorem said:Rows.CodeTellsUptoSaid:=
 OpenClaim.holds_of_cond 3 Tryz.f3 rfl rfl rfl rfl rfl rfl rfl ⟨rfl,rfl,rfl,rfl,rfl⟩ rfl rfl rfl rfl rfl (by kernel_rfl) Tryz.func3 closed
  (of_decide_eq_true (by kernel_rfl)) (by unfold Func.isWrapper;first|(rw[if_pos (by decide+kernel)];kernel_rfl)|(rw[if_neg (by decide+kernel)];exact⟨rfl,rfl⟩))
  (fun os started H enc _ F=>by rw[OpenClaim.pre_eq_preRow];exact lifted os started H enc F)

theorem plain (f:FuncId) (fn:Func) (hf: Tryz.pinned.checked.prog.funcNamed "linguister/linguisterlaw3.CodeTells"=some f) (hfn: Tryz.pinned.checked.prog.funcs[f]?=some fn):
  true= Tryz.pinned.checked.prog.looks []∧ ∀(j:Nat) t,fn.params[j]?=some t→ Tryz.pinned.checked.prog.wantsStandIn t=false:=by
 obtain rfl:f= 3:=Option.some.inj ((show Tryz.prog.funcNamed "linguister/linguisterlaw3.CodeTells"=some 3 by kernel_rfl).symm.trans hf)|>.symm
 obtain rfl:fn= Tryz.f3:=(Option.some.inj (Tryz.func3.symm.trans hfn)).symm
 refine⟨by kernel_rfl,fun j t ht=>?_⟩
 rw[Tryz.params3] at ht
 have hm:t∈ [22,9,23]:=by simpa using Array.mem_of_getElem? ht
 have hall:([22,9,23].all fun u=>!Tryz.prog.wantsStandIn u)=true:=by kernel_rfl
 exact(show Tryz.prog.wantsStandIn t=false by simpa using List.all_eq_true.1 hall t hm)

theorem proved:Rows.CodeTellsUptoCardSaid:=
 Claim7.holds_tied_plain_at .later [] _ _ _ _ said (fun _ h=>by cases h) (by kernel_rfl) (fun _ h=>by cases h) codeTellsUpto_row_tie rfl ⟨rfl,rfl⟩ (by kernel_rfl) rfl plain (by kernel_rfl)
#print axioms proved
end Go.Proofs.YtjlchookakbomaaGreatDoor.lawCodeTells
