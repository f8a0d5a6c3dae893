/- The law TopNear, proved where what it reads is of bulk at most 1048576: the call returns true of every input, and turns nothing that was there. Conditions: the row's own (the listed variables hold what the program's text lays; the card ties them). -/
import Derived.Test.YtghohnbajbikjaaGreatDoorRows
import Derived.Test.YtghohnbajbikjaaGreatDoorTb0
import Derived.LaidSub
import Derived.MakeChecks
import Derived.Lay
import Derived.LaidMore
import Derived.Test.YtghohnbajbikjaaGreatDoorCards
import Derived.Test.YtghohnbajbikjaaGreatDoorTie
import Derived.Deep.DeepHandedRow
import Derived.Deep.DeepWitnessRowRef
import Derived.Stop.Joined
import Derived.Test.YtghohnbajbikjaaGreatDoorFrame
import Derived.Test.YtghohnbajbikjaaGreatDoorUnL
import Derived.Test.YtghohnbajbikjaaGreatDoorUnBd
import Derived.Test.YtghohnbajbikjaaGreatDoorUnRd
namespace Go.Proofs.YtghohnbajbikjaaGreatDoor
open Go.RowKit

theorem gPowT : (Tryz.prog.globals[6]?).map (·.type) = some 287 := by kernel_rfl
theorem cellsPow : Tryz.prog.cellsOf 287 = 20 := by kernel_rfl
theorem cellsU64 : Tryz.prog.cellsOf 244 = 1 := by kernel_rfl
theorem powW_of {L : List (String × DataW Unit)} {W : World} (h : laidMetH Tryz.prog L W) (hf : L.filter (fun x => x.1 == "internal/strconv.uint64pow10") = [("internal/strconv.uint64pow10", Rows.laid_internal_strconv_uint64pow10)]) : PowW W := by
  have g := laidMetH.filter (fun x => x.1 == "internal/strconv.uint64pow10") h
  rw [hf, MakeChecks.laidMetH_plain _ _ _ (by kernel_rfl)] at g
  exact Lib.tabIs_of_head gPow gPowT Tryz.underlying287 Tryz.underlying244 cellsU64 cellsPow g
end Go.Proofs.YtghohnbajbikjaaGreatDoor
namespace Go.Proofs.YtghohnbajbikjaaGreatDoor
theorem laidMet_over {P : Program} {W : World} {L : List (String × DataW Unit)} (args : Array Value) (hf : W.layFits P L [] = true) (hi : W.layIfaces P L (W.layVars P L) = true) :
    laidMet P L ((W.layVars P L).forCall (fun _ _ => 0) ⟨#[], args, []⟩).memory := by
  have e1 : (L.filter fun x => (L.map (·.1)).contains x.1) = L := List.filter_eq_self.2 fun x hx => List.contains_iff_mem.2 (List.mem_map.2 ⟨x, hx, rfl⟩)
  have e2 : (L.filter fun x => !(L.map (·.1)).contains x.1) = [] := List.filter_eq_nil_iff.2 fun x hx => by rw [List.contains_iff_mem.2 (List.mem_map.2 ⟨x, hx, rfl⟩)]; simp
  have h : laidMet P L (W.layVars P L) := laidMet_layVars (w0 := W) (L.map (·.1)) [] (by rw [e1]) (by rw [e1]; exact hf) (by rw [e1]; exact hi) (by rw [e2]; exact LaidIn.none)
  exact h.of_heap (by simp [World.memory, World.forCall, Input.heap])
end Go.Proofs.YtghohnbajbikjaaGreatDoor
namespace Go.Proofs.YtghohnbajbikjaaGreatDoor.lawTopNear
open Go.ChangeShapes Go.WideShapes Go.ChangeAt Go.RowKit Go.Joins

theorem own : ownKnob Tryz.prog.godebug = none := by kernel_rfl
theorem laidOut : laidOutB Tryz.prog = true := by kernel_rfl

set_option maxRecDepth 100000 in
theorem contract (H : Type) (enc : TypeId × Value → H) (W : World) (base : Nat) (args : Array Value) (ds gs : List (DataW H)) (before : List MemPlace)
    (hval : ∀ (j : Nat) t v, Tryz.f3.params[j]? = some t → args[j]? = some v → Value.okWide Tryz.prog W .any base t v)
    (hW : DataW.Whole enc Tryz.prog Tryz.f3.params.toList Rows.topNearSpec.vars false W args.toList ds gs before) (hk : Rows.uptoSmall H (ds ++ gs) = true) (hL : laidMetH Tryz.prog Rows.topNearUptoRow.laid W) (hS : W.ShapedOpen Tryz.prog) :
    Calls Tryz.prog 3 args W fun e W' => ∃ v, e = .returned v ∧ Rows.topNearSpec.post enc Tryz.prog Tryz.f3 false true false false W args v W' := by
  have hpost : ∀ W', Below W.heap.size W W' → Rows.topNearSpec.post enc Tryz.prog Tryz.f3 false true false false W args (.bool true) W' := fun W' hb =>
    law_post (tb := 4) laidOut rfl Tryz.underlying4 rfl (by kernel_rfl) (fun ds h => by match ds, h with | [x0, x1, x2], _ => rfl) hW hb
  obtain ⟨p, q, hA0, hV, _, hfz, hnd⟩ := hW
  have hA : DataW.TrodAll enc Tryz.prog W 0 (fun _ => true) true Tryz.f3.params.toList args.toList ds p := hA0
  obtain ⟨rfl, rfl⟩ := trodVars_none hV
  rw [Tryz.params3] at hA hval
  obtain ⟨v0, vs0, d0, ds0, p0, q0, hargs, rfl, hp0, h0, r0⟩ := trodAll_cons hA
  obtain ⟨v1, vs1, d1, ds1, p1, q1, rfl, rfl, hp1, h1, r1⟩ := trodAll_cons r0
  obtain ⟨v2, vs2, d2, ds2, p2, q2, rfl, rfl, hp2, h2, r2⟩ := trodAll_cons r1
  obtain ⟨rfl, rfl, hp⟩ := trodAll_nil r2
  obtain rfl : args = #[v0, v1, v2] := by cases args; simp_all
  obtain ⟨l_a, l_n, l_c, rfl⟩ := okWide_slice Tryz.underlying22 (hval 0 22 v0 rfl rfl)
  obtain ⟨l_f, l_h⟩ := h0
  obtain ⟨name, rfl, rfl, rfl, w_name⟩ := ChangeMaps.open_string Tryz.underlying9 (hval 1 9 v1 rfl rfl) h1
  obtain ⟨key, rfl, rfl, rfl, w_key⟩ := ChangeMaps.open_string Tryz.underlying9 (hval 2 9 v2 rfl rfl) h2
  clear hA0 hfz hnd hval
  have hm : MaxW W := Go.Proofs.cell_of_shapedOpen_int (zero := #[.int .i64 0]) (t := 3) hS (of_decide_eq_true (by kernel_rfl)) (by kernel_rfl) rfl (by kernel_rfl) (by kernel_rfl) Tryz.underlying3
  have hP : PowW W := powW_of hL (by kernel_rfl)
  have hq : Rows.uptoBulkAll _ ≤ 1048576 := of_decide_eq_true hk
  simp only [List.append_nil, Rows.uptoBulkAll, Rows.uptoBulk, Array.length_toList] at hq
  have hz : ∀ x : ByteArray, x.data.size = x.size := fun _ => rfl
  simp only [hz] at hq
  have hsz : name.size ≤ 1048576 := by omega
  obtain ⟨bs, l_at, l_len, l_nm⟩ := bds_open l_h (by omega)
  refine Calls.mono (?_ : Calls Tryz.prog 3 #[.slice l_a l_n l_c, .string name, .string key] W fun e w' => e = .returned (.bool true) ∧ Below W.heap.size W w') fun e W' ⟨he, hb⟩ => ⟨_, he, hpost W' hb⟩
  obtain ⟨nn, rfl⟩ : ∃ x : List UInt8, name = ⟨x.toArray⟩ := ⟨name.data.toList, rfl⟩
  obtain ⟨kk, rfl⟩ : ∃ x : List UInt8, key = ⟨x.toArray⟩ := ⟨key.data.toList, rfl⟩
  rw [size_mkl] at hsz
  exact Tn.top_any bs nn kk l_a l_n l_c W hm l_at (fun x hx => by obtain ⟨q1, q2, q3⟩ := l_nm x hx; exact ⟨by omega, by omega, fun e he => by have := q3 e he; omega⟩) (by omega) (by omega) (fun wx hb => Tn.served_any wx (hm.below hb) (hP.below hb))

theorem start_met (os : Os) : laidMetH Tryz.prog Rows.topNearUptoRow.laid (((World.doorLaid Tryz.prog 92 os).layVars Tryz.prog (Rows.topNearUptoRow.laid.filter fun x => x.2.handleName?.isNone)).forCall (fun _ _ => 0) ⟨#[], #[.slice none 0 0, .string ⟨#[]⟩, .string ⟨#[]⟩], []⟩).memory :=
  laidMetH_of_parts3 (fuel := 8) (laidMet_over _ (by kernel_rfl) (by kernel_rfl)) (by kernel_rfl) (by kernel_rfl)
theorem start_reads (os : Os) {H : Type} (enc : TypeId × Value → H) : ∃ places, DataW.whole enc Tryz.prog (((World.doorLaid Tryz.prog 92 os).layVars Tryz.prog (Rows.topNearUptoRow.laid.filter fun x => x.2.handleName?.isNone)).forCall (fun _ _ => 0) ⟨#[], #[.slice none 0 0, .string ⟨#[]⟩, .string ⟨#[]⟩], []⟩).memory Tryz.f3.params.toList Rows.topNearSpec.vars false (#[.slice none 0 0, .string ⟨#[]⟩, .string ⟨#[]⟩] : Array Value).toList 8 = some ([.nil, .lit (.string []), .lit (.string [])], [], places) :=
  ⟨[], by kernel_rfl⟩

set_option maxRecDepth 100000 in
theorem lifted (os : Os) (started : os.Started) (H : Type) (enc : TypeId × Value → H) (F : Stop.Interp) :
    ReturnsInHanded {} Tryz.checked os 3 .any ((Rows.OpenSpec.upto Rows.topNearSpec).preRow enc Tryz.prog Tryz.f3 Rows.topNearUptoRow.domain false Rows.topNearUptoRow.laid) (((Rows.OpenSpec.upto Rows.topNearSpec).at F).post enc Tryz.prog Tryz.f3 false true false false) := by
  obtain ⟨places, hx⟩ := start_reads os enc
  refine returnsInHanded_of_row (C := Tryz.checked) (s := Rows.OpenSpec.upto Rows.topNearSpec) own started (by kernel_rfl) Tryz.func3
    (witness_row_atRef (enc := enc) (C := Tryz.checked) false ((World.doorLaid Tryz.prog 92 os).layVars Tryz.prog (Rows.topNearUptoRow.laid.filter fun x => x.2.handleName?.isNone)) #[.slice none 0 0, .string ⟨#[]⟩, .string ⟨#[]⟩] (World.layVars_os _ _ _) (by kernel_rfl) (by kernel_rfl) (by kernel_rfl)
      (OpenSpec.preRow_of_cond 8 hx (by kernel_rfl) (fun k hk => by cases hk; kernel_rfl) (by kernel_rfl) (start_met os))) ?_
  intro W base args ds gs before hval hW _ hcond _ hL hS _
  exact contract H enc W base args ds gs before hval hW (hcond _ rfl) hL hS

theorem cl1 : (Rows.topNearUptoRow.inPlace == Tryz.pinned.checked.prog.inPlace 3) = true := by kernel_rfl
theorem cl2 : (Rows.topNearUptoRow.unfollowed == Tryz.pinned.checked.prog.unfollowed 3) = true := by kernel_rfl
theorem cl3 : (Rows.topNearUptoRow.recurses == Tryz.pinned.checked.prog.recurses 3) = true := by kernel_rfl
theorem cl4 : (Rows.topNearUptoRow.named == Tryz.pinned.checked.prog.varsNamed 3) = true := by kernel_rfl
theorem closed : joinedFacts Tryz.pinned.checked.prog 3 Tryz.f3 (Rows.OpenSpec.upto Rows.topNearSpec).bare Rows.topNearUptoRow = true := by
  unfold joinedFacts
  rw [cl1, cl2, cl3, cl4]
  kernel_rfl

theorem said : Rows.TopNearUptoSaid :=
  OpenClaim.holds_of_cond 3 Tryz.f3 rfl rfl rfl rfl rfl rfl rfl ⟨rfl, rfl, rfl, rfl, rfl⟩ rfl rfl rfl rfl rfl (by kernel_rfl) Tryz.func3 closed
    (of_decide_eq_true (by kernel_rfl)) (by unfold Func.isWrapper; first | (rw [if_pos (by decide +kernel)]; kernel_rfl) | (rw [if_neg (by decide +kernel)]; exact ⟨rfl, rfl⟩))
    (fun os started H enc _ F => by rw [OpenClaim.pre_eq_preRow]; exact lifted os started H enc F)

theorem plain (f : FuncId) (fn : Func) (hf : Tryz.pinned.checked.prog.funcNamed "linguister/linguistertop.TopNear" = some f) (hfn : Tryz.pinned.checked.prog.funcs[f]? = some fn) :
    true = Tryz.pinned.checked.prog.looks [] ∧ ∀ (j : Nat) t, fn.params[j]? = some t → Tryz.pinned.checked.prog.wantsStandIn t = false := by
  obtain rfl : f = 3 := Option.some.inj ((show Tryz.prog.funcNamed "linguister/linguistertop.TopNear" = some 3 by kernel_rfl).symm.trans hf) |>.symm
  obtain rfl : fn = Tryz.f3 := (Option.some.inj (Tryz.func3.symm.trans hfn)).symm
  refine ⟨by kernel_rfl, fun j t ht => ?_⟩
  rw [Tryz.params3] at ht
  have hm : t ∈ [22, 9, 9] := by simpa using Array.mem_of_getElem? ht
  have hall : ([22, 9, 9].all fun u => !Tryz.prog.wantsStandIn u) = true := by kernel_rfl
  exact (show Tryz.prog.wantsStandIn t = false by simpa using List.all_eq_true.1 hall t hm)

theorem proved : Rows.TopNearUptoCardSaid :=
  Claim7.holds_tied_plain_at .later [] _ _ _ _ said (fun _ h => by cases h) (by kernel_rfl) (fun _ h => by cases h) topNearUpto_row_tie rfl ⟨rfl, rfl⟩ (by kernel_rfl) rfl plain (by kernel_rfl)
#print axioms proved
end Go.Proofs.YtghohnbajbikjaaGreatDoor.lawTopNear
