/- The law PickFirst, proved where what it reads is of bulk at most 1048576: the call returns true of every input, and turns nothing that was there. Conditions: the row's own (the listed variables hold what the program's text lays; the card ties them). -/
import Derived.Test.YtlhleojigcnjeaaDoorCards
import Derived.Test.YtlhleojigcnjeaaDoorTie
import Derived.Deep.DeepHandedRow
import Derived.Deep.DeepWitnessRowRef
import Derived.Stop.Joined
import Derived.Lay
import Derived.Test.YtlhleojigcnjeaaDoorFrame
import Derived.Test.YtlhleojigcnjeaaDoorPickFirst
import Derived.Test.YtlhleojigcnjeaaDoorRdTags
namespace Go.Proofs.YtlhleojigcnjeaaDoor.lawPickFirst
open Go.ChangeShapes Go.WideShapes Go.ChangeAt Go.RowKit Go.Joins

theorem own : ownKnob Tryd.prog.godebug = none := by kernel_rfl
theorem laidOut : laidOutB Tryd.prog = true := by kernel_rfl
theorem cellsTag : Tryd.prog.cellsOf 24 = 4 := by kernel_rfl

set_option maxRecDepth 100000 in
theorem contract (H : Type) (enc : TypeId × Value → H) (W : World) (base : Nat) (args : Array Value) (ds gs : List (DataW H)) (before : List MemPlace)
    (hval : ∀ (j : Nat) t v, Tryd.f6.params[j]? = some t → args[j]? = some v → Value.okWide Tryd.prog W .any base t v)
    (hW : DataW.Whole enc Tryd.prog Tryd.f6.params.toList Rows.pickFirstSpec.vars false W args.toList ds gs before) (hk : Rows.uptoSmall H (ds ++ gs) = true) (hS : W.ShapedOpen Tryd.prog) :
    Calls Tryd.prog 6 args W fun e W' => ∃ v, e = .returned v ∧ Rows.pickFirstSpec.post enc Tryd.prog Tryd.f6 false true false false W args v W' := by
  have hpost : ∀ W', Below W.heap.size W W' → Rows.pickFirstSpec.post enc Tryd.prog Tryd.f6 false true false false W args (.bool true) W' := fun W' hb =>
    law_post (tb := 4) laidOut rfl Tryd.underlying4 rfl (by kernel_rfl) (fun ds h => by match ds, h with | [x0, x1, x2], _ => rfl) hW hb
  obtain ⟨p, q, hA0, hV, _, hfz, hnd⟩ := hW
  have hA : DataW.TrodAll enc Tryd.prog W 0 (fun _ => true) true Tryd.f6.params.toList args.toList ds p := hA0
  obtain ⟨rfl, rfl⟩ := trodVars_none hV
  rw [Tryd.params6] at hA hval
  obtain ⟨v0, vs0, d0, ds0, p0, q0, hargs, rfl, hp0, h0, r0⟩ := trodAll_cons hA
  obtain ⟨v1, vs1, d1, ds1, p1, q1, rfl, rfl, hp1, h1, r1⟩ := trodAll_cons r0
  obtain ⟨v2, vs2, d2, ds2, p2, q2, rfl, rfl, hp2, h2, r2⟩ := trodAll_cons r1
  obtain ⟨rfl, rfl, hp⟩ := trodAll_nil r2
  obtain rfl : args = #[v0, v1, v2] := by cases args; simp_all
  obtain ⟨wt_a, wt_n, wt_c, rfl⟩ := okWide_slice Tryd.underlying35 (hval 0 35 v0 rfl rfl)
  obtain ⟨wt_f, wt_h⟩ := h0
  obtain ⟨wt, wt_at, wt_nil, wt_len, wt_bulk⟩ := tags_open Tryd.underlying35 Tryd.underlying24 Tryd.underlying9 Tryd.underlying9 Tryd.underlying9 Tryd.underlying22 Tryd.underlying9 (by kernel_rfl) (by kernel_rfl) cellsTag wt_h
  obtain ⟨hv_a, hv_n, hv_c, rfl⟩ := okWide_slice Tryd.underlying35 (hval 1 35 v1 rfl rfl)
  obtain ⟨hv_f, hv_h⟩ := h1
  obtain ⟨hv, hv_at, hv_nil, hv_len, hv_bulk⟩ := tags_open Tryd.underlying35 Tryd.underlying24 Tryd.underlying9 Tryd.underlying9 Tryd.underlying9 Tryd.underlying22 Tryd.underlying9 (by kernel_rfl) (by kernel_rfl) cellsTag hv_h
  obtain ⟨mr_a, mr_n, mr_c, rfl⟩ := okWide_slice Tryd.underlying35 (hval 2 35 v2 rfl rfl)
  obtain ⟨mr_f, mr_h⟩ := h2
  obtain ⟨mr, mr_at, mr_nil, mr_len, mr_bulk⟩ := tags_open Tryd.underlying35 Tryd.underlying24 Tryd.underlying9 Tryd.underlying9 Tryd.underlying9 Tryd.underlying22 Tryd.underlying9 (by kernel_rfl) (by kernel_rfl) cellsTag mr_h
  clear hA0 hfz hnd hval
  have hm : MaxW W := Go.Proofs.cell_of_shapedOpen_int (zero := #[.int .i64 0]) (t := 3) hS (of_decide_eq_true (by kernel_rfl)) (by kernel_rfl) rfl (by kernel_rfl) (by kernel_rfl) Tryd.underlying3
  have hT : MaxW W := hm
  have hq := bulk_of hk
  simp only [List.append_nil, Rows.uptoBulkAll] at hq
  refine Calls.mono (?_ : Calls Tryd.prog 6 #[.slice wt_a wt_n wt_c, .slice hv_a hv_n hv_c, .slice mr_a mr_n mr_c] W fun e w' => e = .returned (.bool true) ∧ Below W.heap.size W w') fun e W' ⟨he, hb⟩ => ⟨_, he, hpost W' hb⟩
  exact pickfirst_any wt (.slice wt_a wt_n wt_c) hv (.slice hv_a hv_n hv_c) mr (.slice mr_a mr_n mr_c) W hT wt_at (by omega) (fun y hy => by have := wt_bulk y hy; omega) hv_at (by omega) (fun y hy => by have := hv_bulk y hy; omega) mr_at (by omega) (fun y hy => by have := mr_bulk y hy; omega) mr_nil

theorem start_met (os : Os) : laidMetH Tryd.prog Rows.pickFirstUptoRow.laid ((World.laidAll Tryd.prog os Rows.pickFirstUptoRow.laid).forCall (fun _ _ => 0) ⟨#[], #[.slice none 0 0, .slice none 0 0, .slice none 0 0], []⟩).memory :=
  by rw [MakeChecks.laidMetH_plain _ _ _ (by kernel_rfl)]; exact laidMet_laidAll _ (by kernel_rfl) (by kernel_rfl)
theorem start_reads (os : Os) {H : Type} (enc : TypeId × Value → H) : ∃ places, DataW.whole enc Tryd.prog ((World.laidAll Tryd.prog os Rows.pickFirstUptoRow.laid).forCall (fun _ _ => 0) ⟨#[], #[.slice none 0 0, .slice none 0 0, .slice none 0 0], []⟩).memory Tryd.f6.params.toList Rows.pickFirstSpec.vars false (#[.slice none 0 0, .slice none 0 0, .slice none 0 0] : Array Value).toList 8 = some ([.nil, .nil, .nil], [], places) :=
  ⟨[], by kernel_rfl⟩

set_option maxRecDepth 100000 in
theorem lifted (os : Os) (started : os.Started) (H : Type) (enc : TypeId × Value → H) (F : Stop.Interp) :
    ReturnsInHanded {} Tryd.checked os 6 .any ((Rows.OpenSpec.upto Rows.pickFirstSpec).preRow enc Tryd.prog Tryd.f6 Rows.pickFirstUptoRow.domain false Rows.pickFirstUptoRow.laid) (((Rows.OpenSpec.upto Rows.pickFirstSpec).at F).post enc Tryd.prog Tryd.f6 false true false false) := by
  obtain ⟨places, hx⟩ := start_reads os enc
  refine returnsInHanded_of_row (C := Tryd.checked) (s := Rows.OpenSpec.upto Rows.pickFirstSpec) own started (by kernel_rfl) Tryd.func6
    (witness_row_atRef (enc := enc) (C := Tryd.checked) false (World.laidAll Tryd.prog os Rows.pickFirstUptoRow.laid) #[.slice none 0 0, .slice none 0 0, .slice none 0 0] (World.laidAll_os _ _ _) (by kernel_rfl) (by kernel_rfl) (by kernel_rfl)
      (OpenSpec.preRow_of_cond 8 hx (by kernel_rfl) (fun k hk => by cases hk; kernel_rfl) (by kernel_rfl) (start_met os))) ?_
  intro W base args ds gs before hval hW _ hcond _ _ hS _
  exact contract H enc W base args ds gs before hval hW (hcond _ rfl) hS

theorem said : Rows.PickFirstUptoSaid :=
  OpenClaim.holds_of_cond 6 Tryd.f6 rfl rfl rfl rfl rfl rfl rfl ⟨rfl, rfl, rfl, rfl, rfl⟩ rfl rfl rfl rfl rfl (by kernel_rfl) Tryd.func6 (by kernel_rfl)
    (of_decide_eq_true (by kernel_rfl)) (by unfold Func.isWrapper; first | (rw [if_pos (by decide +kernel)]; kernel_rfl) | (rw [if_neg (by decide +kernel)]; exact ⟨rfl, rfl⟩))
    (fun os started H enc _ F => by rw [OpenClaim.pre_eq_preRow]; exact lifted os started H enc F)

theorem plain (f : FuncId) (fn : Func) (hf : Tryd.pinned.checked.prog.funcNamed "linguister/linguisterlaw1.PickFirst" = some f) (hfn : Tryd.pinned.checked.prog.funcs[f]? = some fn) :
    true = Tryd.pinned.checked.prog.looks [] ∧ ∀ (j : Nat) t, fn.params[j]? = some t → Tryd.pinned.checked.prog.wantsStandIn t = false := by
  obtain rfl : f = 6 := Option.some.inj ((show Tryd.prog.funcNamed "linguister/linguisterlaw1.PickFirst" = some 6 by kernel_rfl).symm.trans hf) |>.symm
  obtain rfl : fn = Tryd.f6 := (Option.some.inj (Tryd.func6.symm.trans hfn)).symm
  refine ⟨by kernel_rfl, fun j t ht => ?_⟩
  rw [Tryd.params6] at ht
  have hm : t ∈ [35, 35, 35] := by simpa using Array.mem_of_getElem? ht
  have hall : ([35, 35, 35].all fun u => !Tryd.prog.wantsStandIn u) = true := by kernel_rfl
  exact (show Tryd.prog.wantsStandIn t = false by simpa using List.all_eq_true.1 hall t hm)

theorem proved : Rows.PickFirstUptoCardSaid :=
  Claim7.holds_tied_plain_at .later [] _ _ _ _ said (fun _ h => by cases h) (by kernel_rfl) (fun _ h => by cases h) pickFirstUpto_row_tie rfl ⟨rfl, rfl⟩ (by kernel_rfl) rfl plain (by kernel_rfl)
#print axioms proved
end Go.Proofs.YtlhleojigcnjeaaDoor.lawPickFirst
