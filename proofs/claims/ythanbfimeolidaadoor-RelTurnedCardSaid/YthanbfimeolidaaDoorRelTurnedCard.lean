/- The law RelTurned, proved: the call returns true of every input, and turns nothing that was there. Conditions: the row's own (the listed variables hold what the program's text lays; the card ties them). -/
import Derived.Test.YthanbfimeolidaaDoorCards
import Derived.Test.YthanbfimeolidaaDoorTie
import Derived.Test.YthanbfimeolidaaDoorFrame
import Derived.Test.YthanbfimeolidaaDoorRelTurned
import Derived.Test.YthanbfimeolidaaDoorUnits
import Derived.Test.YthanbfimeolidaaDoorPow
namespace Go.Proofs.YthanbfimeolidaaDoor.lawRelTurned
open Go.ChangeShapes Go.WideShapes Go.ChangeAt Go.RowKit Go.Joins

theorem own : ownKnob Tryd.prog.godebug = none := by kernel_rfl
theorem laidOut : laidOutB Tryd.prog = true := by kernel_rfl

set_option maxRecDepth 100000 in
theorem contract (H : Type) (enc : TypeId × Value → H) (W : World) (base : Nat) (args : Array Value) (ds gs : List (DataW H)) (before : List MemPlace)
    (hval : ∀ (j : Nat) t v, Tryd.f4.params[j]? = some t → args[j]? = some v → Value.okWide Tryd.prog W .any base t v)
    (hW : DataW.Whole enc Tryd.prog Tryd.f4.params.toList Rows.relTurnedSpec.vars false W args.toList ds gs before) (hL : laidMetH Tryd.prog Rows.relTurnedRow.laid W) :
    Calls Tryd.prog 4 args W fun e W' => ∃ v, e = .returned v ∧ Rows.relTurnedSpec.post enc Tryd.prog Tryd.f4 false true false false W args v W' := by
  have hpost : ∀ W', Below W.heap.size W W' → Rows.relTurnedSpec.post enc Tryd.prog Tryd.f4 false true false false W args (.bool true) W' := fun W' hb =>
    law_post (tb := 4) laidOut rfl Tryd.underlying4 rfl (by kernel_rfl) (fun ds h => by match ds, h with | [x0, x1, x2], _ => rfl) hW hb
  obtain ⟨p, q, hA0, hV, _, hfz, hnd⟩ := hW
  have hA : DataW.TrodAll enc Tryd.prog W 0 (fun _ => true) true Tryd.f4.params.toList args.toList ds p := hA0
  rw [Tryd.params4] at hA hval
  obtain ⟨v0, vs0, d0, ds0, p0, q0, hargs, rfl, hp0, h0, r0⟩ := trodAll_cons hA
  obtain ⟨v1, vs1, d1, ds1, p1, q1, rfl, rfl, hp1, h1, r1⟩ := trodAll_cons r0
  obtain ⟨v2, vs2, d2, ds2, p2, q2, rfl, rfl, hp2, h2, r2⟩ := trodAll_cons r1
  obtain ⟨rfl, rfl, hp⟩ := trodAll_nil r2
  obtain rfl : args = #[v0, v1, v2] := by cases args; simp_all
  obtain ⟨a, rfl, rfl, rfl, w_a⟩ := open_int Tryd.underlying3 (hval 0 3 v0 rfl rfl) h0
  have b_a := bounds_i64 w_a
  obtain ⟨b, rfl, rfl, rfl, w_b⟩ := open_int Tryd.underlying3 (hval 1 3 v1 rfl rfl) h1
  have b_b := bounds_i64 w_b
  obtain ⟨m, rfl, rfl, rfl, w_m⟩ := open_int Tryd.underlying3 (hval 2 3 v2 rfl rfl) h2
  have b_m := bounds_i64 w_m
  clear hA0 hV hfz hnd hval
  have hT : UP W := ⟨unitsW_of hL (by kernel_rfl), powW_of hL (by kernel_rfl)⟩
  refine Calls.mono (?_ : Calls Tryd.prog 4 #[.int .i64 a, .int .i64 b, .int .i64 m] W fun e w' => e = .returned (.bool true) ∧ Below W.heap.size W w') fun e W' ⟨he, hb⟩ => ⟨_, he, hpost W' hb⟩
  exact relTurned_any a b m W hT

theorem door_met (os : Os) (args : Array Value) : laidMetH Tryd.prog Rows.relTurnedRow.laid ((World.doorLaid Tryd.prog 92 os).forCall (fun _ _ => 0) ⟨#[], args, []⟩).memory :=
  laidMetH_of_parts3 (fuel := 8) (laidMet_of_run' 8 (by kernel_rfl) (by kernel_rfl)) (by kernel_rfl) (by kernel_rfl)

set_option maxRecDepth 100000 in
theorem lifted (os : Os) (started : os.Started) (H : Type) (enc : TypeId × Value → H) :
    ReturnsInHanded {} Tryd.checked os 4 .any (fun w args => (Rows.relTurnedSpec.pre enc Tryd.prog Tryd.f4 [] false w args ∧ laidMetH Tryd.prog Rows.relTurnedRow.laid w) ∧ sizedMet enc Tryd.prog Tryd.f4 (OpenSpec.ofChange Rows.relTurnedSpec) false w args)
      (Rows.relTurnedSpec.post enc Tryd.prog Tryd.f4 false true false false) := by
  refine returnsInHanded_of_change_and (C := Tryd.checked) (X := fun w _ => laidMetH Tryd.prog Rows.relTurnedRow.laid w) (fun _ _ _ hh h => h.of_heap hh) own started (by kernel_rfl) Tryd.func4
    (ChangeSpec.witness_shaped (enc := enc) (C := Tryd.checked) (os := os) (X := fun w _ => laidMetH Tryd.prog Rows.relTurnedRow.laid w) false (World.doorLaid Tryd.prog 92 os) #[.int .i64 0, .int .i64 0, .int .i64 0] 8 rfl (World.shaped_of_RefB (by kernel_rfl) (by kernel_rfl)) (by kernel_rfl) (by kernel_rfl) (by kernel_rfl) (door_met os _)) ?_
  intro W base args ds gs before hval hW _ _ hL _
  exact contract H enc W base args ds gs before hval hW hL

theorem said : Rows.RelTurnedSaid :=
  OpenClaim.holds_of_wide 4 Tryd.f4 rfl rfl rfl rfl rfl rfl rfl ⟨rfl, rfl, rfl, rfl, rfl⟩ rfl rfl rfl rfl rfl (by kernel_rfl) Tryd.func4 (by kernel_rfl)
    (of_decide_eq_true (by kernel_rfl)) (by unfold Func.isWrapper; first | (rw [if_pos (by decide +kernel)]; kernel_rfl) | (rw [if_neg (by decide +kernel)]; exact ⟨rfl, rfl⟩))
    (fun os started H enc _ => lifted os started H enc)

theorem plain (f : FuncId) (fn : Func) (hf : Tryd.pinned.checked.prog.funcNamed "linguister/linguisterlaw2.RelTurned" = some f) (hfn : Tryd.pinned.checked.prog.funcs[f]? = some fn) :
    true = Tryd.pinned.checked.prog.looks [] ∧ ∀ (j : Nat) t, fn.params[j]? = some t → Tryd.pinned.checked.prog.wantsStandIn t = false := by
  obtain rfl : f = 4 := Option.some.inj ((show Tryd.prog.funcNamed "linguister/linguisterlaw2.RelTurned" = some 4 by kernel_rfl).symm.trans hf) |>.symm
  obtain rfl : fn = Tryd.f4 := (Option.some.inj (Tryd.func4.symm.trans hfn)).symm
  refine ⟨by kernel_rfl, fun j t ht => ?_⟩
  rw [Tryd.params4] at ht
  have hm : t ∈ [3, 3, 3] := by simpa using Array.mem_of_getElem? ht
  have hall : ([3, 3, 3].all fun u => !Tryd.prog.wantsStandIn u) = true := by kernel_rfl
  exact (show Tryd.prog.wantsStandIn t = false by simpa using List.all_eq_true.1 hall t hm)

theorem proved : Rows.RelTurnedCardSaid :=
  Claim7.holds_tied_plain_at .later [] _ _ _ _ said (fun _ h => by cases h) (by kernel_rfl) (fun _ h => by cases h) relTurned_row_tie rfl ⟨rfl, rfl⟩ (by kernel_rfl) rfl plain (by kernel_rfl)
#print axioms proved
end Go.Proofs.YthanbfimeolidaaDoor.lawRelTurned
