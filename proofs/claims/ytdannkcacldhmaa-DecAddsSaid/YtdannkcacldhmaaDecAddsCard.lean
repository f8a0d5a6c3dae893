/- The law DecAdds, proved: the call returns true of every input, and turns nothing that was there. Conditions: the row's own (the listed variables hold what the program's text lays; the card ties them). -/
import Derived.Test.YtdannkcacldhmaaRows
import Derived.Test.YtdannkcacldhmaaFrame
import Derived.Test.YtdannkcacldhmaaDecAdds
namespace Go.Proofs.Ytdannkcacldhmaa.lawDecAdds
open Go.ChangeShapes Go.WideShapes Go.ChangeAt Go.RowKit Go.Joins

theorem own : ownKnob Try.prog.godebug = none := by kernel_rfl
theorem laidOut : laidOutB Try.prog = true := by kernel_rfl
theorem cellsDec : Try.prog.cellsOf 30 = 2 := by kernel_rfl

set_option maxRecDepth 100000 in
theorem contract (H : Type) (enc : TypeId × Value → H) (W : World) (base : Nat) (args : Array Value) (ds gs : List (DataW H)) (before : List MemPlace)
    (hval : ∀ (j : Nat) t v, Try.f8.params[j]? = some t → args[j]? = some v → Value.okWide Try.prog W .any base t v)
    (hW : DataW.Whole enc Try.prog Try.f8.params.toList Rows.decAddsSpec.vars false W args.toList ds gs before) :
    Calls Try.prog 8 args W fun e W' => ∃ v, e = .returned v ∧ Rows.decAddsSpec.post enc Try.prog Try.f8 false true false false W args v W' := by
  have hpost : ∀ W', Below W.heap.size W W' → Rows.decAddsSpec.post enc Try.prog Try.f8 false true false false W args (.bool true) W' := fun W' hb =>
    law_post (tb := 4) laidOut rfl Try.underlying4 rfl (by kernel_rfl) (fun ds h => by match ds, h with | [x0, x1, x2], _ => rfl) hW hb
  obtain ⟨p, q, hA0, hV, _, hfz, hnd⟩ := hW
  have hA : DataW.TrodAll enc Try.prog W 0 (fun _ => true) true Try.f8.params.toList args.toList ds p := hA0
  rw [Try.params8] at hA hval
  obtain ⟨v0, vs0, d0, ds0, p0, q0, hargs, rfl, hp0, h0, r0⟩ := trodAll_cons hA
  obtain ⟨v1, vs1, d1, ds1, p1, q1, rfl, rfl, hp1, h1, r1⟩ := trodAll_cons r0
  obtain ⟨v2, vs2, d2, ds2, p2, q2, rfl, rfl, hp2, h2, r2⟩ := trodAll_cons r1
  obtain ⟨rfl, rfl, hp⟩ := trodAll_nil r2
  obtain rfl : args = #[v0, v1, v2] := by cases args; simp_all
  obtain ⟨c0_0, c0_1, y0_0, y0_1, m0, rfl, rfl, rfl, hy0_0, hy0_1⟩ := open_agg2 Try.underlying30 (by kernel_rfl) cellsDec (hval 0 30 v0 rfl rfl) h0
  obtain ⟨a_c, e0_0, _, w_a_c⟩ := DataW.trod_int Try.underlying3 hy0_0
  obtain ⟨a_s, e0_1, _, w_a_s⟩ := DataW.trod_int Try.underlying3 hy0_1
  simp at e0_0 e0_1
  subst e0_0 e0_1
  have b_a_c := bounds_i64 w_a_c
  have b_a_s := bounds_i64 w_a_s
  obtain ⟨c1_0, c1_1, y1_0, y1_1, m1, rfl, rfl, rfl, hy1_0, hy1_1⟩ := open_agg2 Try.underlying30 (by kernel_rfl) cellsDec (hval 1 30 v1 rfl rfl) h1
  obtain ⟨b_c, e1_0, _, w_b_c⟩ := DataW.trod_int Try.underlying3 hy1_0
  obtain ⟨b_s, e1_1, _, w_b_s⟩ := DataW.trod_int Try.underlying3 hy1_1
  simp at e1_0 e1_1
  subst e1_0 e1_1
  have b_b_c := bounds_i64 w_b_c
  have b_b_s := bounds_i64 w_b_s
  obtain ⟨c2_0, c2_1, y2_0, y2_1, m2, rfl, rfl, rfl, hy2_0, hy2_1⟩ := open_agg2 Try.underlying30 (by kernel_rfl) cellsDec (hval 2 30 v2 rfl rfl) h2
  obtain ⟨c_c, e2_0, _, w_c_c⟩ := DataW.trod_int Try.underlying3 hy2_0
  obtain ⟨c_s, e2_1, _, w_c_s⟩ := DataW.trod_int Try.underlying3 hy2_1
  simp at e2_0 e2_1
  subst e2_0 e2_1
  have b_c_c := bounds_i64 w_c_c
  have b_c_s := bounds_i64 w_c_s
  clear hA0 hV hfz hnd hval
  refine Calls.mono (?_ : Calls Try.prog 8 #[.agg #[.int .i64 a_c, .int .i64 a_s], .agg #[.int .i64 b_c, .int .i64 b_s], .agg #[.int .i64 c_c, .int .i64 c_s]] W fun e w' => e = .returned (.bool true) ∧ Below W.heap.size W w') fun e W' ⟨he, hb⟩ => ⟨_, he, hpost W' hb⟩
  exact decAdds_any a_c a_s b_c b_s c_c c_s W

set_option maxRecDepth 100000 in
theorem lifted (os : Os) (started : os.Started) (H : Type) (enc : TypeId × Value → H) :
    ReturnsInHanded {} Try.checked os 8 .any (Rows.decAddsSpec.pre6 enc Try.prog Try.f8 Rows.decAddsRow.domain false) (Rows.decAddsSpec.post enc Try.prog Try.f8 false true false false) := by
  refine returnsInHanded_of_change (C := Try.checked) own started (by kernel_rfl) Try.func8
    (ChangeSpec.witness6 (enc := enc) (C := Try.checked) false ⟨#[], #[.agg #[.int .i64 0, .int .i64 0], .agg #[.int .i64 0, .int .i64 0], .agg #[.int .i64 0, .int .i64 0]], []⟩ 8 (by kernel_rfl) (by kernel_rfl) (by kernel_rfl) (by kernel_rfl)) ?_
  intro W base args ds gs before hval hW _ _
  exact contract H enc W base args ds gs before hval hW

theorem said : Rows.DecAddsSaid :=
  OpenClaim.holds_of_wide 8 Try.f8 rfl rfl rfl rfl rfl rfl rfl ⟨rfl, rfl, rfl, rfl, rfl⟩ rfl rfl rfl rfl rfl (by kernel_rfl) Try.func8 (by kernel_rfl)
    (of_decide_eq_true (by kernel_rfl)) (by unfold Func.isWrapper; first | (rw [if_pos (by decide +kernel)]; kernel_rfl) | (rw [if_neg (by decide +kernel)]; exact ⟨rfl, rfl⟩))
    (fun os started H enc _ => lifted os started H enc)
theorem proved : Rows.DecAddsSaid := said
#print axioms proved
end Go.Proofs.Ytdannkcacldhmaa.lawDecAdds
