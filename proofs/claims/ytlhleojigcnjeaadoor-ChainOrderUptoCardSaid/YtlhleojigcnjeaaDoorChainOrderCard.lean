/- The law ChainOrder, proved where what it reads is of bulk at most 1048576: the call returns true of every input, and turns nothing that was there. Conditions: the row's own (the listed variables hold what the program's text lays; the card ties them). -/
import Derived.Test.YtlhleojigcnjeaaDoorCards
import Derived.Test.YtlhleojigcnjeaaDoorTie
import Derived.Deep.DeepHandedRow
import Derived.Deep.DeepWitnessRowRef
import Derived.Stop.Joined
import Derived.Lay
import Derived.Test.YtlhleojigcnjeaaDoorFrame
import Derived.Test.YtlhleojigcnjeaaDoorChainOrder
import Derived.Test.YtlhleojigcnjeaaDoorReadT
namespace Go.Proofs.YtlhleojigcnjeaaDoor.lawChainOrder
open Go.ChangeShapes Go.WideShapes Go.ChangeAt Go.RowKit Go.Joins

theorem own : ownKnob Tryd.prog.godebug = none := by kernel_rfl
theorem laidOut : laidOutB Tryd.prog = true := by kernel_rfl
theorem cellsTag : Tryd.prog.cellsOf 24 = 4 := by kernel_rfl

set_option maxRecDepth 100000 in
theorem contract (H : Type) (enc : TypeId × Value → H) (W : World) (base : Nat) (args : Array Value) (ds gs : List (DataW H)) (before : List MemPlace)
    (hval : ∀ (j : Nat) t v, Tryd.f5.params[j]? = some t → args[j]? = some v → Value.okWide Tryd.prog W .any base t v)
    (hW : DataW.Whole enc Tryd.prog Tryd.f5.params.toList Rows.chainOrderSpec.vars false W args.toList ds gs before) (hk : Rows.uptoSmall H (ds ++ gs) = true) (hS : W.ShapedOpen Tryd.prog) :
    Calls Tryd.prog 5 args W fun e W' => ∃ v, e = .returned v ∧ Rows.chainOrderSpec.post enc Tryd.prog Tryd.f5 false true false false W args v W' := by
  have hpost : ∀ W', Below W.heap.size W W' → Rows.chainOrderSpec.post enc Tryd.prog Tryd.f5 false true false false W args (.bool true) W' := fun W' hb =>
    law_post (tb := 4) laidOut rfl Tryd.underlying4 rfl (by kernel_rfl) (fun ds h => by match ds, h with | [x0, x1, x2], _ => rfl) hW hb
  obtain ⟨p, q, hA0, hV, _, hfz, hnd⟩ := hW
  have hA : DataW.TrodAll enc Tryd.prog W 0 (fun _ => true) true Tryd.f5.params.toList args.toList ds p := hA0
  obtain ⟨rfl, rfl⟩ := trodVars_none hV
  rw [Tryd.params5] at hA hval
  obtain ⟨v0, vs0, d0, ds0, p0, q0, hargs, rfl, hp0, h0, r0⟩ := trodAll_cons hA
  obtain ⟨v1, vs1, d1, ds1, p1, q1, rfl, rfl, hp1, h1, r1⟩ := trodAll_cons r0
  obtain ⟨v2, vs2, d2, ds2, p2, q2, rfl, rfl, hp2, h2, r2⟩ := trodAll_cons r1
  obtain ⟨rfl, rfl, hp⟩ := trodAll_nil r2
  obtain rfl : args = #[v0, v1, v2] := by cases args; simp_all
  obtain ⟨c0_0, c0_1, c0_2, c0_3, y0_0, y0_1, y0_2, y0_3, m0, rfl, rfl, rfl, hy0_0, hy0_1, hy0_2, hy0_3⟩ := open_agg4 Tryd.underlying24 (by kernel_rfl) cellsTag (hval 0 24 v0 rfl rfl) h0
  obtain ⟨a_l, e0_0, rfl, w_a_l⟩ := DataW.trod_string Tryd.underlying9 hy0_0
  obtain ⟨a_s, e0_1, rfl, w_a_s⟩ := DataW.trod_string Tryd.underlying9 hy0_1
  obtain ⟨a_r, e0_2, rfl, w_a_r⟩ := DataW.trod_string Tryd.underlying9 hy0_2
  simp at e0_0 e0_1 e0_2
  subst e0_0 e0_1 e0_2
  obtain ⟨a_a, a_n, a_c, a_vs, rfl, a_at, a_nil, a_bulk⟩ := strs_field Tryd.underlying22 Tryd.underlying9 (by kernel_rfl) hy0_3
  obtain ⟨c1_0, c1_1, c1_2, c1_3, y1_0, y1_1, y1_2, y1_3, m1, rfl, rfl, rfl, hy1_0, hy1_1, hy1_2, hy1_3⟩ := open_agg4 Tryd.underlying24 (by kernel_rfl) cellsTag (hval 1 24 v1 rfl rfl) h1
  obtain ⟨b_l, e1_0, rfl, w_b_l⟩ := DataW.trod_string Tryd.underlying9 hy1_0
  obtain ⟨b_s, e1_1, rfl, w_b_s⟩ := DataW.trod_string Tryd.underlying9 hy1_1
  obtain ⟨b_r, e1_2, rfl, w_b_r⟩ := DataW.trod_string Tryd.underlying9 hy1_2
  simp at e1_0 e1_1 e1_2
  subst e1_0 e1_1 e1_2
  obtain ⟨b_a, b_n, b_c, b_vs, rfl, b_at, b_nil, b_bulk⟩ := strs_field Tryd.underlying22 Tryd.underlying9 (by kernel_rfl) hy1_3
  obtain ⟨c2_0, c2_1, c2_2, c2_3, y2_0, y2_1, y2_2, y2_3, m2, rfl, rfl, rfl, hy2_0, hy2_1, hy2_2, hy2_3⟩ := open_agg4 Tryd.underlying24 (by kernel_rfl) cellsTag (hval 2 24 v2 rfl rfl) h2
  obtain ⟨c_l, e2_0, rfl, w_c_l⟩ := DataW.trod_string Tryd.underlying9 hy2_0
  obtain ⟨c_s, e2_1, rfl, w_c_s⟩ := DataW.trod_string Tryd.underlying9 hy2_1
  obtain ⟨c_r, e2_2, rfl, w_c_r⟩ := DataW.trod_string Tryd.underlying9 hy2_2
  simp at e2_0 e2_1 e2_2
  subst e2_0 e2_1 e2_2
  obtain ⟨c_a, c_n, c_c, c_vs, rfl, c_at, c_nil, c_bulk⟩ := strs_field Tryd.underlying22 Tryd.underlying9 (by kernel_rfl) hy2_3
  clear hA0 hfz hnd hval
  have hm : MaxW W := Go.Proofs.cell_of_shapedOpen_int (zero := #[.int .i64 0]) (t := 3) hS (of_decide_eq_true (by kernel_rfl)) (by kernel_rfl) rfl (by kernel_rfl) (by kernel_rfl) Tryd.underlying3
  have hT : MaxW W := hm
  have hq := bulk_of hk
  simp only [List.append_nil, Rows.uptoBulkAll, Rows.uptoBulk, Array.length_toList] at hq
  refine Calls.mono (?_ : Calls Tryd.prog 5 #[.agg #[.string a_l, .string a_s, .string a_r, .slice a_a a_n a_c], .agg #[.string b_l, .string b_s, .string b_r, .slice b_a b_n b_c], .agg #[.string c_l, .string c_s, .string c_r, .slice c_a c_n c_c]] W fun e w' => e = .returned (.bool true) ∧ Below W.heap.size W w') fun e W' ⟨he, hb⟩ => ⟨_, he, hpost W' hb⟩
  obtain ⟨aL, rfl⟩ : ∃ l : List UInt8, a_l = ⟨l.toArray⟩ := ⟨a_l.data.toList, rfl⟩
  obtain ⟨aS, rfl⟩ : ∃ l : List UInt8, a_s = ⟨l.toArray⟩ := ⟨a_s.data.toList, rfl⟩
  obtain ⟨aR, rfl⟩ : ∃ l : List UInt8, a_r = ⟨l.toArray⟩ := ⟨a_r.data.toList, rfl⟩
  obtain ⟨bL, rfl⟩ : ∃ l : List UInt8, b_l = ⟨l.toArray⟩ := ⟨b_l.data.toList, rfl⟩
  obtain ⟨bS, rfl⟩ : ∃ l : List UInt8, b_s = ⟨l.toArray⟩ := ⟨b_s.data.toList, rfl⟩
  obtain ⟨bR, rfl⟩ : ∃ l : List UInt8, b_r = ⟨l.toArray⟩ := ⟨b_r.data.toList, rfl⟩
  obtain ⟨cL, rfl⟩ : ∃ l : List UInt8, c_l = ⟨l.toArray⟩ := ⟨c_l.data.toList, rfl⟩
  obtain ⟨cS, rfl⟩ : ∃ l : List UInt8, c_s = ⟨l.toArray⟩ := ⟨c_s.data.toList, rfl⟩
  obtain ⟨cR, rfl⟩ : ∃ l : List UInt8, c_r = ⟨l.toArray⟩ := ⟨c_r.data.toList, rfl⟩
  simp only [List.size_toArray] at hq
  exact chainorder_any aL aS aR bL bS bR cL cS cR a_vs (.slice a_a a_n a_c) b_vs (.slice b_a b_n b_c) c_vs (.slice c_a c_n c_c) W hT a_at a_nil (by omega) b_at b_nil (by omega) c_at c_nil (by omega)

theorem start_met (os : Os) : laidMetH Tryd.prog Rows.chainOrderUptoRow.laid ((World.laidAll Tryd.prog os Rows.chainOrderUptoRow.laid).forCall (fun _ _ => 0) ⟨#[], #[.agg #[.string ⟨#[]⟩, .string ⟨#[]⟩, .string ⟨#[]⟩, .slice none 0 0], .agg #[.string ⟨#[]⟩, .string ⟨#[]⟩, .string ⟨#[]⟩, .slice none 0 0], .agg #[.string ⟨#[]⟩, .string ⟨#[]⟩, .string ⟨#[]⟩, .slice none 0 0]], []⟩).memory :=
  by rw [MakeChecks.laidMetH_plain _ _ _ (by kernel_rfl)]; exact laidMet_laidAll _ (by kernel_rfl) (by kernel_rfl)
theorem start_reads (os : Os) {H : Type} (enc : TypeId × Value → H) : ∃ places, DataW.whole enc Tryd.prog ((World.laidAll Tryd.prog os Rows.chainOrderUptoRow.laid).forCall (fun _ _ => 0) ⟨#[], #[.agg #[.string ⟨#[]⟩, .string ⟨#[]⟩, .string ⟨#[]⟩, .slice none 0 0], .agg #[.string ⟨#[]⟩, .string ⟨#[]⟩, .string ⟨#[]⟩, .slice none 0 0], .agg #[.string ⟨#[]⟩, .string ⟨#[]⟩, .string ⟨#[]⟩, .slice none 0 0]], []⟩).memory Tryd.f5.params.toList Rows.chainOrderSpec.vars false (#[.agg #[.string ⟨#[]⟩, .string ⟨#[]⟩, .string ⟨#[]⟩, .slice none 0 0], .agg #[.string ⟨#[]⟩, .string ⟨#[]⟩, .string ⟨#[]⟩, .slice none 0 0], .agg #[.string ⟨#[]⟩, .string ⟨#[]⟩, .string ⟨#[]⟩, .slice none 0 0]] : Array Value).toList 8 = some ([.agg [.lit (.string []), .lit (.string []), .lit (.string []), .nil], .agg [.lit (.string []), .lit (.string []), .lit (.string []), .nil], .agg [.lit (.string []), .lit (.string []), .lit (.string []), .nil]], [], places) :=
  ⟨[], by kernel_rfl⟩

set_option maxRecDepth 100000 in
theorem lifted (os : Os) (started : os.Started) (H : Type) (enc : TypeId × Value → H) (F : Stop.Interp) :
    ReturnsInHanded {} Tryd.checked os 5 .any ((Rows.OpenSpec.upto Rows.chainOrderSpec).preRow enc Tryd.prog Tryd.f5 Rows.chainOrderUptoRow.domain false Rows.chainOrderUptoRow.laid) (((Rows.OpenSpec.upto Rows.chainOrderSpec).at F).post enc Tryd.prog Tryd.f5 false true false false) := by
  obtain ⟨places, hx⟩ := start_reads os enc
  refine returnsInHanded_of_row (C := Tryd.checked) (s := Rows.OpenSpec.upto Rows.chainOrderSpec) own started (by kernel_rfl) Tryd.func5
    (witness_row_atRef (enc := enc) (C := Tryd.checked) false (World.laidAll Tryd.prog os Rows.chainOrderUptoRow.laid) #[.agg #[.string ⟨#[]⟩, .string ⟨#[]⟩, .string ⟨#[]⟩, .slice none 0 0], .agg #[.string ⟨#[]⟩, .string ⟨#[]⟩, .string ⟨#[]⟩, .slice none 0 0], .agg #[.string ⟨#[]⟩, .string ⟨#[]⟩, .string ⟨#[]⟩, .slice none 0 0]] (World.laidAll_os _ _ _) (by kernel_rfl) (by kernel_rfl) (by kernel_rfl)
      (OpenSpec.preRow_of_cond 8 hx (by kernel_rfl) (fun k hk => by cases hk; kernel_rfl) (by kernel_rfl) (start_met os))) ?_
  intro W base args ds gs before hval hW _ hcond _ _ hS _
  exact contract H enc W base args ds gs before hval hW (hcond _ rfl) hS

theorem said : Rows.ChainOrderUptoSaid :=
  OpenClaim.holds_of_cond 5 Tryd.f5 rfl rfl rfl rfl rfl rfl rfl ⟨rfl, rfl, rfl, rfl, rfl⟩ rfl rfl rfl rfl rfl (by kernel_rfl) Tryd.func5 (by kernel_rfl)
    (of_decide_eq_true (by kernel_rfl)) (by unfold Func.isWrapper; first | (rw [if_pos (by decide +kernel)]; kernel_rfl) | (rw [if_neg (by decide +kernel)]; exact ⟨rfl, rfl⟩))
    (fun os started H enc _ F => by rw [OpenClaim.pre_eq_preRow]; exact lifted os started H enc F)

theorem plain (f : FuncId) (fn : Func) (hf : Tryd.pinned.checked.prog.funcNamed "linguister/linguisterlaw1.ChainOrder" = some f) (hfn : Tryd.pinned.checked.prog.funcs[f]? = some fn) :
    true = Tryd.pinned.checked.prog.looks [] ∧ ∀ (j : Nat) t, fn.params[j]? = some t → Tryd.pinned.checked.prog.wantsStandIn t = false := by
  obtain rfl : f = 5 := Option.some.inj ((show Tryd.prog.funcNamed "linguister/linguisterlaw1.ChainOrder" = some 5 by kernel_rfl).symm.trans hf) |>.symm
  obtain rfl : fn = Tryd.f5 := (Option.some.inj (Tryd.func5.symm.trans hfn)).symm
  refine ⟨by kernel_rfl, fun j t ht => ?_⟩
  rw [Tryd.params5] at ht
  have hm : t ∈ [24, 24, 24] := by simpa using Array.mem_of_getElem? ht
  have hall : ([24, 24, 24].all fun u => !Tryd.prog.wantsStandIn u) = true := by kernel_rfl
  exact (show Tryd.prog.wantsStandIn t = false by simpa using List.all_eq_true.1 hall t hm)

theorem proved : Rows.ChainOrderUptoCardSaid :=
  Claim7.holds_tied_plain_at .later [] _ _ _ _ said (fun _ h => by cases h) (by kernel_rfl) (fun _ h => by cases h) chainOrderUpto_row_tie rfl ⟨rfl, rfl⟩ (by kernel_rfl) rfl plain (by kernel_rfl)
#print axioms proved
end Go.Proofs.YtlhleojigcnjeaaDoor.lawChainOrder
