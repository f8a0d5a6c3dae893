/- The walk of linguisterref1.ChainOf: the same list. Condition: the tag has at most 1000000000 variants. -/
import Derived.Test.YtlhleojigcnjeaaDoorChainW
namespace Go.Proofs.YtlhleojigcnjeaaDoor
open Go.RowKit

def RPost (w : World) (t : Tg) (V : Value) (e : Ending) (w' : World) : Prop :=
  ∃ g cp LV, e = .returned (.slice (some ⟨g, 0, none⟩) LV.length cp) ∧ w'.ownsRow w.heap.size 24 4 (.slice (some ⟨g, 0, none⟩) LV.length cp) LV.length (flat LV) ∧ LV.map (·.1) = t.chain ∧ TagsOf w' LV ∧
    (∀ q, NotRow (some q) V → ∀ x ∈ LV, NotRow (some q) x.2) ∧ Below w.heap.size w w'
theorem row_one (w : World) (base : Nat) (hb : base ≤ w.heap.size) (t : Tg) (V : Value) : (w.alloc (.cells (tcells t V).toArray 24)).ownsRow base 24 4 (.slice (some ⟨w.heap.size, 0, none⟩) 1 1) 1 (tcells t V) :=
  ⟨rfl, .inr ⟨w.heap.size, 1, (tcells t V).toArray, rfl, hb, by show (w.heap.push _)[w.heap.size]? = _; simp, Nat.le_refl _, by unfold maxLen; omega, rfl, rfl⟩⟩
theorem row_drew {w : World} {base n k : Nat} {e : TypeId} {v : Value} {xs : List Value} (h : w.ownsRow base e k v n xs) : w.drew.ownsRow base e k v n xs := h
theorem row_some {w : World} {base n k : Nat} {e : TypeId} {v : Value} {xs : List Value} (h : w.ownsRow base e k v n xs) (hn : 0 < n) : ∃ g cap, v = .slice (some ⟨g, 0, none⟩) n cap := by
  obtain ⟨_, ⟨rfl, rfl⟩ | ⟨g, cap, cur, rfl, _⟩⟩ := h
  · omega
  · exact ⟨_, _, rfl⟩
theorem cells_at (W : World) (xs : List Value) (t : TypeId) (q : Nat) (hq : W.heap.size = q) : ∀ j u, xs[j]? = some u → (W.alloc (.cells xs.toArray t)).cell? ((⟨q, 0, none⟩ : Addr).add j) = some u := by
  subst hq; exact cells_new W xs t
theorem flat_one (w : World) (LV : List (Tg × Value)) (h : TagsOf w LV) : ∀ u ∈ flat LV, u.oneCell' = true := by
  intro u hu
  obtain ⟨x, hx, hu⟩ := List.mem_flatMap.1 hu
  obtain ⟨a, n, c, e⟩ := (h x hx).1.isSlice
  rw [e] at hu
  exact tcells_one _ _ _ _ u hu
theorem RPost.join {w w1 w2 : World} {t u : Tg} {V Vu v' : Value} {q : Nat} {LV : List (Tg × Value)} (hu : t.less = some u) (hV : StrsAt w V t.vs) (h0 : Nil0 V) (hq : w.heap.size ≤ q)
    (hrec : LV.map (·.1) = u.chain) (htags : TagsOf w1 LV) (hnr : ∀ q, NotRow (some q) Vu → ∀ x ∈ LV, NotRow (some q) x.2) (hVu : ∀ q, NotRow (some q) V → NotRow (some q) Vu)
    (hown : w2.ownsRow w.heap.size 24 4 v' (1 + LV.length) (tcells t V ++ flat LV)) (hgrow : w1.grownBy w2 (some q)) (hb1 : Below w.heap.size w w1) : RPost w t V (.returned v') w2 := by
  obtain ⟨g, cap, rfl⟩ := row_some hown (by omega)
  have hb2 : Below w.heap.size w w2 := hb1.grown hgrow hb1.size (fun k hk => by injection hk with hk; omega)
  have e : 1 + LV.length = ((t, V) :: LV).length := by rw [List.length_cons]; omega
  rw [e] at hown ⊢
  refine ⟨g, cap, (t, V) :: LV, rfl, hown, by rw [chain_some hu, ← hrec]; rfl, ?_, ?_, hb2⟩
  · intro x hx
    rcases List.mem_cons.1 hx with rfl | hx
    · exact ⟨hV.below hb2, h0⟩
    · exact ⟨(htags x hx).1.grown hgrow (hnr q (hVu q (hV.old hq)) x hx), (htags x hx).2⟩
  · intro q' hn x hx
    rcases List.mem_cons.1 hx with rfl | hx
    · exact hn
    · exact hnr q' (hVu q' hn) x hx

set_option maxRecDepth 100000 in
set_option maxHeartbeats 2000000 in
theorem rchain_n (l : List UInt8) (a : Option Addr) (c : Nat) (w : World) (h0 : Nil0 (.slice a 0 c)) :
    Calls Tryd.prog 29 #[.agg #[.string ⟨l.toArray⟩, .string ⟨#[]⟩, .string ⟨#[]⟩, .slice a 0 c]] w (RPost w ⟨l, [], [], []⟩ (.slice a 0 c)) := by
  have R0 := Lib.hid (row_one (w.alloc (.cells #[.string ⟨l.toArray⟩, .string ⟨#[]⟩, .string ⟨#[]⟩, .slice a 0 c] 24)) w.heap.size (by simp) ⟨l, [], [], []⟩ (.slice a 0 c))
  have e : (⟨l, [], [], []⟩ : Tg).less = none := rfl
  go_enter Tryd.func29, Tryd.ntmps29
  go_wp2_with fail
  go_ret
  refine ⟨w.heap.size + 1, 1, [(⟨l, [], [], []⟩, .slice a 0 c)], rfl, ?_, by rw [chain_none e]; rfl, fun x hx => ?_, fun q hq x hx => ?_, (blw_alloc _ _).alloc (by simp) _⟩
  · have h := R0.out
    rw [show (w.alloc (.cells #[.string ⟨l.toArray⟩, .string ⟨#[]⟩, .string ⟨#[]⟩, .slice a 0 c] 24)).heap.size = w.heap.size + 1 by simp] at h
    exact h
  · rw [List.mem_singleton.1 hx]; exact ⟨.inl ⟨rfl, _, _, rfl⟩, h0⟩
  · rw [List.mem_singleton.1 hx]; exact hq

set_option maxRecDepth 100000 in
set_option maxHeartbeats 2000000 in
theorem rchain_s (l s : List UInt8) (a : Option Addr) (c : Nat) (w : World) (h0 : Nil0 (.slice a 0 c)) (hs : s.isEmpty = false) (hu : (⟨l, s, [], []⟩ : Tg).less = some ⟨l, [], [], []⟩) :
    Calls Tryd.prog 29 #[.agg #[.string ⟨l.toArray⟩, .string ⟨s.toArray⟩, .string ⟨#[]⟩, .slice a 0 c]] w (RPost w ⟨l, s, [], []⟩ (.slice a 0 c)) := by
  obtain ⟨iT, hiT, hT0, hT1, hT2⟩ := info_parts infoTag
  have HO := Lib.hid (row_one (w.alloc (.cells #[.string ⟨l.toArray⟩, .string ⟨s.toArray⟩, .string ⟨#[]⟩, .slice a 0 c] 24)) w.heap.size (by simp) ⟨l, s, [], []⟩ (.slice a 0 c))
  have HB0 := Lib.hid (show Below w.heap.size w ((w.alloc (.cells #[.string ⟨l.toArray⟩, .string ⟨s.toArray⟩, .string ⟨#[]⟩, .slice a 0 c] 24)).alloc (.cells (tcells ⟨l, s, [], []⟩ (.slice a 0 c)).toArray 24)) from (blw_alloc _ _).alloc (by simp) _)
  have h1 : (⟨l, [], [], []⟩ : Tg).less = none := rfl
  have HU := Lib.hid (show [((⟨l, [], [], []⟩ : Tg), Value.slice none 0 0)].map (·.1) = (⟨l, [], [], []⟩ : Tg).chain by rw [chain_none h1]; rfl)
  go_enter Tryd.func29, Tryd.ntmps29
  go_wp2_with (at_builtin; refine wpList_append_own_at _ rfl _ _ 35 rfl w.heap.size 24 iT _ 4 72 Tryd.underlying35 hiT hT0 hT1 hT2 rfl (by decide) (.slice (some ⟨w.heap.size + 1, 0, none⟩) 1 1) 1 (tcells ⟨l, s, [], []⟩ (.slice a 0 c)) (by simp [go_sem]) ((show World.ownsRow _ _ _ _ _ _ _ from (by have h := HO.out; rw [show (w.alloc (.cells #[.string ⟨l.toArray⟩, .string ⟨s.toArray⟩, .string ⟨#[]⟩, .slice a 0 c] 24)).heap.size = w.heap.size + 1 by simp] at h; exact h)).alloc _) ⟨w.heap.size + 1 + 1, 0, none⟩ 1 1 (tcells ⟨l, [], [], []⟩ (.slice none 0 0)) (by simp [go_sem]) rfl (cells_at ((w.alloc (.cells #[.string ⟨l.toArray⟩, .string ⟨s.toArray⟩, .string ⟨#[]⟩, .slice a 0 c] 24)).alloc (.cells (tcells ⟨l, s, [], []⟩ (.slice a 0 c)).toArray 24)) _ _ _ (by simp)) (tcells_one _ _ _ _) (by unfold maxLen; omega) (by omega) (by simp; omega) ?_; intro v' w2 hown hgrow _ _; have HR := Lib.hid (RPost.join (w := w) (w1 := ((w.alloc (.cells #[.string ⟨l.toArray⟩, .string ⟨s.toArray⟩, .string ⟨#[]⟩, .slice a 0 c] 24)).alloc (.cells (tcells ⟨l, s, [], []⟩ (.slice a 0 c)).toArray 24)).alloc (.cells (tcells ⟨l, [], [], []⟩ (.slice none 0 0)).toArray 24)) (q := w.heap.size + 1) (LV := [(⟨l, [], [], []⟩, .slice none 0 0)]) (V := .slice a 0 c) (Vu := .slice none 0 0) hu (.inl ⟨rfl, _, _, rfl⟩) h0 (by omega) HU.out (fun x hx => by rw [List.mem_singleton.1 hx]; exact ⟨.inl ⟨rfl, _, _, rfl⟩, fun n c e => by injection e with _ _ e; exact e.symm⟩) (fun q h x hx => by rw [List.mem_singleton.1 hx]; exact h) (fun q _ => NotRow.nil _ _ _) hown hgrow (HB0.out.alloc HB0.out.size _)); clear hown hgrow)
  go_ret
  exact HR.out

set_option maxRecDepth 100000 in
set_option maxHeartbeats 2000000 in
theorem rchain_r (l s r : List UInt8) (a : Option Addr) (c : Nat) (w : World) (h0 : Nil0 (.slice a 0 c)) (hr : r.isEmpty = false) (hu : (⟨l, s, r, []⟩ : Tg).less = some ⟨l, s, [], []⟩) (hcl : (⟨l, s, [], []⟩ : Tg).chain.length ≤ 1000000010)
    (IH : Hid (∀ wx : World, Calls Tryd.prog 29 #[.agg #[.string ⟨l.toArray⟩, .string ⟨s.toArray⟩, .string ⟨#[]⟩, .slice none 0 0]] wx (RPost wx ⟨l, s, [], []⟩ (.slice none 0 0)))) :
    Calls Tryd.prog 29 #[.agg #[.string ⟨l.toArray⟩, .string ⟨s.toArray⟩, .string ⟨r.toArray⟩, .slice a 0 c]] w (RPost w ⟨l, s, r, []⟩ (.slice a 0 c)) := by
  obtain ⟨iT, hiT, hT0, hT1, hT2⟩ := info_parts infoTag
  have HO := Lib.hid (row_one (w.alloc (.cells #[.string ⟨l.toArray⟩, .string ⟨s.toArray⟩, .string ⟨r.toArray⟩, .slice a 0 c] 24)) w.heap.size (by simp) ⟨l, s, r, []⟩ (.slice a 0 c))
  have HB0 := Lib.hid (show Below w.heap.size w ((w.alloc (.cells #[.string ⟨l.toArray⟩, .string ⟨s.toArray⟩, .string ⟨r.toArray⟩, .slice a 0 c] 24)).alloc (.cells (tcells ⟨l, s, r, []⟩ (.slice a 0 c)).toArray 24)) from (blw_alloc _ _).alloc (by simp) _)
  rw [show (w.alloc (.cells #[.string ⟨l.toArray⟩, .string ⟨s.toArray⟩, .string ⟨r.toArray⟩, .slice a 0 c] 24)).heap.size = w.heap.size + 1 by simp] at HO
  go_enter Tryd.func29, Tryd.ntmps29
  go_wp2_with fail
  refine (IH.out _).mono ?_
  rintro e w1 ⟨g, cp, LV, rfl, hrow, hch, htg, hnr, hb⟩
  have hll : LV.length ≤ 1000000010 := by
    have e := congrArg List.length hch
    rw [List.length_map] at e
    rw [e]; exact hcl
  have HO1 := Lib.hid (HO.out.kept (grown_below hb none) (.inr (by simp [Value.ownBlock])))
  have HB1 := Lib.hid (blw_trans HB0.out hb)
  have HCL := Lib.hid (hrow.cells (g := g) rfl)
  have HT := Lib.hid htg
  have HN := Lib.hid hnr
  have HCH := Lib.hid hch
  have HFL := Lib.hid (flat_len LV)
  have hbs := HB1.out.size
  clear hrow hch htg hnr hb HO HB0 IH
  go_wp2_with (at_builtin; refine wpList_append_own_at _ rfl _ _ 35 rfl w.heap.size 24 iT _ 4 72 Tryd.underlying35 hiT hT0 hT1 hT2 rfl (by decide) (.slice (some ⟨w.heap.size + 1, 0, none⟩) 1 1) 1 (tcells ⟨l, s, r, []⟩ (.slice a 0 c)) (by simp [go_sem]) HO1.out ⟨g, 0, none⟩ LV.length cp (flat LV) (by simp [go_sem]) HFL.out HCL.out (flat_one _ _ HT.out) (by unfold maxLen; omega) (by omega) hbs ?_; intro v' w2 hown hgrow _ _; have HR := Lib.hid (RPost.join (w := w) (w1 := w1) (q := w.heap.size + 1) (LV := LV) (V := .slice a 0 c) (Vu := .slice none 0 0) hu (.inl ⟨rfl, _, _, rfl⟩) h0 (by omega) HCH.out HT.out HN.out (fun q _ => NotRow.nil _ _ _) hown hgrow HB1.out); clear hown hgrow)
  go_ret
  exact HR.out

set_option maxRecDepth 100000 in
set_option maxHeartbeats 2000000 in
theorem rchain_v (l s r : List UInt8) (vs vt : List (List UInt8)) (ad : Addr) (cap : Nat) (w : World) (hV : StrsAt w (.slice (some ad) vs.length cap) vs) (hn : 0 < vs.length) (hl : vs.length ≤ 1000000000) (hcap : vs.length ≤ cap)
    (hu : (⟨l, s, r, vs⟩ : Tg).less = some ⟨l, s, r, vt⟩) (hcl : (⟨l, s, r, vt⟩ : Tg).chain.length ≤ 1000000010)
    (IH : Hid (∀ wx : World, Below w.heap.size w wx → Calls Tryd.prog 29 #[.agg #[.string ⟨l.toArray⟩, .string ⟨s.toArray⟩, .string ⟨r.toArray⟩, .slice (some ad) (vs.length - 1) cap]] wx (RPost wx ⟨l, s, r, vt⟩ (.slice (some ad) (vs.length - 1) cap)))) :
    Calls Tryd.prog 29 #[.agg #[.string ⟨l.toArray⟩, .string ⟨s.toArray⟩, .string ⟨r.toArray⟩, .slice (some ad) vs.length cap]] w (RPost w ⟨l, s, r, vs⟩ (.slice (some ad) vs.length cap)) := by
  obtain ⟨iT, hiT, hT0, hT1, hT2⟩ := info_parts infoTag
  have HO := Lib.hid (row_one (w.alloc (.cells #[.string ⟨l.toArray⟩, .string ⟨s.toArray⟩, .string ⟨r.toArray⟩, .slice (some ad) vs.length cap] 24)) w.heap.size (by simp) ⟨l, s, r, vs⟩ (.slice (some ad) vs.length cap))
  have HB0 := Lib.hid (show Below w.heap.size w ((w.alloc (.cells #[.string ⟨l.toArray⟩, .string ⟨s.toArray⟩, .string ⟨r.toArray⟩, .slice (some ad) vs.length cap] 24)).alloc (.cells (tcells ⟨l, s, r, vs⟩ (.slice (some ad) vs.length cap)).toArray 24)) from (blw_alloc _ _).alloc (by simp) _)
  rw [show (w.alloc (.cells #[.string ⟨l.toArray⟩, .string ⟨s.toArray⟩, .string ⟨r.toArray⟩, .slice (some ad) vs.length cap] 24)).heap.size = w.heap.size + 1 by simp] at HO
  have HVV := Lib.hid hV
  have hgt : (((vs.length : Nat) : Int) > 0) := by omega
  have hsub : IntKind.i64.wrap ((vs.length - 1 : Nat) : Int) = ((vs.length - 1 : Nat) : Int) := IntWalk.i64_in _ (by omega)
  have hc1 : vs.length - 1 ≤ cap := by omega
  have hc2 : ((vs.length - 1 : Nat) : Int) ≤ (cap : Int) := by omega
  have hsub2 : ((vs.length : Int) - 1) = ((vs.length - 1 : Nat) : Int) := by omega
  clear hV
  generalize hN : vs.length = N at *
  clear hN
  go_enter Tryd.func29, Tryd.ntmps29
  go_wp2_with fail
  refine wp_region_held_drew (S := fun w' => w'.cell? ⟨w.heap.size, 0, none⟩ = some (.string ⟨l.toArray⟩) ∧ w'.cell? ⟨w.heap.size, 1, none⟩ = some (.string ⟨s.toArray⟩) ∧ w'.cell? ⟨w.heap.size, 2, none⟩ = some (.string ⟨r.toArray⟩) ∧ w'.cell? ⟨w.heap.size, 3, none⟩ = some (.slice (some ad) N cap) ∧ Hid (Below w.heap.size w w')) (by kernel_rfl) (by exact ⟨by go_keep, by go_keep, by go_keep, by go_keep, Lib.hid (Below.drew HB0.out)⟩) (fun hHeld => ?_)
  refine take_run (d := (some 10)) (v := ?v1) 0 rfl rfl (by kernel_rfl) (by kernel_rfl) (by kernel_rfl) (fun _ _ _ h => h) (by rfl) hHeld ?hy1 ?rs1
  case hy1 => (intro w hSw; (try dsimp only at hSw); go_simp) <;> (try with_reducible rfl)
  (try simp only [Act.put, List.setIfInBounds_toArray, List.set_cons_zero, List.set_cons_succ])
  refine take_run (d := (some 11)) (v := ?v2) 1 rfl rfl (by kernel_rfl) (by kernel_rfl) (by kernel_rfl) (fun _ _ _ h => h) (by rfl) hHeld ?hy2 ?rs2
  case hy2 => (intro w hSw; (try dsimp only at hSw); go_simp) <;> (try with_reducible rfl)
  (try simp only [Act.put, List.setIfInBounds_toArray, List.set_cons_zero, List.set_cons_succ])
  refine take_run (d := (some 12)) (v := ?v3) 2 rfl rfl (by kernel_rfl) (by kernel_rfl) (by kernel_rfl) (fun _ _ _ h => h) (by rfl) hHeld ?hy3 ?rs3
  case hy3 => (intro w hSw; (try dsimp only at hSw); go_simp) <;> (try with_reducible rfl)
  (try simp only [Act.put, List.setIfInBounds_toArray, List.set_cons_zero, List.set_cons_succ])
  refine take_run (d := (some 13)) (v := ?v4) 3 rfl rfl (by kernel_rfl) (by kernel_rfl) (by kernel_rfl) (fun _ _ _ h => h) (by rfl) hHeld ?hy4 ?rs4
  case hy4 => (intro w hSw; (try dsimp only at hSw); go_simp) <;> (try with_reducible rfl)
  (try simp only [Act.put, List.setIfInBounds_toArray, List.set_cons_zero, List.set_cons_succ])
  refine take_run (d := (some 14)) (v := ?v5) 4 rfl rfl (by kernel_rfl) (by kernel_rfl) (by kernel_rfl) (fun _ _ _ h => h) (by rfl) hHeld ?hy5 ?rs5
  case hy5 => (intro w hSw; (try dsimp only at hSw); go_simp) <;> (try with_reducible rfl)
  (try simp only [Act.put, List.setIfInBounds_toArray, List.set_cons_zero, List.set_cons_succ])
  refine take_run (d := (some 15)) (v := ?v6) 5 rfl rfl (by kernel_rfl) (by kernel_rfl) (by kernel_rfl) (fun _ _ _ h => h) (by rfl) hHeld ?hy6 ?rs6
  case hy6 => (intro w hSw; (try dsimp only at hSw); go_simp) <;> (try with_reducible rfl)
  (try simp only [Act.put, List.setIfInBounds_toArray, List.set_cons_zero, List.set_cons_succ])
  refine take_run (d := (some 16)) (v := ?v7) 6 rfl rfl (by kernel_rfl) (by kernel_rfl) (by kernel_rfl) (fun _ _ _ h => h) (by rfl) hHeld ?hy7 ?rs7
  case hy7 => (intro w hSw; (try dsimp only at hSw); go_simp) <;> (try with_reducible rfl)
  (try simp only [Act.put, List.setIfInBounds_toArray, List.set_cons_zero, List.set_cons_succ])
  refine take_run (d := (some 17)) (v := ?v8) 7 rfl rfl (by kernel_rfl) (by kernel_rfl) (by kernel_rfl) (fun _ _ _ h => h) (by rfl) hHeld ?hy8 ?rs8
  case hy8 => (intro w hSw; (try dsimp only at hSw); go_simp) <;> (try with_reducible rfl)
  (try simp only [Act.put, List.setIfInBounds_toArray, List.set_cons_zero, List.set_cons_succ])
  refine take_run (d := (some 18)) (v := ?v9) 8 rfl rfl (by kernel_rfl) (by kernel_rfl) (by kernel_rfl) (fun _ _ _ h => h) (by rfl) hHeld ?hy9 ?rs9
  case hy9 => (intro w hSw; (try dsimp only at hSw); go_simp) <;> (try with_reducible rfl)
  (try simp only [Act.put, List.setIfInBounds_toArray, List.set_cons_zero, List.set_cons_succ])
  refine take_run (d := (some 19)) (v := ?v10) 9 rfl rfl (by kernel_rfl) (by kernel_rfl) (by kernel_rfl) (fun _ _ _ h => h) (by rfl) hHeld ?hy10 ?rs10
  case hy10 => (intro w hSw; (try dsimp only at hSw); go_simp) <;> (try with_reducible rfl)
  (try simp only [Act.put, List.setIfInBounds_toArray, List.set_cons_zero, List.set_cons_succ])
  refine take_run (d := (some 20)) (v := ?v11) 10 rfl rfl (by kernel_rfl) (by kernel_rfl) (by kernel_rfl) (fun _ _ _ h => h) (by rfl) hHeld ?hy11 ?rs11
  case hy11 => (intro w hSw; (try dsimp only at hSw); go_simp) <;> (try with_reducible rfl)
  (try simp only [Act.put, List.setIfInBounds_toArray, List.set_cons_zero, List.set_cons_succ])
  refine take_run (d := (some 21)) (v := ?v12) 11 rfl rfl (by kernel_rfl) (by kernel_rfl) (by kernel_rfl) (fun _ _ _ h => h) (by rfl) hHeld ?hy12 ?rs12
  case hy12 => (intro w hSw; (try dsimp only at hSw); go_simp) <;> (try with_reducible rfl)
  (try simp only [Act.put, List.setIfInBounds_toArray, List.set_cons_zero, List.set_cons_succ])
  refine take_run (d := (some 22)) (v := ?v13) 12 rfl rfl (by kernel_rfl) (by kernel_rfl) (by kernel_rfl) (fun _ _ _ h => h) (by rfl) hHeld ?hy13 ?rs13
  case hy13 => (intro w hSw; (try dsimp only at hSw); go_simp) <;> (try with_reducible rfl)
  (try simp only [Act.put, List.setIfInBounds_toArray, List.set_cons_zero, List.set_cons_succ])
  refine take_run (d := (some 23)) (v := ?v14) 13 rfl rfl (by kernel_rfl) (by kernel_rfl) (by kernel_rfl) (fun _ _ _ h => h) (by rfl) hHeld ?hy14 ?rs14
  case hy14 => (intro w hSw; (try dsimp only at hSw); go_simp) <;> (try with_reducible rfl)
  (try simp only [Act.put, List.setIfInBounds_toArray, List.set_cons_zero, List.set_cons_succ])
  refine take_run (d := (some 24)) (v := ?v15) 14 rfl rfl (by kernel_rfl) (by kernel_rfl) (by kernel_rfl) (fun _ _ _ h => h) (by rfl) hHeld ?hy15 ?rs15
  case hy15 => (intro w hSw; (try dsimp only at hSw); go_simp) <;> (try with_reducible rfl)
  (try simp only [Act.put, List.setIfInBounds_toArray, List.set_cons_zero, List.set_cons_succ])
  refine take_call 15 rfl (by kernel_rfl) (by rfl) (fun K hK => ?_)
  go_simp
  refine (IH.out _ (by obtain ⟨_, _, _, _, h1⟩ := hHeld; exact h1.out)).mono ?_
  rintro e w' ⟨g, cp, LV, rfl, hrow, hch, htg, hnr, hb⟩
  have hll : LV.length ≤ 1000000010 := by
    have e := congrArg List.length hch
    rw [List.length_map] at e
    rw [e]; exact hcl
  have HO1 := Lib.hid (show w'.ownsRow w.heap.size 24 4 (.slice (some ⟨w.heap.size + 1, 0, none⟩) 1 1) 1 (tcells ⟨l, s, r, vs⟩ (.slice (some ad) N cap)) from by first | exact (row_drew HO.out).kept (grown_below hb none) (.inr (by simp [Value.ownBlock])) | exact HO.out.kept (grown_below hb none) (.inr (by simp [Value.ownBlock])))
  have HB1 := Lib.hid (blw_trans (show Below w.heap.size w _ from Below.drew HB0.out) hb)
  have HCL := Lib.hid (hrow.cells (g := g) rfl)
  have HT := Lib.hid htg
  have HN := Lib.hid hnr
  have HCH := Lib.hid hch
  have HFL := Lib.hid (flat_len LV)
  have hbs := HB1.out.size
  have HVT := Lib.hid (show ∀ q, NotRow (some q) (.slice (some ad) N cap) → NotRow (some q) (.slice (some ad) (N - 1) cap) from fun q h ad' n' c' e h0 => by
    injection e with e _ _
    injection e with e
    subst e
    exact h _ _ _ rfl hn)
  clear hrow hch htg hnr
  refine hK.out _ _ (by obtain ⟨h0, h1, h2, h3, hw⟩ := hHeld; exact ⟨cell_keep h0 hb, cell_keep h1 hb, cell_keep h2 hb, cell_keep h3 hb, Lib.hid (blw_trans hw.out hb)⟩) (fun hHeld => ?_)
  clear hK K
  (try simp only [Act.put, List.setIfInBounds_toArray, List.set_cons_zero, List.set_cons_succ])
  refine take_call 16 rfl (by kernel_rfl) (by rfl) (fun K hK => ?_)
  have hHeld0 := hHeld
  obtain ⟨h0, h1, h2, h3, hw⟩ := hHeld
  refine wp_append_own _ _ _ 35 rfl w.heap.size 24 iT _ 4 72 Tryd.underlying35 hiT hT0 hT1 hT2 rfl (by decide) (.slice (some ⟨w.heap.size + 1, 0, none⟩) 1 1) 1 (tcells ⟨l, s, r, vs⟩ (.slice (some ad) N cap)) (by simp [go_sem]) HO1.out ⟨g, 0, none⟩ LV.length cp (flat LV) (by simp [go_sem]) HFL.out HCL.out (flat_one _ _ HT.out) (by unfold maxLen; omega) (by omega) hbs ?_
  intro v' w2 hown hgrow hnil
  have HR := Lib.hid (RPost.join (w := w) (w1 := w') (q := w.heap.size + 1) (LV := LV) hu HVV.out (fun n c e => by injection e with e; cases e) (by omega) HCH.out HT.out HN.out HVT.out hown hgrow HB1.out)
  have hg2 := (show World.grownBy _ _ (some (w.heap.size + 1)) from hgrow)
  refine hK.out _ _ (⟨hg2.cell h0 (by intro e; injection e with e; dsimp only at e; omega), hg2.cell h1 (by intro e; injection e with e; dsimp only at e; omega), hg2.cell h2 (by intro e; injection e with e; dsimp only at e; omega), hg2.cell h3 (by intro e; injection e with e; dsimp only at e; omega), Lib.hid (hw.out.grown hg2 hw.out.size (fun k hk => by injection hk with hk; omega))⟩) (fun hHeld => ?_)
  clear hK K
  (try simp only [Act.put, List.setIfInBounds_toArray, List.set_cons_zero, List.set_cons_succ])
  refine take_run (d := (some 2)) (v := ?v18) 17 rfl rfl (by kernel_rfl) (by kernel_rfl) (by kernel_rfl) (fun _ _ _ h => h) (by rfl) hHeld ?hy18 ?rs18
  case hy18 => (intro w hSw; (try dsimp only at hSw); go_simp) <;> (try with_reducible rfl)
  (try simp only [Act.put, List.setIfInBounds_toArray, List.set_cons_zero, List.set_cons_succ])
  refine wpAnyH_done (by kernel_rfl) ?_ _
  obtain ⟨z0, z1, z2, z3, zW⟩ := hHeld
  go_wp2
  go_ret
  exact HR.out

theorem less_len {t u : Tg} (h : t.less = some u) (hl : t.vs.length ≤ 1000000000) : u.chain.length ≤ 1000000010 := by
  have h1 := (chain_small _ u rfl).1
  have a1 : (one u.s).length ≤ 1 := by unfold one; split <;> simp
  have a2 : (one u.r).length ≤ 1 := by unfold one; split <;> simp
  have e : u.size = (one u.s).length + ((one u.r).length + u.vs.length) := rfl
  have := less_vs h
  omega
theorem rchain_any : ∀ (n : Nat) (t : Tg) (V : Value) (w : World), t.size = n → StrsAt w V t.vs → Nil0 V → t.vs.length ≤ 1000000000 →
    Calls Tryd.prog 29 #[.agg #[.string ⟨t.l.toArray⟩, .string ⟨t.s.toArray⟩, .string ⟨t.r.toArray⟩, V]] w (RPost w t V)
  | n, ⟨l, s, r, vs⟩, V, w, hn, hV, h0, hl => by
    have hV' := hV
    rcases hV with ⟨hvs, a, cap, rfl⟩ | ⟨b, off, cap, rfl, hpos, hcap, hm, hcell⟩
    · obtain rfl : vs = [] := hvs
      by_cases hr : r = []
      · subst hr
        by_cases hs : s = []
        · subst hs; exact rchain_n l a cap w h0
        · have hu : (⟨l, s, [], []⟩ : Tg).less = some ⟨l, [], [], []⟩ := by unfold Tg.less; rw [if_neg (by simp), if_pos rfl, if_neg hs]
          exact rchain_s l s a cap w h0 (by cases s with | nil => exact absurd rfl hs | cons _ _ => rfl) hu
      · have hu : (⟨l, s, r, []⟩ : Tg).less = some ⟨l, s, [], []⟩ := by unfold Tg.less; rw [if_neg (by simp), if_neg hr]
        have hs := less_size hu
        cases n with
        | zero => omega
        | succ n =>
          exact rchain_r l s r a cap w h0 (by cases r with | nil => exact absurd rfl hr | cons _ _ => rfl) hu (less_len hu hl)
            (Lib.hid fun wx => rchain_any n ⟨l, s, [], []⟩ (.slice none 0 0) wx (by omega) (.inl ⟨rfl, _, _, rfl⟩) (fun n c e => by injection e with _ _ e; exact e.symm) hl)
    · dsimp only at hpos hcap hcell hl
      have hu : (⟨l, s, r, vs⟩ : Tg).less = some ⟨l, s, r, vs.take (vs.length - 1)⟩ := by unfold Tg.less; rw [if_pos hpos]
      have hs := less_size hu
      have htl : (vs.take (vs.length - 1)).length = vs.length - 1 := by rw [List.length_take]; omega
      cases n with
      | zero => omega
      | succ n =>
        exact rchain_v l s r vs _ ⟨b, off, none⟩ cap w hV' hpos hl hcap hu (less_len hu hl)
          (Lib.hid fun wx hb => rchain_any n ⟨l, s, r, vs.take (vs.length - 1)⟩ (.slice (some ⟨b, off, none⟩) (vs.length - 1) cap) wx (by omega) (by
            by_cases h1 : vs.length - 1 = 0
            · exact .inl ⟨List.length_eq_zero_iff.1 (by rw [htl]; exact h1), some ⟨b, off, none⟩, cap, by rw [h1]⟩
            · refine .inr ⟨b, off, cap, by rw [htl], by rw [htl]; omega, by rw [htl]; omega, hm, fun j x hx => ?_⟩
              have hj := (List.getElem?_eq_some_iff.1 hx).1
              rw [htl] at hj
              rw [List.getElem?_take, if_pos hj] at hx
              exact cell_keep (hcell j x hx) hb) (fun n c e => by injection e with e; cases e) (by show (vs.take _).length ≤ _; omega))
end Go.Proofs.YtlhleojigcnjeaaDoor
