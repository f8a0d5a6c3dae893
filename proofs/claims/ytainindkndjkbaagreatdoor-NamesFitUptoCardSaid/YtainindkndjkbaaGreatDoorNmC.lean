/- The walk of apples, a message that counts. No conditions. -/
import Derived.Test.YtainindkndjkbaaGreatDoorNeedF
import Derived.Test.YtainindkndjkbaaGreatDoorHeld
import Derived.Test.YtainindkndjkbaaGreatDoorNmA
import Derived.Deep.DeepCutAuto
import Derived.Deep.CutRange
import Derived.Test.YtainindkndjkbaaGreatDoorNeedA
import Derived.Test.YtainindkndjkbaaGreatDoorNmB
import Derived.Test.YtainindkndjkbaaGreatDoorDcm
namespace Go.Proofs.YtainindkndjkbaaGreatDoor
open Go.RowKit Ms

theorem infoNeed : (Tryz.prog.info? 57).map (fun i => (i.zero, i.size, i.bytes)) = some (some (.agg #[.string ByteArray.empty, .bool false, .bool false]), 3, 24) := by kernel_rfl
section
variable {P : Program} {md : Region.Mode} {l : List Oper} {Q : Exit → Act → World → Prop} {S : World → Prop}
theorem take_two {oi oj : Oper} {fuel : Nat} {listed : Array Bool} {a : Act} {w : World} (i j : Nat) (hi : l[i]? = some oi) (hj : l[j]? = some oj) (hr : Region.ready md l.toArray listed = [i, j])
    (hwi : Region.wanted oi (yielded l.toArray a.tmps) = true) (hwj : Region.wanted oj (yielded l.toArray a.tmps) = true)
    (h1 : ∀ K' : Act → World → Prop, Shut (∀ a w, S w → (S w → wpAnyH P md l.toArray Q S fuel (listed.setIfInBounds i true) a w) → K' a w) → Oper.wp P oi a w K' Q)
    (h2 : ∀ K' : Act → World → Prop, Shut (∀ a w, S w → (S w → wpAnyH P md l.toArray Q S fuel (listed.setIfInBounds j true) a w) → K' a w) → Oper.wp P oj a w K' Q) : wpAnyH P md l.toArray Q S (fuel + 1) listed a w :=
  wpAnyH_ready hr (by simp) (AllReadyH.cons (by simpa using hi) (fun K' hK => by rw [if_pos hwi]; exact h1 K' hK) (AllReadyH.cons (by simpa using hj) (fun K' hK => by rw [if_pos hwj]; exact h2 K' hK) AllReadyH.nil))
end

/-- two blocks -/
structure Bx2 (k : Nat) (us : Array Value) (w : World) (q : Nat) (vs : Array Value) : Prop where
  a : Boxed w q vs
  b : Boxed w k us
section
variable {k q : Nat} {us vs : Array Value} {w : World}
theorem Bx2.below {C : World} (h : Bx2 k us w q vs) (hb : Below w.heap.size w C) : Bx2 k us C q vs := ⟨h.a.below hb, h.b.below hb⟩
theorem Bx2.alloc (h : Bx2 k us w q vs) (o : Obj) : Bx2 k us (w.alloc o) q vs := ⟨h.a.alloc o, h.b.alloc o⟩
theorem Bx2.drew (h : Bx2 k us w q vs) : Bx2 k us w.drew q vs := ⟨h.a.drew, h.b.drew⟩
theorem Bx2.grown {C : World} {r : Option Nat} (h : Bx2 k us w q vs) (g : w.grownBy C r) (h1 : some q ≠ r) (h2 : some k ≠ r) : Bx2 k us C q vs := ⟨nboxed_grown h.a g h1, nboxed_grown h.b g h2⟩
theorem Bx2.far {p' : Nat} (h : Bx2 k us w q vs) (h1 : p' ≠ q) (h2 : p' ≠ k) (j : Nat) (v : Value) : Bx2 k us (w.setCell ⟨p', j, none⟩ v) q vs := ⟨h.a.far h1 j v, h.b.far h2 j v⟩
end

set_option maxRecDepth 100000 in
set_option maxHeartbeats 4000000 in
theorem nadd_any (x : Nd) (a : Option Addr) (n c : Nat) (W0 w : World) (p : Nat) (v : Value) (xs : List Need) (k : Nat) (us : Array Value) (h : NI W0.heap.size p v xs w) (hb : Below W0.heap.size W0 w) (hl : xs.length ≤ 1000000) (hk : Boxed w k us) (hkp : k ≠ p) (hkv : v.ownBlock ≠ some k) :
    Calls Tryz.prog 66 #[.pointer (some ⟨p, 0, none⟩), .agg #[.int .i64 x.kind, .string ⟨x.text.toArray⟩, .int .i64 x.off, .slice a n c]] w fun e w' => e = .returned (.tuple #[]) ∧ (∃ v', NI W0.heap.size p v' (addN xs x) w') ∧ Below W0.heap.size W0 w' ∧ Boxed w' k us := by
  have HK0 := Lib.hid hk
  have HKP := Lib.hid hkp
  obtain ⟨iN, hiN, hN0, hN1, hN2⟩ := info_parts infoNeed
  obtain ⟨K0, T, O0, cs⟩ := x
  obtain ⟨RES, hRES⟩ : ∃ RES, RES = addN xs (.mk K0 T O0 cs) := ⟨_, rfl⟩
  rw [← hRES]
  have HRES := Lib.hid (show RES = if K0 = 1 ∨ K0 = 6 then xs else (grownN xs T).modify (xs.findIdx (fun n => n.1 == T)) (orN (decide (K0 = 3) || decide (K0 = 4)) (decide (K0 = 5))) from hRES)
  clear hRES
  simp only [Nd.kind, Nd.text, Nd.off]
  have hB := hb.size
  have HW := Lib.hid hb
  have HP := Lib.hid h
  have hpB := h.ge
  have hpw := h.box.lt
  obtain ⟨av, cv, rfl⟩ := h.isSlice
  have hvq : (Value.slice av xs.length cv).ownBlock ≠ some w.heap.size := fun e => by have := (h.row.lt _ e).2; omega
  have HKV := Lib.hid hkv
  clear h hb hk hkp hkv
  generalize W0.heap.size = B at *
  obtain ⟨q, hq⟩ : ∃ q, w.heap.size = q := ⟨_, rfl⟩
  obtain ⟨w1, hw1⟩ : ∃ w1, w.alloc (.cells #[.int .i64 K0, .string ⟨T.toArray⟩, .int .i64 O0, .slice a n c] 60) = w1 := ⟨_, rfl⟩
  have P1 := Lib.hid (show NI B p (.slice av xs.length cv) xs w1 by rw [← hw1]; exact HP.out.below (blw_alloc _ _))
  have W1 := Lib.hid (show Below B W0 w1 by rw [← hw1]; exact HW.out.alloc hB _)
  have Q1 := Lib.hid (show Bx2 k us w1 q #[.int .i64 K0, .string ⟨T.toArray⟩, .int .i64 O0, .slice a n c] by rw [← hw1, ← hq]; exact ⟨Boxed.made _ _ _, HK0.out.alloc _⟩)
  rw [hq] at hvq hB hpw
  have HQ := Lib.hid hvq
  have hqp : q ≠ p := by omega
  have hB1 : B ≤ w1.heap.size := by have := Q1.out.a.lt; omega
  clear HP HW hvq HK0
  have q0 : w1.cell? ⟨q, 0, none⟩ = some (.int .i64 K0) := Q1.out.a.cell 0 _ rfl
  have q1 : w1.cell? ⟨q, 1, none⟩ = some (.string ⟨T.toArray⟩) := Q1.out.a.cell 1 _ rfl
  have p0 : w1.cell? ⟨p, 0, none⟩ = some (.slice av xs.length cv) := P1.out.box.cell 0 _ rfl
  by_cases k1 : K0 = 1
  · have b1 : (K0 == 1) = true := beq_yes k1
    obtain rfl : RES = xs := by rw [HRES.out, if_pos (.inl k1)]
    clear k1
    go_enter Tryz.func66, Tryz.ntmps66
    go_upto_region 1 with fail
    try rw [hq, hw1]
    clear hw1 hq
    go_wp2_with fail
    refine bodyPost_ret (results_none rfl _ _ _) rfl ?_
    exact ⟨rfl, ⟨_, P1.out⟩, W1.out, Q1.out.b⟩
  by_cases k6 : K0 = 6
  · have b1 : (K0 == 1) = false := beq_no k1
    have b6 : (K0 == 6) = true := beq_yes k6
    obtain rfl : RES = xs := by rw [HRES.out, if_pos (.inr k6)]
    clear k1 k6
    go_enter Tryz.func66, Tryz.ntmps66
    go_upto_region 1 with fail
    try rw [hq, hw1]
    clear hw1 hq
    go_wp2_with fail
    refine bodyPost_ret (results_none rfl _ _ _) rfl ?_
    exact ⟨rfl, ⟨_, P1.out⟩, W1.out, Q1.out.b⟩
  have b1 : (K0 == 1) = false := beq_no k1
  have b6 : (K0 == 6) = false := beq_no k6
  replace HRES := Lib.hid (show RES = _ by rw [HRES.out, if_neg (by rintro (h | h); exact k1 h; exact k6 h)])
  clear k1 k6
  have CI := Lib.hid (idx_need xs (fun n => n.1 == T) 89 #[.pointer (some ⟨q, 0, none⟩)] add1_at (.slice av xs.length cv) w1 (needs_of_row P1.out.row) (Lib.hid fun y _ wx hbx => add1_any y q T wx (cell_keep q1 hbx)))
  have HI := Lib.hid (show fstV xs (fun n => n.1 == T) = if xs.findIdx (fun n => n.1 == T) < xs.length then (xs.findIdx (fun n => n.1 == T) : Int) else -1 from rfl)
  have HG := Lib.hid (show grownN xs T = if xs.findIdx (fun n => n.1 == T) < xs.length then xs else xs ++ [(T, false, false)] from rfl)
  have HGI := Lib.hid (grownN_idx xs T)
  have HLE := Lib.hid (List.findIdx_le_length (xs := xs) (p := fun n => n.1 == T))
  generalize fstV xs (fun n => n.1 == T) = IV at *
  generalize xs.findIdx (fun n => n.1 == T) = IX at *
  go_enter Tryz.func66, Tryz.ntmps66
  go_upto_region 1 with fail
  try rw [hq, hw1]
  clear hw1 hq
  go_wp2_with fail
  refine CI.out.mono ?_
  rintro e w2 ⟨rfl, hb⟩
  have P2 := Lib.hid (P1.out.below hb)
  have Q2 := Lib.hid (Q1.out.below hb)
  have W2 := Lib.hid (W1.out.trans (hb.mono hB1))
  have hB2 : B ≤ w2.heap.size := Nat.le_trans hB1 hb.size
  clear hb CI P1 Q1 W1 q0 q1 p0 hB1
  go_upto_if 20 with fail
  go_cut [4] from 20 to 34 (fun s4 wx => ∃ g cap ys, s4 = .int .i64 (IX : Int) ∧ ys = grownN xs T ∧ g ≠ q ∧ g ≠ k ∧ Hid (NI B p (.slice (some ⟨g, 0, none⟩) ys.length cap) ys wx) ∧ Hid (Bx2 k us wx q #[.int .i64 K0, .string ⟨T.toArray⟩, .int .i64 O0, .slice a n c]) ∧ Hid (Below B W0 wx))
  case first =>
    by_cases hlt : IX < xs.length
    · obtain rfl : IV = (IX : Int) := by rw [HI.out, if_pos hlt]
      have d1 : decide ((IX : Int) < 0) = false := dec_no (by omega)
      rw [d1]
      obtain ⟨g, cap, e⟩ := nrow_some P2.out.row (by omega)
      injection e with e1 _ e3
      subst e1 e3
      have HGG := Lib.hid (show xs = grownN xs T by rw [HG.out, if_pos hlt])
      clear hlt
      go_wp2_with fail
      go_meet
      exact ⟨g, cv, xs, rfl, HGG.out, fun e => HQ.out (by rw [← e]; rfl), fun e => HKV.out (by rw [← e]; rfl), P2, Q2, W2⟩
    · obtain rfl : IV = -1 := by rw [HI.out, if_neg hlt]
      have HGN := Lib.hid (show grownN xs T = xs ++ [(T, false, false)] by rw [HG.out, if_neg hlt])
      have HIX := Lib.hid (show (IX : Int) = (xs.length : Int) by have := HLE.out; omega)
      have p0 : w2.cell? ⟨p, 0, none⟩ = some (.slice av xs.length cv) := P2.out.box.cell 0 _ rfl
      clear hlt
      rw [show decide ((-1 : Int) < 0) = true from rfl]
      go_wp2_with fail
      have P := Lib.hid (show NI B p (.slice av xs.length cv) xs w2 ∧ Below B W0 w2 ∧ B ≤ w2.heap.size ∧ Bx2 k us w2 q #[.int .i64 K0, .string ⟨T.toArray⟩, .int .i64 O0, .slice a n c] from ⟨P2.out, W2.out, hB2, Q2.out⟩)
      refine wp_region_held_drew (S := fun w' => w'.cell? ⟨q, 1, none⟩ = some (.string ⟨T.toArray⟩)) (by kernel_rfl) (by exact Q2.out.a.cell 1 _ rfl) (fun hHeld => ?_)
      replace P := Lib.hid (show NI B p (.slice av xs.length cv) xs (World.drew w2) ∧ Below B W0 (World.drew w2) ∧ B ≤ (World.drew w2).heap.size ∧ Bx2 k us (World.drew w2) q #[.int .i64 K0, .string ⟨T.toArray⟩, .int .i64 O0, .slice a n c] from ⟨P.out.1.below (Below.drew (Below.refl _ _)), Below.drew P.out.2.1, P.out.2.2.1, P.out.2.2.2.drew⟩)
      clear P2 W2 Q2
      generalize World.drew w2 = w3 at *
      refine take_run (d := some 25) (v := ?v1) 0 rfl rfl (by kernel_rfl) (by kernel_rfl) (by kernel_rfl) (fun _ _ _ h => h) (by rfl) hHeld ?hy1 ?rs1
      case hy1 => (intro w hSw; (try dsimp only at hSw); go_simp) <;> (try with_reducible rfl)
      (try simp only [Act.put, List.setIfInBounds_toArray, List.set_cons_zero, List.set_cons_succ])
      refine take_run (d := some 26) (v := ?v2) 1 rfl rfl (by kernel_rfl) (by kernel_rfl) (by kernel_rfl) (fun _ _ _ h => h) (by rfl) hHeld ?hy2 ?rs2
      case hy2 => (intro w hSw; (try dsimp only at hSw); go_simp) <;> (try with_reducible rfl)
      (try simp only [Act.put, List.setIfInBounds_toArray, List.set_cons_zero, List.set_cons_succ])
      refine take_run (d := some 27) (v := ?v3) 2 rfl rfl (by kernel_rfl) (by kernel_rfl) (by kernel_rfl) (fun _ _ _ h => h) (by rfl) hHeld ?hy3 ?rs3
      case hy3 => (intro w hSw; (try dsimp only at hSw); go_simp) <;> (try with_reducible rfl)
      (try simp only [Act.put, List.setIfInBounds_toArray, List.set_cons_zero, List.set_cons_succ])
      refine take_run (d := some 29) (v := ?v4) 4 rfl rfl (by kernel_rfl) (by kernel_rfl) (by kernel_rfl) (fun _ _ _ h => h) (by rfl) hHeld ?hy4 ?rs4
      case hy4 => (intro w hSw; (try dsimp only at hSw); go_simp) <;> (try with_reducible rfl)
      (try simp only [Act.put, List.setIfInBounds_toArray, List.set_cons_zero, List.set_cons_succ])
      refine take_run (d := some 30) (v := ?v5) 5 rfl rfl (by kernel_rfl) (by kernel_rfl) (by kernel_rfl) (fun _ _ _ h => h) (by rfl) hHeld ?hy5 ?rs5
      case hy5 => (intro w hSw; (try dsimp only at hSw); go_simp) <;> (try with_reducible rfl)
      (try simp only [Act.put, List.setIfInBounds_toArray, List.set_cons_zero, List.set_cons_succ])
      refine take_run (d := some 31) (v := ?v6) 6 rfl rfl (by kernel_rfl) (by kernel_rfl) (by kernel_rfl) (fun _ _ _ h => h) (by rfl) hHeld ?hy6 ?rs6
      case hy6 => (intro w hSw; (try dsimp only at hSw); go_simp) <;> (try with_reducible rfl)
      (try simp only [Act.put, List.setIfInBounds_toArray, List.set_cons_zero, List.set_cons_succ])
      refine take_two 3 7 rfl rfl (by kernel_rfl) (by rfl) (by rfl) (fun K hK => ?_) (fun K hK => ?_)
      · have k3 : World.cell? _ ⟨p, 0, none⟩ = some (.slice av xs.length cv) := P.out.1.box.cell 0 _ rfl
        go_simp
        clear k3
        refine hK.out _ _ (hHeld) (fun hHeld => ?_)
        clear hK K
        (try simp only [Act.put, List.setIfInBounds_toArray, List.set_cons_zero, List.set_cons_succ])
        refine take_call 7 rfl (by kernel_rfl) (by rfl) (fun K hK => ?_)
        go_simp
        refine hK.out _ _ (cell_keep hHeld (blw_alloc _ _)) (fun hHeld => ?_)
        clear hK K
        (try simp only [Act.put, List.setIfInBounds_toArray, List.set_cons_zero, List.set_cons_succ])
        have BN := Lib.hid (Boxed.made w3 #[.string ⟨T.toArray⟩, .bool false, .bool false] 57)
        replace P := Lib.hid (show NI B p (.slice av xs.length cv) xs (w3.alloc (.cells #[.string ⟨T.toArray⟩, .bool false, .bool false] 57)) ∧ Below B W0 (w3.alloc (.cells #[.string ⟨T.toArray⟩, .bool false, .bool false] 57)) ∧ B ≤ (w3.alloc (.cells #[.string ⟨T.toArray⟩, .bool false, .bool false] 57)).heap.size ∧ Bx2 k us (w3.alloc (.cells #[.string ⟨T.toArray⟩, .bool false, .bool false] 57)) q #[.int .i64 K0, .string ⟨T.toArray⟩, .int .i64 O0, .slice a n c] from ⟨P.out.1.below (blw_alloc _ _), P.out.2.1.alloc P.out.2.2.1 _, by have := P.out.2.2.1; simp; omega, P.out.2.2.2.alloc _⟩)
        generalize w3.heap.size = qn at *
        generalize World.alloc w3 (.cells #[.string ⟨T.toArray⟩, .bool false, .bool false] 57) = w5 at *
        refine take_call 8 rfl (by kernel_rfl) (by rfl) (fun K hK => ?_)
        refine wp_nappend _ _ _ 53 rfl B 57 iN _ 3 24 Tryz.underlying53 hiN hN0 hN1 hN2 rfl (by decide) (.slice av xs.length cv) xs.length (nflat xs) (by simp [go_sem]) P.out.1.row ⟨qn, 0, none⟩ 1 1 [.string ⟨T.toArray⟩, .bool false, .bool false] (by simp [go_sem]) rfl (nboxed_add BN.out) (fun u hu => by simp at hu; rcases hu with rfl | rfl | rfl <;> rfl) (by unfold maxLen; omega) (by omega) P.out.2.2.1 ?_
        intro v' w6 hown hgrow hat
        obtain ⟨g', cap', rfl⟩ := nrow_some hown (by omega)
        have hgq' : g' ≠ q := fun e' => hat.elim (fun e => HQ.out (by rw [← e, ← e']; rfl)) (fun e => by have hlq := P.out.2.2.2.a.lt; have e2 : some g' = some _ := e; injection e2 with e2; omega)
        have hgk' : g' ≠ k := fun e' => hat.elim (fun e => HKV.out (by rw [← e, ← e']; rfl)) (fun e => by have hlq := P.out.2.2.2.b.lt; have e2 : some g' = some _ := e; injection e2 with e2; omega)
        have hbq := P.out.1.row.lt
        have hqr : ∀ j, (Value.slice av xs.length cv).ownBlock = some j → B ≤ j ∧ j ≠ q ∧ j ≠ k := fun j hj => ⟨(hbq j hj).1, fun e => HQ.out (by rw [hj, e]), fun e => HKV.out (by rw [hj, e])⟩
        have QS := Lib.hid (P.out.1.stored (ys := xs ++ [(T, false, false)]) hgrow hat (by rw [List.length_append, nflat_add]; exact hown))
        have W6 := Lib.hid (P.out.2.1.grown hgrow P.out.2.2.1 (fun j hj => (hqr j hj).1))
        have Q6 := Lib.hid (P.out.2.2.2.grown hgrow (fun e => (hqr q e.symm).2.1 rfl) (fun e => (hqr k e.symm).2.2 rfl))
        have hHeld2 := Q6.out.a.cell 1 _ rfl
        clear hown hgrow hat hbq hqr P BN
        refine hK.out _ _ (hHeld2) (fun hHeld => ?_)
        clear hK K
        (try simp only [Act.put, List.setIfInBounds_toArray, List.set_cons_zero, List.set_cons_succ])
        clear hHeld2
        refine take_run (d := some 34) (v := ?v7) 9 rfl rfl (by kernel_rfl) (by kernel_rfl) (by kernel_rfl) (fun _ _ _ h => h) (by rfl) hHeld ?hy7 ?rs7
        case hy7 => (intro w hSw; (try dsimp only at hSw); go_simp) <;> (try with_reducible rfl)
        (try simp only [Act.put, List.setIfInBounds_toArray, List.set_cons_zero, List.set_cons_succ])
        refine take_call 10 rfl (by kernel_rfl) (by rfl) (fun K hK => ?_)
        have k3 := QS.out.2.cell 0 _ rfl
        have z3 := QS.out.2.free 0 (by show 0 < 1; omega)
        have hlt := QS.out.2.lt
        go_simp
        clear k3 z3 hlt
        refine hK.out _ _ ((Q6.out.far (p' := p) hqp.symm HKP.out.symm 0 _).a.cell 1 _ rfl) (fun hHeld => ?_)
        clear hK K
        (try simp only [Act.put, List.setIfInBounds_toArray, List.set_cons_zero, List.set_cons_succ])
        refine wpAnyH_done (by kernel_rfl) ?_ _
        clear hHeld
        have FIN := Lib.hid (show NI B p (.slice (some ⟨g', 0, none⟩) (xs.length + 1) cap') (xs ++ [(T, false, false)]) (w6.setCell ⟨p, 0, none⟩ (.slice (some ⟨g', 0, none⟩) (xs.length + 1) cap')) ∧ Below B W0 (w6.setCell ⟨p, 0, none⟩ (.slice (some ⟨g', 0, none⟩) (xs.length + 1) cap')) ∧ Bx2 k us (w6.setCell ⟨p, 0, none⟩ (.slice (some ⟨g', 0, none⟩) (xs.length + 1) cap')) q #[.int .i64 K0, .string ⟨T.toArray⟩, .int .i64 O0, .slice a n c] from ⟨QS.out.1, W6.out.setCell (p := ⟨p, 0, none⟩) hpB _, Q6.out.far (p' := p) hqp.symm HKP.out.symm 0 _⟩)
        clear QS W6 Q6
        generalize World.setCell w6 _ _ = w7 at *
        go_wp2_with fail
        go_meet
        exact ⟨g', cap', xs ++ [(T, false, false)], by rw [HIX.out], by rw [HGN.out], hgq', hgk', Lib.hid (by rw [List.length_append]; exact FIN.out.1), Lib.hid FIN.out.2.2, Lib.hid FIN.out.2.1⟩
      · go_simp
        refine hK.out _ _ (cell_keep hHeld (blw_alloc _ _)) (fun hHeld => ?_)
        clear hK K
        (try simp only [Act.put, List.setIfInBounds_toArray, List.set_cons_zero, List.set_cons_succ])
        have BN := Lib.hid (Boxed.made w3 #[.string ⟨T.toArray⟩, .bool false, .bool false] 57)
        replace P := Lib.hid (show NI B p (.slice av xs.length cv) xs (w3.alloc (.cells #[.string ⟨T.toArray⟩, .bool false, .bool false] 57)) ∧ Below B W0 (w3.alloc (.cells #[.string ⟨T.toArray⟩, .bool false, .bool false] 57)) ∧ B ≤ (w3.alloc (.cells #[.string ⟨T.toArray⟩, .bool false, .bool false] 57)).heap.size ∧ Bx2 k us (w3.alloc (.cells #[.string ⟨T.toArray⟩, .bool false, .bool false] 57)) q #[.int .i64 K0, .string ⟨T.toArray⟩, .int .i64 O0, .slice a n c] from ⟨P.out.1.below (blw_alloc _ _), P.out.2.1.alloc P.out.2.2.1 _, by have := P.out.2.2.1; simp; omega, P.out.2.2.2.alloc _⟩)
        generalize w3.heap.size = qn at *
        generalize World.alloc w3 (.cells #[.string ⟨T.toArray⟩, .bool false, .bool false] 57) = w5 at *
        refine take_call 3 rfl (by kernel_rfl) (by rfl) (fun K hK => ?_)
        have k3 : World.cell? _ ⟨p, 0, none⟩ = some (.slice av xs.length cv) := P.out.1.box.cell 0 _ rfl
        go_simp
        clear k3
        refine hK.out _ _ (hHeld) (fun hHeld => ?_)
        clear hK K
        (try simp only [Act.put, List.setIfInBounds_toArray, List.set_cons_zero, List.set_cons_succ])
        refine take_call 8 rfl (by kernel_rfl) (by rfl) (fun K hK => ?_)
        refine wp_nappend _ _ _ 53 rfl B 57 iN _ 3 24 Tryz.underlying53 hiN hN0 hN1 hN2 rfl (by decide) (.slice av xs.length cv) xs.length (nflat xs) (by simp [go_sem]) P.out.1.row ⟨qn, 0, none⟩ 1 1 [.string ⟨T.toArray⟩, .bool false, .bool false] (by simp [go_sem]) rfl (nboxed_add BN.out) (fun u hu => by simp at hu; rcases hu with rfl | rfl | rfl <;> rfl) (by unfold maxLen; omega) (by omega) P.out.2.2.1 ?_
        intro v' w6 hown hgrow hat
        obtain ⟨g', cap', rfl⟩ := nrow_some hown (by omega)
        have hgq' : g' ≠ q := fun e' => hat.elim (fun e => HQ.out (by rw [← e, ← e']; rfl)) (fun e => by have hlq := P.out.2.2.2.a.lt; have e2 : some g' = some _ := e; injection e2 with e2; omega)
        have hgk' : g' ≠ k := fun e' => hat.elim (fun e => HKV.out (by rw [← e, ← e']; rfl)) (fun e => by have hlq := P.out.2.2.2.b.lt; have e2 : some g' = some _ := e; injection e2 with e2; omega)
        have hbq := P.out.1.row.lt
        have hqr : ∀ j, (Value.slice av xs.length cv).ownBlock = some j → B ≤ j ∧ j ≠ q ∧ j ≠ k := fun j hj => ⟨(hbq j hj).1, fun e => HQ.out (by rw [hj, e]), fun e => HKV.out (by rw [hj, e])⟩
        have QS := Lib.hid (P.out.1.stored (ys := xs ++ [(T, false, false)]) hgrow hat (by rw [List.length_append, nflat_add]; exact hown))
        have W6 := Lib.hid (P.out.2.1.grown hgrow P.out.2.2.1 (fun j hj => (hqr j hj).1))
        have Q6 := Lib.hid (P.out.2.2.2.grown hgrow (fun e => (hqr q e.symm).2.1 rfl) (fun e => (hqr k e.symm).2.2 rfl))
        have hHeld2 := Q6.out.a.cell 1 _ rfl
        clear hown hgrow hat hbq hqr P BN
        refine hK.out _ _ (hHeld2) (fun hHeld => ?_)
        clear hK K
        (try simp only [Act.put, List.setIfInBounds_toArray, List.set_cons_zero, List.set_cons_succ])
        clear hHeld2
        refine take_run (d := some 34) (v := ?v8) 9 rfl rfl (by kernel_rfl) (by kernel_rfl) (by kernel_rfl) (fun _ _ _ h => h) (by rfl) hHeld ?hy8 ?rs8
        case hy8 => (intro w hSw; (try dsimp only at hSw); go_simp) <;> (try with_reducible rfl)
        (try simp only [Act.put, List.setIfInBounds_toArray, List.set_cons_zero, List.set_cons_succ])
        refine take_call 10 rfl (by kernel_rfl) (by rfl) (fun K hK => ?_)
        have k3 := QS.out.2.cell 0 _ rfl
        have z3 := QS.out.2.free 0 (by show 0 < 1; omega)
        have hlt := QS.out.2.lt
        go_simp
        clear k3 z3 hlt
        refine hK.out _ _ ((Q6.out.far (p' := p) hqp.symm HKP.out.symm 0 _).a.cell 1 _ rfl) (fun hHeld => ?_)
        clear hK K
        (try simp only [Act.put, List.setIfInBounds_toArray, List.set_cons_zero, List.set_cons_succ])
        refine wpAnyH_done (by kernel_rfl) ?_ _
        clear hHeld
        have FIN := Lib.hid (show NI B p (.slice (some ⟨g', 0, none⟩) (xs.length + 1) cap') (xs ++ [(T, false, false)]) (w6.setCell ⟨p, 0, none⟩ (.slice (some ⟨g', 0, none⟩) (xs.length + 1) cap')) ∧ Below B W0 (w6.setCell ⟨p, 0, none⟩ (.slice (some ⟨g', 0, none⟩) (xs.length + 1) cap')) ∧ Bx2 k us (w6.setCell ⟨p, 0, none⟩ (.slice (some ⟨g', 0, none⟩) (xs.length + 1) cap')) q #[.int .i64 K0, .string ⟨T.toArray⟩, .int .i64 O0, .slice a n c] from ⟨QS.out.1, W6.out.setCell (p := ⟨p, 0, none⟩) hpB _, Q6.out.far (p' := p) hqp.symm HKP.out.symm 0 _⟩)
        clear QS W6 Q6
        generalize World.setCell w6 _ _ = w7 at *
        go_wp2_with fail
        go_meet
        exact ⟨g', cap', xs ++ [(T, false, false)], by rw [HIX.out], by rw [HGN.out], hgq', hgk', Lib.hid (by rw [List.length_append]; exact FIN.out.1), Lib.hid FIN.out.2.2, Lib.hid FIN.out.2.1⟩
  case rest =>
    obtain ⟨g, cap, ys, rfl, hys, hgq, hgk, P3, Q3, W3⟩ := hcut
    have HYS := Lib.hid hys
    obtain ⟨hix, _, nd, hnd⟩ := HGI.out
    rw [← hys] at hix hnd
    replace HRES := Lib.hid (show RES = ys.modify IX (orN (decide (K0 = 3) || decide (K0 = 4)) (decide (K0 = 5))) by rw [HRES.out, hys])
    have hq3 := nflat_at hnd
    obtain ⟨t0, nb, tb⟩ := nd
    have c1 : wc.cell? ⟨g, IX * 3 + 1, none⟩ = some (.bool nb) := nrow_cells P3.out.row hq3.2.1
    have c2 : wc.cell? ⟨g, IX * 3 + 2, none⟩ = some (.bool tb) := nrow_cells P3.out.row hq3.2.2
    have f1 := P3.out.row.frozenAt (IX * 3 + 1)
    have f2 := P3.out.row.frozenAt (IX * 3 + 2)
    have hcap : ys.length ≤ cap := by
      rcases P3.out.row.2 with ⟨e, _⟩ | ⟨_, _, _, e, _, _, h, _⟩
      · cases e
      · injection e with _ _ e; omega
    have g0 : wc.cell? ⟨q, 0, none⟩ = some (.int .i64 K0) := Q3.out.a.cell 0 _ rfl
    have p0 : wc.cell? ⟨p, 0, none⟩ = some (.slice (some ⟨g, 0, none⟩) ys.length cap) := P3.out.box.cell 0 _ rfl
    have hgB := (P3.out.row.lt g rfl).1
    have HND := Lib.hid hnd
    have hi0 : (0 : Int) ≤ (IX : Int) := by omega
    have hi1 : (IX : Int) < (ys.length : Int) := by omega
    clear hys hq3 HYS HGI HG HI HLE hnd HQ P2 Q2 W2
    have FO := Lib.hid fun a b => P3.out.ored HND.out a b
    generalize ys.length = N at *
    by_cases k3 : K0 = 3
    · subst k3
      replace HRES := Lib.hid (show RES = ys.modify IX (orN true false) from HRES.out)
      cases nb <;> cases tb <;> (go_wp2_with fail) <;> go_end0 <;> exact ⟨rfl, ⟨_, by rw [HRES.out]; exact FO.out true false⟩, (W3.out.setCell (p := ⟨g, IX * 3 + 1, none⟩) hgB _).setCell (p := ⟨g, IX * 3 + 2, none⟩) hgB _, (Q3.out.b.far hgk _ _).far hgk _ _⟩
    by_cases k4 : K0 = 4
    · subst k4
      replace HRES := Lib.hid (show RES = ys.modify IX (orN true false) from HRES.out)
      cases nb <;> cases tb <;> (go_wp2_with fail) <;> go_end0 <;> exact ⟨rfl, ⟨_, by rw [HRES.out]; exact FO.out true false⟩, (W3.out.setCell (p := ⟨g, IX * 3 + 1, none⟩) hgB _).setCell (p := ⟨g, IX * 3 + 2, none⟩) hgB _, (Q3.out.b.far hgk _ _).far hgk _ _⟩
    by_cases k5 : K0 = 5
    · subst k5
      replace HRES := Lib.hid (show RES = ys.modify IX (orN false true) from HRES.out)
      cases nb <;> cases tb <;> (go_wp2_with fail) <;> go_end0 <;> exact ⟨rfl, ⟨_, by rw [HRES.out]; exact FO.out false true⟩, (W3.out.setCell (p := ⟨g, IX * 3 + 1, none⟩) hgB _).setCell (p := ⟨g, IX * 3 + 2, none⟩) hgB _, (Q3.out.b.far hgk _ _).far hgk _ _⟩
    replace HRES := Lib.hid (show RES = ys.modify IX (orN false false) by rw [HRES.out, dec_no k3, dec_no k4, dec_no k5]; rfl)
    have b3 : (K0 == 3) = false := beq_no k3
    have b4 : (K0 == 4) = false := beq_no k4
    have b5 : (K0 == 5) = false := beq_no k5
    clear k3 k4 k5
    cases nb <;> cases tb <;> (go_wp2_with fail) <;> go_end0 <;> exact ⟨rfl, ⟨_, by rw [HRES.out]; exact FO.out false false⟩, (W3.out.setCell (p := ⟨g, IX * 3 + 1, none⟩) hgB _).setCell (p := ⟨g, IX * 3 + 2, none⟩) hgB _, (Q3.out.b.far hgk _ _).far hgk _ _⟩
end Go.Proofs.YtainindkndjkbaaGreatDoor
namespace Go.Proofs.YtainindkndjkbaaGreatDoor
open Go.RowKit Ms

theorem allN_step (f : Nat) {m : List Nd} {i : Nat} {x : Nd} (h : m[i]? = some x) (l : List Need) : allN (f + 1) l (m.drop i) = allN (f + 1) (goN (allN f) (addN l x) ((casesOf x).map (·.2))) (m.drop (i + 1)) := by
  obtain ⟨hi, e⟩ := List.getElem?_eq_some_iff.1 h
  rw [List.drop_eq_getElem_cons hi, e]
  rfl
theorem cnt_step (f : Nat) {m : List Nd} {i : Nat} {x : Nd} (h : m[i]? = some x) : cnt (f + 1) (m.drop i) = 1 + (((casesOf x).map (·.2)).map (cnt f)).sum + cnt (f + 1) (m.drop (i + 1)) := by
  obtain ⟨hi, e⟩ := List.getElem?_eq_some_iff.1 h
  rw [List.drop_eq_getElem_cons hi, e, List.map_map]
  simp [cnt, Function.comp_def]

set_option maxRecDepth 100000 in
set_option maxHeartbeats 4000000 in
theorem nall_any (f : Nat) : ∀ (v : Value) (m : List Nd) (W0 w : World) (p : Nat) (u : Value) (xs : List Need), MsgAt f W0 v m → m.length ≤ 2000000 → NI W0.heap.size p u xs w → Below W0.heap.size W0 w → xs.length + cnt f m ≤ 1000000 →
    Calls Tryz.prog 47 #[.pointer (some ⟨p, 0, none⟩), v] w fun e w' => e = .returned (.tuple #[]) ∧ (∃ u', NI W0.heap.size p u' (allN f xs m) w') ∧ Below W0.heap.size W0 w' := by
  induction f with
  | zero =>
    intro v m W0 w p u xs h hl hP hb hc
    rcases h with ⟨rfl, A, cap, rfl⟩ | ⟨b, off, cap, _, hpos, _, _, hx⟩
    · rw [show allN 0 xs [] = xs from rfl]
      go_enter Tryz.func47, Tryz.ntmps47
      go_wp2_with fail
      go_loopw [10] (fun vi wr => vi = .int .i64 0 ∧ w = wr) (fun _ _ => 0)
      case atStart => exact ⟨rfl, rfl⟩
      case round =>
        obtain ⟨rfl, rfl⟩ := hrel
        go_wp2_with fail
        go_end0
        exact ⟨rfl, ⟨_, hP⟩, hb⟩
    · exact absurd (hx 0 _ (List.getElem?_eq_getElem hpos)) (by simp [NdC])
  | succ f ih =>
    intro v m W0 w p u xs h hl hP hb hc
    have IH := Lib.hid ih
    have AL := Lib.hid (allN_len f)
    obtain ⟨RES, hRES⟩ : ∃ RES, RES = allN (f + 1) xs m := ⟨_, rfl⟩
    rw [← hRES]
    have HRES := Lib.hid (show allN (f + 1) xs (m.drop 0) = RES by rw [List.drop_zero, hRES])
    have HCN := Lib.hid (show xs.length + cnt (f + 1) (m.drop 0) ≤ 1000000 by rw [List.drop_zero]; exact hc)
    clear hRES ih hc
    obtain ⟨A, cap, rfl, _, hel⟩ := h.spread
    have hcap : m.length ≤ cap ∨ m.length = 0 := by
      rcases h with ⟨e, _⟩ | ⟨_, _, _, e, _, q, _, _⟩
      · exact .inr (by rw [e]; rfl)
      · injection e with _ _ e; exact .inl (by omega)
    have HX := Lib.hid hel
    clear hel h
    have HP0 := Lib.hid (show ∃ u, NI W0.heap.size p u xs w from ⟨u, hP⟩)
    have HB0 := Lib.hid hb
    clear hP hb
    generalize hlm : m.length = L at *
    go_enter Tryz.func47, Tryz.ntmps47
    go_wp2_with fail
    go_loopw [10] (fun vi wr => ∃ (i : Nat) (ys : List Need), vi = .int .i64 (i : Int) ∧ i ≤ L ∧ Hid (∃ u, NI W0.heap.size p u ys wr) ∧ Hid (allN (f + 1) ys (m.drop i) = RES) ∧ Hid (ys.length + cnt (f + 1) (m.drop i) ≤ 1000000) ∧ Hid (Below W0.heap.size W0 wr)) (fun vi _ => L - (RowKit.intOf vi).toNat)
    case atStart => exact ⟨0, xs, rfl, Nat.zero_le _, HP0, HRES, HCN, HB0⟩
    case round =>
      obtain ⟨i, ys, rfl, hi, HP, HL, HC, HB⟩ := hrel
      clear HP0 HRES HCN HB0
      by_cases hlt : i < L
      · have hi' : (i : Int) < (L : Int) := by omega
        have hcc : L ≤ cap := by omega
        obtain ⟨x, hxi⟩ : ∃ x, m[i]? = some x := ⟨m[i]'(by omega), List.getElem?_eq_getElem (by omega)⟩
        obtain ⟨b, off, rfl, hnd⟩ := HX.out i x hxi
        obtain ⟨a0, n0, c0, p0, p1, p2, p3, p4, p5, p6⟩ := hnd
        have g0 := cell_keep p0 HB.out
        have g1 := cell_keep p1 HB.out
        have g2 := cell_keep p2 HB.out
        have g3 := cell_keep p3 HB.out
        have lb := World.block_lt_of_cell? _ _ g0
        have HL2 := Lib.hid ((allN_step f hxi ys).symm.trans HL.out)
        have HC2 := Lib.hid (show ys.length + (1 + (((casesOf x).map (·.2)).map (cnt f)).sum + cnt (f + 1) (m.drop (i + 1))) ≤ 1000000 by have := HC.out; rw [cnt_step f hxi] at this; exact this)
        have wi : IntKind.i64.wrap ((i : Int) + 1) = (i : Int) + 1 := IntWalk.i64_in _ (by omega)
        have HB1 := Lib.hid (HB.out.alloc (HB.out.size) (.cells #[.int .i64 x.kind, .string ⟨x.text.toArray⟩, .int .i64 x.off, .slice a0 n0 c0] 60))
        have XB := Lib.hid (Boxed.made wr #[.int .i64 x.kind, .string ⟨x.text.toArray⟩, .int .i64 x.off, .slice a0 n0 c0] 60)
        obtain ⟨u, hu⟩ := HP.out
        have CA := Lib.hid (nadd_any x a0 n0 c0 W0 _ p u ys wr.heap.size _ (hu.below (blw_alloc wr _)) HB1.out (by have := HC.out; omega) XB.out (fun e => by have := hu.box.lt; omega) (fun e => by have := (hu.row.lt _ e).2; omega))
        have HAL := Lib.hid (show (addN ys x).length ≤ ys.length + 1 from addN_len ys x)
        have h4 : CassAt f W0 (.slice a0 n0 c0) x.cases := p4
        have CC := Lib.hid fun (wx : World) (hb : Below W0.heap.size W0 wx) => mcases_to (f := f) x wx (cass_below h4 hb)
        have H4 := Lib.hid h4
        have lcs : (casesOf x).length ≤ 2000000 := by
          unfold casesOf; split
          · exact p6
          · simp
        generalize addN ys x = zs at *
        clear HL HC p0 p1 p2 p3 p4 p5 p6 h4 hxi hu HP XB
        go_wp2_with fail
        refine CA.out.mono ?_
        rintro e w1 ⟨rfl, hni, hb, hbx⟩
        have P1 := Lib.hid hni
        have W1 := Lib.hid hb
        have x0 : w1.cell? ⟨wr.heap.size, 0, none⟩ = some (.int .i64 x.kind) := hbx.cell 0 _ rfl
        have x1 : w1.cell? ⟨wr.heap.size, 1, none⟩ = some (.string ⟨x.text.toArray⟩) := hbx.cell 1 _ rfl
        have x2 : w1.cell? ⟨wr.heap.size, 2, none⟩ = some (.int .i64 x.off) := hbx.cell 2 _ rfl
        have x3 : w1.cell? ⟨wr.heap.size, 3, none⟩ = some (.slice a0 n0 c0) := hbx.cell 3 _ rfl
        have xl := hbx.lt
        clear hni hb hbx CA g0 g1 g2 g3 lb HB1 HB
        go_wp2_with fail
        refine (CC.out w1 W1.out).mono ?_
        rintro e w2 ⟨A1, C1, rfl, hto, hb⟩
        have P2 := Lib.hid (P1.out.elim fun u h => (show ∃ u, NI W0.heap.size p u zs w2 from ⟨u, h.below hb⟩))
        have W2 := Lib.hid (W1.out.trans (hb.mono W1.out.size))
        have HCS := hto W0 H4.out
        clear hto hb CC P1 W1 H4 x0 x1 x2 x3 xl
        generalize casesOf x = cs at *
        obtain ⟨A2, C2, e2, _, hel⟩ := HCS.spread
        injection e2 with e3 e4 e5
        subst e3 e5
        have hcapc : cs.length ≤ C1 ∨ cs.length = 0 := by
          rcases HCS with ⟨e, _⟩ | ⟨_, _, _, e, _, q, _, _⟩
          · exact .inr (by rw [e]; rfl)
          · injection e with _ _ e; exact .inl (by omega)
        have HEL := Lib.hid hel
        clear hel HCS
        have HL3 := Lib.hid (show allN (f + 1) (goN (allN f) zs ((cs.drop 0).map (·.2))) (m.drop (i + 1)) = RES by rw [List.drop_zero]; exact HL2.out)
        have HC3 := Lib.hid (show zs.length + ((((cs.drop 0).map (·.2)).map (cnt f)).sum + cnt (f + 1) (m.drop (i + 1))) ≤ 1000000 by rw [List.drop_zero]; have := HC2.out; have := HAL.out; omega)
        have HCSL := Lib.hid (rfl : cs.length = cs.length)
        clear HL2 HC2 HAL
        generalize hlc : cs.length = LC at *
        go_wp2_with fail
        go_loopw [20] (fun vk wx => ∃ (k : Nat) (ts : List Need), vk = .int .i64 (k : Int) ∧ k ≤ LC ∧ Hid (∃ u, NI W0.heap.size p u ts wx) ∧ Hid (allN (f + 1) (goN (allN f) ts ((cs.drop k).map (·.2))) (m.drop (i + 1)) = RES) ∧ Hid (ts.length + ((((cs.drop k).map (·.2)).map (cnt f)).sum + cnt (f + 1) (m.drop (i + 1))) ≤ 1000000) ∧ Hid (Below W0.heap.size W0 wx)) (fun vk _ => LC - (RowKit.intOf vk).toNat)
        case atStart => exact ⟨0, zs, rfl, Nat.zero_le _, P2, HL3, HC3, W2⟩
        case round =>
          obtain ⟨k, ts, rfl, hk, HP, HL, HC, HB⟩ := hrel
          clear P2 HL3 HC3 W2
          by_cases hltk : k < LC
          · have hk' : (k : Int) < (LC : Int) := by omega
            have hccc : LC ≤ C1 := by omega
            obtain ⟨y, hyk⟩ : ∃ y, cs[k]? = some y := ⟨cs[k]'(by omega), List.getElem?_eq_getElem (by omega)⟩
            obtain ⟨bb, oo, rfl, a9, n9, c9, q0, q1, q2, q3, q4⟩ := HEL.out k y hyk
            have j0 := cell_keep q0 HB.out
            have j1 := cell_keep q1 HB.out
            have lb := World.block_lt_of_cell? _ _ j0
            have hst := HL.out
            have hct := HC.out
            rw [cases_step hyk] at hst hct
            rw [List.map_cons, List.sum_cons] at hct
            have wk : IntKind.i64.wrap ((k : Int) + 1) = (k : Int) + 1 := IntWalk.i64_in _ (by omega)
            obtain ⟨u, hu⟩ := HP.out
            have CR := Lib.hid (IH.out (.slice a9 n9 c9) y.2 W0 _ p u ts q2 q4 (hu.below (blw_alloc wr (.cells #[.string ⟨y.1.toArray⟩, .slice a9 n9 c9] 62))) (HB.out.alloc HB.out.size _) (by omega))
            have HAL := AL.out ts y.2
            have HL4 := Lib.hid (show allN (f + 1) (goN (allN f) (allN f ts y.2) ((cs.drop (k + 1)).map (·.2))) (m.drop (i + 1)) = RES from hst)
            have HC4 := Lib.hid (show (allN f ts y.2).length + ((((cs.drop (k + 1)).map (·.2)).map (cnt f)).sum + cnt (f + 1) (m.drop (i + 1))) ≤ 1000000 by omega)
            generalize allN f ts y.2 = ts' at *
            clear HL HC HAL hst hct q0 q1 q2 q3 q4 hyk hu HP HB
            go_wp2_with fail
            refine CR.out.mono ?_
            rintro e w3 ⟨rfl, hni, hb⟩
            have P3 := Lib.hid hni
            have W3 := Lib.hid hb
            clear hni hb CR j0 j1 lb
            go_wp2_with fail
            go_roundw
            case rel => exact ⟨k + 1, ts', by go_num, by omega, P3, HL4, HC4, W3⟩
            case measure => simp [RowKit.intOf]; omega
          · have hk' : ¬ (k : Int) < (LC : Int) := by omega
            have hst := HL.out
            have hct := HC.out
            rw [List.drop_of_length_le (by omega)] at hst hct
            have HL4 := Lib.hid (show allN (f + 1) ts (m.drop (i + 1)) = RES from hst)
            have HC4 := Lib.hid (show ts.length + cnt (f + 1) (m.drop (i + 1)) ≤ 1000000 by simpa using hct)
            clear hst hct HL HC
            go_wp2_with fail
            go_roundw
            case rel => exact ⟨i + 1, ts, by go_num, by omega, HP, HL4, HC4, HB⟩
            case measure => simp [RowKit.intOf]; omega
      · have hi' : ¬ (i : Int) < (L : Int) := by omega
        have hst := HL.out
        rw [List.drop_of_length_le (by omega)] at hst
        have hst' : ys = RES := hst
        subst hst'
        clear hst HL
        go_wp2_with fail
        go_end0
        exact ⟨rfl, HP.out, HB.out⟩
end Go.Proofs.YtainindkndjkbaaGreatDoor
namespace Go.Proofs.YtainindkndjkbaaGreatDoor
open Go.RowKit
namespace Ms
theorem lgo_sum {F : List Nd → Int × Bool} : ∀ (L : List (List Nd)) (n : Int), (lgo F n L).2 = false → (∀ b ∈ L, (F b).2 = false) ∧ (lgo F n L).1 = n + (L.map fun b => (F b).1).sum ∧ (lgo F n L).1 ≤ 60
  | [], n, h => by
    have h' : decide (60 < n) = false := h
    have := of_decide_eq_false h'
    exact ⟨by simp, by show n = _; simp, by show n ≤ 60; omega⟩
  | b :: r, n, h => by
    unfold lgo at h ⊢
    split at h
    · cases h
    · rename_i hc
      rw [if_neg hc]
      have h1 := lgo_sum r (n + (F b).1) h
      have hb : (F b).2 = false := by
        cases hb : (F b).2 with
        | false => rfl
        | true => exact absurd (by rw [hb]; rfl) hc
      refine ⟨fun c hc => ?_, by rw [h1.2.1, List.map_cons, List.sum_cons]; omega, h1.2.2⟩
      rcases List.mem_cons.1 hc with rfl | hc
      · exact hb
      · exact h1.1 c hc
theorem cnt_bodies (f : Nat) : ∀ (m : List Nd), cnt (f + 1) m = m.length + ((bodies m).map (cnt f)).sum
  | [] => rfl
  | x :: r => by
    have h := cnt_bodies f r
    have e : cnt (f + 1) (x :: r) = (1 + ((casesOf x).map fun y => cnt f y.2).sum) + cnt (f + 1) r := by simp [cnt]
    rw [e, h, bodies_cons, List.map_append, List.sum_append, List.map_map, List.length_cons]
    show 1 + ((casesOf x).map (cnt f ∘ (·.2))).sum + _ = _
    omega
theorem cnt_sum {c : List Nd → Nat} {g : List Nd → Int} : ∀ (L : List (List Nd)), (∀ b ∈ L, (c b : Int) ≤ g b) → ((L.map c).sum : Int) ≤ (L.map g).sum
  | [], _ => by simp
  | b :: r, h => by
    have h1 := cnt_sum r (fun b hb => h b (by simp [hb]))
    have h2 := h b (by simp)
    simp only [List.map_cons, List.sum_cons]
    omega
theorem cnt_lrg : ∀ (d : Nat) (m : List Nd), (lrg d m).2 = false → ∀ f, (cnt f m : Int) ≤ (lrg d m).1
  | 0, m, h, f => by
    have : m = [] := by
      cases m with
      | nil => rfl
      | cons x r => cases h
    subst this
    cases f <;> simp [cnt, lrg]
  | d + 1, m, h, f => by
    have hs := lgo_sum (F := lrg d) (bodies m) m.length h
    have e : (lrg (d + 1) m).1 = m.length + ((bodies m).map fun b => (lrg d b).1).sum := hs.2.1
    have hb := fun f => cnt_sum (c := cnt f) (g := fun b => (lrg d b).1) (bodies m) (fun b hb => cnt_lrg d b (hs.1 b hb) f)
    cases f with
    | zero =>
      have := hb 0
      rw [e]
      show (0 : Int) ≤ _
      omega
    | succ f =>
      have := hb f
      rw [e, cnt_bodies]
      omega
theorem cnt_small {f : Nat} {m : List Nd} (h : msgE f m = 0) : cnt f m ≤ 60 := by
  unfold msgE at h
  cases hl : (lrg 6 m).2 with
  | true => rw [hl] at h; cases h
  | false =>
    have h1 := cnt_lrg 6 m hl f
    have h2 := (lgo_sum (F := lrg 5) (bodies m) m.length hl).2.2
    have h3 : (lrg 6 m).1 ≤ 60 := h2
    omega
/-- what is wrong with a message's names -/
def namE (f : Nat) (m : List Nd) : Int := if msgE f m ≠ 0 then msgE f m else if (allN f [] m).any (fun n => n.2.1 && n.2.2) then 7 else 0
/-- the names -/
def lstN (f : Nat) (m : List Nd) : List Need := if namE f m = 0 then allN f [] m else []
/-- does a Select have the name? -/
def selB (l : List Need) (t : List UInt8) : Bool := l.any fun n => n.1 == t && n.2.2
/-- does the message choose by it? -/
def chs : Nat → List Nd → List UInt8 → Bool
  | 0, _, _ => false
  | f + 1, m, t => m.any fun x => (x.kind == 5 && x.text == t) || (casesOf x).any fun y => chs f y.2 t
theorem selB_mod : ∀ {l : List Need} {i : Nat} {n : Need} (a b : Bool) (t : List UInt8), l[i]? = some n → selB (l.modify i (orN a b)) t = (selB l t || (n.1 == t && b))
  | [], i, n, a, b, t, h => by simp at h
  | x :: r, 0, n, a, b, t, h => by
    simp at h; subst h
    show (x.1 == t && (x.2.2 || b) || selB r t) = (x.1 == t && x.2.2 || selB r t || (x.1 == t && b))
    cases x.1 == t <;> cases x.2.2 <;> cases b <;> cases selB r t <;> rfl
  | x :: r, i + 1, n, a, b, t, h => by
    have h' := selB_mod (l := r) (i := i) a b t (by simpa using h)
    rw [List.modify_succ_cons]
    show (x.1 == t && x.2.2 || selB (r.modify i (orN a b)) t) = (x.1 == t && x.2.2 || selB r t || (n.1 == t && b))
    rw [h', Bool.or_assoc]
theorem grownN_at (l : List Need) (t : List UInt8) : ∃ n, (grownN l t)[l.findIdx (fun n => n.1 == t)]? = some n ∧ n.1 = t := by
  unfold grownN
  split
  · rename_i h
    refine ⟨_, List.getElem?_eq_getElem h, ?_⟩
    have := List.findIdx_getElem (xs := l) (p := fun n => n.1 == t) (w := h)
    simpa using this
  · rename_i h
    have e : l.findIdx (fun n => n.1 == t) = l.length := by have := List.findIdx_le_length (xs := l) (p := fun n => n.1 == t); omega
    rw [e]
    exact ⟨(t, false, false), by simp, rfl⟩
theorem selB_grown (l : List Need) (t s : List UInt8) : selB (grownN l t) s = selB l s := by
  unfold grownN
  split
  · rfl
  · unfold selB; simp
theorem selB_add (l : List Need) (x : Nd) (t : List UInt8) : selB (addN l x) t = (selB l t || (x.kind == 5 && x.text == t)) := by
  unfold addN
  split
  · rename_i h
    have : (x.kind == 5) = false := by
      rcases h with h | h <;> rw [h] <;> rfl
    rw [this]; simp
  · obtain ⟨n, hn, e⟩ := grownN_at l x.text
    rw [selB_mod _ _ t hn, selB_grown, e]
    congr 1
    rw [Bool.and_comm]
    congr 1
theorem selB_go {F : List Need → List Nd → List Need} {c : List Nd → Bool} {t : List UInt8} (hF : ∀ l b, selB (F l b) t = (selB l t || c b)) : ∀ (bs : List (List Nd)) (l : List Need), selB (goN F l bs) t = (selB l t || bs.any c)
  | [], l => by simp [goN]
  | b :: r, l => by
    show selB (goN F (F l b) r) t = _
    rw [selB_go hF r (F l b), hF, List.any_cons, Bool.or_assoc]
theorem selB_all : ∀ (f : Nat) (l : List Need) (m : List Nd) (t : List UInt8), selB (allN f l m) t = (selB l t || chs f m t)
  | 0, l, m, t => by simp [allN, chs]
  | f + 1, l, m, t => by
    induction m generalizing l with
    | nil => simp [allN, chs]
    | cons x r ih =>
      show selB (allN (f + 1) (goN (allN f) (addN l x) ((casesOf x).map (·.2))) r) t = _
      rw [ih, selB_go (c := fun b => chs f b t) (fun l b => selB_all f l b t), selB_add]
      show _ = (selB l t || ((x.kind == 5 && x.text == t || (casesOf x).any fun y => chs f y.2 t) || chs (f + 1) r t))
      rw [List.any_map]
      simp only [Bool.or_assoc]
      rfl
theorem sel_chs (f : Nat) (m : List Nd) (t : List UInt8) : chs f m t = selB (allN f [] m) t := by rw [selB_all]; rfl
/-- the names differ -/
abbrev Dist (l : List Need) : Prop := (l.map (·.1)).Nodup
theorem map_mod : ∀ (l : List Need) (i : Nat) (a b : Bool), (l.modify i (orN a b)).map (·.1) = l.map (·.1)
  | [], i, a, b => by simp
  | x :: r, 0, a, b => rfl
  | x :: r, i + 1, a, b => by rw [List.modify_succ_cons, List.map_cons, map_mod r i a b]; rfl
theorem dist_add {l : List Need} (h : Dist l) (x : Nd) : Dist (addN l x) := by
  unfold addN
  split
  · exact h
  · unfold Dist
    rw [map_mod]
    unfold grownN
    split
    · exact h
    · rename_i hl
      rw [List.map_append, List.nodup_append]
      refine ⟨h, by simp, fun a ha b hb e => hl ?_⟩
      obtain rfl : b = x.text := by simpa using hb
      subst e
      obtain ⟨n, hn, e⟩ := List.mem_map.1 ha
      exact List.findIdx_lt_length_of_exists ⟨n, hn, by simpa using e⟩
theorem dist_go {F : List Need → List Nd → List Need} (hF : ∀ l b, Dist l → Dist (F l b)) : ∀ (bs : List (List Nd)) (l : List Need), Dist l → Dist (goN F l bs)
  | [], _, h => h
  | b :: r, l, h => dist_go hF r (F l b) (hF l b h)
theorem dist_all : ∀ (f : Nat) (l : List Need) (m : List Nd), Dist l → Dist (allN f l m)
  | 0, _, _, h => h
  | f + 1, l, m, h => by
    induction m generalizing l with
    | nil => exact h
    | cons x r ih => exact ih _ (dist_go (fun l b => dist_all f l b) _ _ (dist_add h x))
theorem sel_at {l : List Need} (h : Dist l) {n : Need} (hn : n ∈ l) : selB l n.1 = n.2.2 := by
  induction l with
  | nil => cases hn
  | cons x r ih =>
    rw [show Dist (x :: r) = List.Nodup (x.1 :: r.map (·.1)) from rfl, List.nodup_cons] at h
    show (x.1 == n.1 && x.2.2 || selB r n.1) = _
    rcases List.mem_cons.1 hn with rfl | hm
    · have : selB r n.1 = false := by
        cases hs : selB r n.1 with
        | false => rfl
        | true =>
          obtain ⟨y, hy, e⟩ := List.any_eq_true.1 hs
          simp at e
          exact absurd (List.mem_map.2 ⟨y, hy, e.1⟩) h.1
      rw [this]; simp
    · have : (x.1 == n.1) = false := by
        rw [beq_eq_false_iff_ne]
        intro e
        exact h.1 (List.mem_map.2 ⟨n, hm, e.symm⟩)
      rw [this, ih h.2 hm]; simp
/-- the two ways of asking are one -/
theorem any_sel {l : List Need} (h : Dist l) : (l.any fun n => n.2.1 && n.2.2) = l.any fun n => n.2.1 && selB l n.1 := by
  rw [Bool.eq_iff_iff, List.any_eq_true, List.any_eq_true]
  constructor
  · rintro ⟨n, hn, e⟩; exact ⟨n, hn, by rw [sel_at h hn]; exact e⟩
  · rintro ⟨n, hn, e⟩; exact ⟨n, hn, by rw [sel_at h hn] at e; exact e⟩
theorem lstN_len (f : Nat) (m : List Nd) : (lstN f m).length ≤ 60 := by
  unfold lstN
  split
  · rename_i h
    have h0 : msgE f m = 0 := by
      unfold namE at h
      split at h
      · exact h
      · rename_i h'; exact Decidable.not_not.1 h'
    have := allN_len f [] m
    have := cnt_small h0
    simp at *; omega
  · simp
end Ms
end Go.Proofs.YtainindkndjkbaaGreatDoor
namespace Go.Proofs.YtainindkndjkbaaGreatDoor
open Go.RowKit Ms

set_option maxRecDepth 100000 in
set_option maxHeartbeats 2000000 in
theorem nof_any {f : Nat} {v : Value} {m : List Nd} (w : World) (hw : MW w) (h : MsgAt f w v m) (hl : m.length ≤ 2000000) :
    Calls Tryz.prog 22 #[v] w fun e w' => ∃ u, e = .returned (.tuple #[u, errN (namE f m)]) ∧ w'.ownsRow w.heap.size 57 3 u (lstN f m).length (nflat (lstN f m)) ∧ Below w.heap.size w w' := by
  have CK := Lib.hid (mwhole_any w hw h hl)
  have HN := Lib.hid (show namE f m = if msgE f m ≠ 0 then msgE f m else if (allN f [] m).any (fun n => n.2.1 && n.2.2) then 7 else 0 from rfl)
  have HL := Lib.hid (show lstN f m = if namE f m = 0 then allN f [] m else [] from rfl)
  have CA := Lib.hid fun (wx : World) p u hp hb hc => nall_any f v m w wx p u [] h hl hp hb hc
  have HC := Lib.hid (fun h => cnt_small (f := f) (m := m) h)
  obtain ⟨a, n, c, rfl⟩ := h.isSlice
  clear h hw hl
  generalize lstN f m = LS at *
  generalize namE f m = NE at *
  generalize msgE f m = ME at *
  generalize allN f [] m = AL at *
  by_cases h0 : ME = 0
  case neg =>
    obtain rfl : NE = ME := by rw [HN.out, if_pos h0]
    obtain rfl : LS = [] := by rw [HL.out, if_neg h0]
    have HE := Lib.hid (show errN NE = errV NE from if_neg h0)
    rw [HE.out] at CK
    clear h0 HN HL HC CA
    go_enter Tryz.func22, Tryz.ntmps22
    go_wp2_with fail
    refine CK.out.mono ?_
    rintro e w1 ⟨rfl, hb⟩
    have W1 := Lib.hid hb
    clear hb CK
    go_wp2_with fail
    go_ret2
    exact ⟨_, by rw [HE.out]; rfl, ⟨rfl, .inl ⟨rfl, rfl⟩⟩, W1.out⟩
  subst h0
  have hcn := HC.out rfl
  rw [show errN 0 = .nilIface from rfl] at CK
  replace HN := Lib.hid (show NE = if AL.any (fun n => n.2.1 && n.2.2) then 7 else 0 from HN.out)
  go_enter Tryz.func22, Tryz.ntmps22
  go_wp2_with fail
  refine CK.out.mono ?_
  rintro e w1 ⟨rfl, hb⟩
  have W1 := Lib.hid hb
  have hsz := hb.size
  have P1 := Lib.hid (show NI w.heap.size w1.heap.size (.slice none 0 0) [] (w1.alloc (.cells #[.slice none 0 0] 53)) from ⟨Boxed.made _ _ _, World.ownsRow_nil _ _ _ _, by simp [Value.ownBlock], hsz⟩)
  clear hb CK
  go_wp2_with fail
  refine (CA.out _ _ _ P1.out (W1.out.alloc hsz _) (by simp; omega)).mono ?_
  rintro e w2 ⟨rfl, ⟨u, hu⟩, hb⟩
  have W2 := Lib.hid hb
  have P2 := Lib.hid hu
  obtain ⟨ua, uc, rfl⟩ := hu.isSlice
  have u0 : w2.cell? ⟨w1.heap.size, 0, none⟩ = some (.slice ua AL.length uc) := hu.box.cell 0 _ rfl
  have CH := Lib.hid (has_need AL (fun n => n.2.1 && n.2.2) 49 #[] of1_at (.slice ua AL.length uc) w2 (needs_of_row hu.row) (Lib.hid fun y _ wx _ => of1_any y wx))
  have hs2 := hb.size
  clear hu hb CA P1 W1 HC
  generalize w1.heap.size = p at *
  generalize (AL.any fun n => n.2.1 && n.2.2) = Z at *
  go_wp2_with fail
  refine CH.out.mono ?_
  rintro e w3 ⟨rfl, hb⟩
  have P3 := Lib.hid (P2.out.below hb)
  have W3 := Lib.hid (W2.out.trans (hb.mono hs2))
  have u1 : w3.cell? ⟨p, 0, none⟩ = some (.slice ua AL.length uc) := P3.out.box.cell 0 _ rfl
  clear hb CH P2 W2 u0
  cases Z with
  | true =>
    obtain rfl : NE = 7 := HN.out
    obtain rfl : LS = [] := HL.out
    go_wp2_with fail
    go_ret2
    exact ⟨_, rfl, ⟨rfl, .inl ⟨rfl, rfl⟩⟩, W3.out⟩
  | false =>
    obtain rfl : NE = 0 := HN.out
    obtain rfl : LS = AL := HL.out
    go_wp2_with fail
    go_ret2
    exact ⟨_, rfl, P3.out.row, W3.out⟩
end Go.Proofs.YtainindkndjkbaaGreatDoor
namespace Go.Proofs.YtainindkndjkbaaGreatDoor
open Go.RowKit
namespace Ms
/-- an arg -/
structure Ag where
  name : List UInt8
  num : Bool
  co : Int
  sc : Int
  txt : List UInt8
def acells (a : Ag) : List Value := [.string ⟨a.name.toArray⟩, .bool a.num, .int .i64 a.co, .int .i64 a.sc, .string ⟨a.txt.toArray⟩]
def afl (l : List Ag) : List Value := l.flatMap acells
/-- the arg of a name -/
def ofN (n : Need) : Ag := ⟨n.1, n.2.1, 0, 0, []⟩
def nafl (l : List Need) : List Value := afl (l.map ofN)
theorem afl_add (l : List Ag) (a : Ag) : afl (l ++ [a]) = afl l ++ acells a := by unfold afl; rw [List.flatMap_append]; simp
theorem nafl_add (l : List Need) (n : Need) : nafl (l ++ [n]) = nafl l ++ acells (ofN n) := by unfold nafl; rw [List.map_append]; exact afl_add _ _
theorem afl_at : ∀ {l : List Ag} {j : Nat} {n : Ag}, l[j]? = some n → (afl l)[j * 5]? = some (.string ⟨n.name.toArray⟩) ∧ (afl l)[j * 5 + 1]? = some (.bool n.num) ∧ (afl l)[j * 5 + 2]? = some (.int .i64 n.co) ∧ (afl l)[j * 5 + 3]? = some (.int .i64 n.sc) ∧ (afl l)[j * 5 + 4]? = some (.string ⟨n.txt.toArray⟩) := by
  intro l
  induction l with
  | nil => intro j n h; simp at h
  | cons a l ih =>
    intro j n h
    cases j with
    | zero => simp at h; subst h; exact ⟨rfl, rfl, rfl, rfl, rfl⟩
    | succ j =>
      have h' := ih (j := j) (n := n) (by simpa using h)
      have e : (j + 1) * 5 = j * 5 + 1 + 1 + 1 + 1 + 1 := by omega
      rw [e]
      exact h'
theorem nafl_yes : ∀ {l : List Need} {j : Nat} {n : Need} (b : Bool), l[j]? = some n → (nafl l).set (j * 5 + 1) (.bool true) = nafl (l.modify j (orN true b)) := by
  intro l
  induction l with
  | nil => intro j n b h; simp at h
  | cons x l ih =>
    intro j n b h
    cases j with
    | zero => simp at h; subst h; show _ = acells (ofN (orN true b x)) ++ nafl l; unfold orN ofN; rw [Bool.or_true]; rfl
    | succ j =>
      have h' := ih (j := j) (n := n) b (by simpa using h)
      have e : (j + 1) * 5 = j * 5 + 1 + 1 + 1 + 1 + 1 := by omega
      rw [e, List.modify_succ_cons]
      show _ = acells (ofN x) ++ nafl (l.modify j (orN true b))
      rw [← h']
      rfl
theorem nafl_no : ∀ (l : List Need) (j : Nat) (b : Bool), nafl (l.modify j (orN false b)) = nafl l := by
  intro l
  induction l with
  | nil => intro j b; simp
  | cons x l ih =>
    intro j b
    cases j with
    | zero => show acells (ofN (orN false b x)) ++ nafl l = acells (ofN x) ++ nafl l; unfold orN ofN; rw [Bool.or_false]
    | succ j =>
      rw [List.modify_succ_cons]
      show acells (ofN x) ++ nafl (l.modify j (orN false b)) = _
      rw [ih]; rfl
end Ms
open Ms
def ArgC (w : World) (b k : Nat) (a : Ag) : Prop := w.cell? ⟨b, k, none⟩ = some (.string ⟨a.name.toArray⟩) ∧ w.cell? ⟨b, k + 1, none⟩ = some (.bool a.num) ∧ w.cell? ⟨b, k + 2, none⟩ = some (.int .i64 a.co) ∧ w.cell? ⟨b, k + 3, none⟩ = some (.int .i64 a.sc) ∧ w.cell? ⟨b, k + 4, none⟩ = some (.string ⟨a.txt.toArray⟩)
abbrev ArgsAt := SlAt 5 ArgC
theorem ArgC.below {w w' : World} {b k : Nat} {n : Ag} (h : ArgC w b k n) (hb : Below w.heap.size w w') : ArgC w' b k n := ⟨cell_keep h.1 hb, cell_keep h.2.1 hb, cell_keep h.2.2.1 hb, cell_keep h.2.2.2.1 hb, cell_keep h.2.2.2.2 hb⟩
theorem args_below {w w' : World} {v : Value} {l : List Ag} (h : ArgsAt w v l) (hb : Below w.heap.size w w') : ArgsAt w' v l := h.imp fun _ _ _ _ q => q.below hb
theorem args_of_row {w : World} {base : Nat} {e : TypeId} {v : Value} {l : List Ag} (h : w.ownsRow base e 5 v l.length (afl l)) : ArgsAt w v l := by
  have h' := h.2
  rcases h' with ⟨rfl, h0⟩ | ⟨g, cap, cur, rfl, _, _, h1, h2, _, _⟩
  · exact .inl ⟨List.length_eq_zero_iff.1 h0, none, 0, rfl⟩
  · by_cases h0 : l.length = 0
    · exact .inl ⟨List.length_eq_zero_iff.1 h0, _, _, by rw [h0]⟩
    · refine .inr ⟨g, 0, cap, rfl, by omega, h1, h2, fun j x hx => ?_⟩
      rw [Nat.zero_add]
      have q := afl_at hx
      exact ⟨nrow_cells h q.1, nrow_cells h q.2.1, nrow_cells h q.2.2.1, nrow_cells h q.2.2.2.1, nrow_cells h q.2.2.2.2⟩
/-- the row of names' args that grows, beside a block -/
structure AI (B q : Nat) (bx : Array Value) (u : Value) (xs : List Need) (W : World) : Prop where
  row : W.ownsRow B 39 5 u xs.length (nafl xs)
  box : Boxed W q bx
  ne : u.ownBlock ≠ some q
section
variable {B q : Nat} {bx : Array Value} {u : Value} {xs : List Need} {A C : World}
theorem AI.below (h : AI B q bx u xs A) (hb : Below A.heap.size A C) : AI B q bx u xs C :=
  ⟨h.row.kept (row := none) ⟨hb.os, hb.tape, hb.output, hb.size, fun k hk _ => hb.block k hk⟩ (by cases u.ownBlock <;> simp), h.box.below hb, h.ne⟩
theorem AI.app (h : AI B q bx u xs A) {v' : Value} {t : List UInt8} (ho : C.ownsRow B 39 5 v' (xs.length + 1) (nafl xs ++ acells ⟨t, false, 0, 0, []⟩)) (hg : A.grownBy C u.ownBlock) (hat : v'.ownBlock = u.ownBlock ∨ v'.ownBlock = some A.heap.size) : AI B q bx v' (xs ++ [(t, false, false)]) C := by
  refine ⟨by rw [List.length_append, nafl_add]; exact ho, nboxed_grown h.box hg (fun e => h.ne e.symm), ?_⟩
  rcases hat with e | e
  · rw [e]; exact h.ne
  · rw [e]; intro g; injection g with g; have := h.box.lt; omega
theorem AI.yes {g cap : Nat} (h : AI B q bx (.slice (some ⟨g, 0, none⟩) xs.length cap) xs A) {j : Nat} {n : Need} (hj : xs[j]? = some n) (b : Bool) : AI B q bx (.slice (some ⟨g, 0, none⟩) xs.length cap) (xs.modify j (orN true b)) (A.setCell ⟨g, j * 5 + 1, none⟩ (.bool true)) := by
  have hgq : g ≠ q := fun e => h.ne (by rw [e]; rfl)
  have h1 := (h.row.stored (j * 5 + 1) (.bool true)).1
  rw [nafl_yes b hj] at h1
  exact ⟨by rw [modify_len]; exact h1, h.box.far hgq _ _, h.ne⟩
theorem AI.no (h : AI B q bx u xs A) (j : Nat) (b : Bool) : AI B q bx u (xs.modify j (orN false b)) A := ⟨by rw [modify_len, nafl_no]; exact h.row, h.box, h.ne⟩
theorem AI.isSlice (h : AI B q bx u xs A) : ∃ a c, u = .slice a xs.length c := by
  rcases h.row.2 with ⟨rfl, h0⟩ | ⟨g, cap, cur, rfl, _⟩
  · exact ⟨none, 0, by rw [h0]⟩
  · exact ⟨_, _, rfl⟩
end
theorem ncells_at (W : World) (xs : List Value) (t : TypeId) (q : Nat) (hq : W.heap.size = q) : ∀ j u, xs[j]? = some u → (W.alloc (.cells xs.toArray t)).cell? ((⟨q, 0, none⟩ : Addr).add j) = some u := by
  subst hq; exact nboxed_add (Boxed.made W xs.toArray t)
theorem acells_one (a : Ag) : ∀ u ∈ acells a, u.oneCell' = true := by
  intro u hu
  simp [acells] at hu
  rcases hu with rfl | rfl | rfl | rfl | rfl <;> rfl
theorem nrow_mono {w : World} {base base' n k : Nat} {e : TypeId} {v : Value} {xs : List Value} (h : w.ownsRow base e k v n xs) (hb : base' ≤ base) : w.ownsRow base' e k v n xs := by
  refine ⟨h.1, ?_⟩
  rcases h.2 with h | ⟨g, cap, cur, e1, e2, e3⟩
  · exact .inl h
  · exact .inr ⟨g, cap, cur, e1, Nat.le_trans hb e2, e3⟩
theorem infoArg : (Tryz.prog.info? 39).map (fun i => (i.zero, i.size, i.bytes)) = some (some (.agg #[.string ByteArray.empty, .bool false, .int .i64 0, .int .i64 0, .string ByteArray.empty]), 5, 56) := by kernel_rfl
end Go.Proofs.YtainindkndjkbaaGreatDoor
namespace Go.Proofs.YtainindkndjkbaaGreatDoor
open Go.RowKit Ms

set_option maxRecDepth 100000 in
set_option maxHeartbeats 2000000 in
theorem nOf_any {f : Nat} {v : Value} {m : List Nd} (w : World) (hw : MW w) (h : MsgAt f w v m) (hl : m.length ≤ 2000000) :
    Calls Tryz.prog 6 #[v] w fun e w' => ∃ u, e = .returned (.tuple #[u, errN (namE f m)]) ∧ w'.ownsRow w.heap.size 39 5 u (lstN f m).length (nafl (lstN f m)) ∧ Below w.heap.size w w' := by
  obtain ⟨iN, hiN, hN0, hN1, hN2⟩ := info_parts infoArg
  have CK := Lib.hid (nof_any w hw h hl)
  have HL := Lib.hid (show lstN f m = if namE f m = 0 then allN f [] m else [] from rfl)
  have HLL := Lib.hid (lstN_len f m)
  obtain ⟨a, n, c, rfl⟩ := h.isSlice
  clear h hw hl
  generalize lstN f m = LS at *
  generalize namE f m = NE at *
  by_cases h0 : NE = 0
  case neg =>
    obtain rfl : LS = [] := by rw [HL.out, if_neg h0]
    have HE := Lib.hid (show errN NE = errV NE from if_neg h0)
    rw [HE.out] at CK
    clear h0 HL
    go_enter Tryz.func6, Tryz.ntmps6
    go_wp2_with fail
    refine CK.out.mono ?_
    rintro e w1 ⟨u, rfl, hr, hb⟩
    have W1 := Lib.hid hb
    obtain ⟨ua, uc, rfl⟩ : ∃ ua uc, u = .slice ua 0 uc := by
      rcases hr.2 with ⟨rfl, _⟩ | ⟨g, cap, cur, rfl, _⟩
      · exact ⟨none, 0, rfl⟩
      · exact ⟨_, _, rfl⟩
    clear hb CK hr
    go_wp2_with fail
    go_ret2
    exact ⟨_, by rw [HE.out]; rfl, ⟨rfl, .inl ⟨rfl, rfl⟩⟩, W1.out⟩
  subst h0
  rw [show errN 0 = .nilIface from rfl] at CK ⊢
  clear HL
  have hll := HLL.out
  clear HLL
  go_enter Tryz.func6, Tryz.ntmps6
  go_wp2_with fail
  refine CK.out.mono ?_
  rintro e w1 ⟨u, rfl, hr, hb⟩
  have W1 := Lib.hid hb
  have hsz := hb.size
  obtain ⟨A, cap, rfl, _, hel⟩ := (needs_of_row hr).spread
  have HX := Lib.hid hel
  clear hb CK hr hel
  generalize hN : LS.length = N at *
  go_wp2_with fail
  go_loopw [6, 19] (fun vo vi wr => ∃ (i : Nat) (oa : Option Addr) (oc : Nat), vi = .int .i64 (i : Int) ∧ vo = .slice oa i oc ∧ i ≤ N ∧ Hid (wr.ownsRow w1.heap.size 39 5 (.slice oa i oc) i (nafl (LS.take i))) ∧ Hid (Below w1.heap.size w1 wr)) (fun _ vi _ => N - (RowKit.intOf vi).toNat)
  case atStart => exact ⟨0, none, 0, rfl, rfl, Nat.zero_le _, Lib.hid ⟨rfl, .inl ⟨rfl, rfl⟩⟩, Lib.hid (Below.refl _ _)⟩
  case round =>
    obtain ⟨i, oa, oc, rfl, rfl, hi, HO, HB⟩ := hrel
    by_cases hlt : i < N
    · have hi' : (i : Int) < (N : Int) := by omega
      obtain ⟨x, hxi⟩ : ∃ x, LS[i]? = some x := ⟨LS[i]'(by omega), List.getElem?_eq_getElem (by omega)⟩
      obtain ⟨b, off, rfl, p0, p1, p2⟩ := HX.out i x hxi
      have g0 := cell_keep p0 HB.out
      have g1 := cell_keep p1 HB.out
      have g2 := cell_keep p2 HB.out
      have lb := World.block_lt_of_cell? _ _ g0
      have HTK := Lib.hid (show nafl (LS.take (i + 1)) = nafl (LS.take i) ++ acells (ofN x) by rw [List.take_add_one, hxi]; exact nafl_add _ _)
      have wi : IntKind.i64.wrap ((i : Int) + 1) = (i : Int) + 1 := IntWalk.i64_in _ (by omega)
      obtain ⟨t, bn, bt⟩ := x
      have hown := HO.out
      have hbs := HB.out.size
      clear p0 p1 p2 hxi
      go_wp2_with (at_builtin; refine wpList_append_own_at _ rfl _ _ 23 rfl w1.heap.size 39 iN _ 5 56 Tryz.underlying23 hiN hN0 hN1 hN2 rfl (by decide) _ i (nafl (LS.take i)) rfl ((hown.alloc _).alloc _) ⟨wr.heap.size + 1, 0, none⟩ 1 1 (acells (ofN (t, bn, bt))) rfl rfl (ncells_at _ (acells (ofN (t, bn, bt))) _ _ (by simp)) (acells_one _) (by unfold maxLen; omega) (by omega) (by simp; omega) ?_; intro v' w3 hown' hgrow _ _; have HO3 := Lib.hid hown'; have HB3 := Lib.hid (((HB.out.alloc hbs _).alloc (by simp; omega) _).grown hgrow (by simp; omega) (fun k hk => (hown.lt k hk).1)); clear hown hown' hgrow HO HB; obtain ⟨va', vc', rfl⟩ := mrow_slice HO3.out)
      go_roundw
      case rel => exact ⟨i + 1, va', vc', by go_num, rfl, by omega, by rw [HTK.out]; exact HO3, HB3⟩
      case measure => simp [RowKit.intOf]; omega
    · have hi' : ¬ (i : Int) < (N : Int) := by omega
      have ei : i = N := by omega
      subst ei
      have HO2 := HO.out
      rw [List.take_of_length_le (by omega)] at HO2
      have HO3 := Lib.hid HO2
      clear HO HO2
      go_wp2_with fail
      go_ret2
      exact ⟨_, rfl, nrow_mono HO3.out hsz, blw_trans W1.out HB.out⟩
end Go.Proofs.YtainindkndjkbaaGreatDoor
namespace Go.Proofs.YtainindkndjkbaaGreatDoor
open Go.RowKit
namespace Ms
/-- is the number none? -/
def badA (a : Ag) : Bool := !decide (Dcm.okD a.co a.sc)
def hasA (l : List Ag) (t : List UInt8) : Bool := l.any fun a => a.name == t
/-- what is wrong with the args by themselves -/
def argE : List Ag → List Ag → Int
  | _, [] => 0
  | d, a :: r => if !nameB a.name then 3 else if a.num && badA a then 1 else if hasA d a.name then 5 else argE (d ++ [a]) r
/-- with the needs -/
def askE (args : List Ag) : List Need → Int
  | [] => 0
  | n :: r => match args.find? (fun a => a.name == n.1) with
    | none => 2
    | some a => if (n.2.1 && !a.num) || (n.2.2 && a.num) then 7 else askE args r
/-- with all -/
def fitE (f : Nat) (m : List Nd) (args : List Ag) : Int := if namE f m ≠ 0 then namE f m else if argE [] args ≠ 0 then argE [] args else askE args (allN f [] m)
end Ms
end Go.Proofs.YtainindkndjkbaaGreatDoor
namespace Go.Proofs.YtainindkndjkbaaGreatDoor
open Go.RowKit
namespace Ms
/-- all are names -/
def OkN (l : List Need) : Prop := ∀ n ∈ l, nameB n.1 = true
theorem okN_map {l k : List Need} (h : OkN l) (e : k.map (·.1) = l.map (·.1)) : OkN k := by
  intro n hn
  have : n.1 ∈ k.map (·.1) := List.mem_map.2 ⟨n, hn, rfl⟩
  rw [e] at this
  obtain ⟨x, hx, ex⟩ := List.mem_map.1 this
  rw [← ex]; exact h x hx
theorem okN_add {l : List Need} (h : OkN l) (x : Nd) (hx : ¬ (x.kind = 1 ∨ x.kind = 6) → nameB x.text = true) : OkN (addN l x) := by
  unfold addN
  split
  · exact h
  · rename_i hk
    refine okN_map (l := grownN l x.text) ?_ (map_mod _ _ _ _)
    unfold grownN
    split
    · exact h
    · intro n hn
      rcases List.mem_append.1 hn with hn | hn
      · exact h n hn
      · obtain rfl : n = (x.text, false, false) := by simpa using hn
        exact hx hk
theorem okN_go {F : List Need → List Nd → List Need} : ∀ (bs : List (List Nd)) (l : List Need), (∀ b ∈ bs, ∀ l, OkN l → OkN (F l b)) → OkN l → OkN (goN F l bs)
  | [], _, _, h => h
  | b :: r, l, hF, h => okN_go r (F l b) (fun b hb => hF b (by simp [hb])) (hF b (by simp) l h)
theorem csE_bodies {G : Bool → List Nd → Int} {x : Nd} {mark : Bool} : ∀ (l : List (List UInt8 × List Nd)) (seen : List (List UInt8)), csE G x mark seen l = 0 → ∀ y ∈ l, G (mark || decide (x.kind = 4)) y.2 = 0
  | [], _, _, y, hy => by simp at hy
  | z :: r, seen, h, y, hy => by
    unfold csE at h
    split at h
    · cases h
    · split at h
      · cases h
      · split at h
        · rename_i h1; exact absurd h h1
        · rename_i h1
          rcases List.mem_cons.1 hy with rfl | hy
          · exact Decidable.not_not.1 h1
          · exact csE_bodies r _ h y hy
theorem ndE_name {G : Bool → List Nd → Int} {x : Nd} {prev : Option Int} {mark : Bool} (h : ndE G x prev mark = 0) : ¬ (x.kind = 1 ∨ x.kind = 6) → nameB x.text = true := by
  intro hk
  unfold ndE at h
  split at h
  · cases h
  · rename_i h1
    have hf : fineB x prev mark = true := by simpa using h1
    unfold fineB at hf
    rw [if_neg (fun e => hk (.inl e))] at hf
    split at hf
    · exact hf
    · have : ¬ x.kind = 6 := fun e => hk (.inr e)
      rw [decide_eq_false this] at hf
      cases hf
theorem ndE_cases {G : Bool → List Nd → Int} {x : Nd} {prev : Option Int} {mark : Bool} (h : ndE G x prev mark = 0) : ∀ y ∈ casesOf x, G (mark || decide (x.kind = 4)) y.2 = 0 := by
  unfold ndE at h
  unfold casesOf
  split at h
  · cases h
  · split at h
    · cases h
    · split
      · rename_i hk
        rw [if_pos hk] at h
        exact csE_bodies _ _ h
      · intro y hy; simp at hy
theorem okN_all : ∀ (f : Nat) (m : List Nd) (mark : Bool) (prev : Option Int), (match f with | 0 => True | g + 1 => msE (chk g) mark prev m = 0) → ∀ l, OkN l → OkN (allN f l m)
  | 0, _, _, _, _, _, h => h
  | f + 1, m, mark, prev, hc, l, h => by
    induction m generalizing l prev with
    | nil => exact h
    | cons x r ih =>
      have hc' : msE (chk f) mark prev (x :: r) = 0 := hc
      unfold msE at hc'
      split at hc'
      · rename_i h1; exact absurd hc' h1
      · rename_i h1
        have h0 := Decidable.not_not.1 h1
        refine ih (some x.kind) hc' _ (okN_go _ _ (fun b hb l hl => ?_) (okN_add h x (ndE_name h0)))
        obtain ⟨y, hy, rfl⟩ := List.mem_map.1 hb
        have hG := ndE_cases h0 y hy
        cases f with
        | zero => exact hl
        | succ g => exact okN_all (g + 1) y.2 (mark || decide (x.kind = 4)) none hG l hl
theorem namE_zero {f : Nat} {m : List Nd} (h : namE f m = 0) : msgE f m = 0 ∧ ((allN f [] m).any fun n => n.2.1 && n.2.2) = false ∧ lstN f m = allN f [] m := by
  have hl : lstN f m = allN f [] m := by unfold lstN; rw [if_pos h]
  unfold namE at h
  split at h
  · rename_i h1; exact absurd h h1
  · rename_i h1
    refine ⟨Decidable.not_not.1 h1, ?_, hl⟩
    split at h
    · cases h
    · rename_i h2; simpa using h2
theorem names_ok {f : Nat} {m : List Nd} (h : namE f m = 0) : OkN (allN f [] m) := by
  have h1 := (namE_zero h).1
  unfold msgE at h1
  split at h1
  · cases h1
  · cases f with
    | zero => intro n hn; simp [allN] at hn
    | succ g => exact okN_all (g + 1) m false none h1 [] (by intro n hn; simp at hn)
theorem names_dist (f : Nat) (m : List Nd) : Dist (allN f [] m) := dist_all f [] m (by simp [Dist])
theorem argE_ok : ∀ (A d : List Ag), (∀ a ∈ A, nameB a.name = true ∧ (a.num && badA a) = false) → (A.map (·.name)).Nodup → (∀ a ∈ A, hasA d a.name = false) → argE d A = 0
  | [], _, _, _, _ => rfl
  | a :: r, d, h1, h2, h3 => by
    have ha := h1 a (by simp)
    rw [List.map_cons, List.nodup_cons] at h2
    unfold argE
    rw [ha.1, ha.2, h3 a (by simp)]
    show argE (d ++ [a]) r = 0
    refine argE_ok r (d ++ [a]) (fun b hb => h1 b (by simp [hb])) h2.2 (fun b hb => ?_)
    unfold hasA
    rw [List.any_append]
    have e1 : (d.any fun x => x.name == b.name) = false := h3 b (by simp [hb])
    rw [e1]
    have : (a.name == b.name) = false := by
      rw [beq_eq_false_iff_ne]
      intro e
      exact h2.1 (List.mem_map.2 ⟨b, hb, e.symm⟩)
    simp [this]
/-- so is a need met -/
def Met (A : List Ag) (n : Need) : Prop := A.find? (fun a => a.name == n.1) = some (ofN n) ∧ (n.2.1 && n.2.2) = false
theorem askE_cons (A : List Ag) (n : Need) (r : List Need) : askE A (n :: r) = match A.find? (fun a => a.name == n.1) with
    | none => 2
    | some a => if (n.2.1 && !a.num) || (n.2.2 && a.num) then 7 else askE A r := rfl
theorem askE_met {A : List Ag} (l k : List Need) (h : ∀ n ∈ l, Met A n) : askE A (l ++ k) = askE A k := by
  induction l with
  | nil => rfl
  | cons n r ih =>
    have hn := h n (by simp)
    show askE A (n :: (r ++ k)) = _
    rw [askE_cons, hn.1]
    show (if (n.2.1 && !n.2.1 || n.2.2 && n.2.1) = true then 7 else askE A (r ++ k)) = _
    rw [if_neg (by have := hn.2; cases h1 : n.2.1 <;> cases h2 : n.2.2 <;> simp_all)]
    exact ih fun n hn => h n (List.mem_cons_of_mem _ hn)
theorem find_own : ∀ {l : List Need}, Dist l → ∀ {n : Need}, n ∈ l → ∀ z, (l.map ofN ++ z).find? (fun a => a.name == n.1) = some (ofN n)
  | [], _, _, hn, _ => by cases hn
  | x :: r, h, n, hn, z => by
    rw [show Dist (x :: r) = List.Nodup (x.1 :: r.map (·.1)) from rfl, List.nodup_cons] at h
    rw [List.map_cons, List.cons_append, List.find?_cons]
    rcases List.mem_cons.1 hn with rfl | hm
    · have : ((ofN n).name == n.1) = true := by show (n.1 == n.1) = true; simp
      rw [this]
    · have : ((ofN x).name == n.1) = false := by
        rw [beq_eq_false_iff_ne]
        intro e
        exact h.1 (List.mem_map.2 ⟨n, hm, e.symm⟩)
      rw [this]
      exact find_own h.2 hm z
theorem own_fine {l : List Need} (h : OkN l) : ∀ a ∈ l.map ofN, nameB a.name = true ∧ (a.num && badA a) = false := by
  intro a ha
  obtain ⟨n, hn, rfl⟩ := List.mem_map.1 ha
  refine ⟨h n hn, ?_⟩
  have : badA (ofN n) = false := rfl
  rw [this]; simp
theorem own_names (l : List Need) : (l.map ofN).map (·.name) = l.map (·.1) := by rw [List.map_map]; rfl
theorem any_not {l : List Need} (h : (l.any fun n => n.2.1 && n.2.2) = false) : ∀ n ∈ l, (n.2.1 && n.2.2) = false := by
  intro n hn
  cases hc : n.2.1 && n.2.2 with
  | false => rfl
  | true =>
    have : (l.any fun n => n.2.1 && n.2.2) = true := List.any_eq_true.2 ⟨n, hn, hc⟩
    rw [this] at h; cases h
/-- all of them fit, and so they do with more of another name -/
theorem fit_more {f : Nat} {m : List Nd} (h : namE f m = 0) (z : List Ag) (hz : ∀ a ∈ z, nameB a.name = true ∧ (a.num && badA a) = false) (hd : ((allN f [] m).map (·.1) ++ z.map (·.name)).Nodup) : fitE f m ((allN f [] m).map ofN ++ z) = 0 := by
  have h1 := namE_zero h
  unfold fitE
  rw [if_neg (by simp [h]), if_neg ?_]
  · have := askE_met (A := (allN f [] m).map ofN ++ z) (allN f [] m) [] fun n hn => ⟨find_own (names_dist f m) hn z, any_not h1.2.1 n hn⟩
    rw [List.append_nil] at this
    rw [this]; rfl
  · rw [Decidable.not_not]
    refine argE_ok _ [] (fun a ha => ?_) (by rw [List.map_append, own_names]; exact hd) (fun a _ => rfl)
    rcases List.mem_append.1 ha with ha | ha
    · exact own_fine (names_ok h) a ha
    · exact hz a ha
theorem fit_own {f : Nat} {m : List Nd} (h : namE f m = 0) : fitE f m ((allN f [] m).map ofN) = 0 := by
  have := fit_more h [] (by simp) (by simpa using names_dist f m)
  rwa [List.append_nil] at this
/-- without one of them they do not -/
theorem fit_less {f : Nat} {m : List Nd} (h : namE f m = 0) {i : Nat} (hi : i < (allN f [] m).length) : fitE f m (((allN f [] m).map ofN).take i ++ ((allN f [] m).map ofN).drop (i + 1)) = 2 := by
  have h1 := namE_zero h
  have hd := names_dist f m
  have ho := names_ok h
  generalize hL : allN f [] m = L at *
  obtain ⟨x, hx⟩ : ∃ x, L[i]? = some x := ⟨L[i], List.getElem?_eq_getElem hi⟩
  have e : L = L.take i ++ x :: L.drop (i + 1) := by
    obtain ⟨hi', ex⟩ := List.getElem?_eq_some_iff.1 hx
    rw [← ex, ← List.drop_eq_getElem_cons hi', List.take_append_drop]
  rw [← List.map_take, ← List.map_drop]
  generalize L.take i = A at *
  generalize L.drop (i + 1) = B at *
  subst e
  unfold Dist at hd
  rw [List.map_append, List.map_cons, List.nodup_append, List.nodup_cons] at hd
  obtain ⟨d1, ⟨d2, d3⟩, d4⟩ := hd
  unfold fitE
  rw [if_neg (by simp [h]), if_neg ?_]
  · rw [hL, askE_met A (x :: B) fun n hn => ⟨find_own d1 hn _, any_not h1.2.1 n (by simp [hn])⟩]
    have : (A.map ofN ++ B.map ofN).find? (fun a => a.name == x.1) = none := by
      rw [List.find?_eq_none]
      intro a ha e
      have e' : a.name = x.1 := by simpa using e
      rcases List.mem_append.1 ha with ha | ha
      · obtain ⟨n, hn, rfl⟩ := List.mem_map.1 ha
        exact d4 n.1 (List.mem_map.2 ⟨n, hn, rfl⟩) x.1 (by simp) e'
      · obtain ⟨n, hn, rfl⟩ := List.mem_map.1 ha
        exact d2 (List.mem_map.2 ⟨n, hn, e'⟩)
    unfold askE
    rw [this]
  · rw [Decidable.not_not, ← List.map_append]
    refine argE_ok _ [] (own_fine fun n hn => ho n (by rcases List.mem_append.1 hn with h | h <;> simp [h])) ?_ (fun a _ => rfl)
    rw [own_names, List.map_append, List.nodup_append]
    exact ⟨d1, d3, fun a ha b hb => d4 a ha b (by simp [hb])⟩
theorem find_idx {α : Type} (p : α → Bool) : ∀ l : List α, l.find? p = l[l.findIdx p]?
  | [] => rfl
  | a :: l => by cases h : p a <;> simp [List.find?_cons, List.findIdx_cons, h, find_idx p l]
/-- the place of a name -/
def idxA (l : List Ag) (t : List UInt8) : Int := if l.findIdx (fun a => a.name == t) < l.length then (l.findIdx (fun a => a.name == t) : Int) else -1
theorem idxA_lt (l : List Ag) (t : List UInt8) : idxA l t < 0 ↔ hasA l t = false := by
  have e := List.findIdx_lt_length (xs := l) (p := fun a => a.name == t)
  unfold idxA hasA
  constructor
  · intro h
    split at h
    · omega
    · rename_i h1
      rw [e] at h1
      cases hc : l.any fun a => a.name == t with
      | false => rfl
      | true => exact absurd (List.any_eq_true.1 hc) h1
  · intro h
    rw [if_neg]
    · omega
    · intro h1
      rw [List.any_eq_true.2 (e.1 h1)] at h; cases h
theorem idxA_find (l : List Ag) (t : List UInt8) : (hasA l t = false ∧ l.find? (fun a => a.name == t) = none ∧ idxA l t = -1) ∨ ∃ (k : Nat) (a : Ag), l[k]? = some a ∧ l.find? (fun a => a.name == t) = some a ∧ idxA l t = (k : Int) ∧ k < l.length := by
  by_cases h : l.findIdx (fun a => a.name == t) < l.length
  · exact .inr ⟨l.findIdx (fun a => a.name == t), l[l.findIdx (fun a => a.name == t)], List.getElem?_eq_getElem h, (find_idx _ l).trans (List.getElem?_eq_getElem h), by unfold idxA; rw [if_pos h], h⟩
  · have h0 : idxA l t = -1 := by unfold idxA; rw [if_neg h]
    have h1 := (idxA_lt l t).1 (by omega)
    refine .inl ⟨h1, ?_, h0⟩
    rw [List.find?_eq_none]
    intro a ha e
    unfold hasA at h1
    rw [List.any_eq_true.2 ⟨a, ha, e⟩] at h1; cases h1
end Ms
end Go.Proofs.YtainindkndjkbaaGreatDoor
namespace Go.Proofs.YtainindkndjkbaaGreatDoor
open Go.RowKit Ms
namespace Ms
def appM : List Nd := [.mk 4 [110] 0 [([111, 110, 101], [.mk 1 [111, 110, 101, 32, 97, 112, 112, 108, 101] 0 []]), ([111, 116, 104, 101, 114], [.mk 6 [] 0 [], .mk 1 [32, 97, 112, 112, 108, 101, 115] 0 []])]]
theorem app_names : namE 2 appM = 0 ∧ lstN 2 appM = [([110], true, false)] := by decide +kernel
end Ms
theorem app_at {W : World} {p0 p2 p4 p5 : Nat} (h0 : Boxed W p0 #[.int .i64 1, .string ⟨#[111, 110, 101, 32, 97, 112, 112, 108, 101]⟩, .int .i64 0, .slice none 0 0])
    (h2 : Boxed W p2 #[.int .i64 6, .string ⟨#[]⟩, .int .i64 0, .slice none 0 0, .int .i64 1, .string ⟨#[32, 97, 112, 112, 108, 101, 115]⟩, .int .i64 0, .slice none 0 0])
    (h4 : Boxed W p4 #[.string ⟨#[111, 110, 101]⟩, .slice (some ⟨p0, 0, none⟩) 1 1, .string ⟨#[111, 116, 104, 101, 114]⟩, .slice (some ⟨p2, 0, none⟩) 2 2])
    (h5 : Boxed W p5 #[.int .i64 4, .string ⟨#[110]⟩, .int .i64 0, .slice (some ⟨p4, 0, none⟩) 2 2]) : MsgAt 2 W (.slice (some ⟨p5, 0, none⟩) 1 1) appM := by
  refine .inr ⟨p5, 0, 1, rfl, by decide, by decide, by decide, fun j x hx => ?_⟩
  match j, hx with
  | 0, hx =>
    obtain rfl := Option.some.inj hx
    refine ⟨some ⟨p4, 0, none⟩, 2, 2, h5.cell 0 _ rfl, h5.cell 1 _ rfl, h5.cell 2 _ rfl, h5.cell 3 _ rfl, ?_, by decide, by decide⟩
    refine .inr ⟨p4, 0, 2, rfl, by decide, by decide, by decide, fun j y hy => ?_⟩
    match j, hy with
    | 0, hy =>
      obtain rfl := Option.some.inj hy
      refine ⟨some ⟨p0, 0, none⟩, 1, 1, h4.cell 0 _ rfl, h4.cell 1 _ rfl, ?_, by decide, by decide⟩
      refine .inr ⟨p0, 0, 1, rfl, by decide, by decide, by decide, fun j z hz => ?_⟩
      match j, hz with
      | 0, hz =>
        obtain rfl := Option.some.inj hz
        exact ⟨none, 0, 0, h0.cell 0 _ rfl, h0.cell 1 _ rfl, h0.cell 2 _ rfl, h0.cell 3 _ rfl, .inl ⟨rfl, none, 0, rfl⟩, by decide, by decide⟩
    | 1, hy =>
      obtain rfl := Option.some.inj hy
      refine ⟨some ⟨p2, 0, none⟩, 2, 2, h4.cell 2 _ rfl, h4.cell 3 _ rfl, ?_, by decide, by decide⟩
      refine .inr ⟨p2, 0, 2, rfl, by decide, by decide, by decide, fun j z hz => ?_⟩
      match j, hz with
      | 0, hz =>
        obtain rfl := Option.some.inj hz
        exact ⟨none, 0, 0, h2.cell 0 _ rfl, h2.cell 1 _ rfl, h2.cell 2 _ rfl, h2.cell 3 _ rfl, .inl ⟨rfl, none, 0, rfl⟩, by decide, by decide⟩
      | 1, hz =>
        obtain rfl := Option.some.inj hz
        exact ⟨none, 0, 0, h2.cell 4 _ rfl, h2.cell 5 _ rfl, h2.cell 6 _ rfl, h2.cell 7 _ rfl, .inl ⟨rfl, none, 0, rfl⟩, by decide, by decide⟩
theorem boxed_here {W : World} {p : Nat} (vs : Array Value) (t : TypeId) (h : p = W.heap.size) : Boxed (W.alloc (.cells vs t)) p vs := by subst h; exact Boxed.made W vs t
set_option maxRecDepth 100000 in
set_option maxHeartbeats 2000000 in
theorem apples_any (w : World) : Calls Tryz.prog 7 #[] w fun e w' => ∃ v, e = .returned v ∧ MsgAt 2 w' v appM ∧ Below w.heap.size w w' := by
  go_enter Tryz.func7, Tryz.ntmps7
  go_wp2_with fail
  go_ret
  refine ⟨_, rfl, ?_, ?_⟩
  · refine app_at (p0 := w.heap.size) (p2 := w.heap.size + 1 + 1) (p4 := w.heap.size + 1 + 1 + 1 + 1) (p5 := w.heap.size + 1 + 1 + 1 + 1 + 1) ?_ ?_ ?_ ?_
    · exact (((((boxed_here _ _ rfl).alloc _).alloc _).alloc _).alloc _).alloc _
    · exact (((boxed_here _ _ (by simp)).alloc _).alloc _).alloc _
    · exact (boxed_here _ _ (by simp)).alloc _
    · exact boxed_here _ _ (by simp)
  · exact (((((blw_alloc w _).alloc (by simp) _).alloc (by simp; omega) _).alloc (by simp; omega) _).alloc (by simp; omega) _).alloc (by simp; omega) _
end Go.Proofs.YtainindkndjkbaaGreatDoor
