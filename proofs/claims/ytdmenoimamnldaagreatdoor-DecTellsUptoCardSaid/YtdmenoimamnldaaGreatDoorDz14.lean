/- The walk of linguisterref1.DecText: a number's text. No conditions but the argument's own. -/
import Derived.Test.YtdmenoimamnldaaGreatDoorDz0
import Derived.Deep.RegionHeld3
import Derived.Test.YtdmenoimamnldaaGreatDoorDz10
import Derived.Test.YtdmenoimamnldaaGreatDoorDz11
import Derived.Test.YtdmenoimamnldaaGreatDoorDz3
namespace Go.Proofs.YtdmenoimamnldaaGreatDoor
open Go.RowKit

section
variable {P : Program} {l : List Oper} {Q : Exit → Act → World → Prop} {md : Region.Mode} {S : World → Prop}
/-- take number i: it yields v in every world that meets S -/
theorem take_run {d : Option Nat} {oi : Oper} {v : Value} {fuel : Nat} {listed : Array Bool} {a : Act} {w : World} (i : Nat) (hi : l[i]? = some oi) (hd : oi.dst = d)
    (hs : Region.noSelect l.toArray = true) (hf : Region.free md l.toArray listed i = true) (hr : (Region.ready md l.toArray listed).contains i = true)
    (hQ : ∀ c a w, Q (.panic c) (a.put d v) w → Q (.panic c) a w) (hw : Region.wanted oi (yielded l.toArray a.tmps) = true) (hS : S w)
    (hrun : ∀ w, S w → (execOp a.eval oi).run P w = .ok (.value v) w)
    (h : wpAnyH P md l.toArray Q S fuel (listed.setIfInBounds i true) (a.put d v) w) : wpAnyH P md l.toArray Q S (fuel + 1) listed a w := by
  subst hd
  exact wpAnyH_take (by simpa using hi) hs hf hr hQ (.inl ⟨hw, hrun⟩) hS h
/-- pass number i over: its guard is not met -/
theorem take_skip {d : Option Nat} {oi : Oper} {fuel : Nat} {listed : Array Bool} {a : Act} {w : World} (i : Nat) (hi : l[i]? = some oi) (hd : oi.dst = d)
    (hs : Region.noSelect l.toArray = true) (hf : Region.free md l.toArray listed i = true) (hr : (Region.ready md l.toArray listed).contains i = true)
    (hQ : ∀ c a w, Q (.panic c) (a.put d undef) w → Q (.panic c) a w) (hw : Region.wanted oi (yielded l.toArray a.tmps) = false) (hS : S w)
    (h : wpAnyH P md l.toArray Q S fuel (listed.setIfInBounds i true) (a.put d undef) w) : wpAnyH P md l.toArray Q S (fuel + 1) listed a w := by
  subst hd
  exact wpAnyH_take (by simpa using hi) hs hf hr hQ (.inr ⟨hw, rfl⟩) hS h
/-- number i alone may come up: a call -/
theorem take_call {oi : Oper} {fuel : Nat} {listed : Array Bool} {a : Act} {w : World} (i : Nat) (hi : l[i]? = some oi) (hr : Region.ready md l.toArray listed = [i]) (hw : Region.wanted oi (yielded l.toArray a.tmps) = true)
    (h : ∀ K' : Act → World → Prop, Shut (∀ a w, S w → (S w → wpAnyH P md l.toArray Q S fuel (listed.setIfInBounds i true) a w) → K' a w) → Oper.wp P oi a w K' Q) : wpAnyH P md l.toArray Q S (fuel + 1) listed a w :=
  wpAnyH_ready hr (by simp) (AllReadyH.cons (by simpa using hi) (fun K' hK => by rw [if_pos hw]; exact h K' hK) AllReadyH.nil)
/-- the same, with what closes by computing left to the elaborator -/
theorem tkr {d : Option Nat} {oi : Oper} {v : Value} {fuel : Nat} {listed : Array Bool} {a : Act} {w : World} (i : Nat) (hi : l[i]? = some oi) (hd : oi.dst = d)
    (hS : S w) (hrun : ∀ w, S w → (execOp a.eval oi).run P w = .ok (.value v) w) (h : wpAnyH P md l.toArray Q S fuel (listed.setIfInBounds i true) (a.put d v) w)
    (hs : Region.noSelect l.toArray = true := by kernel_rfl) (hf : Region.free md l.toArray listed i = true := by kernel_rfl) (hr : (Region.ready md l.toArray listed).contains i = true := by kernel_rfl)
    (hQ : ∀ c a w, Q (.panic c) (a.put d v) w → Q (.panic c) a w := by exact fun _ _ _ h => h) (hw : Region.wanted oi (yielded l.toArray a.tmps) = true := by rfl) : wpAnyH P md l.toArray Q S (fuel + 1) listed a w :=
  take_run i hi hd hs hf hr hQ hw hS hrun h
theorem tks {d : Option Nat} {oi : Oper} {fuel : Nat} {listed : Array Bool} {a : Act} {w : World} (i : Nat) (hi : l[i]? = some oi) (hd : oi.dst = d)
    (hS : S w) (h : wpAnyH P md l.toArray Q S fuel (listed.setIfInBounds i true) (a.put d undef) w)
    (hs : Region.noSelect l.toArray = true := by kernel_rfl) (hf : Region.free md l.toArray listed i = true := by kernel_rfl) (hr : (Region.ready md l.toArray listed).contains i = true := by kernel_rfl)
    (hQ : ∀ c a w, Q (.panic c) (a.put d undef) w → Q (.panic c) a w := by exact fun _ _ _ h => h) (hw : Region.wanted oi (yielded l.toArray a.tmps) = false := by rfl) : wpAnyH P md l.toArray Q S (fuel + 1) listed a w :=
  take_skip i hi hd hs hf hr hQ hw hS h
end
end Go.Proofs.YtdmenoimamnldaaGreatDoor
namespace Go.Proofs.YtdmenoimamnldaaGreatDoor
open Go.RowKit
open Dcm (P10 okD mag)

theorem ten_bel (n : Int) (w : World) (h0 : 0 ≤ n) (h1 : n ≤ 9) : Calls Tryz.prog 24 #[.int .i64 n] w fun e w' => e = .returned (.int .i64 (P10 n)) ∧ Below w.heap.size w w' :=
  (ten_any n w h0 h1).mono fun _ _ h => ⟨h.1, by rw [← h.2]; exact Below.refl _ _⟩

set_option maxRecDepth 100000 in
set_option maxHeartbeats 2000000 in
theorem rdect_whole (c s : Int) (w : World) (h : okD c s) (hs : s = 0) (g : List UInt8) (hg : Byt.sgn c = g) (hcg : (c < 0 ∧ g = [45]) ∨ (¬ c < 0 ∧ g = [])) :
    Calls Tryz.prog 14 #[.agg #[.int .i64 c, .int .i64 s]] w fun e w' => e = .returned (.string ⟨(Byt.decText c s).toArray⟩) ∧ Below w.heap.size w w' := by
  have e2 := Byt.decText_two c s h
  have dl := Byt.dec_len c s h
  obtain ⟨s0, s9, c0, c1⟩ := h
  have hm : 0 ≤ mag c ∧ mag c ≤ 1000000000000000 := by unfold mag; split <;> omega
  have hP := Dcm.P10_bd s
  have q0 : 0 ≤ mag c / P10 s := Int.ediv_nonneg hm.1 (by omega)
  have q1 : mag c / P10 s ≤ mag c := Int.ediv_le_self _ hm.1
  subst hs
  have ew : Byt.magT (mag c) 0 = Lib.decDigits (mag c / P10 0).toNat := by
    rw [show mag c / P10 0 = mag c from Int.ediv_one _]; exact if_pos (Int.le_refl 0)
  rw [hg, ew] at e2
  have CD := Lib.hid fun w => digits_none (mag c / P10 0) w q0 (by omega)
  generalize Lib.decDigits (mag c / P10 0).toNat = M at *
  have HX := Lib.hid e2
  rw [e2, List.length_append] at dl
  have AD : ∀ w, (Op.stringOp .add ⟨#[45]⟩ ⟨M.toArray⟩).run Tryz.prog w = .ok (.string ⟨([45] ++ M).toArray⟩) w := fun w => add_str (P := Tryz.prog) [45] M (by simp; omega) w
  generalize Byt.decText c 0 = X at *
  clear e2 ew hg dl
  obtain ⟨Y, hY⟩ : ∃ Y, [45] ++ M = Y := ⟨_, rfl⟩
  rw [hY] at AD
  have HY := Lib.hid hY
  clear hY
  rcases hcg with ⟨hc, rfl⟩ | ⟨hc, rfl⟩
  · have dc : decide (c < 0) = true := dec_yes hc
    go_enter Tryz.func14, Tryz.ntmps14
    go_wp2_with fail
    refine (size_any _ _ (by omega) (by omega)).mono ?_
    rintro e w' ⟨rfl, rfl⟩
    go_wp2_with fail
    refine (ten_any _ _ (by omega) (by omega)).mono ?_
    rintro e w' ⟨rfl, rfl⟩
    go_wp2_with fail
    refine (CD.out _).mono ?_
    rintro e w1 ⟨rfl, hb⟩
    have B1_d := Boxed.below (Boxed.made _ #[.int .i64 c, .int .i64 0] 23) hb
    have W1 := Lib.hid (blw_trans (blw_trans (Below.refl w.heap.size w) (blw_alloc _ _)) hb)
    clear hb 
    have kd0 := B1_d.cell 0 _ rfl
    have kd1 := B1_d.cell 1 _ rfl
    have kdl := B1_d.lt
    try simp at kd0 kd1 kdl
    go_wp2_with fail
    go_ret
    exact ⟨ret_str (by rw [HX.out, HY.out]), W1.out⟩
  · have dc : decide (c < 0) = false := dec_no hc
    go_enter Tryz.func14, Tryz.ntmps14
    go_wp2_with fail
    refine (size_any _ _ (by omega) (by omega)).mono ?_
    rintro e w' ⟨rfl, rfl⟩
    go_wp2_with fail
    refine (ten_any _ _ (by omega) (by omega)).mono ?_
    rintro e w' ⟨rfl, rfl⟩
    go_wp2_with fail
    refine (CD.out _).mono ?_
    rintro e w1 ⟨rfl, hb⟩
    have B1_d := Boxed.below (Boxed.made _ #[.int .i64 c, .int .i64 0] 23) hb
    have W1 := Lib.hid (blw_trans (blw_trans (Below.refl w.heap.size w) (blw_alloc _ _)) hb)
    clear hb 
    have kd0 := B1_d.cell 0 _ rfl
    have kd1 := B1_d.cell 1 _ rfl
    have kdl := B1_d.lt
    try simp at kd0 kd1 kdl
    go_wp2_with fail
    go_ret
    exact ⟨ret_str (by rw [HX.out, List.nil_append]), W1.out⟩

set_option maxRecDepth 100000 in
set_option maxHeartbeats 2000000 in
theorem rdect_point (c s : Int) (w : World) (h : okD c s) (hs : 0 < s) (g : List UInt8) (hg : Byt.sgn c = g) (hcg : (c < 0 ∧ g = [45]) ∨ (¬ c < 0 ∧ g = [])) :
    Calls Tryz.prog 14 #[.agg #[.int .i64 c, .int .i64 s]] w fun e w' => e = .returned (.string ⟨(Byt.decText c s).toArray⟩) ∧ Below w.heap.size w w' := by
  have e2 := Byt.decText_two c s h
  have dl := Byt.dec_len c s h
  obtain ⟨s0, s9, c0, c1⟩ := h
  have hm : 0 ≤ mag c ∧ mag c ≤ 1000000000000000 := by unfold mag; split <;> omega
  have hP := Dcm.P10_bd s
  have q0 : 0 ≤ mag c / P10 s := Int.ediv_nonneg hm.1 (by omega)
  have q1 : mag c / P10 s ≤ mag c := Int.ediv_le_self _ hm.1
  have r0 : 0 ≤ mag c % P10 s := Int.emod_nonneg _ (by omega)
  have r1 : mag c % P10 s < P10 s := Int.emod_lt_of_pos _ (by omega)
  have ew : Byt.magT (mag c) s = Lib.decDigits (mag c / P10 s).toNat ++ 46 :: Dtx.pad s.toNat (mag c % P10 s).toNat := if_neg (by omega)
  rw [hg, ew] at e2
  have CD := Lib.hid fun w => digits_none (mag c / P10 s) w q0 (by omega)
  have CP := Lib.hid fun w => digits_any (mag c % P10 s) s w r0 (by omega) s0 (by omega)
  generalize Lib.decDigits (mag c / P10 s).toNat = D at *
  generalize Dtx.pad s.toNat (mag c % P10 s).toNat = P at *
  have HX := Lib.hid e2
  rw [e2, List.length_append, List.length_append, List.length_cons] at dl
  generalize Byt.decText c s = X at *
  obtain ⟨X1, hX1⟩ : ∃ Y, D ++ [46] = Y := ⟨_, rfl⟩
  obtain ⟨M, hM⟩ : ∃ Y, X1 ++ P = Y := ⟨_, rfl⟩
  have lX : X1.length = D.length + 1 := by rw [← hX1]; simp
  have lM : M.length = D.length + 1 + P.length := by rw [← hM, List.length_append, lX]
  have A1 : ∀ w, (Op.stringOp .add ⟨D.toArray⟩ ⟨#[46]⟩).run Tryz.prog w = .ok (.string ⟨X1.toArray⟩) w := fun w => by rw [← hX1]; exact add_str (P := Tryz.prog) D [46] (by simp; omega) w
  have A2 : ∀ w, (Op.stringOp .add ⟨X1.toArray⟩ ⟨P.toArray⟩).run Tryz.prog w = .ok (.string ⟨M.toArray⟩) w := fun w => by rw [← hM]; exact add_str (P := Tryz.prog) X1 P (by omega) w
  obtain ⟨Y, hY⟩ : ∃ Y, [45] ++ M = Y := ⟨_, rfl⟩
  have AD : ∀ w, (Op.stringOp .add ⟨#[45]⟩ ⟨M.toArray⟩).run Tryz.prog w = .ok (.string ⟨Y.toArray⟩) w := fun w => by rw [← hY]; exact add_str (P := Tryz.prog) [45] M (by simp; omega) w
  have HY := Lib.hid hY
  have HMM := Lib.hid (show D ++ 46 :: P = M by rw [← hM, ← hX1]; simp)
  have d0 : decide (0 < s) = true := dec_yes hs
  have pn : P10 s ≠ 0 := by omega
  have tm : (mag c).tmod (P10 s) = mag c % P10 s := Int.tmod_eq_emod_of_nonneg hm.1
  clear e2 ew hg dl hX1 hM hY lX lM
  obtain ⟨m0, m1⟩ := hm
  rcases hcg with ⟨hc, rfl⟩ | ⟨hc, rfl⟩
  · have dc : decide (c < 0) = true := dec_yes hc
    go_enter Tryz.func14, Tryz.ntmps14
    go_wp2_with fail
    refine (size_any _ _ (by omega) (by omega)).mono ?_
    rintro e w' ⟨rfl, rfl⟩
    go_wp2_with fail
    refine (ten_any _ _ (by omega) (by omega)).mono ?_
    rintro e w' ⟨rfl, rfl⟩
    go_wp2_with fail
    refine (CD.out _).mono ?_
    rintro e w1 ⟨rfl, hb⟩
    have B1_d := Boxed.below (Boxed.made _ #[.int .i64 c, .int .i64 s] 23) hb
    have W1 := Lib.hid (blw_trans (blw_trans (Below.refl w.heap.size w) (blw_alloc _ _)) hb)
    clear hb 
    have kd0 := B1_d.cell 0 _ rfl
    have kd1 := B1_d.cell 1 _ rfl
    have kdl := B1_d.lt
    try simp at kd0 kd1 kdl
    go_wp2_with fail
    refine wp_region_held_drew (S := fun w' => w'.cell? ⟨w.heap.size, 0, none⟩ = some (.int .i64 c) ∧ w'.cell? ⟨w.heap.size, 1, none⟩ = some (.int .i64 s) ∧ Hid (Below w.heap.size w w')) (by kernel_rfl) (by exact ⟨by simpa using kd0, by simpa using kd1, Lib.hid (blw_drewN W1.out 1)⟩) (fun hHeld => ?_)
    refine take_run (d := (some 17)) (v := ?v1) 0 rfl rfl (by kernel_rfl) (by kernel_rfl) (by kernel_rfl) (fun _ _ _ h => h) (by rfl) hHeld ?hy1 ?rs1
    case hy1 => (intro w hSw; (try dsimp only at hSw); go_simp) <;> (try with_reducible rfl)
    (try simp only [Act.put, List.setIfInBounds_toArray, List.set_cons_zero, List.set_cons_succ])
    refine take_run (d := (some 18)) (v := ?v2) 1 rfl rfl (by kernel_rfl) (by kernel_rfl) (by kernel_rfl) (fun _ _ _ h => h) (by rfl) hHeld ?hy2 ?rs2
    case hy2 => (intro w hSw; (try dsimp only at hSw); go_simp) <;> (try with_reducible rfl)
    (try simp only [Act.put, List.setIfInBounds_toArray, List.set_cons_zero, List.set_cons_succ])
    refine take_run (d := (some 19)) (v := ?v3) 2 rfl rfl (by kernel_rfl) (by kernel_rfl) (by kernel_rfl) (fun _ _ _ h => h) (by rfl) hHeld ?hy3 ?rs3
    case hy3 => (intro w hSw; (try dsimp only at hSw); go_simp) <;> (try with_reducible rfl)
    (try simp only [Act.put, List.setIfInBounds_toArray, List.set_cons_zero, List.set_cons_succ])
    refine take_run (d := (some 20)) (v := ?v4) 3 rfl rfl (by kernel_rfl) (by kernel_rfl) (by kernel_rfl) (fun _ _ _ h => h) (by rfl) hHeld ?hy4 ?rs4
    case hy4 => (intro w hSw; (try dsimp only at hSw); go_simp) <;> (try with_reducible rfl)
    (try simp only [Act.put, List.setIfInBounds_toArray, List.set_cons_zero, List.set_cons_succ])
    refine take_run (d := (some 21)) (v := ?v5) 4 rfl rfl (by kernel_rfl) (by kernel_rfl) (by kernel_rfl) (fun _ _ _ h => h) (by rfl) hHeld ?hy5 ?rs5
    case hy5 => (intro w hSw; (try dsimp only at hSw); go_simp) <;> (try with_reducible rfl)
    (try simp only [Act.put, List.setIfInBounds_toArray, List.set_cons_zero, List.set_cons_succ])
    refine take_run (d := (some 24)) (v := ?v6) 7 rfl rfl (by kernel_rfl) (by kernel_rfl) (by kernel_rfl) (fun _ _ _ h => h) (by rfl) hHeld ?hy6 ?rs6
    case hy6 => (intro w hSw; (try dsimp only at hSw); go_simp) <;> (try with_reducible rfl)
    (try simp only [Act.put, List.setIfInBounds_toArray, List.set_cons_zero, List.set_cons_succ])
    refine take_run (d := (some 25)) (v := ?v7) 8 rfl rfl (by kernel_rfl) (by kernel_rfl) (by kernel_rfl) (fun _ _ _ h => h) (by rfl) hHeld ?hy7 ?rs7
    case hy7 => (intro w hSw; (try dsimp only at hSw); go_simp) <;> (try with_reducible rfl)
    (try simp only [Act.put, List.setIfInBounds_toArray, List.set_cons_zero, List.set_cons_succ])
    refine take_call 5 rfl (by kernel_rfl) (by rfl) (fun K hK => ?_)
    go_simp
    refine (ten_bel _ _ (by omega) (by omega)).mono ?_
    rintro e w' ⟨rfl, hb⟩
    refine hK.out _ _ (by obtain ⟨h0, h1, hw⟩ := hHeld; exact ⟨cell_keep h0 hb, cell_keep h1 hb, Lib.hid (blw_trans hw.out hb)⟩) (fun hHeld => ?_)
    clear hK K
    (try simp only [Act.put, List.setIfInBounds_toArray, List.set_cons_zero, List.set_cons_succ])
    refine take_run (d := (some 23)) (v := ?v9) 6 rfl rfl (by kernel_rfl) (by kernel_rfl) (by kernel_rfl) (fun _ _ _ h => h) (by rfl) hHeld ?hy9 ?rs9
    case hy9 => (intro w hSw; (try dsimp only at hSw); go_simp) <;> (try with_reducible rfl)
    (try simp only [Act.put, List.setIfInBounds_toArray, List.set_cons_zero, List.set_cons_succ])
    refine take_call 9 rfl (by kernel_rfl) (by rfl) (fun K hK => ?_)
    go_simp
    refine (CP.out _).mono ?_
    rintro e w' ⟨rfl, hb⟩
    refine hK.out _ _ (by obtain ⟨h0, h1, hw⟩ := hHeld; exact ⟨cell_keep h0 hb, cell_keep h1 hb, Lib.hid (blw_trans hw.out hb)⟩) (fun hHeld => ?_)
    clear hK K
    (try simp only [Act.put, List.setIfInBounds_toArray, List.set_cons_zero, List.set_cons_succ])
    refine take_run (d := (some 27)) (v := ?v11) 10 rfl rfl (by kernel_rfl) (by kernel_rfl) (by kernel_rfl) (fun _ _ _ h => h) (by rfl) hHeld ?hy11 ?rs11
    case hy11 => (intro w hSw; (try dsimp only at hSw); go_simp) <;> (try with_reducible rfl)
    (try simp only [Act.put, List.setIfInBounds_toArray, List.set_cons_zero, List.set_cons_succ])
    refine take_run (d := (some 4)) (v := ?v12) 11 rfl rfl (by kernel_rfl) (by kernel_rfl) (by kernel_rfl) (fun _ _ _ h => h) (by rfl) hHeld ?hy12 ?rs12
    case hy12 => (intro w hSw; (try dsimp only at hSw); go_simp) <;> (try with_reducible rfl)
    (try simp only [Act.put, List.setIfInBounds_toArray, List.set_cons_zero, List.set_cons_succ])
    refine wpAnyH_done (by kernel_rfl) ?_ _
    obtain ⟨z0, z1, zW⟩ := hHeld
    clear kd0 kd1 kdl W1 B1_d
    go_wp2_with fail
    go_ret
    exact ⟨ret_str (by rw [HX.out, HMM.out, HY.out]), zW.out⟩
  · have dc : decide (c < 0) = false := dec_no hc
    go_enter Tryz.func14, Tryz.ntmps14
    go_wp2_with fail
    refine (size_any _ _ (by omega) (by omega)).mono ?_
    rintro e w' ⟨rfl, rfl⟩
    go_wp2_with fail
    refine (ten_any _ _ (by omega) (by omega)).mono ?_
    rintro e w' ⟨rfl, rfl⟩
    go_wp2_with fail
    refine (CD.out _).mono ?_
    rintro e w1 ⟨rfl, hb⟩
    have B1_d := Boxed.below (Boxed.made _ #[.int .i64 c, .int .i64 s] 23) hb
    have W1 := Lib.hid (blw_trans (blw_trans (Below.refl w.heap.size w) (blw_alloc _ _)) hb)
    clear hb 
    have kd0 := B1_d.cell 0 _ rfl
    have kd1 := B1_d.cell 1 _ rfl
    have kdl := B1_d.lt
    try simp at kd0 kd1 kdl
    go_wp2_with fail
    refine wp_region_held_drew (S := fun w' => w'.cell? ⟨w.heap.size, 0, none⟩ = some (.int .i64 c) ∧ w'.cell? ⟨w.heap.size, 1, none⟩ = some (.int .i64 s) ∧ Hid (Below w.heap.size w w')) (by kernel_rfl) (by exact ⟨by simpa using kd0, by simpa using kd1, Lib.hid (blw_drewN W1.out 1)⟩) (fun hHeld => ?_)
    refine take_run (d := (some 17)) (v := ?v13) 0 rfl rfl (by kernel_rfl) (by kernel_rfl) (by kernel_rfl) (fun _ _ _ h => h) (by rfl) hHeld ?hy13 ?rs13
    case hy13 => (intro w hSw; (try dsimp only at hSw); go_simp) <;> (try with_reducible rfl)
    (try simp only [Act.put, List.setIfInBounds_toArray, List.set_cons_zero, List.set_cons_succ])
    refine take_run (d := (some 18)) (v := ?v14) 1 rfl rfl (by kernel_rfl) (by kernel_rfl) (by kernel_rfl) (fun _ _ _ h => h) (by rfl) hHeld ?hy14 ?rs14
    case hy14 => (intro w hSw; (try dsimp only at hSw); go_simp) <;> (try with_reducible rfl)
    (try simp only [Act.put, List.setIfInBounds_toArray, List.set_cons_zero, List.set_cons_succ])
    refine take_run (d := (some 19)) (v := ?v15) 2 rfl rfl (by kernel_rfl) (by kernel_rfl) (by kernel_rfl) (fun _ _ _ h => h) (by rfl) hHeld ?hy15 ?rs15
    case hy15 => (intro w hSw; (try dsimp only at hSw); go_simp) <;> (try with_reducible rfl)
    (try simp only [Act.put, List.setIfInBounds_toArray, List.set_cons_zero, List.set_cons_succ])
    refine take_run (d := (some 20)) (v := ?v16) 3 rfl rfl (by kernel_rfl) (by kernel_rfl) (by kernel_rfl) (fun _ _ _ h => h) (by rfl) hHeld ?hy16 ?rs16
    case hy16 => (intro w hSw; (try dsimp only at hSw); go_simp) <;> (try with_reducible rfl)
    (try simp only [Act.put, List.setIfInBounds_toArray, List.set_cons_zero, List.set_cons_succ])
    refine take_run (d := (some 21)) (v := ?v17) 4 rfl rfl (by kernel_rfl) (by kernel_rfl) (by kernel_rfl) (fun _ _ _ h => h) (by rfl) hHeld ?hy17 ?rs17
    case hy17 => (intro w hSw; (try dsimp only at hSw); go_simp) <;> (try with_reducible rfl)
    (try simp only [Act.put, List.setIfInBounds_toArray, List.set_cons_zero, List.set_cons_succ])
    refine take_run (d := (some 24)) (v := ?v18) 7 rfl rfl (by kernel_rfl) (by kernel_rfl) (by kernel_rfl) (fun _ _ _ h => h) (by rfl) hHeld ?hy18 ?rs18
    case hy18 => (intro w hSw; (try dsimp only at hSw); go_simp) <;> (try with_reducible rfl)
    (try simp only [Act.put, List.setIfInBounds_toArray, List.set_cons_zero, List.set_cons_succ])
    refine take_run (d := (some 25)) (v := ?v19) 8 rfl rfl (by kernel_rfl) (by kernel_rfl) (by kernel_rfl) (fun _ _ _ h => h) (by rfl) hHeld ?hy19 ?rs19
    case hy19 => (intro w hSw; (try dsimp only at hSw); go_simp) <;> (try with_reducible rfl)
    (try simp only [Act.put, List.setIfInBounds_toArray, List.set_cons_zero, List.set_cons_succ])
    refine take_call 5 rfl (by kernel_rfl) (by rfl) (fun K hK => ?_)
    go_simp
    refine (ten_bel _ _ (by omega) (by omega)).mono ?_
    rintro e w' ⟨rfl, hb⟩
    refine hK.out _ _ (by obtain ⟨h0, h1, hw⟩ := hHeld; exact ⟨cell_keep h0 hb, cell_keep h1 hb, Lib.hid (blw_trans hw.out hb)⟩) (fun hHeld => ?_)
    clear hK K
    (try simp only [Act.put, List.setIfInBounds_toArray, List.set_cons_zero, List.set_cons_succ])
    refine take_run (d := (some 23)) (v := ?v21) 6 rfl rfl (by kernel_rfl) (by kernel_rfl) (by kernel_rfl) (fun _ _ _ h => h) (by rfl) hHeld ?hy21 ?rs21
    case hy21 => (intro w hSw; (try dsimp only at hSw); go_simp) <;> (try with_reducible rfl)
    (try simp only [Act.put, List.setIfInBounds_toArray, List.set_cons_zero, List.set_cons_succ])
    refine take_call 9 rfl (by kernel_rfl) (by rfl) (fun K hK => ?_)
    go_simp
    refine (CP.out _).mono ?_
    rintro e w' ⟨rfl, hb⟩
    refine hK.out _ _ (by obtain ⟨h0, h1, hw⟩ := hHeld; exact ⟨cell_keep h0 hb, cell_keep h1 hb, Lib.hid (blw_trans hw.out hb)⟩) (fun hHeld => ?_)
    clear hK K
    (try simp only [Act.put, List.setIfInBounds_toArray, List.set_cons_zero, List.set_cons_succ])
    refine take_run (d := (some 27)) (v := ?v23) 10 rfl rfl (by kernel_rfl) (by kernel_rfl) (by kernel_rfl) (fun _ _ _ h => h) (by rfl) hHeld ?hy23 ?rs23
    case hy23 => (intro w hSw; (try dsimp only at hSw); go_simp) <;> (try with_reducible rfl)
    (try simp only [Act.put, List.setIfInBounds_toArray, List.set_cons_zero, List.set_cons_succ])
    refine take_run (d := (some 4)) (v := ?v24) 11 rfl rfl (by kernel_rfl) (by kernel_rfl) (by kernel_rfl) (fun _ _ _ h => h) (by rfl) hHeld ?hy24 ?rs24
    case hy24 => (intro w hSw; (try dsimp only at hSw); go_simp) <;> (try with_reducible rfl)
    (try simp only [Act.put, List.setIfInBounds_toArray, List.set_cons_zero, List.set_cons_succ])
    refine wpAnyH_done (by kernel_rfl) ?_ _
    obtain ⟨z0, z1, zW⟩ := hHeld
    clear kd0 kd1 kdl W1 B1_d
    go_wp2_with fail
    go_ret
    exact ⟨ret_str (by rw [HX.out, HMM.out, List.nil_append]), zW.out⟩

theorem rdect_any (c s : Int) (w : World) (h : okD c s) : Calls Tryz.prog 14 #[.agg #[.int .i64 c, .int .i64 s]] w fun e w' => e = .returned (.string ⟨(Byt.decText c s).toArray⟩) ∧ Below w.heap.size w w' := by
  have hcg : (c < 0 ∧ Byt.sgn c = [45]) ∨ (¬ c < 0 ∧ Byt.sgn c = []) := by
    by_cases hc : c < 0
    · exact .inl ⟨hc, if_pos hc⟩
    · exact .inr ⟨hc, if_neg hc⟩
  by_cases hs : s = 0
  · exact rdect_whole c s w h hs _ rfl hcg
  · exact rdect_point c s w h (by have := h.1; omega) _ rfl hcg
end Go.Proofs.YtdmenoimamnldaaGreatDoor
