/- The walk of linguisterref1.DateText. -/
import Derived.Test.YtdcemkfljhdceaaGreatDoorDateTxt
import Derived.Test.YtdcemkfljhdceaaGreatDoorDigits
namespace Go.Proofs.YtdcemkfljhdceaaGreatDoor
open Go.RowKit

set_option maxRecDepth 100000 in
set_option maxHeartbeats 1000000 in
theorem rdtext_any (y m d : Int) (w : World) (h : Cal.vld y m d) :
    Calls Tryz.prog 7 #[.agg #[.int .i64 y, .int .i64 m, .int .i64 d]] w fun e w' => e = .returned (.string ⟨(dtxt y m d).toArray⟩) ∧ Below w.heap.size w w' := by
  have st := Cal.bef_step y m h.2.2.1 h.2.2.2.1
  obtain ⟨v1, v2, v3, v4, v5, v6⟩ := h
  have CY := Lib.hid fun w => digits_any y 4 w (by omega) (by omega) (by omega) (by omega)
  have CM := Lib.hid fun w => digits_any m 2 w (by omega) (by omega) (by omega) (by omega)
  have CD := Lib.hid fun w => digits_any d 2 w (by omega) (by omega) (by omega) (by omega)
  have ly := pad_len 4 y.toNat (by omega) (by omega)
  have lm := pad_len 2 m.toNat (by omega) (by omega)
  have ld := pad_len 2 d.toNat (by omega) (by omega)
  have G : Dtx.pad 4 y.toNat ++ [45] ++ Dtx.pad 2 m.toNat ++ [45] ++ Dtx.pad 2 d.toNat = dtxt y m d := rfl
  rw [show (4 : Int).toNat = 4 from rfl] at CY
  rw [show (2 : Int).toNat = 2 from rfl] at CM CD
  clear st v6
  generalize dtxt y m d = T at *
  generalize Dtx.pad 4 y.toNat = Y at *
  generalize Dtx.pad 2 m.toNat = M at *
  generalize Dtx.pad 2 d.toNat = E at *
  obtain ⟨Y1, Sx1⟩ : ∃ X, X = Y ++ [45] := ⟨_, rfl⟩
  have S1 : ∀ w, (Op.stringOp .add ⟨Y.toArray⟩ ⟨#[45]⟩).run Tryz.prog w = .ok (.string ⟨Y1.toArray⟩) w := fun w => by rw [Sx1]; exact add_str (P := Tryz.prog) Y [45] (by first | omega | (simp; omega)) w
  have Sm1 : Y1.length = Y.length + 1 := by rw [Sx1]; simp
  obtain ⟨Y2, Sx2⟩ : ∃ X, X = Y1 ++ M := ⟨_, rfl⟩
  have S2 : ∀ w, (Op.stringOp .add ⟨Y1.toArray⟩ ⟨M.toArray⟩).run Tryz.prog w = .ok (.string ⟨Y2.toArray⟩) w := fun w => by rw [Sx2]; exact add_str (P := Tryz.prog) Y1 M (by first | omega | (simp; omega)) w
  have Sm2 : Y2.length = Y1.length + M.length := by rw [Sx2]; simp
  obtain ⟨Y3, Sx3⟩ : ∃ X, X = Y2 ++ [45] := ⟨_, rfl⟩
  have S3 : ∀ w, (Op.stringOp .add ⟨Y2.toArray⟩ ⟨#[45]⟩).run Tryz.prog w = .ok (.string ⟨Y3.toArray⟩) w := fun w => by rw [Sx3]; exact add_str (P := Tryz.prog) Y2 [45] (by first | omega | (simp; omega)) w
  have Sm3 : Y3.length = Y2.length + 1 := by rw [Sx3]; simp
  have S4 : ∀ w, (Op.stringOp .add ⟨Y3.toArray⟩ ⟨E.toArray⟩).run Tryz.prog w = .ok (.string ⟨T.toArray⟩) w := fun w => by rw [← G, ← Sx1, ← Sx2, ← Sx3]; exact add_str (P := Tryz.prog) Y3 E (by first | omega | (simp; omega)) w
  clear Sx1 Sx2 Sx3 Sm1 Sm2 Sm3 G
  go_enter Tryz.func7, Tryz.ntmps7
  go_wp2_with fail
  refine wp_region_held_drew (S := fun w' => w'.cell? ⟨w.heap.size, 0, none⟩ = some (.int .i64 y) ∧ w'.cell? ⟨w.heap.size, 1, none⟩ = some (.int .i64 m) ∧ w'.cell? ⟨w.heap.size, 2, none⟩ = some (.int .i64 d) ∧ Hid (Below w.heap.size w w')) (by kernel_rfl) (by exact ⟨by simp [go_sem], by simp [go_sem], by simp [go_sem], Lib.hid (Below.drew (blw_alloc _ _))⟩) (fun hHeld => ?_)
  refine take_run (d := (some 3)) (v := ?v1) 0 rfl rfl (by kernel_rfl) (by kernel_rfl) (by kernel_rfl) (fun _ _ _ h => h) (by rfl) hHeld ?hy1 ?rs1
  case hy1 => (intro w hSw; (try dsimp only at hSw); go_simp) <;> (try with_reducible rfl)
  (try simp only [Act.put, List.setIfInBounds_toArray, List.set_cons_zero, List.set_cons_succ])
  refine take_run (d := (some 4)) (v := ?v2) 1 rfl rfl (by kernel_rfl) (by kernel_rfl) (by kernel_rfl) (fun _ _ _ h => h) (by rfl) hHeld ?hy2 ?rs2
  case hy2 => (intro w hSw; (try dsimp only at hSw); go_simp) <;> (try with_reducible rfl)
  (try simp only [Act.put, List.setIfInBounds_toArray, List.set_cons_zero, List.set_cons_succ])
  refine take_run (d := (some 7)) (v := ?v3) 4 rfl rfl (by kernel_rfl) (by kernel_rfl) (by kernel_rfl) (fun _ _ _ h => h) (by rfl) hHeld ?hy3 ?rs3
  case hy3 => (intro w hSw; (try dsimp only at hSw); go_simp) <;> (try with_reducible rfl)
  (try simp only [Act.put, List.setIfInBounds_toArray, List.set_cons_zero, List.set_cons_succ])
  refine take_run (d := (some 8)) (v := ?v4) 5 rfl rfl (by kernel_rfl) (by kernel_rfl) (by kernel_rfl) (fun _ _ _ h => h) (by rfl) hHeld ?hy4 ?rs4
  case hy4 => (intro w hSw; (try dsimp only at hSw); go_simp) <;> (try with_reducible rfl)
  (try simp only [Act.put, List.setIfInBounds_toArray, List.set_cons_zero, List.set_cons_succ])
  refine take_run (d := (some 12)) (v := ?v5) 9 rfl rfl (by kernel_rfl) (by kernel_rfl) (by kernel_rfl) (fun _ _ _ h => h) (by rfl) hHeld ?hy5 ?rs5
  case hy5 => (intro w hSw; (try dsimp only at hSw); go_simp) <;> (try with_reducible rfl)
  (try simp only [Act.put, List.setIfInBounds_toArray, List.set_cons_zero, List.set_cons_succ])
  refine take_run (d := (some 13)) (v := ?v6) 10 rfl rfl (by kernel_rfl) (by kernel_rfl) (by kernel_rfl) (fun _ _ _ h => h) (by rfl) hHeld ?hy6 ?rs6
  case hy6 => (intro w hSw; (try dsimp only at hSw); go_simp) <;> (try with_reducible rfl)
  (try simp only [Act.put, List.setIfInBounds_toArray, List.set_cons_zero, List.set_cons_succ])
  refine take_call 2 rfl (by kernel_rfl) (by rfl) (fun K hK => ?_)
  go_simp
  refine (CY.out _).mono ?_
  rintro e w' ⟨rfl, hb⟩
  refine hK.out _ _ (by obtain ⟨h0, h1, h2, hw⟩ := hHeld; exact ⟨cell_keep h0 hb, cell_keep h1 hb, cell_keep h2 hb, Lib.hid (blw_trans hw.out hb)⟩) (fun hHeld => ?_)
  clear hK K
  (try simp only [Act.put, List.setIfInBounds_toArray, List.set_cons_zero, List.set_cons_succ])
  refine take_run (d := (some 6)) (v := ?v8) 3 rfl rfl (by kernel_rfl) (by kernel_rfl) (by kernel_rfl) (fun _ _ _ h => h) (by rfl) hHeld ?hy8 ?rs8
  case hy8 => (intro w hSw; (try dsimp only at hSw); go_simp) <;> (try with_reducible rfl)
  (try simp only [Act.put, List.setIfInBounds_toArray, List.set_cons_zero, List.set_cons_succ])
  refine take_call 6 rfl (by kernel_rfl) (by rfl) (fun K hK => ?_)
  go_simp
  refine (CM.out _).mono ?_
  rintro e w' ⟨rfl, hb⟩
  refine hK.out _ _ (by obtain ⟨h0, h1, h2, hw⟩ := hHeld; exact ⟨cell_keep h0 hb, cell_keep h1 hb, cell_keep h2 hb, Lib.hid (blw_trans hw.out hb)⟩) (fun hHeld => ?_)
  clear hK K
  (try simp only [Act.put, List.setIfInBounds_toArray, List.set_cons_zero, List.set_cons_succ])
  refine take_run (d := (some 10)) (v := ?v10) 7 rfl rfl (by kernel_rfl) (by kernel_rfl) (by kernel_rfl) (fun _ _ _ h => h) (by rfl) hHeld ?hy10 ?rs10
  case hy10 => (intro w hSw; (try dsimp only at hSw); go_simp) <;> (try with_reducible rfl)
  (try simp only [Act.put, List.setIfInBounds_toArray, List.set_cons_zero, List.set_cons_succ])
  refine take_run (d := (some 11)) (v := ?v11) 8 rfl rfl (by kernel_rfl) (by kernel_rfl) (by kernel_rfl) (fun _ _ _ h => h) (by rfl) hHeld ?hy11 ?rs11
  case hy11 => (intro w hSw; (try dsimp only at hSw); go_simp) <;> (try with_reducible rfl)
  (try simp only [Act.put, List.setIfInBounds_toArray, List.set_cons_zero, List.set_cons_succ])
  refine take_call 11 rfl (by kernel_rfl) (by rfl) (fun K hK => ?_)
  go_simp
  refine (CD.out _).mono ?_
  rintro e w' ⟨rfl, hb⟩
  refine hK.out _ _ (by obtain ⟨h0, h1, h2, hw⟩ := hHeld; exact ⟨cell_keep h0 hb, cell_keep h1 hb, cell_keep h2 hb, Lib.hid (blw_trans hw.out hb)⟩) (fun hHeld => ?_)
  clear hK K
  (try simp only [Act.put, List.setIfInBounds_toArray, List.set_cons_zero, List.set_cons_succ])
  refine take_run (d := (some 15)) (v := ?v13) 12 rfl rfl (by kernel_rfl) (by kernel_rfl) (by kernel_rfl) (fun _ _ _ h => h) (by rfl) hHeld ?hy13 ?rs13
  case hy13 => (intro w hSw; (try dsimp only at hSw); go_simp) <;> (try with_reducible rfl)
  (try simp only [Act.put, List.setIfInBounds_toArray, List.set_cons_zero, List.set_cons_succ])
  refine take_run (d := (some 2)) (v := ?v14) 13 rfl rfl (by kernel_rfl) (by kernel_rfl) (by kernel_rfl) (fun _ _ _ h => h) (by rfl) hHeld ?hy14 ?rs14
  case hy14 => (intro w hSw; (try dsimp only at hSw); go_simp) <;> (try with_reducible rfl)
  (try simp only [Act.put, List.setIfInBounds_toArray, List.set_cons_zero, List.set_cons_succ])
  refine wpAnyH_done (by kernel_rfl) ?_ _
  obtain ⟨z0, z1, z2, zW⟩ := hHeld
  go_wp2
  go_ret
  exact ⟨rfl, zW.out⟩
end Go.Proofs.YtdcemkfljhdceaaGreatDoor
