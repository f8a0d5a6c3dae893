/- The walks of msg.check and msg.Check at the message that is hello. -/
import Derived.Test.YtghohnbajbikjaaGreatDoorUnG
namespace Go.Proofs.YtghohnbajbikjaaGreatDoor
open Go.RowKit
namespace Tn
set_option maxRecDepth 100000 in
set_option maxHeartbeats 1000000 in
theorem gchk_any (v : Value) (w : World) (h : HiM w v) : Calls Tryz.prog 118 #[v, .bool false] w fun e w' => e = .returned .nilIface ∧ Below w.heap.size w w' := by
  have CF := Lib.hid gfine_any
  obtain ⟨b, off, cap, rfl, hc, x0, x1, x2, x3⟩ := h
  have lb := World.block_lt_of_cell? _ _ x0
  dsimp only at lb
  have hc0 : (0 : Int) ≤ (cap : Int) := by omega
  have BN := Lib.hid (Boxed.made w hiC 139)
  go_enter Tryz.func118, Tryz.ntmps118
  go_wp2_with fail
  refine wp_loop_rounds 2 ?_
  rw [rounds_succ]
  go_wp2_with fail
  refine wp_region_held_drew (S := fun w' => w'.cell? ⟨w.heap.size, 0, none⟩ = some (.int .i64 1) ∧ w'.cell? ⟨w.heap.size, 1, none⟩ = some (.string ⟨#[104, 101, 108, 108, 111]⟩) ∧ w'.cell? ⟨w.heap.size, 2, none⟩ = some (.int .i64 0) ∧ w'.cell? ⟨w.heap.size, 3, none⟩ = some (.slice none 0 0) ∧ Hid (Below w.heap.size w w')) (by kernel_rfl) (by exact ⟨BN.out.drew.cell 0 _ rfl, BN.out.drew.cell 1 _ rfl, BN.out.drew.cell 2 _ rfl, BN.out.drew.cell 3 _ rfl, Lib.hid (Below.drew (blw_alloc _ _))⟩) (fun hHeld => ?_)
  refine take_run (d := (some 15)) (v := ?v1) 0 rfl rfl (by kernel_rfl) (by kernel_rfl) (by kernel_rfl) (fun _ _ _ h => h) (by rfl) hHeld ?hy1 ?rs1
  case hy1 => (intro w hSw; (try dsimp only at hSw); go_simp) <;> (try with_reducible rfl)
  (try simp only [Act.put, List.setIfInBounds_toArray, List.set_cons_zero, List.set_cons_succ])
  refine take_run (d := (some 16)) (v := ?v2) 1 rfl rfl (by kernel_rfl) (by kernel_rfl) (by kernel_rfl) (fun _ _ _ h => h) (by rfl) hHeld ?hy2 ?rs2
  case hy2 => (intro w hSw; (try dsimp only at hSw); go_simp) <;> (try with_reducible rfl)
  (try simp only [Act.put, List.setIfInBounds_toArray, List.set_cons_zero, List.set_cons_succ])
  refine take_run (d := (some 17)) (v := ?v3) 2 rfl rfl (by kernel_rfl) (by kernel_rfl) (by kernel_rfl) (fun _ _ _ h => h) (by rfl) hHeld ?hy3 ?rs3
  case hy3 => (intro w hSw; (try dsimp only at hSw); go_simp) <;> (try with_reducible rfl)
  (try simp only [Act.put, List.setIfInBounds_toArray, List.set_cons_zero, List.set_cons_succ])
  refine take_run (d := (some 18)) (v := ?v4) 3 rfl rfl (by kernel_rfl) (by kernel_rfl) (by kernel_rfl) (fun _ _ _ h => h) (by rfl) hHeld ?hy4 ?rs4
  case hy4 => (intro w hSw; (try dsimp only at hSw); go_simp) <;> (try with_reducible rfl)
  (try simp only [Act.put, List.setIfInBounds_toArray, List.set_cons_zero, List.set_cons_succ])
  refine take_run (d := (some 19)) (v := ?v5) 4 rfl rfl (by kernel_rfl) (by kernel_rfl) (by kernel_rfl) (fun _ _ _ h => h) (by rfl) hHeld ?hy5 ?rs5
  case hy5 => (intro w hSw; (try dsimp only at hSw); go_simp) <;> (try with_reducible rfl)
  (try simp only [Act.put, List.setIfInBounds_toArray, List.set_cons_zero, List.set_cons_succ])
  refine take_call 5 rfl (by kernel_rfl) (by rfl) (fun K hK => ?_)
  go_simp
  refine (CF.out _ _ _).mono ?_
  rintro e w' ⟨rfl, hb⟩
  refine hK.out _ _ (by obtain ⟨h0, h1, h2, h3, hw⟩ := hHeld; exact ⟨cell_keep h0 hb, cell_keep h1 hb, cell_keep h2 hb, cell_keep h3 hb, Lib.hid (blw_trans hw.out hb)⟩) (fun hHeld => ?_)
  clear hK K
  (try simp only [Act.put, List.setIfInBounds_toArray, List.set_cons_zero, List.set_cons_succ])
  refine take_run (d := (some 21)) (v := ?v7) 6 rfl rfl (by kernel_rfl) (by kernel_rfl) (by kernel_rfl) (fun _ _ _ h => h) (by rfl) hHeld ?hy7 ?rs7
  case hy7 => (intro w hSw; (try dsimp only at hSw); go_simp) <;> (try with_reducible rfl)
  (try simp only [Act.put, List.setIfInBounds_toArray, List.set_cons_zero, List.set_cons_succ])
  refine wpAnyH_done (by kernel_rfl) ?_ _
  obtain ⟨z0, z1, z2, z3, zW⟩ := hHeld
  go_wp2_with fail
  rw [rounds_succ]
  go_wp2_with fail
  go_ret
  exact ⟨rfl, zW.out⟩
set_option maxRecDepth 100000 in
set_option maxHeartbeats 1000000 in
theorem gCheck_any (v : Value) (w : World) (h : HiM w v) : Calls Tryz.prog 87 #[v] w fun e w' => e = .returned .nilIface ∧ Below w.heap.size w w' := by
  have CS := Lib.hid (gsize_any v w h)
  have CK := Lib.hid fun wx (hb : Below w.heap.size w wx) => gchk_any v wx (h.below hb)
  obtain ⟨b, off, cap, rfl, _⟩ := h
  go_enter Tryz.func87, Tryz.ntmps87
  go_wp2_with fail
  refine CS.out.mono ?_
  rintro e w1 ⟨rfl, hb⟩
  have W1 := Lib.hid hb
  clear hb CS
  go_wp2_with fail
  refine (CK.out _ W1.out).mono ?_
  rintro e w2 ⟨rfl, hb⟩
  have W2 := Lib.hid (blw_trans W1.out hb)
  clear hb CK
  go_wp2_with fail
  go_ret
  exact ⟨rfl, W2.out⟩
end Tn
end Go.Proofs.YtghohnbajbikjaaGreatDoor

