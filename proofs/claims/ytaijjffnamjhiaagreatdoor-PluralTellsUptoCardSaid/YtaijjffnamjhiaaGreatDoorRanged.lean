/- The walk of rule.ranged: a range's text. Conditions: the range is sound; the library's table of powers is laid. -/
import Derived.Test.YtaijjffnamjhiaaGreatDoorItoa
import Derived.Test.YtaijjffnamjhiaaGreatDoorRulP
import Derived.Test.YtaijjffnamjhiaaGreatDoorHeld
import Derived.Test.YtaijjffnamjhiaaGreatDoorStr
namespace Go.Proofs.YtaijjffnamjhiaaGreatDoor
open Go.RowKit

set_option maxRecDepth 100000 in
set_option maxHeartbeats 2000000 in
theorem ranged_any (p : Int × Int) (w : World) (hp : PowW w) (hk : Rul.rngOk p = true) :
    Calls Tryz.prog 113 #[.agg #[.int .i64 p.1, .int .i64 p.2]] w fun e w' => e = .returned (.string ⟨(Rul.rngT p).toArray⟩) ∧ Below w.heap.size w w' := by
  obtain ⟨a, b⟩ := p
  simp only [Rul.rngOk, Bool.and_eq_true, decide_eq_true_eq] at hk
  obtain ⟨⟨h0, h1⟩, h2⟩ := hk
  dsimp only
  have CA := Lib.hid fun w hp => itoa_pos a w hp h0 (by omega)
  have CB := Lib.hid fun w hp => itoa_pos b w hp (by omega) (by omega)
  have hE : Rul.rngT (a, b) = if a = b then Lib.decDigits a.toNat else Lib.decDigits a.toNat ++ [46, 46] ++ Lib.decDigits b.toNat := rfl
  have la : (Lib.decDigits a.toNat).length ≤ 100 := by have := Byt.digits_short 7 a.toNat (by omega) (by omega); omega
  have lb : (Lib.decDigits b.toNat).length ≤ 100 := by have := Byt.digits_short 7 b.toNat (by omega) (by omega); omega
  rw [hE]
  generalize Lib.decDigits a.toNat = DA at *
  generalize Lib.decDigits b.toNat = DB at *
  clear hE
  by_cases he : a = b
  · have e1 : (a == b) = true := beq_yes he
    rw [if_pos he]
    clear he
    go_enter Tryz.func113, Tryz.ntmps113
    go_wp2_with fail
    refine (CA.out _ (hp.alloc _)).mono ?_
    rintro e w1 ⟨rfl, hb⟩
    go_wp2_with fail
    go_ret
    exact ⟨rfl, blw_trans (blw_alloc w (.cells #[.int .i64 a, .int .i64 b] 165)) hb⟩
  · have e1 : (a == b) = false := beq_no he
    rw [if_neg he]
    clear he
    obtain ⟨X1, hX1⟩ : ∃ X1, X1 = DA ++ [46, 46] := ⟨_, rfl⟩
    obtain ⟨X2, hX2⟩ : ∃ X2, X2 = X1 ++ DB := ⟨_, rfl⟩
    have A1 : ∀ w, (Op.stringOp .add ⟨DA.toArray⟩ ⟨#[46, 46]⟩).run Tryz.prog w = .ok (.string ⟨X1.toArray⟩) w := fun w => by rw [hX1]; exact add_str (P := Tryz.prog) DA [46, 46] (by simp; omega) w
    have l1 : X1.length ≤ 102 := by rw [hX1, List.length_append]; simp; omega
    have A2 : ∀ w, (Op.stringOp .add ⟨X1.toArray⟩ ⟨DB.toArray⟩).run Tryz.prog w = .ok (.string ⟨X2.toArray⟩) w := fun w => by rw [hX2]; exact add_str (P := Tryz.prog) X1 DB (by omega) w
    rw [← hX1, ← hX2]
    have B0 := Lib.hid (Boxed.made w #[.int .i64 a, .int .i64 b] 165)
    have k0 := B0.out.cell 0 _ rfl
    have k1 := B0.out.cell 1 _ rfl
    have P0 := Lib.hid (hp.alloc (.cells #[.int .i64 a, .int .i64 b] 165))
    have W0 := Lib.hid (blw_alloc w (.cells #[.int .i64 a, .int .i64 b] 165))
    clear hX1 hX2 la lb l1 h0 h1 h2 B0
    go_enter Tryz.func113, Tryz.ntmps113
    go_wp2_with fail
    refine wp_region_held_drew (S := fun w' => w'.cell? ⟨w.heap.size, 0, none⟩ = some (.int .i64 a) ∧ w'.cell? ⟨w.heap.size, 1, none⟩ = some (.int .i64 b) ∧ Hid (PowW w') ∧ Hid (Below w.heap.size w w')) (by kernel_rfl) (by exact ⟨k0, k1, Lib.hid (P0.out.drewN 1), Lib.hid (Below.drew W0.out)⟩) (fun hHeld => ?_)
    refine take_run (d := (some 11)) (v := ?v1) 0 rfl rfl (by kernel_rfl) (by kernel_rfl) (by kernel_rfl) (fun _ _ _ h => h) (by rfl) hHeld ?hy1 ?rs1
    case hy1 => (intro w hSw; (try dsimp only at hSw); go_simp) <;> (try with_reducible rfl)
    (try simp only [Act.put, List.setIfInBounds_toArray, List.set_cons_zero, List.set_cons_succ])
    refine take_run (d := (some 12)) (v := ?v2) 1 rfl rfl (by kernel_rfl) (by kernel_rfl) (by kernel_rfl) (fun _ _ _ h => h) (by rfl) hHeld ?hy2 ?rs2
    case hy2 => (intro w hSw; (try dsimp only at hSw); go_simp) <;> (try with_reducible rfl)
    (try simp only [Act.put, List.setIfInBounds_toArray, List.set_cons_zero, List.set_cons_succ])
    refine take_run (d := (some 15)) (v := ?v3) 4 rfl rfl (by kernel_rfl) (by kernel_rfl) (by kernel_rfl) (fun _ _ _ h => h) (by rfl) hHeld ?hy3 ?rs3
    case hy3 => (intro w hSw; (try dsimp only at hSw); go_simp) <;> (try with_reducible rfl)
    (try simp only [Act.put, List.setIfInBounds_toArray, List.set_cons_zero, List.set_cons_succ])
    refine take_run (d := (some 16)) (v := ?v4) 5 rfl rfl (by kernel_rfl) (by kernel_rfl) (by kernel_rfl) (fun _ _ _ h => h) (by rfl) hHeld ?hy4 ?rs4
    case hy4 => (intro w hSw; (try dsimp only at hSw); go_simp) <;> (try with_reducible rfl)
    (try simp only [Act.put, List.setIfInBounds_toArray, List.set_cons_zero, List.set_cons_succ])
    refine take_call 2 rfl (by kernel_rfl) (by rfl) (fun K hK => ?_)
    go_simp
    refine (CA.out _ (by obtain ⟨_, _, h2, _⟩ := hHeld; exact h2.out)).mono ?_
    rintro e w' ⟨rfl, hb⟩
    refine hK.out _ _ (by obtain ⟨h0, h1, h2, hw⟩ := hHeld; exact ⟨cell_keep h0 hb, cell_keep h1 hb, Lib.hid (h2.out.below hb), Lib.hid (blw_trans hw.out hb)⟩) (fun hHeld => ?_)
    clear hK K
    (try simp only [Act.put, List.setIfInBounds_toArray, List.set_cons_zero, List.set_cons_succ])
    refine take_run (d := (some 14)) (v := ?v6) 3 rfl rfl (by kernel_rfl) (by kernel_rfl) (by kernel_rfl) (fun _ _ _ h => h) (by rfl) hHeld ?hy6 ?rs6
    case hy6 => (intro w hSw; (try dsimp only at hSw); go_simp) <;> (try with_reducible rfl)
    (try simp only [Act.put, List.setIfInBounds_toArray, List.set_cons_zero, List.set_cons_succ])
    refine take_call 6 rfl (by kernel_rfl) (by rfl) (fun K hK => ?_)
    go_simp
    refine (CB.out _ (by obtain ⟨_, _, h2, _⟩ := hHeld; exact h2.out)).mono ?_
    rintro e w' ⟨rfl, hb⟩
    refine hK.out _ _ (by obtain ⟨h0, h1, h2, hw⟩ := hHeld; exact ⟨cell_keep h0 hb, cell_keep h1 hb, Lib.hid (h2.out.below hb), Lib.hid (blw_trans hw.out hb)⟩) (fun hHeld => ?_)
    clear hK K
    (try simp only [Act.put, List.setIfInBounds_toArray, List.set_cons_zero, List.set_cons_succ])
    refine take_run (d := (some 18)) (v := ?v8) 7 rfl rfl (by kernel_rfl) (by kernel_rfl) (by kernel_rfl) (fun _ _ _ h => h) (by rfl) hHeld ?hy8 ?rs8
    case hy8 => (intro w hSw; (try dsimp only at hSw); go_simp) <;> (try with_reducible rfl)
    (try simp only [Act.put, List.setIfInBounds_toArray, List.set_cons_zero, List.set_cons_succ])
    refine take_run (d := (some 2)) (v := ?v9) 8 rfl rfl (by kernel_rfl) (by kernel_rfl) (by kernel_rfl) (fun _ _ _ h => h) (by rfl) hHeld ?hy9 ?rs9
    case hy9 => (intro w hSw; (try dsimp only at hSw); go_simp) <;> (try with_reducible rfl)
    (try simp only [Act.put, List.setIfInBounds_toArray, List.set_cons_zero, List.set_cons_succ])
    refine wpAnyH_done (by kernel_rfl) ?_ _
    obtain ⟨z0, z1, z2, zW⟩ := hHeld
    go_wp2_with fail
    go_ret
    exact ⟨rfl, zW.out⟩
end Go.Proofs.YtaijjffnamjhiaaGreatDoor
