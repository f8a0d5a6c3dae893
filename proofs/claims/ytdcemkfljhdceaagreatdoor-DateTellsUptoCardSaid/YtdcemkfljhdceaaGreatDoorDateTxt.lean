/- The walks of date.digits and date.Text. Conditions: the tables hold their numbers. -/
import Derived.Test.YtdcemkfljhdceaaGreatDoorShelfR
import Derived.Test.YtdcemkfljhdceaaGreatDoorItoa
import Derived.Test.YtdcemkfljhdceaaGreatDoorCheck
import Derived.Test.YtdcemkfljhdceaaGreatDoorDtx
import Derived.Test.YtdcemkfljhdceaaGreatDoorStr
import Derived.Test.YtdcemkfljhdceaaGreatDoorHeld
import Derived.Lib.ItoaLen
import Derived.Shelf.Small.Strs
namespace Go.Proofs.YtdcemkfljhdceaaGreatDoor
open Go.RowKit

theorem rep_zero (k : Nat) : Lib.repeatL [48] k = List.replicate k 48 := by
  induction k with
  | zero => rfl
  | succ k ih => rw [Lib.repeatL, ih]; rfl
theorem repeat_any (k : Nat) (w : World) (hk : k ≤ 1000) :
    Calls Tryz.prog 31 #[.string ⟨#[48]⟩, .int .i64 k] w fun e w' => e = .returned (.string ⟨(List.replicate k (48 : UInt8)).toArray⟩) ∧ Below w.heap.size w w' := by
  have c := Tryz.strings_Repeat ⟨#[48]⟩ k w (by omega) (by show 1 * k ≤ _; omega)
  rw [show (⟨#[48]⟩ : ByteArray).data.toList = [48] from rfl, rep_zero] at c
  exact c

set_option maxRecDepth 100000 in
set_option maxHeartbeats 1000000 in
theorem ddig_any (n l : Int) (w : World) (hp : PowW w) (n0 : 0 ≤ n) (n1 : n ≤ 9223372036854775807) (l0 : 0 ≤ l) (l1 : l ≤ 1000) :
    Calls Tryz.prog 23 #[.int .i64 n, .int .i64 l] w fun e w' => e = .returned (.string ⟨(Dtx.pad l.toNat n.toNat).toArray⟩) ∧ Below w.heap.size w w' := by
  have hd20 : (Lib.decDigits n.toNat).length ≤ 20 := by rw [Lib.decDigits_length]; exact Lib.nDigits_le20 _ (by omega)
  have CI := Lib.hid (itoa_pos n w hp n0 n1)
  have G := Lib.hid (show Dtx.pad l.toNat n.toNat = List.replicate (l.toNat - (Lib.decDigits n.toNat).length) 48 ++ Lib.decDigits n.toNat from rfl)
  generalize Lib.decDigits n.toNat = X at *
  have mx : max (0 : Int) (l - (X.length : Int)) = ((l.toNat - X.length : Nat) : Int) := by omega
  have mx2 : max (l - (X.length : Int)) 0 = ((l.toNat - X.length : Nat) : Int) := by omega
  have CR := Lib.hid fun w => repeat_any (l.toNat - X.length) w (by omega)
  have A1 := fun w => add_str (P := Tryz.prog) (List.replicate (l.toNat - X.length) 48) X (by simp; omega) w
  generalize l.toNat - X.length = k at *
  go_enter Tryz.func23, Tryz.ntmps23
  go_wp2_with fail
  refine (CI.out).mono ?_
  rintro e w1 ⟨rfl, hb⟩
  have W1 := Lib.hid hb
  clear hb
  go_wp2_with fail
  refine (CR.out _).mono ?_
  rintro e w2 ⟨rfl, hb⟩
  have W2 := Lib.hid (blw_trans W1.out hb)
  clear hb
  go_wp2_with fail
  go_ret
  exact ⟨ret_str (by rw [G.out]; simp), W2.out⟩

def dtxt (y m d : Int) : List UInt8 := Dtx.pad 4 y.toNat ++ [45] ++ Dtx.pad 2 m.toNat ++ [45] ++ Dtx.pad 2 d.toNat
theorem pad_len (k u : Nat) (hu : u ≤ 9223372036854775807) (hk : k ≤ 100) : (Dtx.pad k u).length ≤ 120 := by
  unfold Dtx.pad
  rw [List.length_append, List.length_replicate, Lib.decDigits_length]
  have := Lib.nDigits_le20 u (by omega)
  omega

set_option maxRecDepth 100000 in
set_option maxHeartbeats 1000000 in
theorem dtext_no (y m d : Int) (w : World) (hT : TabW w) (h : ¬ Cal.vld y m d) :
    Calls Tryz.prog 11 #[.agg #[.int .i64 y, .int .i64 m, .int .i64 d]] w fun e w' => e = .returned (.tuple #[.string ⟨#[]⟩, errV 1]) ∧ Below w.heap.size w w' := by
  have C := Lib.hid fun w hT => check_no y m d w h hT
  clear h
  go_enter Tryz.func11, Tryz.ntmps11
  go_wp2_with fail
  refine (C.out _ (hT.alloc _)).mono ?_
  rintro e w1 ⟨rfl, hb⟩
  have W1 := Lib.hid (blw_trans (blw_alloc _ _) hb)
  clear hb
  go_wp2_with fail
  go_ret2
  exact ⟨rfl, W1.out⟩

set_option maxRecDepth 100000 in
set_option maxHeartbeats 1000000 in
theorem dtext_yes (y m d : Int) (w : World) (hT : TabW w) (hp : PowW w) (h : Cal.vld y m d) :
    Calls Tryz.prog 11 #[.agg #[.int .i64 y, .int .i64 m, .int .i64 d]] w fun e w' => e = .returned (.tuple #[.string ⟨(dtxt y m d).toArray⟩, .nilIface]) ∧ Below w.heap.size w w' := by
  have C := Lib.hid fun w hT => check_yes y m d w h hT
  have st := Cal.bef_step y m h.2.2.1 h.2.2.2.1
  obtain ⟨v1, v2, v3, v4, v5, v6⟩ := h
  have CY := Lib.hid fun w hp => ddig_any y 4 w hp (by omega) (by omega) (by omega) (by omega)
  have CM := Lib.hid fun w hp => ddig_any m 2 w hp (by omega) (by omega) (by omega) (by omega)
  have CD := Lib.hid fun w hp => ddig_any d 2 w hp (by omega) (by omega) (by omega) (by omega)
  have ly := pad_len 4 y.toNat (by omega) (by omega)
  have lm := pad_len 2 m.toNat (by omega) (by omega)
  have ld := pad_len 2 d.toNat (by omega) (by omega)
  have G := Lib.hid (show dtxt y m d = Dtx.pad 4 y.toNat ++ [45] ++ Dtx.pad 2 m.toNat ++ [45] ++ Dtx.pad 2 d.toNat from rfl)
  rw [show (4 : Int).toNat = 4 from rfl] at CY
  rw [show (2 : Int).toNat = 2 from rfl] at CM CD
  clear st v6
  generalize Dtx.pad 4 y.toNat = Y at *
  generalize Dtx.pad 2 m.toNat = M at *
  generalize Dtx.pad 2 d.toNat = E at *
  obtain ⟨X1, x1⟩ : ∃ X, X = Y ++ [45] := ⟨_, rfl⟩
  have A1 : ∀ w, (Op.stringOp .add ⟨Y.toArray⟩ ⟨#[45]⟩).run Tryz.prog w = .ok (.string ⟨X1.toArray⟩) w := fun w => by rw [x1]; exact add_str (P := Tryz.prog) Y [45] (by simp; omega) w
  have m1 : X1.length = Y.length + 1 := by rw [x1]; simp
  obtain ⟨X2, x2⟩ : ∃ X, X = X1 ++ M := ⟨_, rfl⟩
  have A2 : ∀ w, (Op.stringOp .add ⟨X1.toArray⟩ ⟨M.toArray⟩).run Tryz.prog w = .ok (.string ⟨X2.toArray⟩) w := fun w => by rw [x2]; exact add_str (P := Tryz.prog) X1 M (by omega) w
  have m2 : X2.length = X1.length + M.length := by rw [x2]; simp
  obtain ⟨X3, x3⟩ : ∃ X, X = X2 ++ [45] := ⟨_, rfl⟩
  have A3 : ∀ w, (Op.stringOp .add ⟨X2.toArray⟩ ⟨#[45]⟩).run Tryz.prog w = .ok (.string ⟨X3.toArray⟩) w := fun w => by rw [x3]; exact add_str (P := Tryz.prog) X2 [45] (by simp; omega) w
  have m3 : X3.length = X2.length + 1 := by rw [x3]; simp
  obtain ⟨X4, x4⟩ : ∃ X, X = X3 ++ E := ⟨_, rfl⟩
  have A4 : ∀ w, (Op.stringOp .add ⟨X3.toArray⟩ ⟨E.toArray⟩).run Tryz.prog w = .ok (.string ⟨X4.toArray⟩) w := fun w => by rw [x4]; exact add_str (P := Tryz.prog) X3 E (by omega) w
  have HX : Hid (dtxt y m d = X4) := Lib.hid (by rw [G.out, x4, x3, x2, x1] <;> simp)
  clear x1 x2 x3 x4 m1 m2 m3 G
  go_enter Tryz.func11, Tryz.ntmps11
  go_wp2_with fail
  refine (C.out _ (hT.alloc _)).mono ?_
  rintro e w1 ⟨rfl, hb⟩
  have B1 := (Boxed.made w #[.int .i64 y, .int .i64 m, .int .i64 d] 23).below hb
  have W1 := Lib.hid (blw_trans (blw_alloc w (.cells #[.int .i64 y, .int .i64 m, .int .i64 d] 23)) hb)
  have P1 := Lib.hid ((hp.alloc _).below hb)
  have k0 := B1.cell 0 _ rfl
  have k1 := B1.cell 1 _ rfl
  have k2 := B1.cell 2 _ rfl
  clear hb B1
  go_wp2_with fail
  refine wp_region_held_drew (S := fun w' => w'.cell? ⟨w.heap.size, 0, none⟩ = some (.int .i64 y) ∧ w'.cell? ⟨w.heap.size, 1, none⟩ = some (.int .i64 m) ∧ w'.cell? ⟨w.heap.size, 2, none⟩ = some (.int .i64 d) ∧ Hid (PowW w') ∧ Hid (Below w.heap.size w w')) (by kernel_rfl) (by exact ⟨by go_keep, by go_keep, by go_keep, Lib.hid P1.out, Lib.hid (Below.drew W1.out)⟩) (fun hHeld => ?_)
  refine take_run (d := (some 10)) (v := ?v1) 0 rfl rfl (by kernel_rfl) (by kernel_rfl) (by kernel_rfl) (fun _ _ _ h => h) (by rfl) hHeld ?hy1 ?rs1
  case hy1 => (intro w hSw; (try dsimp only at hSw); go_simp) <;> (try with_reducible rfl)
  (try simp only [Act.put, List.setIfInBounds_toArray, List.set_cons_zero, List.set_cons_succ])
  refine take_run (d := (some 11)) (v := ?v2) 1 rfl rfl (by kernel_rfl) (by kernel_rfl) (by kernel_rfl) (fun _ _ _ h => h) (by rfl) hHeld ?hy2 ?rs2
  case hy2 => (intro w hSw; (try dsimp only at hSw); go_simp) <;> (try with_reducible rfl)
  (try simp only [Act.put, List.setIfInBounds_toArray, List.set_cons_zero, List.set_cons_succ])
  refine take_run (d := (some 14)) (v := ?v3) 4 rfl rfl (by kernel_rfl) (by kernel_rfl) (by kernel_rfl) (fun _ _ _ h => h) (by rfl) hHeld ?hy3 ?rs3
  case hy3 => (intro w hSw; (try dsimp only at hSw); go_simp) <;> (try with_reducible rfl)
  (try simp only [Act.put, List.setIfInBounds_toArray, List.set_cons_zero, List.set_cons_succ])
  refine take_run (d := (some 15)) (v := ?v4) 5 rfl rfl (by kernel_rfl) (by kernel_rfl) (by kernel_rfl) (fun _ _ _ h => h) (by rfl) hHeld ?hy4 ?rs4
  case hy4 => (intro w hSw; (try dsimp only at hSw); go_simp) <;> (try with_reducible rfl)
  (try simp only [Act.put, List.setIfInBounds_toArray, List.set_cons_zero, List.set_cons_succ])
  refine take_run (d := (some 19)) (v := ?v5) 9 rfl rfl (by kernel_rfl) (by kernel_rfl) (by kernel_rfl) (fun _ _ _ h => h) (by rfl) hHeld ?hy5 ?rs5
  case hy5 => (intro w hSw; (try dsimp only at hSw); go_simp) <;> (try with_reducible rfl)
  (try simp only [Act.put, List.setIfInBounds_toArray, List.set_cons_zero, List.set_cons_succ])
  refine take_run (d := (some 20)) (v := ?v6) 10 rfl rfl (by kernel_rfl) (by kernel_rfl) (by kernel_rfl) (fun _ _ _ h => h) (by rfl) hHeld ?hy6 ?rs6
  case hy6 => (intro w hSw; (try dsimp only at hSw); go_simp) <;> (try with_reducible rfl)
  (try simp only [Act.put, List.setIfInBounds_toArray, List.set_cons_zero, List.set_cons_succ])
  refine take_call 2 rfl (by kernel_rfl) (by rfl) (fun K hK => ?_)
  go_simp
  refine (CY.out _ (by obtain ⟨_, _, _, h3, _⟩ := hHeld; exact h3.out)).mono ?_
  rintro e w' ⟨rfl, hb⟩
  refine hK.out _ _ (by obtain ⟨h0, h1, h2, h3, hw⟩ := hHeld; exact ⟨cell_keep h0 hb, cell_keep h1 hb, cell_keep h2 hb, Lib.hid (h3.out.below hb), Lib.hid (blw_trans hw.out hb)⟩) (fun hHeld => ?_)
  clear hK K
  (try simp only [Act.put, List.setIfInBounds_toArray, List.set_cons_zero, List.set_cons_succ])
  refine take_run (d := (some 13)) (v := ?v8) 3 rfl rfl (by kernel_rfl) (by kernel_rfl) (by kernel_rfl) (fun _ _ _ h => h) (by rfl) hHeld ?hy8 ?rs8
  case hy8 => (intro w hSw; (try dsimp only at hSw); go_simp) <;> (try with_reducible rfl)
  (try simp only [Act.put, List.setIfInBounds_toArray, List.set_cons_zero, List.set_cons_succ])
  refine take_call 6 rfl (by kernel_rfl) (by rfl) (fun K hK => ?_)
  go_simp
  refine (CM.out _ (by obtain ⟨_, _, _, h3, _⟩ := hHeld; exact h3.out)).mono ?_
  rintro e w' ⟨rfl, hb⟩
  refine hK.out _ _ (by obtain ⟨h0, h1, h2, h3, hw⟩ := hHeld; exact ⟨cell_keep h0 hb, cell_keep h1 hb, cell_keep h2 hb, Lib.hid (h3.out.below hb), Lib.hid (blw_trans hw.out hb)⟩) (fun hHeld => ?_)
  clear hK K
  (try simp only [Act.put, List.setIfInBounds_toArray, List.set_cons_zero, List.set_cons_succ])
  refine take_run (d := (some 17)) (v := ?v10) 7 rfl rfl (by kernel_rfl) (by kernel_rfl) (by kernel_rfl) (fun _ _ _ h => h) (by rfl) hHeld ?hy10 ?rs10
  case hy10 => (intro w hSw; (try dsimp only at hSw); go_simp) <;> (try with_reducible rfl)
  (try simp only [Act.put, List.setIfInBounds_toArray, List.set_cons_zero, List.set_cons_succ])
  refine take_run (d := (some 18)) (v := ?v11) 8 rfl rfl (by kernel_rfl) (by kernel_rfl) (by kernel_rfl) (fun _ _ _ h => h) (by rfl) hHeld ?hy11 ?rs11
  case hy11 => (intro w hSw; (try dsimp only at hSw); go_simp) <;> (try with_reducible rfl)
  (try simp only [Act.put, List.setIfInBounds_toArray, List.set_cons_zero, List.set_cons_succ])
  refine take_call 11 rfl (by kernel_rfl) (by rfl) (fun K hK => ?_)
  go_simp
  refine (CD.out _ (by obtain ⟨_, _, _, h3, _⟩ := hHeld; exact h3.out)).mono ?_
  rintro e w' ⟨rfl, hb⟩
  refine hK.out _ _ (by obtain ⟨h0, h1, h2, h3, hw⟩ := hHeld; exact ⟨cell_keep h0 hb, cell_keep h1 hb, cell_keep h2 hb, Lib.hid (h3.out.below hb), Lib.hid (blw_trans hw.out hb)⟩) (fun hHeld => ?_)
  clear hK K
  (try simp only [Act.put, List.setIfInBounds_toArray, List.set_cons_zero, List.set_cons_succ])
  refine take_run (d := (some 22)) (v := ?v13) 12 rfl rfl (by kernel_rfl) (by kernel_rfl) (by kernel_rfl) (fun _ _ _ h => h) (by rfl) hHeld ?hy13 ?rs13
  case hy13 => (intro w hSw; (try dsimp only at hSw); go_simp) <;> (try with_reducible rfl)
  (try simp only [Act.put, List.setIfInBounds_toArray, List.set_cons_zero, List.set_cons_succ])
  refine take_run (d := (some 2)) (v := ?v14) 13 rfl rfl (by kernel_rfl) (by kernel_rfl) (by kernel_rfl) (fun _ _ _ h => h) (by rfl) hHeld ?hy14 ?rs14
  case hy14 => (intro w hSw; (try dsimp only at hSw); go_simp) <;> (try with_reducible rfl)
  (try simp only [Act.put, List.setIfInBounds_toArray, List.set_cons_zero, List.set_cons_succ])
  refine take_run (d := (some 3)) (v := ?v15) 14 rfl rfl (by kernel_rfl) (by kernel_rfl) (by kernel_rfl) (fun _ _ _ h => h) (by rfl) hHeld ?hy15 ?rs15
  case hy15 => (intro w hSw; (try dsimp only at hSw); go_simp) <;> (try with_reducible rfl)
  (try simp only [Act.put, List.setIfInBounds_toArray, List.set_cons_zero, List.set_cons_succ])
  refine wpAnyH_done (by kernel_rfl) ?_ _
  obtain ⟨z0, z1, z2, z3, zW⟩ := hHeld
  go_wp2
  go_ret2
  exact ⟨ret_str_nil (by rw [HX.out]), zW.out⟩
end Go.Proofs.YtdcemkfljhdceaaGreatDoor
