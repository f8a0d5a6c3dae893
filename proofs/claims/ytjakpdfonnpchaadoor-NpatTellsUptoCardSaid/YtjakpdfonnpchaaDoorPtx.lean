/- The walk of npat.Text: a pattern's text. Condition: its ends are not too long. -/
import Derived.Test.YtjakpdfonnpchaaDoorNpat
import Derived.Test.YtjakpdfonnpchaaDoorShelfC
import Derived.Test.YtjakpdfonnpchaaDoorHeld
import Derived.Test.YtjakpdfonnpchaaDoorStr
import Derived.Test.YtjakpdfonnpchaaDoorBoxS
namespace Go.Proofs.YtjakpdfonnpchaaDoor
open Go.RowKit
namespace Nt
/-- how many signs there are ahead of the point -/
def ptN (M A C : Nat) : Nat := if A = 0 then M else max M (A + C + 1)
def ptW (M A C : Nat) : List UInt8 := List.replicate (ptN M A C - M) 35 ++ List.replicate M 48
def comma (k : Nat) (l : List UInt8) : List UInt8 := (l.take k ++ [44]) ++ l.drop k
def ptG (M A C : Nat) : List UInt8 := if A = 0 then ptW M A C else if C = 0 then comma (ptN M A C - A) (ptW M A C) else comma (ptN M A C - A - C) (comma (ptN M A C - A) (ptW M A C))
def ptF (F X : Nat) : List UInt8 := if X = 0 then [] else ([46] ++ List.replicate F 48) ++ List.replicate (X - F) 35
def patT (p : Pt) : List UInt8 := (p.pre ++ (ptG p.mi.toNat p.g.toNat p.g2.toNat ++ ptF p.nf.toNat p.mf.toNat)) ++ p.suf
theorem ptN_le (M A C : Nat) (h : M ≤ 9) (hA : A ≤ 4) (hC : C ≤ 4) : M ≤ ptN M A C ∧ ptN M A C ≤ 9 ∧ (A ≠ 0 → A + C + 1 ≤ ptN M A C) := by
  unfold ptN
  split <;> omega
theorem ptW_len (M A C : Nat) (h : M ≤ ptN M A C) : (ptW M A C).length = ptN M A C := by
  unfold ptW
  rw [List.length_append, List.length_replicate, List.length_replicate]
  omega
theorem comma_len (k : Nat) (l : List UInt8) (h : k ≤ l.length) : (comma k l).length = l.length + 1 := by
  unfold comma
  simp
  omega
end Nt
theorem rep_one (b : UInt8) : ∀ c : Nat, Lib.repeatL [b] c = List.replicate c b
  | 0 => rfl
  | c + 1 => by
    have := rep_one b c
    simp_all [Lib.repeatL, List.replicate_succ]
theorem repeat_any (b : UInt8) (c : Nat) (w : World) (h : c ≤ 1000) :
    Calls Tryd.prog 18 #[.string ⟨#[b]⟩, .int .i64 (c : Int)] w fun e w' => e = .returned (.string ⟨(List.replicate c b).toArray⟩) ∧ Below w.heap.size w w' := by
  have C := Tryd.strings_Repeat ⟨#[b]⟩ c w (by omega) (by show 1 * c ≤ _; omega)
  rw [show Lib.repeatL (⟨#[b]⟩ : ByteArray).data.toList c = List.replicate c b from rep_one b c] at C
  exact C
set_option maxRecDepth 100000 in
set_option maxHeartbeats 4000000 in
theorem ptext_000 (pre suf : List UInt8) (M F : Nat) (w : World) (hpre : pre.length ≤ 100) (hsuf : suf.length ≤ 100) (hM : 1 ≤ M ∧ M ≤ 9) (he : Nt.patE ⟨pre, suf, (M : Int), (F : Int), 0, 0, 0⟩ = 0)  :
    Calls Tryd.prog 7 #[.agg #[.string ⟨pre.toArray⟩, .string ⟨suf.toArray⟩, .int .i64 (M : Int), .int .i64 (F : Int), .int .i64 0, .int .i64 0, .int .i64 0]] w fun e w' => e = .returned (.tuple #[.string ⟨((pre ++ (Nt.ptG M 0 0 ++ Nt.ptF F 0)) ++ suf).toArray⟩, .nilIface]) ∧ Below w.heap.size w w' := by
  have CK := Lib.hid fun wx => pck_any ⟨pre, suf, (M : Int), (F : Int), 0, 0, 0⟩ wx (by show pre.length ≤ _; omega) (by show suf.length ≤ _; omega)
  rw [he] at CK
  obtain ⟨n1, n2, n3⟩ := Nt.ptN_le M 0 0 hM.2 (by omega) (by omega)
  have hwl := Nt.ptW_len M 0 0 n1
  obtain ⟨N, hN⟩ : ∃ N, Nt.ptN M 0 0 = N := ⟨_, rfl⟩
  obtain ⟨TW, hTW⟩ : ∃ TW, Nt.ptW M 0 0 = TW := ⟨_, rfl⟩
  have hTG : Nt.ptG M 0 0 = TW := by unfold Nt.ptG; rw [hTW, hN]; rfl
  have hTF : Nt.ptF F 0 = [] := by unfold Nt.ptF; rfl
  rw [hTG, hTF]
  have hW2 : TW = List.replicate (N - M) 35 ++ List.replicate M 48 := by rw [← hTW, ← hN]; rfl
  rw [hTW, hN] at hwl
  rw [hN] at n1 n2 n3
  obtain rfl : N = M := by rw [← hN]; unfold Nt.ptN; rw [if_pos rfl]
  rw [Nat.sub_self] at hW2
  have CR1 := Lib.hid fun wx => (show Calls Tryd.prog 18 #[.string ⟨#[35]⟩, .int .i64 0] wx fun e w' => e = .returned (.string ⟨(List.replicate 0 35).toArray⟩) ∧ Below wx.heap.size wx w' from repeat_any 35 0 wx (by omega))
  have CR2 := Lib.hid fun wx => repeat_any 48 N wx (by omega)
  have hlr1 : (List.replicate 0 (35 : UInt8)).length ≤ 9 := by rw [List.length_replicate]; omega
  have hlr2 : (List.replicate N (48 : UInt8)).length ≤ 9 := by rw [List.length_replicate]; omega
  generalize List.replicate 0 (35 : UInt8) = R1 at *
  generalize List.replicate N (48 : UInt8) = R2 at *
  have AD1 : ∀ w, (Op.stringOp .add ⟨R1.toArray⟩ ⟨R2.toArray⟩).run Tryd.prog w = .ok (.string ⟨TW.toArray⟩) w := fun w => by rw [hW2]; exact add_str (P := Tryd.prog) R1 R2 (by (try simp); omega) w
  rw [List.append_nil]
  obtain ⟨Y1, hY1⟩ : ∃ Y1, Y1 = pre ++ TW := ⟨_, rfl⟩
  obtain ⟨Y2, hY2⟩ : ∃ Y2, Y2 = Y1 ++ suf := ⟨_, rfl⟩
  rw [← hY1, ← hY2]
  have AD9 : ∀ w, (Op.stringOp .add ⟨pre.toArray⟩ ⟨TW.toArray⟩).run Tryd.prog w = .ok (.string ⟨Y1.toArray⟩) w := fun w => by rw [hY1]; exact add_str (P := Tryd.prog) pre TW (by (try simp); omega) w
  have ADA : ∀ w, (Op.stringOp .add ⟨Y1.toArray⟩ ⟨suf.toArray⟩).run Tryd.prog w = .ok (.string ⟨Y2.toArray⟩) w := fun w => by rw [hY2]; exact add_str (P := Tryd.prog) Y1 suf (by rw [hY1]; (try simp); omega) w
  have W0 := Lib.hid (blw_alloc w (.cells #[.string ⟨pre.toArray⟩, .string ⟨suf.toArray⟩, .int .i64 (N : Int), .int .i64 (F : Int), .int .i64 0, .int .i64 0, .int .i64 0] 23))
  have B0 := Lib.hid (Boxed.made w #[.string ⟨pre.toArray⟩, .string ⟨suf.toArray⟩, .int .i64 (N : Int), .int .i64 (F : Int), .int .i64 0, .int .i64 0, .int .i64 0] 23)
  clear hpre hsuf hM he hwl hTW hTG hTF hW2 hN n1 n2 n3 hlr1 hlr2 hY1 hY2
  go_enter Tryd.func7, Tryd.ntmps7
  go_wp2_with fail
  refine (CK.out _).mono ?_
  rintro e w1 ⟨rfl, hb⟩
  rw [show errN 0 = .nilIface from rfl]
  have W1 := Lib.hid (blw_trans W0.out hb)
  have B1 := Lib.hid (B0.out.below hb)
  clear hb CK W0 B0
  have c0 : w1.cell? ⟨w.heap.size, 0, none⟩ = some (.string ⟨pre.toArray⟩) := B1.out.cell 0 _ rfl
  have c1 : w1.cell? ⟨w.heap.size, 1, none⟩ = some (.string ⟨suf.toArray⟩) := B1.out.cell 1 _ rfl
  have c2 : w1.cell? ⟨w.heap.size, 2, none⟩ = some (.int .i64 (N : Int)) := B1.out.cell 2 _ rfl
  have c3 : w1.cell? ⟨w.heap.size, 3, none⟩ = some (.int .i64 (F : Int)) := B1.out.cell 3 _ rfl
  have c4 : w1.cell? ⟨w.heap.size, 4, none⟩ = some (.int .i64 0) := B1.out.cell 4 _ rfl
  have c5 : w1.cell? ⟨w.heap.size, 5, none⟩ = some (.int .i64 0) := B1.out.cell 5 _ rfl
  have c6 : w1.cell? ⟨w.heap.size, 6, none⟩ = some (.int .i64 0) := B1.out.cell 6 _ rfl
  have cl := B1.out.lt
  go_wp2_with fail
  refine wp_region_held_drew (S := fun w' => w'.cell? ⟨w.heap.size, 0, none⟩ = some (.string ⟨pre.toArray⟩) ∧ w'.cell? ⟨w.heap.size, 1, none⟩ = some (.string ⟨suf.toArray⟩) ∧ w'.cell? ⟨w.heap.size, 2, none⟩ = some (.int .i64 (N : Int)) ∧ w'.cell? ⟨w.heap.size, 3, none⟩ = some (.int .i64 (F : Int)) ∧ w'.cell? ⟨w.heap.size, 4, none⟩ = some (.int .i64 0) ∧ w'.cell? ⟨w.heap.size, 5, none⟩ = some (.int .i64 0) ∧ w'.cell? ⟨w.heap.size, 6, none⟩ = some (.int .i64 0) ∧ Hid (Below w.heap.size w w')) (by kernel_rfl) (by exact ⟨by go_keep, by go_keep, by go_keep, by go_keep, by go_keep, by go_keep, by go_keep, Lib.hid (Below.drew W1.out)⟩) (fun hHeld => ?_)
  refine take_run (d := (some 27)) (v := ?v1) 0 rfl rfl (by kernel_rfl) (by kernel_rfl) (by kernel_rfl) (fun _ _ _ h => h) (by rfl) hHeld ?hy1 ?rs1
  case hy1 => (intro w hSw; (try dsimp only at hSw); go_simp) <;> (try with_reducible rfl)
  (try simp only [Act.put, List.setIfInBounds_toArray, List.set_cons_zero, List.set_cons_succ])
  refine take_run (d := (some 28)) (v := ?v2) 1 rfl rfl (by kernel_rfl) (by kernel_rfl) (by kernel_rfl) (fun _ _ _ h => h) (by rfl) hHeld ?hy2 ?rs2
  case hy2 => (intro w hSw; (try dsimp only at hSw); go_simp) <;> (try with_reducible rfl)
  (try simp only [Act.put, List.setIfInBounds_toArray, List.set_cons_zero, List.set_cons_succ])
  refine take_run (d := (some 29)) (v := ?v3) 2 rfl rfl (by kernel_rfl) (by kernel_rfl) (by kernel_rfl) (fun _ _ _ h => h) (by rfl) hHeld ?hy3 ?rs3
  case hy3 => (intro w hSw; (try dsimp only at hSw); go_simp) <;> (try with_reducible rfl)
  (try simp only [Act.put, List.setIfInBounds_toArray, List.set_cons_zero, List.set_cons_succ])
  refine take_run (d := (some 30)) (v := ?v4) 3 rfl rfl (by kernel_rfl) (by kernel_rfl) (by kernel_rfl) (fun _ _ _ h => h) (by rfl) hHeld ?hy4 ?rs4
  case hy4 => (intro w hSw; (try dsimp only at hSw); go_simp) <;> (try with_reducible rfl)
  (try simp only [Act.put, List.setIfInBounds_toArray, List.set_cons_zero, List.set_cons_succ])
  refine take_run (d := (some 32)) (v := ?v5) 5 rfl rfl (by kernel_rfl) (by kernel_rfl) (by kernel_rfl) (fun _ _ _ h => h) (by rfl) hHeld ?hy5 ?rs5
  case hy5 => (intro w hSw; (try dsimp only at hSw); go_simp) <;> (try with_reducible rfl)
  (try simp only [Act.put, List.setIfInBounds_toArray, List.set_cons_zero, List.set_cons_succ])
  refine take_run (d := (some 33)) (v := ?v6) 6 rfl rfl (by kernel_rfl) (by kernel_rfl) (by kernel_rfl) (fun _ _ _ h => h) (by rfl) hHeld ?hy6 ?rs6
  case hy6 => (intro w hSw; (try dsimp only at hSw); go_simp) <;> (try with_reducible rfl)
  (try simp only [Act.put, List.setIfInBounds_toArray, List.set_cons_zero, List.set_cons_succ])
  refine take_call 4 rfl (by kernel_rfl) (by rfl) (fun K hK => ?_)
  go_simp
  refine (CR1.out _).mono ?_
  rintro e w' ⟨rfl, hb⟩
  refine hK.out _ _ (by obtain ⟨h0, h1, h2, h3, h4, h5, h6, hw⟩ := hHeld; exact ⟨cell_keep h0 hb, cell_keep h1 hb, cell_keep h2 hb, cell_keep h3 hb, cell_keep h4 hb, cell_keep h5 hb, cell_keep h6 hb, Lib.hid (blw_trans hw.out hb)⟩) (fun hHeld => ?_)
  clear hK K
  (try simp only [Act.put, List.setIfInBounds_toArray, List.set_cons_zero, List.set_cons_succ])
  refine take_call 7 rfl (by kernel_rfl) (by rfl) (fun K hK => ?_)
  go_simp
  refine (CR2.out _).mono ?_
  rintro e w' ⟨rfl, hb⟩
  refine hK.out _ _ (by obtain ⟨h0, h1, h2, h3, h4, h5, h6, hw⟩ := hHeld; exact ⟨cell_keep h0 hb, cell_keep h1 hb, cell_keep h2 hb, cell_keep h3 hb, cell_keep h4 hb, cell_keep h5 hb, cell_keep h6 hb, Lib.hid (blw_trans hw.out hb)⟩) (fun hHeld => ?_)
  clear hK K
  (try simp only [Act.put, List.setIfInBounds_toArray, List.set_cons_zero, List.set_cons_succ])
  refine take_run (d := (some 35)) (v := ?v9) 8 rfl rfl (by kernel_rfl) (by kernel_rfl) (by kernel_rfl) (fun _ _ _ h => h) (by rfl) hHeld ?hy9 ?rs9
  case hy9 => (intro w hSw; (try dsimp only at hSw); go_simp) <;> (try with_reducible rfl)
  (try simp only [Act.put, List.setIfInBounds_toArray, List.set_cons_zero, List.set_cons_succ])
  refine take_run (d := (some 6)) (v := ?v10) 9 rfl rfl (by kernel_rfl) (by kernel_rfl) (by kernel_rfl) (fun _ _ _ h => h) (by rfl) hHeld ?hy10 ?rs10
  case hy10 => (intro w hSw; (try dsimp only at hSw); go_simp) <;> (try with_reducible rfl)
  (try simp only [Act.put, List.setIfInBounds_toArray, List.set_cons_zero, List.set_cons_succ])
  refine wpAnyH_done (by kernel_rfl) ?_ _
  obtain ⟨z0, z1, z2, z3, z4, z5, z6, zW⟩ := hHeld
  rename World => w2
  clear c0 c1 c2 c3 c4 c5 c6 cl
  have c0 := z0
  have c1 := z1
  have c2 := z2
  have c3 := z3
  have c4 := z4
  have c5 := z5
  have c6 := z6
  have cl := World.block_lt_of_cell? _ _ c0
  clear z0 z1 z2 z3 z4 z5 z6
  go_wp2_with fail
  go_ret2
  exact ⟨rfl, zW.out⟩
set_option maxRecDepth 100000 in
set_option maxHeartbeats 4000000 in
theorem ptext_001 (pre suf : List UInt8) (M F X : Nat) (w : World) (hpre : pre.length ≤ 100) (hsuf : suf.length ≤ 100) (hM : 1 ≤ M ∧ M ≤ 9) (hF : F ≤ X ∧ X ≤ 6) (he : Nt.patE ⟨pre, suf, (M : Int), (F : Int), (X : Int), 0, 0⟩ = 0)  (hX : X ≠ 0) :
    Calls Tryd.prog 7 #[.agg #[.string ⟨pre.toArray⟩, .string ⟨suf.toArray⟩, .int .i64 (M : Int), .int .i64 (F : Int), .int .i64 (X : Int), .int .i64 0, .int .i64 0]] w fun e w' => e = .returned (.tuple #[.string ⟨((pre ++ (Nt.ptG M 0 0 ++ Nt.ptF F X)) ++ suf).toArray⟩, .nilIface]) ∧ Below w.heap.size w w' := by
  have CK := Lib.hid fun wx => pck_any ⟨pre, suf, (M : Int), (F : Int), (X : Int), 0, 0⟩ wx (by show pre.length ≤ _; omega) (by show suf.length ≤ _; omega)
  rw [he] at CK
  obtain ⟨n1, n2, n3⟩ := Nt.ptN_le M 0 0 hM.2 (by omega) (by omega)
  have hwl := Nt.ptW_len M 0 0 n1
  obtain ⟨N, hN⟩ : ∃ N, Nt.ptN M 0 0 = N := ⟨_, rfl⟩
  obtain ⟨TW, hTW⟩ : ∃ TW, Nt.ptW M 0 0 = TW := ⟨_, rfl⟩
  have hTG : Nt.ptG M 0 0 = TW := by unfold Nt.ptG; rw [hTW, hN]; rfl
  have hTF : Nt.ptF F X = ([46] ++ List.replicate F 48) ++ List.replicate (X - F) 35 := by unfold Nt.ptF; rw [if_neg hX]
  rw [hTG, hTF]
  have hW2 : TW = List.replicate (N - M) 35 ++ List.replicate M 48 := by rw [← hTW, ← hN]; rfl
  rw [hTW, hN] at hwl
  rw [hN] at n1 n2 n3
  obtain rfl : N = M := by rw [← hN]; unfold Nt.ptN; rw [if_pos rfl]
  rw [Nat.sub_self] at hW2
  have CR1 := Lib.hid fun wx => (show Calls Tryd.prog 18 #[.string ⟨#[35]⟩, .int .i64 0] wx fun e w' => e = .returned (.string ⟨(List.replicate 0 35).toArray⟩) ∧ Below wx.heap.size wx w' from repeat_any 35 0 wx (by omega))
  have CR2 := Lib.hid fun wx => repeat_any 48 N wx (by omega)
  have hlr1 : (List.replicate 0 (35 : UInt8)).length ≤ 9 := by rw [List.length_replicate]; omega
  have hlr2 : (List.replicate N (48 : UInt8)).length ≤ 9 := by rw [List.length_replicate]; omega
  generalize List.replicate 0 (35 : UInt8) = R1 at *
  generalize List.replicate N (48 : UInt8) = R2 at *
  have AD1 : ∀ w, (Op.stringOp .add ⟨R1.toArray⟩ ⟨R2.toArray⟩).run Tryd.prog w = .ok (.string ⟨TW.toArray⟩) w := fun w => by rw [hW2]; exact add_str (P := Tryd.prog) R1 R2 (by (try simp); omega) w
  have hX0 : ((X : Int) == 0) = false := beq_no (by omega)
  have hX1 : ((X : Int) != 0) = true := by rw [bne, hX0]; rfl
  have CR3 := Lib.hid fun wx => repeat_any 48 F wx (by omega)
  have CR4 := Lib.hid fun wx => repeat_any 35 (X - F) wx (by omega)
  have hd2 : IntKind.i64.wrap ((X : Int) - (F : Int)) = ((X - F : Nat) : Int) := by rw [IntWalk.i64_in _ (by omega)]; omega
  have hlr3 : (List.replicate F (48 : UInt8)).length ≤ 6 := by rw [List.length_replicate]; omega
  have hlr4 : (List.replicate (X - F) (35 : UInt8)).length ≤ 6 := by rw [List.length_replicate]; omega
  generalize List.replicate F (48 : UInt8) = R3 at *
  generalize List.replicate (X - F) (35 : UInt8) = R4 at *
  obtain ⟨V1, hV1⟩ : ∃ V1, V1 = [46] ++ R3 := ⟨_, rfl⟩
  obtain ⟨V2, hV2⟩ : ∃ V2, V2 = V1 ++ R4 := ⟨_, rfl⟩
  obtain ⟨T3, hT3⟩ : ∃ T3, T3 = TW ++ V2 := ⟨_, rfl⟩
  rw [← hV1, ← hV2, ← hT3]
  have AD6 : ∀ w, (Op.stringOp .add ⟨#[46]⟩ ⟨R3.toArray⟩).run Tryd.prog w = .ok (.string ⟨V1.toArray⟩) w := fun w => by rw [hV1]; exact add_str (P := Tryd.prog) [46] R3 (by (try simp); omega) w
  have AD7 : ∀ w, (Op.stringOp .add ⟨V1.toArray⟩ ⟨R4.toArray⟩).run Tryd.prog w = .ok (.string ⟨V2.toArray⟩) w := fun w => by rw [hV2]; exact add_str (P := Tryd.prog) V1 R4 (by rw [hV1]; (try simp); omega) w
  have AD8 : ∀ w, (Op.stringOp .add ⟨TW.toArray⟩ ⟨V2.toArray⟩).run Tryd.prog w = .ok (.string ⟨T3.toArray⟩) w := fun w => by rw [hT3]; exact add_str (P := Tryd.prog) TW V2 (by rw [hV2, hV1]; (try simp); omega) w
  have hl3 : T3.length ≤ 30 := by rw [hT3, hV2, hV1]; simp; omega
  obtain ⟨Y1, hY1⟩ : ∃ Y1, Y1 = pre ++ T3 := ⟨_, rfl⟩
  obtain ⟨Y2, hY2⟩ : ∃ Y2, Y2 = Y1 ++ suf := ⟨_, rfl⟩
  rw [← hY1, ← hY2]
  have AD9 : ∀ w, (Op.stringOp .add ⟨pre.toArray⟩ ⟨T3.toArray⟩).run Tryd.prog w = .ok (.string ⟨Y1.toArray⟩) w := fun w => by rw [hY1]; exact add_str (P := Tryd.prog) pre T3 (by (try simp); omega) w
  have ADA : ∀ w, (Op.stringOp .add ⟨Y1.toArray⟩ ⟨suf.toArray⟩).run Tryd.prog w = .ok (.string ⟨Y2.toArray⟩) w := fun w => by rw [hY2]; exact add_str (P := Tryd.prog) Y1 suf (by rw [hY1]; (try simp); omega) w
  have W0 := Lib.hid (blw_alloc w (.cells #[.string ⟨pre.toArray⟩, .string ⟨suf.toArray⟩, .int .i64 (N : Int), .int .i64 (F : Int), .int .i64 (X : Int), .int .i64 0, .int .i64 0] 23))
  have B0 := Lib.hid (Boxed.made w #[.string ⟨pre.toArray⟩, .string ⟨suf.toArray⟩, .int .i64 (N : Int), .int .i64 (F : Int), .int .i64 (X : Int), .int .i64 0, .int .i64 0] 23)
  clear hpre hsuf hM hF he hwl hTW hTG hTF hW2 hN n1 n2 n3 hlr1 hlr2 hY1 hY2 hl3 hlr3 hlr4 hV1 hV2 hT3
  go_enter Tryd.func7, Tryd.ntmps7
  go_wp2_with fail
  refine (CK.out _).mono ?_
  rintro e w1 ⟨rfl, hb⟩
  rw [show errN 0 = .nilIface from rfl]
  have W1 := Lib.hid (blw_trans W0.out hb)
  have B1 := Lib.hid (B0.out.below hb)
  clear hb CK W0 B0
  have c0 : w1.cell? ⟨w.heap.size, 0, none⟩ = some (.string ⟨pre.toArray⟩) := B1.out.cell 0 _ rfl
  have c1 : w1.cell? ⟨w.heap.size, 1, none⟩ = some (.string ⟨suf.toArray⟩) := B1.out.cell 1 _ rfl
  have c2 : w1.cell? ⟨w.heap.size, 2, none⟩ = some (.int .i64 (N : Int)) := B1.out.cell 2 _ rfl
  have c3 : w1.cell? ⟨w.heap.size, 3, none⟩ = some (.int .i64 (F : Int)) := B1.out.cell 3 _ rfl
  have c4 : w1.cell? ⟨w.heap.size, 4, none⟩ = some (.int .i64 (X : Int)) := B1.out.cell 4 _ rfl
  have c5 : w1.cell? ⟨w.heap.size, 5, none⟩ = some (.int .i64 0) := B1.out.cell 5 _ rfl
  have c6 : w1.cell? ⟨w.heap.size, 6, none⟩ = some (.int .i64 0) := B1.out.cell 6 _ rfl
  have cl := B1.out.lt
  go_wp2_with fail
  refine wp_region_held_drew (S := fun w' => w'.cell? ⟨w.heap.size, 0, none⟩ = some (.string ⟨pre.toArray⟩) ∧ w'.cell? ⟨w.heap.size, 1, none⟩ = some (.string ⟨suf.toArray⟩) ∧ w'.cell? ⟨w.heap.size, 2, none⟩ = some (.int .i64 (N : Int)) ∧ w'.cell? ⟨w.heap.size, 3, none⟩ = some (.int .i64 (F : Int)) ∧ w'.cell? ⟨w.heap.size, 4, none⟩ = some (.int .i64 (X : Int)) ∧ w'.cell? ⟨w.heap.size, 5, none⟩ = some (.int .i64 0) ∧ w'.cell? ⟨w.heap.size, 6, none⟩ = some (.int .i64 0) ∧ Hid (Below w.heap.size w w')) (by kernel_rfl) (by exact ⟨by go_keep, by go_keep, by go_keep, by go_keep, by go_keep, by go_keep, by go_keep, Lib.hid (Below.drew W1.out)⟩) (fun hHeld => ?_)
  refine take_run (d := (some 27)) (v := ?v11) 0 rfl rfl (by kernel_rfl) (by kernel_rfl) (by kernel_rfl) (fun _ _ _ h => h) (by rfl) hHeld ?hy11 ?rs11
  case hy11 => (intro w hSw; (try dsimp only at hSw); go_simp) <;> (try with_reducible rfl)
  (try simp only [Act.put, List.setIfInBounds_toArray, List.set_cons_zero, List.set_cons_succ])
  refine take_run (d := (some 28)) (v := ?v12) 1 rfl rfl (by kernel_rfl) (by kernel_rfl) (by kernel_rfl) (fun _ _ _ h => h) (by rfl) hHeld ?hy12 ?rs12
  case hy12 => (intro w hSw; (try dsimp only at hSw); go_simp) <;> (try with_reducible rfl)
  (try simp only [Act.put, List.setIfInBounds_toArray, List.set_cons_zero, List.set_cons_succ])
  refine take_run (d := (some 29)) (v := ?v13) 2 rfl rfl (by kernel_rfl) (by kernel_rfl) (by kernel_rfl) (fun _ _ _ h => h) (by rfl) hHeld ?hy13 ?rs13
  case hy13 => (intro w hSw; (try dsimp only at hSw); go_simp) <;> (try with_reducible rfl)
  (try simp only [Act.put, List.setIfInBounds_toArray, List.set_cons_zero, List.set_cons_succ])
  refine take_run (d := (some 30)) (v := ?v14) 3 rfl rfl (by kernel_rfl) (by kernel_rfl) (by kernel_rfl) (fun _ _ _ h => h) (by rfl) hHeld ?hy14 ?rs14
  case hy14 => (intro w hSw; (try dsimp only at hSw); go_simp) <;> (try with_reducible rfl)
  (try simp only [Act.put, List.setIfInBounds_toArray, List.set_cons_zero, List.set_cons_succ])
  refine take_run (d := (some 32)) (v := ?v15) 5 rfl rfl (by kernel_rfl) (by kernel_rfl) (by kernel_rfl) (fun _ _ _ h => h) (by rfl) hHeld ?hy15 ?rs15
  case hy15 => (intro w hSw; (try dsimp only at hSw); go_simp) <;> (try with_reducible rfl)
  (try simp only [Act.put, List.setIfInBounds_toArray, List.set_cons_zero, List.set_cons_succ])
  refine take_run (d := (some 33)) (v := ?v16) 6 rfl rfl (by kernel_rfl) (by kernel_rfl) (by kernel_rfl) (fun _ _ _ h => h) (by rfl) hHeld ?hy16 ?rs16
  case hy16 => (intro w hSw; (try dsimp only at hSw); go_simp) <;> (try with_reducible rfl)
  (try simp only [Act.put, List.setIfInBounds_toArray, List.set_cons_zero, List.set_cons_succ])
  refine take_call 4 rfl (by kernel_rfl) (by rfl) (fun K hK => ?_)
  go_simp
  refine (CR1.out _).mono ?_
  rintro e w' ⟨rfl, hb⟩
  refine hK.out _ _ (by obtain ⟨h0, h1, h2, h3, h4, h5, h6, hw⟩ := hHeld; exact ⟨cell_keep h0 hb, cell_keep h1 hb, cell_keep h2 hb, cell_keep h3 hb, cell_keep h4 hb, cell_keep h5 hb, cell_keep h6 hb, Lib.hid (blw_trans hw.out hb)⟩) (fun hHeld => ?_)
  clear hK K
  (try simp only [Act.put, List.setIfInBounds_toArray, List.set_cons_zero, List.set_cons_succ])
  refine take_call 7 rfl (by kernel_rfl) (by rfl) (fun K hK => ?_)
  go_simp
  refine (CR2.out _).mono ?_
  rintro e w' ⟨rfl, hb⟩
  refine hK.out _ _ (by obtain ⟨h0, h1, h2, h3, h4, h5, h6, hw⟩ := hHeld; exact ⟨cell_keep h0 hb, cell_keep h1 hb, cell_keep h2 hb, cell_keep h3 hb, cell_keep h4 hb, cell_keep h5 hb, cell_keep h6 hb, Lib.hid (blw_trans hw.out hb)⟩) (fun hHeld => ?_)
  clear hK K
  (try simp only [Act.put, List.setIfInBounds_toArray, List.set_cons_zero, List.set_cons_succ])
  refine take_run (d := (some 35)) (v := ?v19) 8 rfl rfl (by kernel_rfl) (by kernel_rfl) (by kernel_rfl) (fun _ _ _ h => h) (by rfl) hHeld ?hy19 ?rs19
  case hy19 => (intro w hSw; (try dsimp only at hSw); go_simp) <;> (try with_reducible rfl)
  (try simp only [Act.put, List.setIfInBounds_toArray, List.set_cons_zero, List.set_cons_succ])
  refine take_run (d := (some 6)) (v := ?v20) 9 rfl rfl (by kernel_rfl) (by kernel_rfl) (by kernel_rfl) (fun _ _ _ h => h) (by rfl) hHeld ?hy20 ?rs20
  case hy20 => (intro w hSw; (try dsimp only at hSw); go_simp) <;> (try with_reducible rfl)
  (try simp only [Act.put, List.setIfInBounds_toArray, List.set_cons_zero, List.set_cons_succ])
  refine wpAnyH_done (by kernel_rfl) ?_ _
  obtain ⟨z0, z1, z2, z3, z4, z5, z6, zW⟩ := hHeld
  rename World => w2
  clear c0 c1 c2 c3 c4 c5 c6 cl
  have c0 := z0
  have c1 := z1
  have c2 := z2
  have c3 := z3
  have c4 := z4
  have c5 := z5
  have c6 := z6
  have cl := World.block_lt_of_cell? _ _ c0
  clear z0 z1 z2 z3 z4 z5 z6
  go_wp2_with fail
  have W5 := zW
  clear zW
  refine wp_region_held_drew (S := fun w' => w'.cell? ⟨w.heap.size, 0, none⟩ = some (.string ⟨pre.toArray⟩) ∧ w'.cell? ⟨w.heap.size, 1, none⟩ = some (.string ⟨suf.toArray⟩) ∧ w'.cell? ⟨w.heap.size, 2, none⟩ = some (.int .i64 (N : Int)) ∧ w'.cell? ⟨w.heap.size, 3, none⟩ = some (.int .i64 (F : Int)) ∧ w'.cell? ⟨w.heap.size, 4, none⟩ = some (.int .i64 (X : Int)) ∧ w'.cell? ⟨w.heap.size, 5, none⟩ = some (.int .i64 0) ∧ w'.cell? ⟨w.heap.size, 6, none⟩ = some (.int .i64 0) ∧ Hid (Below w.heap.size w w')) (by kernel_rfl) (by exact ⟨by go_keep, by go_keep, by go_keep, by go_keep, by go_keep, by go_keep, by go_keep, Lib.hid (Below.drew W5.out)⟩) (fun hHeld => ?_)
  refine take_run (d := (some 69)) (v := ?v21) 0 rfl rfl (by kernel_rfl) (by kernel_rfl) (by kernel_rfl) (fun _ _ _ h => h) (by rfl) hHeld ?hy21 ?rs21
  case hy21 => (intro w hSw; (try dsimp only at hSw); go_simp) <;> (try with_reducible rfl)
  (try simp only [Act.put, List.setIfInBounds_toArray, List.set_cons_zero, List.set_cons_succ])
  refine take_run (d := (some 70)) (v := ?v22) 1 rfl rfl (by kernel_rfl) (by kernel_rfl) (by kernel_rfl) (fun _ _ _ h => h) (by rfl) hHeld ?hy22 ?rs22
  case hy22 => (intro w hSw; (try dsimp only at hSw); go_simp) <;> (try with_reducible rfl)
  (try simp only [Act.put, List.setIfInBounds_toArray, List.set_cons_zero, List.set_cons_succ])
  refine take_run (d := (some 71)) (v := ?v23) 2 rfl rfl (by kernel_rfl) (by kernel_rfl) (by kernel_rfl) (fun _ _ _ h => h) (by rfl) hHeld ?hy23 ?rs23
  case hy23 => (intro w hSw; (try dsimp only at hSw); go_simp) <;> (try with_reducible rfl)
  (try simp only [Act.put, List.setIfInBounds_toArray, List.set_cons_zero, List.set_cons_succ])
  refine take_run (d := (some 74)) (v := ?v24) 5 rfl rfl (by kernel_rfl) (by kernel_rfl) (by kernel_rfl) (fun _ _ _ h => h) (by rfl) hHeld ?hy24 ?rs24
  case hy24 => (intro w hSw; (try dsimp only at hSw); go_simp) <;> (try with_reducible rfl)
  (try simp only [Act.put, List.setIfInBounds_toArray, List.set_cons_zero, List.set_cons_succ])
  refine take_run (d := (some 75)) (v := ?v25) 6 rfl rfl (by kernel_rfl) (by kernel_rfl) (by kernel_rfl) (fun _ _ _ h => h) (by rfl) hHeld ?hy25 ?rs25
  case hy25 => (intro w hSw; (try dsimp only at hSw); go_simp) <;> (try with_reducible rfl)
  (try simp only [Act.put, List.setIfInBounds_toArray, List.set_cons_zero, List.set_cons_succ])
  refine take_run (d := (some 76)) (v := ?v26) 7 rfl rfl (by kernel_rfl) (by kernel_rfl) (by kernel_rfl) (fun _ _ _ h => h) (by rfl) hHeld ?hy26 ?rs26
  case hy26 => (intro w hSw; (try dsimp only at hSw); go_simp) <;> (try with_reducible rfl)
  (try simp only [Act.put, List.setIfInBounds_toArray, List.set_cons_zero, List.set_cons_succ])
  refine take_run (d := (some 77)) (v := ?v27) 8 rfl rfl (by kernel_rfl) (by kernel_rfl) (by kernel_rfl) (fun _ _ _ h => h) (by rfl) hHeld ?hy27 ?rs27
  case hy27 => (intro w hSw; (try dsimp only at hSw); go_simp) <;> (try with_reducible rfl)
  (try simp only [Act.put, List.setIfInBounds_toArray, List.set_cons_zero, List.set_cons_succ])
  refine take_run (d := (some 78)) (v := ?v28) 9 rfl rfl (by kernel_rfl) (by kernel_rfl) (by kernel_rfl) (fun _ _ _ h => h) (by rfl) hHeld ?hy28 ?rs28
  case hy28 => (intro w hSw; (try dsimp only at hSw); go_simp) <;> (try with_reducible rfl)
  (try simp only [Act.put, List.setIfInBounds_toArray, List.set_cons_zero, List.set_cons_succ])
  refine take_call 3 rfl (by kernel_rfl) (by rfl) (fun K hK => ?_)
  go_simp
  refine (CR3.out _).mono ?_
  rintro e w' ⟨rfl, hb⟩
  refine hK.out _ _ (by obtain ⟨h0, h1, h2, h3, h4, h5, h6, hw⟩ := hHeld; exact ⟨cell_keep h0 hb, cell_keep h1 hb, cell_keep h2 hb, cell_keep h3 hb, cell_keep h4 hb, cell_keep h5 hb, cell_keep h6 hb, Lib.hid (blw_trans hw.out hb)⟩) (fun hHeld => ?_)
  clear hK K
  (try simp only [Act.put, List.setIfInBounds_toArray, List.set_cons_zero, List.set_cons_succ])
  refine take_run (d := (some 73)) (v := ?v30) 4 rfl rfl (by kernel_rfl) (by kernel_rfl) (by kernel_rfl) (fun _ _ _ h => h) (by rfl) hHeld ?hy30 ?rs30
  case hy30 => (intro w hSw; (try dsimp only at hSw); go_simp) <;> (try with_reducible rfl)
  (try simp only [Act.put, List.setIfInBounds_toArray, List.set_cons_zero, List.set_cons_succ])
  refine take_call 10 rfl (by kernel_rfl) (by rfl) (fun K hK => ?_)
  go_simp
  refine (CR4.out _).mono ?_
  rintro e w' ⟨rfl, hb⟩
  refine hK.out _ _ (by obtain ⟨h0, h1, h2, h3, h4, h5, h6, hw⟩ := hHeld; exact ⟨cell_keep h0 hb, cell_keep h1 hb, cell_keep h2 hb, cell_keep h3 hb, cell_keep h4 hb, cell_keep h5 hb, cell_keep h6 hb, Lib.hid (blw_trans hw.out hb)⟩) (fun hHeld => ?_)
  clear hK K
  (try simp only [Act.put, List.setIfInBounds_toArray, List.set_cons_zero, List.set_cons_succ])
  refine take_run (d := (some 80)) (v := ?v32) 11 rfl rfl (by kernel_rfl) (by kernel_rfl) (by kernel_rfl) (fun _ _ _ h => h) (by rfl) hHeld ?hy32 ?rs32
  case hy32 => (intro w hSw; (try dsimp only at hSw); go_simp) <;> (try with_reducible rfl)
  (try simp only [Act.put, List.setIfInBounds_toArray, List.set_cons_zero, List.set_cons_succ])
  refine take_run (d := (some 81)) (v := ?v33) 12 rfl rfl (by kernel_rfl) (by kernel_rfl) (by kernel_rfl) (fun _ _ _ h => h) (by rfl) hHeld ?hy33 ?rs33
  case hy33 => (intro w hSw; (try dsimp only at hSw); go_simp) <;> (try with_reducible rfl)
  (try simp only [Act.put, List.setIfInBounds_toArray, List.set_cons_zero, List.set_cons_succ])
  refine take_run (d := (some 6)) (v := ?v34) 13 rfl rfl (by kernel_rfl) (by kernel_rfl) (by kernel_rfl) (fun _ _ _ h => h) (by rfl) hHeld ?hy34 ?rs34
  case hy34 => (intro w hSw; (try dsimp only at hSw); go_simp) <;> (try with_reducible rfl)
  (try simp only [Act.put, List.setIfInBounds_toArray, List.set_cons_zero, List.set_cons_succ])
  refine wpAnyH_done (by kernel_rfl) ?_ _
  obtain ⟨z0, z1, z2, z3, z4, z5, z6, zW⟩ := hHeld
  rename World => w6
  clear c0 c1 c2 c3 c4 c5 c6 cl
  have c0 := z0
  have c1 := z1
  have c2 := z2
  have c3 := z3
  have c4 := z4
  have c5 := z5
  have c6 := z6
  have cl := World.block_lt_of_cell? _ _ c0
  clear z0 z1 z2 z3 z4 z5 z6
  go_wp2_with fail
  go_ret2
  exact ⟨rfl, zW.out⟩
set_option maxRecDepth 100000 in
set_option maxHeartbeats 4000000 in
theorem ptext_100 (pre suf : List UInt8) (M F A : Nat) (w : World) (hpre : pre.length ≤ 100) (hsuf : suf.length ≤ 100) (hM : 1 ≤ M ∧ M ≤ 9) (hAA : A ≤ 4) (he : Nt.patE ⟨pre, suf, (M : Int), (F : Int), 0, (A : Int), 0⟩ = 0) (hA : A ≠ 0) :
    Calls Tryd.prog 7 #[.agg #[.string ⟨pre.toArray⟩, .string ⟨suf.toArray⟩, .int .i64 (M : Int), .int .i64 (F : Int), .int .i64 0, .int .i64 (A : Int), .int .i64 0]] w fun e w' => e = .returned (.tuple #[.string ⟨((pre ++ (Nt.ptG M A 0 ++ Nt.ptF F 0)) ++ suf).toArray⟩, .nilIface]) ∧ Below w.heap.size w w' := by
  have CK := Lib.hid fun wx => pck_any ⟨pre, suf, (M : Int), (F : Int), 0, (A : Int), 0⟩ wx (by show pre.length ≤ _; omega) (by show suf.length ≤ _; omega)
  rw [he] at CK
  obtain ⟨n1, n2, n3⟩ := Nt.ptN_le M A 0 hM.2 hAA (by omega)
  have hwl := Nt.ptW_len M A 0 n1
  obtain ⟨N, hN⟩ : ∃ N, Nt.ptN M A 0 = N := ⟨_, rfl⟩
  obtain ⟨TW, hTW⟩ : ∃ TW, Nt.ptW M A 0 = TW := ⟨_, rfl⟩
  have hTG : Nt.ptG M A 0 = Nt.comma (N - A) TW := by unfold Nt.ptG; rw [hTW, hN]; rw [if_neg hA, if_pos rfl]
  have hTF : Nt.ptF F 0 = [] := by unfold Nt.ptF; rfl
  rw [hTG, hTF]
  have hW2 : TW = List.replicate (N - M) 35 ++ List.replicate M 48 := by rw [← hTW, ← hN]; rfl
  rw [hTW, hN] at hwl
  rw [hN] at n1 n2 n3
  obtain ⟨D, hD⟩ : ∃ D, D = N - M := ⟨_, rfl⟩
  rw [← hD] at hW2
  obtain ⟨K, hK⟩ : ∃ K, K = N - A := ⟨_, rfl⟩
  rw [← hK]
  have CR1 := Lib.hid fun wx => repeat_any 35 D wx (by omega)
  have CR2 := Lib.hid fun wx => repeat_any 48 M wx (by omega)
  have hd1 : IntKind.i64.wrap ((N : Int) - (M : Int)) = (D : Int) := by rw [IntWalk.i64_in _ (by omega)]; omega
  have hlr1 : (List.replicate D (35 : UInt8)).length ≤ 9 := by rw [List.length_replicate]; omega
  have hlr2 : (List.replicate M (48 : UInt8)).length ≤ 9 := by rw [List.length_replicate]; omega
  generalize List.replicate D (35 : UInt8) = R1 at *
  generalize List.replicate M (48 : UInt8) = R2 at *
  have AD1 : ∀ w, (Op.stringOp .add ⟨R1.toArray⟩ ⟨R2.toArray⟩).run Tryd.prog w = .ok (.string ⟨TW.toArray⟩) w := fun w => by rw [hW2]; exact add_str (P := Tryd.prog) R1 R2 (by (try simp); omega) w
  have hmx : IntKind.i64.wrap ((A : Int)) = (A : Int) := IntWalk.i64_in _ (by omega)
  have hmy : IntKind.i64.wrap ((A : Int) + 1) = (A : Int) + 1 := IntWalk.i64_in _ (by omega)
  have hmz : max (M : Int) ((A : Int) + 1) = (N : Int) := by rw [← hN]; unfold Nt.ptN; rw [if_neg hA]; omega
  have hA0 : ((A : Int) == 0) = false := beq_no (by omega)
  have hA1 : ((A : Int) != 0) = true := by rw [bne, hA0]; rfl
  have hk : IntKind.i64.wrap ((N : Int) - (A : Int)) = (K : Int) := by rw [IntWalk.i64_in _ (by omega)]; omega
  obtain ⟨T1, hT1⟩ : ∃ T1, Nt.comma K TW = T1 := ⟨_, rfl⟩
  have hl1 : T1.length = N + 1 := by rw [← hT1, Nt.comma_len _ _ (by omega), hwl]
  rw [hT1]
  have SA := fun w => slice_to (P := Tryd.prog) 9 Tryd.underlying9 TW .i64 K (by omega) w
  have SB := fun w => slice_from (P := Tryd.prog) 9 Tryd.underlying9 TW .i64 K (by omega) w
  obtain ⟨U1, hU1⟩ : ∃ U1, U1 = TW.take K := ⟨_, rfl⟩
  obtain ⟨U3, hU3⟩ : ∃ U3, U3 = TW.drop K := ⟨_, rfl⟩
  rw [← hU1] at SA
  rw [← hU3] at SB
  obtain ⟨U2, hU2⟩ : ∃ U2, U2 = U1 ++ [44] := ⟨_, rfl⟩
  have AD2 : ∀ w, (Op.stringOp .add ⟨U1.toArray⟩ ⟨#[44]⟩).run Tryd.prog w = .ok (.string ⟨U2.toArray⟩) w := fun w => by rw [hU2]; exact add_str (P := Tryd.prog) U1 [44] (by rw [hU1]; (try simp); omega) w
  have AD3 : ∀ w, (Op.stringOp .add ⟨U2.toArray⟩ ⟨U3.toArray⟩).run Tryd.prog w = .ok (.string ⟨T1.toArray⟩) w := fun w => by rw [← hT1]; unfold Nt.comma; rw [← hU1, ← hU3, ← hU2]; exact add_str (P := Tryd.prog) U2 U3 (by rw [hU2, hU1, hU3]; (try simp); omega) w
  have hj : IntKind.i64.wrap ((K : Int)) = (K : Int) := by rw [IntWalk.i64_in _ (by omega)]
  rw [List.append_nil]
  obtain ⟨Y1, hY1⟩ : ∃ Y1, Y1 = pre ++ T1 := ⟨_, rfl⟩
  obtain ⟨Y2, hY2⟩ : ∃ Y2, Y2 = Y1 ++ suf := ⟨_, rfl⟩
  rw [← hY1, ← hY2]
  have AD9 : ∀ w, (Op.stringOp .add ⟨pre.toArray⟩ ⟨T1.toArray⟩).run Tryd.prog w = .ok (.string ⟨Y1.toArray⟩) w := fun w => by rw [hY1]; exact add_str (P := Tryd.prog) pre T1 (by (try simp); omega) w
  have ADA : ∀ w, (Op.stringOp .add ⟨Y1.toArray⟩ ⟨suf.toArray⟩).run Tryd.prog w = .ok (.string ⟨Y2.toArray⟩) w := fun w => by rw [hY2]; exact add_str (P := Tryd.prog) Y1 suf (by rw [hY1]; (try simp); omega) w
  have W0 := Lib.hid (blw_alloc w (.cells #[.string ⟨pre.toArray⟩, .string ⟨suf.toArray⟩, .int .i64 (M : Int), .int .i64 (F : Int), .int .i64 0, .int .i64 (A : Int), .int .i64 0] 23))
  have B0 := Lib.hid (Boxed.made w #[.string ⟨pre.toArray⟩, .string ⟨suf.toArray⟩, .int .i64 (M : Int), .int .i64 (F : Int), .int .i64 0, .int .i64 (A : Int), .int .i64 0] 23)
  clear hpre hsuf hM hAA he hwl hTW hTG hTF hW2 hN n1 n2 n3 hlr1 hlr2 hY1 hY2 hl1 hT1 hU1 hU2 hU3 hK hD
  go_enter Tryd.func7, Tryd.ntmps7
  go_wp2_with fail
  refine (CK.out _).mono ?_
  rintro e w1 ⟨rfl, hb⟩
  rw [show errN 0 = .nilIface from rfl]
  have W1 := Lib.hid (blw_trans W0.out hb)
  have B1 := Lib.hid (B0.out.below hb)
  clear hb CK W0 B0
  have c0 : w1.cell? ⟨w.heap.size, 0, none⟩ = some (.string ⟨pre.toArray⟩) := B1.out.cell 0 _ rfl
  have c1 : w1.cell? ⟨w.heap.size, 1, none⟩ = some (.string ⟨suf.toArray⟩) := B1.out.cell 1 _ rfl
  have c2 : w1.cell? ⟨w.heap.size, 2, none⟩ = some (.int .i64 (M : Int)) := B1.out.cell 2 _ rfl
  have c3 : w1.cell? ⟨w.heap.size, 3, none⟩ = some (.int .i64 (F : Int)) := B1.out.cell 3 _ rfl
  have c4 : w1.cell? ⟨w.heap.size, 4, none⟩ = some (.int .i64 0) := B1.out.cell 4 _ rfl
  have c5 : w1.cell? ⟨w.heap.size, 5, none⟩ = some (.int .i64 (A : Int)) := B1.out.cell 5 _ rfl
  have c6 : w1.cell? ⟨w.heap.size, 6, none⟩ = some (.int .i64 0) := B1.out.cell 6 _ rfl
  have cl := B1.out.lt
  go_wp2_with fail
  refine wp_region_held_drew (S := fun w' => w'.cell? ⟨w.heap.size, 0, none⟩ = some (.string ⟨pre.toArray⟩) ∧ w'.cell? ⟨w.heap.size, 1, none⟩ = some (.string ⟨suf.toArray⟩) ∧ w'.cell? ⟨w.heap.size, 2, none⟩ = some (.int .i64 (M : Int)) ∧ w'.cell? ⟨w.heap.size, 3, none⟩ = some (.int .i64 (F : Int)) ∧ w'.cell? ⟨w.heap.size, 4, none⟩ = some (.int .i64 0) ∧ w'.cell? ⟨w.heap.size, 5, none⟩ = some (.int .i64 (A : Int)) ∧ w'.cell? ⟨w.heap.size, 6, none⟩ = some (.int .i64 0) ∧ Hid (Below w.heap.size w w')) (by kernel_rfl) (by exact ⟨by go_keep, by go_keep, by go_keep, by go_keep, by go_keep, by go_keep, by go_keep, Lib.hid (Below.drew W1.out)⟩) (fun hHeld => ?_)
  refine take_run (d := (some 27)) (v := ?v35) 0 rfl rfl (by kernel_rfl) (by kernel_rfl) (by kernel_rfl) (fun _ _ _ h => h) (by rfl) hHeld ?hy35 ?rs35
  case hy35 => (intro w hSw; (try dsimp only at hSw); go_simp) <;> (try with_reducible rfl)
  (try simp only [Act.put, List.setIfInBounds_toArray, List.set_cons_zero, List.set_cons_succ])
  refine take_run (d := (some 28)) (v := ?v36) 1 rfl rfl (by kernel_rfl) (by kernel_rfl) (by kernel_rfl) (fun _ _ _ h => h) (by rfl) hHeld ?hy36 ?rs36
  case hy36 => (intro w hSw; (try dsimp only at hSw); go_simp) <;> (try with_reducible rfl)
  (try simp only [Act.put, List.setIfInBounds_toArray, List.set_cons_zero, List.set_cons_succ])
  refine take_run (d := (some 29)) (v := ?v37) 2 rfl rfl (by kernel_rfl) (by kernel_rfl) (by kernel_rfl) (fun _ _ _ h => h) (by rfl) hHeld ?hy37 ?rs37
  case hy37 => (intro w hSw; (try dsimp only at hSw); go_simp) <;> (try with_reducible rfl)
  (try simp only [Act.put, List.setIfInBounds_toArray, List.set_cons_zero, List.set_cons_succ])
  refine take_run (d := (some 30)) (v := ?v38) 3 rfl rfl (by kernel_rfl) (by kernel_rfl) (by kernel_rfl) (fun _ _ _ h => h) (by rfl) hHeld ?hy38 ?rs38
  case hy38 => (intro w hSw; (try dsimp only at hSw); go_simp) <;> (try with_reducible rfl)
  (try simp only [Act.put, List.setIfInBounds_toArray, List.set_cons_zero, List.set_cons_succ])
  refine take_run (d := (some 32)) (v := ?v39) 5 rfl rfl (by kernel_rfl) (by kernel_rfl) (by kernel_rfl) (fun _ _ _ h => h) (by rfl) hHeld ?hy39 ?rs39
  case hy39 => (intro w hSw; (try dsimp only at hSw); go_simp) <;> (try with_reducible rfl)
  (try simp only [Act.put, List.setIfInBounds_toArray, List.set_cons_zero, List.set_cons_succ])
  refine take_run (d := (some 33)) (v := ?v40) 6 rfl rfl (by kernel_rfl) (by kernel_rfl) (by kernel_rfl) (fun _ _ _ h => h) (by rfl) hHeld ?hy40 ?rs40
  case hy40 => (intro w hSw; (try dsimp only at hSw); go_simp) <;> (try with_reducible rfl)
  (try simp only [Act.put, List.setIfInBounds_toArray, List.set_cons_zero, List.set_cons_succ])
  refine take_call 4 rfl (by kernel_rfl) (by rfl) (fun K hK => ?_)
  go_simp
  refine (CR1.out _).mono ?_
  rintro e w' ⟨rfl, hb⟩
  refine hK.out _ _ (by obtain ⟨h0, h1, h2, h3, h4, h5, h6, hw⟩ := hHeld; exact ⟨cell_keep h0 hb, cell_keep h1 hb, cell_keep h2 hb, cell_keep h3 hb, cell_keep h4 hb, cell_keep h5 hb, cell_keep h6 hb, Lib.hid (blw_trans hw.out hb)⟩) (fun hHeld => ?_)
  clear hK K
  (try simp only [Act.put, List.setIfInBounds_toArray, List.set_cons_zero, List.set_cons_succ])
  refine take_call 7 rfl (by kernel_rfl) (by rfl) (fun K hK => ?_)
  go_simp
  refine (CR2.out _).mono ?_
  rintro e w' ⟨rfl, hb⟩
  refine hK.out _ _ (by obtain ⟨h0, h1, h2, h3, h4, h5, h6, hw⟩ := hHeld; exact ⟨cell_keep h0 hb, cell_keep h1 hb, cell_keep h2 hb, cell_keep h3 hb, cell_keep h4 hb, cell_keep h5 hb, cell_keep h6 hb, Lib.hid (blw_trans hw.out hb)⟩) (fun hHeld => ?_)
  clear hK K
  (try simp only [Act.put, List.setIfInBounds_toArray, List.set_cons_zero, List.set_cons_succ])
  refine take_run (d := (some 35)) (v := ?v43) 8 rfl rfl (by kernel_rfl) (by kernel_rfl) (by kernel_rfl) (fun _ _ _ h => h) (by rfl) hHeld ?hy43 ?rs43
  case hy43 => (intro w hSw; (try dsimp only at hSw); go_simp) <;> (try with_reducible rfl)
  (try simp only [Act.put, List.setIfInBounds_toArray, List.set_cons_zero, List.set_cons_succ])
  refine take_run (d := (some 6)) (v := ?v44) 9 rfl rfl (by kernel_rfl) (by kernel_rfl) (by kernel_rfl) (fun _ _ _ h => h) (by rfl) hHeld ?hy44 ?rs44
  case hy44 => (intro w hSw; (try dsimp only at hSw); go_simp) <;> (try with_reducible rfl)
  (try simp only [Act.put, List.setIfInBounds_toArray, List.set_cons_zero, List.set_cons_succ])
  refine wpAnyH_done (by kernel_rfl) ?_ _
  obtain ⟨z0, z1, z2, z3, z4, z5, z6, zW⟩ := hHeld
  rename World => w2
  clear c0 c1 c2 c3 c4 c5 c6 cl
  have c0 := z0
  have c1 := z1
  have c2 := z2
  have c3 := z3
  have c4 := z4
  have c5 := z5
  have c6 := z6
  have cl := World.block_lt_of_cell? _ _ c0
  clear z0 z1 z2 z3 z4 z5 z6
  go_wp2_with fail
  go_quiet (fail)
  rename_i nq
  have Bq := Lib.hid (blw_drewN (Below.refl w2.heap.size w2) nq)
  replace c0 := cell_keep c0 Bq.out
  replace c1 := cell_keep c1 Bq.out
  replace c2 := cell_keep c2 Bq.out
  replace c3 := cell_keep c3 Bq.out
  replace c4 := cell_keep c4 Bq.out
  replace c5 := cell_keep c5 Bq.out
  replace c6 := cell_keep c6 Bq.out
  replace zW := Lib.hid (blw_trans zW.out Bq.out)
  generalize w2.drewN nq = w3 at *
  clear Bq cl
  have cl := World.block_lt_of_cell? _ _ c0
  go_wp2_with fail
  go_ret2
  exact ⟨rfl, zW.out⟩
set_option maxRecDepth 100000 in
set_option maxHeartbeats 4000000 in
theorem ptext_101 (pre suf : List UInt8) (M F X A : Nat) (w : World) (hpre : pre.length ≤ 100) (hsuf : suf.length ≤ 100) (hM : 1 ≤ M ∧ M ≤ 9) (hF : F ≤ X ∧ X ≤ 6) (hAA : A ≤ 4) (he : Nt.patE ⟨pre, suf, (M : Int), (F : Int), (X : Int), (A : Int), 0⟩ = 0) (hA : A ≠ 0) (hX : X ≠ 0) :
    Calls Tryd.prog 7 #[.agg #[.string ⟨pre.toArray⟩, .string ⟨suf.toArray⟩, .int .i64 (M : Int), .int .i64 (F : Int), .int .i64 (X : Int), .int .i64 (A : Int), .int .i64 0]] w fun e w' => e = .returned (.tuple #[.string ⟨((pre ++ (Nt.ptG M A 0 ++ Nt.ptF F X)) ++ suf).toArray⟩, .nilIface]) ∧ Below w.heap.size w w' := by
  have CK := Lib.hid fun wx => pck_any ⟨pre, suf, (M : Int), (F : Int), (X : Int), (A : Int), 0⟩ wx (by show pre.length ≤ _; omega) (by show suf.length ≤ _; omega)
  rw [he] at CK
  obtain ⟨n1, n2, n3⟩ := Nt.ptN_le M A 0 hM.2 hAA (by omega)
  have hwl := Nt.ptW_len M A 0 n1
  obtain ⟨N, hN⟩ : ∃ N, Nt.ptN M A 0 = N := ⟨_, rfl⟩
  obtain ⟨TW, hTW⟩ : ∃ TW, Nt.ptW M A 0 = TW := ⟨_, rfl⟩
  have hTG : Nt.ptG M A 0 = Nt.comma (N - A) TW := by unfold Nt.ptG; rw [hTW, hN]; rw [if_neg hA, if_pos rfl]
  have hTF : Nt.ptF F X = ([46] ++ List.replicate F 48) ++ List.replicate (X - F) 35 := by unfold Nt.ptF; rw [if_neg hX]
  rw [hTG, hTF]
  have hW2 : TW = List.replicate (N - M) 35 ++ List.replicate M 48 := by rw [← hTW, ← hN]; rfl
  rw [hTW, hN] at hwl
  rw [hN] at n1 n2 n3
  obtain ⟨D, hD⟩ : ∃ D, D = N - M := ⟨_, rfl⟩
  rw [← hD] at hW2
  obtain ⟨K, hK⟩ : ∃ K, K = N - A := ⟨_, rfl⟩
  rw [← hK]
  have CR1 := Lib.hid fun wx => repeat_any 35 D wx (by omega)
  have CR2 := Lib.hid fun wx => repeat_any 48 M wx (by omega)
  have hd1 : IntKind.i64.wrap ((N : Int) - (M : Int)) = (D : Int) := by rw [IntWalk.i64_in _ (by omega)]; omega
  have hlr1 : (List.replicate D (35 : UInt8)).length ≤ 9 := by rw [List.length_replicate]; omega
  have hlr2 : (List.replicate M (48 : UInt8)).length ≤ 9 := by rw [List.length_replicate]; omega
  generalize List.replicate D (35 : UInt8) = R1 at *
  generalize List.replicate M (48 : UInt8) = R2 at *
  have AD1 : ∀ w, (Op.stringOp .add ⟨R1.toArray⟩ ⟨R2.toArray⟩).run Tryd.prog w = .ok (.string ⟨TW.toArray⟩) w := fun w => by rw [hW2]; exact add_str (P := Tryd.prog) R1 R2 (by (try simp); omega) w
  have hmx : IntKind.i64.wrap ((A : Int)) = (A : Int) := IntWalk.i64_in _ (by omega)
  have hmy : IntKind.i64.wrap ((A : Int) + 1) = (A : Int) + 1 := IntWalk.i64_in _ (by omega)
  have hmz : max (M : Int) ((A : Int) + 1) = (N : Int) := by rw [← hN]; unfold Nt.ptN; rw [if_neg hA]; omega
  have hA0 : ((A : Int) == 0) = false := beq_no (by omega)
  have hA1 : ((A : Int) != 0) = true := by rw [bne, hA0]; rfl
  have hk : IntKind.i64.wrap ((N : Int) - (A : Int)) = (K : Int) := by rw [IntWalk.i64_in _ (by omega)]; omega
  obtain ⟨T1, hT1⟩ : ∃ T1, Nt.comma K TW = T1 := ⟨_, rfl⟩
  have hl1 : T1.length = N + 1 := by rw [← hT1, Nt.comma_len _ _ (by omega), hwl]
  rw [hT1]
  have SA := fun w => slice_to (P := Tryd.prog) 9 Tryd.underlying9 TW .i64 K (by omega) w
  have SB := fun w => slice_from (P := Tryd.prog) 9 Tryd.underlying9 TW .i64 K (by omega) w
  obtain ⟨U1, hU1⟩ : ∃ U1, U1 = TW.take K := ⟨_, rfl⟩
  obtain ⟨U3, hU3⟩ : ∃ U3, U3 = TW.drop K := ⟨_, rfl⟩
  rw [← hU1] at SA
  rw [← hU3] at SB
  obtain ⟨U2, hU2⟩ : ∃ U2, U2 = U1 ++ [44] := ⟨_, rfl⟩
  have AD2 : ∀ w, (Op.stringOp .add ⟨U1.toArray⟩ ⟨#[44]⟩).run Tryd.prog w = .ok (.string ⟨U2.toArray⟩) w := fun w => by rw [hU2]; exact add_str (P := Tryd.prog) U1 [44] (by rw [hU1]; (try simp); omega) w
  have AD3 : ∀ w, (Op.stringOp .add ⟨U2.toArray⟩ ⟨U3.toArray⟩).run Tryd.prog w = .ok (.string ⟨T1.toArray⟩) w := fun w => by rw [← hT1]; unfold Nt.comma; rw [← hU1, ← hU3, ← hU2]; exact add_str (P := Tryd.prog) U2 U3 (by rw [hU2, hU1, hU3]; (try simp); omega) w
  have hj : IntKind.i64.wrap ((K : Int)) = (K : Int) := by rw [IntWalk.i64_in _ (by omega)]
  have hX0 : ((X : Int) == 0) = false := beq_no (by omega)
  have hX1 : ((X : Int) != 0) = true := by rw [bne, hX0]; rfl
  have CR3 := Lib.hid fun wx => repeat_any 48 F wx (by omega)
  have CR4 := Lib.hid fun wx => repeat_any 35 (X - F) wx (by omega)
  have hd2 : IntKind.i64.wrap ((X : Int) - (F : Int)) = ((X - F : Nat) : Int) := by rw [IntWalk.i64_in _ (by omega)]; omega
  have hlr3 : (List.replicate F (48 : UInt8)).length ≤ 6 := by rw [List.length_replicate]; omega
  have hlr4 : (List.replicate (X - F) (35 : UInt8)).length ≤ 6 := by rw [List.length_replicate]; omega
  generalize List.replicate F (48 : UInt8) = R3 at *
  generalize List.replicate (X - F) (35 : UInt8) = R4 at *
  obtain ⟨V1, hV1⟩ : ∃ V1, V1 = [46] ++ R3 := ⟨_, rfl⟩
  obtain ⟨V2, hV2⟩ : ∃ V2, V2 = V1 ++ R4 := ⟨_, rfl⟩
  obtain ⟨T3, hT3⟩ : ∃ T3, T3 = T1 ++ V2 := ⟨_, rfl⟩
  rw [← hV1, ← hV2, ← hT3]
  have AD6 : ∀ w, (Op.stringOp .add ⟨#[46]⟩ ⟨R3.toArray⟩).run Tryd.prog w = .ok (.string ⟨V1.toArray⟩) w := fun w => by rw [hV1]; exact add_str (P := Tryd.prog) [46] R3 (by (try simp); omega) w
  have AD7 : ∀ w, (Op.stringOp .add ⟨V1.toArray⟩ ⟨R4.toArray⟩).run Tryd.prog w = .ok (.string ⟨V2.toArray⟩) w := fun w => by rw [hV2]; exact add_str (P := Tryd.prog) V1 R4 (by rw [hV1]; (try simp); omega) w
  have AD8 : ∀ w, (Op.stringOp .add ⟨T1.toArray⟩ ⟨V2.toArray⟩).run Tryd.prog w = .ok (.string ⟨T3.toArray⟩) w := fun w => by rw [hT3]; exact add_str (P := Tryd.prog) T1 V2 (by rw [hV2, hV1]; (try simp); omega) w
  have hl3 : T3.length ≤ 30 := by rw [hT3, hV2, hV1]; simp; omega
  obtain ⟨Y1, hY1⟩ : ∃ Y1, Y1 = pre ++ T3 := ⟨_, rfl⟩
  obtain ⟨Y2, hY2⟩ : ∃ Y2, Y2 = Y1 ++ suf := ⟨_, rfl⟩
  rw [← hY1, ← hY2]
  have AD9 : ∀ w, (Op.stringOp .add ⟨pre.toArray⟩ ⟨T3.toArray⟩).run Tryd.prog w = .ok (.string ⟨Y1.toArray⟩) w := fun w => by rw [hY1]; exact add_str (P := Tryd.prog) pre T3 (by (try simp); omega) w
  have ADA : ∀ w, (Op.stringOp .add ⟨Y1.toArray⟩ ⟨suf.toArray⟩).run Tryd.prog w = .ok (.string ⟨Y2.toArray⟩) w := fun w => by rw [hY2]; exact add_str (P := Tryd.prog) Y1 suf (by rw [hY1]; (try simp); omega) w
  have W0 := Lib.hid (blw_alloc w (.cells #[.string ⟨pre.toArray⟩, .string ⟨suf.toArray⟩, .int .i64 (M : Int), .int .i64 (F : Int), .int .i64 (X : Int), .int .i64 (A : Int), .int .i64 0] 23))
  have B0 := Lib.hid (Boxed.made w #[.string ⟨pre.toArray⟩, .string ⟨suf.toArray⟩, .int .i64 (M : Int), .int .i64 (F : Int), .int .i64 (X : Int), .int .i64 (A : Int), .int .i64 0] 23)
  clear hpre hsuf hM hF hAA he hwl hTW hTG hTF hW2 hN n1 n2 n3 hlr1 hlr2 hY1 hY2 hl1 hT1 hU1 hU2 hU3 hK hD hl3 hlr3 hlr4 hV1 hV2 hT3
  go_enter Tryd.func7, Tryd.ntmps7
  go_wp2_with fail
  refine (CK.out _).mono ?_
  rintro e w1 ⟨rfl, hb⟩
  rw [show errN 0 = .nilIface from rfl]
  have W1 := Lib.hid (blw_trans W0.out hb)
  have B1 := Lib.hid (B0.out.below hb)
  clear hb CK W0 B0
  have c0 : w1.cell? ⟨w.heap.size, 0, none⟩ = some (.string ⟨pre.toArray⟩) := B1.out.cell 0 _ rfl
  have c1 : w1.cell? ⟨w.heap.size, 1, none⟩ = some (.string ⟨suf.toArray⟩) := B1.out.cell 1 _ rfl
  have c2 : w1.cell? ⟨w.heap.size, 2, none⟩ = some (.int .i64 (M : Int)) := B1.out.cell 2 _ rfl
  have c3 : w1.cell? ⟨w.heap.size, 3, none⟩ = some (.int .i64 (F : Int)) := B1.out.cell 3 _ rfl
  have c4 : w1.cell? ⟨w.heap.size, 4, none⟩ = some (.int .i64 (X : Int)) := B1.out.cell 4 _ rfl
  have c5 : w1.cell? ⟨w.heap.size, 5, none⟩ = some (.int .i64 (A : Int)) := B1.out.cell 5 _ rfl
  have c6 : w1.cell? ⟨w.heap.size, 6, none⟩ = some (.int .i64 0) := B1.out.cell 6 _ rfl
  have cl := B1.out.lt
  go_wp2_with fail
  refine wp_region_held_drew (S := fun w' => w'.cell? ⟨w.heap.size, 0, none⟩ = some (.string ⟨pre.toArray⟩) ∧ w'.cell? ⟨w.heap.size, 1, none⟩ = some (.string ⟨suf.toArray⟩) ∧ w'.cell? ⟨w.heap.size, 2, none⟩ = some (.int .i64 (M : Int)) ∧ w'.cell? ⟨w.heap.size, 3, none⟩ = some (.int .i64 (F : Int)) ∧ w'.cell? ⟨w.heap.size, 4, none⟩ = some (.int .i64 (X : Int)) ∧ w'.cell? ⟨w.heap.size, 5, none⟩ = some (.int .i64 (A : Int)) ∧ w'.cell? ⟨w.heap.size, 6, none⟩ = some (.int .i64 0) ∧ Hid (Below w.heap.size w w')) (by kernel_rfl) (by exact ⟨by go_keep, by go_keep, by go_keep, by go_keep, by go_keep, by go_keep, by go_keep, Lib.hid (Below.drew W1.out)⟩) (fun hHeld => ?_)
  refine take_run (d := (some 27)) (v := ?v45) 0 rfl rfl (by kernel_rfl) (by kernel_rfl) (by kernel_rfl) (fun _ _ _ h => h) (by rfl) hHeld ?hy45 ?rs45
  case hy45 => (intro w hSw; (try dsimp only at hSw); go_simp) <;> (try with_reducible rfl)
  (try simp only [Act.put, List.setIfInBounds_toArray, List.set_cons_zero, List.set_cons_succ])
  refine take_run (d := (some 28)) (v := ?v46) 1 rfl rfl (by kernel_rfl) (by kernel_rfl) (by kernel_rfl) (fun _ _ _ h => h) (by rfl) hHeld ?hy46 ?rs46
  case hy46 => (intro w hSw; (try dsimp only at hSw); go_simp) <;> (try with_reducible rfl)
  (try simp only [Act.put, List.setIfInBounds_toArray, List.set_cons_zero, List.set_cons_succ])
  refine take_run (d := (some 29)) (v := ?v47) 2 rfl rfl (by kernel_rfl) (by kernel_rfl) (by kernel_rfl) (fun _ _ _ h => h) (by rfl) hHeld ?hy47 ?rs47
  case hy47 => (intro w hSw; (try dsimp only at hSw); go_simp) <;> (try with_reducible rfl)
  (try simp only [Act.put, List.setIfInBounds_toArray, List.set_cons_zero, List.set_cons_succ])
  refine take_run (d := (some 30)) (v := ?v48) 3 rfl rfl (by kernel_rfl) (by kernel_rfl) (by kernel_rfl) (fun _ _ _ h => h) (by rfl) hHeld ?hy48 ?rs48
  case hy48 => (intro w hSw; (try dsimp only at hSw); go_simp) <;> (try with_reducible rfl)
  (try simp only [Act.put, List.setIfInBounds_toArray, List.set_cons_zero, List.set_cons_succ])
  refine take_run (d := (some 32)) (v := ?v49) 5 rfl rfl (by kernel_rfl) (by kernel_rfl) (by kernel_rfl) (fun _ _ _ h => h) (by rfl) hHeld ?hy49 ?rs49
  case hy49 => (intro w hSw; (try dsimp only at hSw); go_simp) <;> (try with_reducible rfl)
  (try simp only [Act.put, List.setIfInBounds_toArray, List.set_cons_zero, List.set_cons_succ])
  refine take_run (d := (some 33)) (v := ?v50) 6 rfl rfl (by kernel_rfl) (by kernel_rfl) (by kernel_rfl) (fun _ _ _ h => h) (by rfl) hHeld ?hy50 ?rs50
  case hy50 => (intro w hSw; (try dsimp only at hSw); go_simp) <;> (try with_reducible rfl)
  (try simp only [Act.put, List.setIfInBounds_toArray, List.set_cons_zero, List.set_cons_succ])
  refine take_call 4 rfl (by kernel_rfl) (by rfl) (fun K hK => ?_)
  go_simp
  refine (CR1.out _).mono ?_
  rintro e w' ⟨rfl, hb⟩
  refine hK.out _ _ (by obtain ⟨h0, h1, h2, h3, h4, h5, h6, hw⟩ := hHeld; exact ⟨cell_keep h0 hb, cell_keep h1 hb, cell_keep h2 hb, cell_keep h3 hb, cell_keep h4 hb, cell_keep h5 hb, cell_keep h6 hb, Lib.hid (blw_trans hw.out hb)⟩) (fun hHeld => ?_)
  clear hK K
  (try simp only [Act.put, List.setIfInBounds_toArray, List.set_cons_zero, List.set_cons_succ])
  refine take_call 7 rfl (by kernel_rfl) (by rfl) (fun K hK => ?_)
  go_simp
  refine (CR2.out _).mono ?_
  rintro e w' ⟨rfl, hb⟩
  refine hK.out _ _ (by obtain ⟨h0, h1, h2, h3, h4, h5, h6, hw⟩ := hHeld; exact ⟨cell_keep h0 hb, cell_keep h1 hb, cell_keep h2 hb, cell_keep h3 hb, cell_keep h4 hb, cell_keep h5 hb, cell_keep h6 hb, Lib.hid (blw_trans hw.out hb)⟩) (fun hHeld => ?_)
  clear hK K
  (try simp only [Act.put, List.setIfInBounds_toArray, List.set_cons_zero, List.set_cons_succ])
  refine take_run (d := (some 35)) (v := ?v53) 8 rfl rfl (by kernel_rfl) (by kernel_rfl) (by kernel_rfl) (fun _ _ _ h => h) (by rfl) hHeld ?hy53 ?rs53
  case hy53 => (intro w hSw; (try dsimp only at hSw); go_simp) <;> (try with_reducible rfl)
  (try simp only [Act.put, List.setIfInBounds_toArray, List.set_cons_zero, List.set_cons_succ])
  refine take_run (d := (some 6)) (v := ?v54) 9 rfl rfl (by kernel_rfl) (by kernel_rfl) (by kernel_rfl) (fun _ _ _ h => h) (by rfl) hHeld ?hy54 ?rs54
  case hy54 => (intro w hSw; (try dsimp only at hSw); go_simp) <;> (try with_reducible rfl)
  (try simp only [Act.put, List.setIfInBounds_toArray, List.set_cons_zero, List.set_cons_succ])
  refine wpAnyH_done (by kernel_rfl) ?_ _
  obtain ⟨z0, z1, z2, z3, z4, z5, z6, zW⟩ := hHeld
  rename World => w2
  clear c0 c1 c2 c3 c4 c5 c6 cl
  have c0 := z0
  have c1 := z1
  have c2 := z2
  have c3 := z3
  have c4 := z4
  have c5 := z5
  have c6 := z6
  have cl := World.block_lt_of_cell? _ _ c0
  clear z0 z1 z2 z3 z4 z5 z6
  go_wp2_with fail
  go_quiet (fail)
  rename_i nq
  have Bq := Lib.hid (blw_drewN (Below.refl w2.heap.size w2) nq)
  replace c0 := cell_keep c0 Bq.out
  replace c1 := cell_keep c1 Bq.out
  replace c2 := cell_keep c2 Bq.out
  replace c3 := cell_keep c3 Bq.out
  replace c4 := cell_keep c4 Bq.out
  replace c5 := cell_keep c5 Bq.out
  replace c6 := cell_keep c6 Bq.out
  replace zW := Lib.hid (blw_trans zW.out Bq.out)
  generalize w2.drewN nq = w3 at *
  clear Bq cl
  have cl := World.block_lt_of_cell? _ _ c0
  go_wp2_with fail
  have W5 := zW
  clear zW
  refine wp_region_held_drew (S := fun w' => w'.cell? ⟨w.heap.size, 0, none⟩ = some (.string ⟨pre.toArray⟩) ∧ w'.cell? ⟨w.heap.size, 1, none⟩ = some (.string ⟨suf.toArray⟩) ∧ w'.cell? ⟨w.heap.size, 2, none⟩ = some (.int .i64 (M : Int)) ∧ w'.cell? ⟨w.heap.size, 3, none⟩ = some (.int .i64 (F : Int)) ∧ w'.cell? ⟨w.heap.size, 4, none⟩ = some (.int .i64 (X : Int)) ∧ w'.cell? ⟨w.heap.size, 5, none⟩ = some (.int .i64 (A : Int)) ∧ w'.cell? ⟨w.heap.size, 6, none⟩ = some (.int .i64 0) ∧ Hid (Below w.heap.size w w')) (by kernel_rfl) (by exact ⟨by go_keep, by go_keep, by go_keep, by go_keep, by go_keep, by go_keep, by go_keep, Lib.hid (Below.drew W5.out)⟩) (fun hHeld => ?_)
  refine take_run (d := (some 69)) (v := ?v55) 0 rfl rfl (by kernel_rfl) (by kernel_rfl) (by kernel_rfl) (fun _ _ _ h => h) (by rfl) hHeld ?hy55 ?rs55
  case hy55 => (intro w hSw; (try dsimp only at hSw); go_simp) <;> (try with_reducible rfl)
  (try simp only [Act.put, List.setIfInBounds_toArray, List.set_cons_zero, List.set_cons_succ])
  refine take_run (d := (some 70)) (v := ?v56) 1 rfl rfl (by kernel_rfl) (by kernel_rfl) (by kernel_rfl) (fun _ _ _ h => h) (by rfl) hHeld ?hy56 ?rs56
  case hy56 => (intro w hSw; (try dsimp only at hSw); go_simp) <;> (try with_reducible rfl)
  (try simp only [Act.put, List.setIfInBounds_toArray, List.set_cons_zero, List.set_cons_succ])
  refine take_run (d := (some 71)) (v := ?v57) 2 rfl rfl (by kernel_rfl) (by kernel_rfl) (by kernel_rfl) (fun _ _ _ h => h) (by rfl) hHeld ?hy57 ?rs57
  case hy57 => (intro w hSw; (try dsimp only at hSw); go_simp) <;> (try with_reducible rfl)
  (try simp only [Act.put, List.setIfInBounds_toArray, List.set_cons_zero, List.set_cons_succ])
  refine take_run (d := (some 74)) (v := ?v58) 5 rfl rfl (by kernel_rfl) (by kernel_rfl) (by kernel_rfl) (fun _ _ _ h => h) (by rfl) hHeld ?hy58 ?rs58
  case hy58 => (intro w hSw; (try dsimp only at hSw); go_simp) <;> (try with_reducible rfl)
  (try simp only [Act.put, List.setIfInBounds_toArray, List.set_cons_zero, List.set_cons_succ])
  refine take_run (d := (some 75)) (v := ?v59) 6 rfl rfl (by kernel_rfl) (by kernel_rfl) (by kernel_rfl) (fun _ _ _ h => h) (by rfl) hHeld ?hy59 ?rs59
  case hy59 => (intro w hSw; (try dsimp only at hSw); go_simp) <;> (try with_reducible rfl)
  (try simp only [Act.put, List.setIfInBounds_toArray, List.set_cons_zero, List.set_cons_succ])
  refine take_run (d := (some 76)) (v := ?v60) 7 rfl rfl (by kernel_rfl) (by kernel_rfl) (by kernel_rfl) (fun _ _ _ h => h) (by rfl) hHeld ?hy60 ?rs60
  case hy60 => (intro w hSw; (try dsimp only at hSw); go_simp) <;> (try with_reducible rfl)
  (try simp only [Act.put, List.setIfInBounds_toArray, List.set_cons_zero, List.set_cons_succ])
  refine take_run (d := (some 77)) (v := ?v61) 8 rfl rfl (by kernel_rfl) (by kernel_rfl) (by kernel_rfl) (fun _ _ _ h => h) (by rfl) hHeld ?hy61 ?rs61
  case hy61 => (intro w hSw; (try dsimp only at hSw); go_simp) <;> (try with_reducible rfl)
  (try simp only [Act.put, List.setIfInBounds_toArray, List.set_cons_zero, List.set_cons_succ])
  refine take_run (d := (some 78)) (v := ?v62) 9 rfl rfl (by kernel_rfl) (by kernel_rfl) (by kernel_rfl) (fun _ _ _ h => h) (by rfl) hHeld ?hy62 ?rs62
  case hy62 => (intro w hSw; (try dsimp only at hSw); go_simp) <;> (try with_reducible rfl)
  (try simp only [Act.put, List.setIfInBounds_toArray, List.set_cons_zero, List.set_cons_succ])
  refine take_call 3 rfl (by kernel_rfl) (by rfl) (fun K hK => ?_)
  go_simp
  refine (CR3.out _).mono ?_
  rintro e w' ⟨rfl, hb⟩
  refine hK.out _ _ (by obtain ⟨h0, h1, h2, h3, h4, h5, h6, hw⟩ := hHeld; exact ⟨cell_keep h0 hb, cell_keep h1 hb, cell_keep h2 hb, cell_keep h3 hb, cell_keep h4 hb, cell_keep h5 hb, cell_keep h6 hb, Lib.hid (blw_trans hw.out hb)⟩) (fun hHeld => ?_)
  clear hK K
  (try simp only [Act.put, List.setIfInBounds_toArray, List.set_cons_zero, List.set_cons_succ])
  refine take_run (d := (some 73)) (v := ?v64) 4 rfl rfl (by kernel_rfl) (by kernel_rfl) (by kernel_rfl) (fun _ _ _ h => h) (by rfl) hHeld ?hy64 ?rs64
  case hy64 => (intro w hSw; (try dsimp only at hSw); go_simp) <;> (try with_reducible rfl)
  (try simp only [Act.put, List.setIfInBounds_toArray, List.set_cons_zero, List.set_cons_succ])
  refine take_call 10 rfl (by kernel_rfl) (by rfl) (fun K hK => ?_)
  go_simp
  refine (CR4.out _).mono ?_
  rintro e w' ⟨rfl, hb⟩
  refine hK.out _ _ (by obtain ⟨h0, h1, h2, h3, h4, h5, h6, hw⟩ := hHeld; exact ⟨cell_keep h0 hb, cell_keep h1 hb, cell_keep h2 hb, cell_keep h3 hb, cell_keep h4 hb, cell_keep h5 hb, cell_keep h6 hb, Lib.hid (blw_trans hw.out hb)⟩) (fun hHeld => ?_)
  clear hK K
  (try simp only [Act.put, List.setIfInBounds_toArray, List.set_cons_zero, List.set_cons_succ])
  refine take_run (d := (some 80)) (v := ?v66) 11 rfl rfl (by kernel_rfl) (by kernel_rfl) (by kernel_rfl) (fun _ _ _ h => h) (by rfl) hHeld ?hy66 ?rs66
  case hy66 => (intro w hSw; (try dsimp only at hSw); go_simp) <;> (try with_reducible rfl)
  (try simp only [Act.put, List.setIfInBounds_toArray, List.set_cons_zero, List.set_cons_succ])
  refine take_run (d := (some 81)) (v := ?v67) 12 rfl rfl (by kernel_rfl) (by kernel_rfl) (by kernel_rfl) (fun _ _ _ h => h) (by rfl) hHeld ?hy67 ?rs67
  case hy67 => (intro w hSw; (try dsimp only at hSw); go_simp) <;> (try with_reducible rfl)
  (try simp only [Act.put, List.setIfInBounds_toArray, List.set_cons_zero, List.set_cons_succ])
  refine take_run (d := (some 6)) (v := ?v68) 13 rfl rfl (by kernel_rfl) (by kernel_rfl) (by kernel_rfl) (fun _ _ _ h => h) (by rfl) hHeld ?hy68 ?rs68
  case hy68 => (intro w hSw; (try dsimp only at hSw); go_simp) <;> (try with_reducible rfl)
  (try simp only [Act.put, List.setIfInBounds_toArray, List.set_cons_zero, List.set_cons_succ])
  refine wpAnyH_done (by kernel_rfl) ?_ _
  obtain ⟨z0, z1, z2, z3, z4, z5, z6, zW⟩ := hHeld
  rename World => w6
  clear c0 c1 c2 c3 c4 c5 c6 cl
  have c0 := z0
  have c1 := z1
  have c2 := z2
  have c3 := z3
  have c4 := z4
  have c5 := z5
  have c6 := z6
  have cl := World.block_lt_of_cell? _ _ c0
  clear z0 z1 z2 z3 z4 z5 z6
  go_wp2_with fail
  go_ret2
  exact ⟨rfl, zW.out⟩
set_option maxRecDepth 100000 in
set_option maxHeartbeats 4000000 in
theorem ptext_110 (pre suf : List UInt8) (M F A C : Nat) (w : World) (hpre : pre.length ≤ 100) (hsuf : suf.length ≤ 100) (hM : 1 ≤ M ∧ M ≤ 9) (hAA : A ≤ 4) (hCC : C ≤ 4) (he : Nt.patE ⟨pre, suf, (M : Int), (F : Int), 0, (A : Int), (C : Int)⟩ = 0) (hA : A ≠ 0) (hC : C ≠ 0) :
    Calls Tryd.prog 7 #[.agg #[.string ⟨pre.toArray⟩, .string ⟨suf.toArray⟩, .int .i64 (M : Int), .int .i64 (F : Int), .int .i64 0, .int .i64 (A : Int), .int .i64 (C : Int)]] w fun e w' => e = .returned (.tuple #[.string ⟨((pre ++ (Nt.ptG M A C ++ Nt.ptF F 0)) ++ suf).toArray⟩, .nilIface]) ∧ Below w.heap.size w w' := by
  have CK := Lib.hid fun wx => pck_any ⟨pre, suf, (M : Int), (F : Int), 0, (A : Int), (C : Int)⟩ wx (by show pre.length ≤ _; omega) (by show suf.length ≤ _; omega)
  rw [he] at CK
  obtain ⟨n1, n2, n3⟩ := Nt.ptN_le M A C hM.2 hAA hCC
  have hwl := Nt.ptW_len M A C n1
  obtain ⟨N, hN⟩ : ∃ N, Nt.ptN M A C = N := ⟨_, rfl⟩
  obtain ⟨TW, hTW⟩ : ∃ TW, Nt.ptW M A C = TW := ⟨_, rfl⟩
  have hTG : Nt.ptG M A C = Nt.comma (N - A - C) (Nt.comma (N - A) TW) := by unfold Nt.ptG; rw [hTW, hN]; rw [if_neg hA, if_neg hC]
  have hTF : Nt.ptF F 0 = [] := by unfold Nt.ptF; rfl
  rw [hTG, hTF]
  have hW2 : TW = List.replicate (N - M) 35 ++ List.replicate M 48 := by rw [← hTW, ← hN]; rfl
  rw [hTW, hN] at hwl
  rw [hN] at n1 n2 n3
  obtain ⟨D, hD⟩ : ∃ D, D = N - M := ⟨_, rfl⟩
  rw [← hD] at hW2
  obtain ⟨K, hK⟩ : ∃ K, K = N - A := ⟨_, rfl⟩
  rw [← hK]
  obtain ⟨J, hJ⟩ : ∃ J, J = K - C := ⟨_, rfl⟩
  rw [← hJ]
  have CR1 := Lib.hid fun wx => repeat_any 35 D wx (by omega)
  have CR2 := Lib.hid fun wx => repeat_any 48 M wx (by omega)
  have hd1 : IntKind.i64.wrap ((N : Int) - (M : Int)) = (D : Int) := by rw [IntWalk.i64_in _ (by omega)]; omega
  have hlr1 : (List.replicate D (35 : UInt8)).length ≤ 9 := by rw [List.length_replicate]; omega
  have hlr2 : (List.replicate M (48 : UInt8)).length ≤ 9 := by rw [List.length_replicate]; omega
  generalize List.replicate D (35 : UInt8) = R1 at *
  generalize List.replicate M (48 : UInt8) = R2 at *
  have AD1 : ∀ w, (Op.stringOp .add ⟨R1.toArray⟩ ⟨R2.toArray⟩).run Tryd.prog w = .ok (.string ⟨TW.toArray⟩) w := fun w => by rw [hW2]; exact add_str (P := Tryd.prog) R1 R2 (by (try simp); omega) w
  have hmx : IntKind.i64.wrap ((A : Int) + (C : Int)) = (A : Int) + (C : Int) := IntWalk.i64_in _ (by omega)
  have hmy : IntKind.i64.wrap ((A : Int) + (C : Int) + 1) = (A : Int) + (C : Int) + 1 := IntWalk.i64_in _ (by omega)
  have hmz : max (M : Int) ((A : Int) + (C : Int) + 1) = (N : Int) := by rw [← hN]; unfold Nt.ptN; rw [if_neg hA]; omega
  have hA0 : ((A : Int) == 0) = false := beq_no (by omega)
  have hA1 : ((A : Int) != 0) = true := by rw [bne, hA0]; rfl
  have hk : IntKind.i64.wrap ((N : Int) - (A : Int)) = (K : Int) := by rw [IntWalk.i64_in _ (by omega)]; omega
  obtain ⟨T1, hT1⟩ : ∃ T1, Nt.comma K TW = T1 := ⟨_, rfl⟩
  have hl1 : T1.length = N + 1 := by rw [← hT1, Nt.comma_len _ _ (by omega), hwl]
  rw [hT1]
  have SA := fun w => slice_to (P := Tryd.prog) 9 Tryd.underlying9 TW .i64 K (by omega) w
  have SB := fun w => slice_from (P := Tryd.prog) 9 Tryd.underlying9 TW .i64 K (by omega) w
  obtain ⟨U1, hU1⟩ : ∃ U1, U1 = TW.take K := ⟨_, rfl⟩
  obtain ⟨U3, hU3⟩ : ∃ U3, U3 = TW.drop K := ⟨_, rfl⟩
  rw [← hU1] at SA
  rw [← hU3] at SB
  obtain ⟨U2, hU2⟩ : ∃ U2, U2 = U1 ++ [44] := ⟨_, rfl⟩
  have AD2 : ∀ w, (Op.stringOp .add ⟨U1.toArray⟩ ⟨#[44]⟩).run Tryd.prog w = .ok (.string ⟨U2.toArray⟩) w := fun w => by rw [hU2]; exact add_str (P := Tryd.prog) U1 [44] (by rw [hU1]; (try simp); omega) w
  have AD3 : ∀ w, (Op.stringOp .add ⟨U2.toArray⟩ ⟨U3.toArray⟩).run Tryd.prog w = .ok (.string ⟨T1.toArray⟩) w := fun w => by rw [← hT1]; unfold Nt.comma; rw [← hU1, ← hU3, ← hU2]; exact add_str (P := Tryd.prog) U2 U3 (by rw [hU2, hU1, hU3]; (try simp); omega) w
  have hj : IntKind.i64.wrap ((K : Int) - (C : Int)) = (J : Int) := by rw [IntWalk.i64_in _ (by omega)]; omega
  have hC0 : ((C : Int) == 0) = false := beq_no (by omega)
  have hC1 : ((C : Int) != 0) = true := by rw [bne, hC0]; rfl
  obtain ⟨T2, hT2⟩ : ∃ T2, Nt.comma J T1 = T2 := ⟨_, rfl⟩
  have hl2 : T2.length = N + 2 := by rw [← hT2, Nt.comma_len _ _ (by omega), hl1]
  rw [hT2]
  have SC := fun w => slice_to (P := Tryd.prog) 9 Tryd.underlying9 T1 .i64 J (by omega) w
  have SD := fun w => slice_from (P := Tryd.prog) 9 Tryd.underlying9 T1 .i64 J (by omega) w
  obtain ⟨U4, hU4⟩ : ∃ U4, U4 = T1.take J := ⟨_, rfl⟩
  obtain ⟨U6, hU6⟩ : ∃ U6, U6 = T1.drop J := ⟨_, rfl⟩
  rw [← hU4] at SC
  rw [← hU6] at SD
  obtain ⟨U5, hU5⟩ : ∃ U5, U5 = U4 ++ [44] := ⟨_, rfl⟩
  have AD4 : ∀ w, (Op.stringOp .add ⟨U4.toArray⟩ ⟨#[44]⟩).run Tryd.prog w = .ok (.string ⟨U5.toArray⟩) w := fun w => by rw [hU5]; exact add_str (P := Tryd.prog) U4 [44] (by rw [hU4]; (try simp); omega) w
  have AD5 : ∀ w, (Op.stringOp .add ⟨U5.toArray⟩ ⟨U6.toArray⟩).run Tryd.prog w = .ok (.string ⟨T2.toArray⟩) w := fun w => by rw [← hT2]; unfold Nt.comma; rw [← hU4, ← hU6, ← hU5]; exact add_str (P := Tryd.prog) U5 U6 (by rw [hU5, hU4, hU6]; (try simp); omega) w
  rw [List.append_nil]
  obtain ⟨Y1, hY1⟩ : ∃ Y1, Y1 = pre ++ T2 := ⟨_, rfl⟩
  obtain ⟨Y2, hY2⟩ : ∃ Y2, Y2 = Y1 ++ suf := ⟨_, rfl⟩
  rw [← hY1, ← hY2]
  have AD9 : ∀ w, (Op.stringOp .add ⟨pre.toArray⟩ ⟨T2.toArray⟩).run Tryd.prog w = .ok (.string ⟨Y1.toArray⟩) w := fun w => by rw [hY1]; exact add_str (P := Tryd.prog) pre T2 (by (try simp); omega) w
  have ADA : ∀ w, (Op.stringOp .add ⟨Y1.toArray⟩ ⟨suf.toArray⟩).run Tryd.prog w = .ok (.string ⟨Y2.toArray⟩) w := fun w => by rw [hY2]; exact add_str (P := Tryd.prog) Y1 suf (by rw [hY1]; (try simp); omega) w
  have W0 := Lib.hid (blw_alloc w (.cells #[.string ⟨pre.toArray⟩, .string ⟨suf.toArray⟩, .int .i64 (M : Int), .int .i64 (F : Int), .int .i64 0, .int .i64 (A : Int), .int .i64 (C : Int)] 23))
  have B0 := Lib.hid (Boxed.made w #[.string ⟨pre.toArray⟩, .string ⟨suf.toArray⟩, .int .i64 (M : Int), .int .i64 (F : Int), .int .i64 0, .int .i64 (A : Int), .int .i64 (C : Int)] 23)
  clear hpre hsuf hM hAA hCC he hwl hTW hTG hTF hW2 hN n1 n2 n3 hlr1 hlr2 hY1 hY2 hl1 hT1 hU1 hU2 hU3 hK hD hl2 hT2 hU4 hU5 hU6 hJ
  go_enter Tryd.func7, Tryd.ntmps7
  go_wp2_with fail
  refine (CK.out _).mono ?_
  rintro e w1 ⟨rfl, hb⟩
  rw [show errN 0 = .nilIface from rfl]
  have W1 := Lib.hid (blw_trans W0.out hb)
  have B1 := Lib.hid (B0.out.below hb)
  clear hb CK W0 B0
  have c0 : w1.cell? ⟨w.heap.size, 0, none⟩ = some (.string ⟨pre.toArray⟩) := B1.out.cell 0 _ rfl
  have c1 : w1.cell? ⟨w.heap.size, 1, none⟩ = some (.string ⟨suf.toArray⟩) := B1.out.cell 1 _ rfl
  have c2 : w1.cell? ⟨w.heap.size, 2, none⟩ = some (.int .i64 (M : Int)) := B1.out.cell 2 _ rfl
  have c3 : w1.cell? ⟨w.heap.size, 3, none⟩ = some (.int .i64 (F : Int)) := B1.out.cell 3 _ rfl
  have c4 : w1.cell? ⟨w.heap.size, 4, none⟩ = some (.int .i64 0) := B1.out.cell 4 _ rfl
  have c5 : w1.cell? ⟨w.heap.size, 5, none⟩ = some (.int .i64 (A : Int)) := B1.out.cell 5 _ rfl
  have c6 : w1.cell? ⟨w.heap.size, 6, none⟩ = some (.int .i64 (C : Int)) := B1.out.cell 6 _ rfl
  have cl := B1.out.lt
  go_wp2_with fail
  refine wp_region_held_drew (S := fun w' => w'.cell? ⟨w.heap.size, 0, none⟩ = some (.string ⟨pre.toArray⟩) ∧ w'.cell? ⟨w.heap.size, 1, none⟩ = some (.string ⟨suf.toArray⟩) ∧ w'.cell? ⟨w.heap.size, 2, none⟩ = some (.int .i64 (M : Int)) ∧ w'.cell? ⟨w.heap.size, 3, none⟩ = some (.int .i64 (F : Int)) ∧ w'.cell? ⟨w.heap.size, 4, none⟩ = some (.int .i64 0) ∧ w'.cell? ⟨w.heap.size, 5, none⟩ = some (.int .i64 (A : Int)) ∧ w'.cell? ⟨w.heap.size, 6, none⟩ = some (.int .i64 (C : Int)) ∧ Hid (Below w.heap.size w w')) (by kernel_rfl) (by exact ⟨by go_keep, by go_keep, by go_keep, by go_keep, by go_keep, by go_keep, by go_keep, Lib.hid (Below.drew W1.out)⟩) (fun hHeld => ?_)
  refine take_run (d := (some 27)) (v := ?v69) 0 rfl rfl (by kernel_rfl) (by kernel_rfl) (by kernel_rfl) (fun _ _ _ h => h) (by rfl) hHeld ?hy69 ?rs69
  case hy69 => (intro w hSw; (try dsimp only at hSw); go_simp) <;> (try with_reducible rfl)
  (try simp only [Act.put, List.setIfInBounds_toArray, List.set_cons_zero, List.set_cons_succ])
  refine take_run (d := (some 28)) (v := ?v70) 1 rfl rfl (by kernel_rfl) (by kernel_rfl) (by kernel_rfl) (fun _ _ _ h => h) (by rfl) hHeld ?hy70 ?rs70
  case hy70 => (intro w hSw; (try dsimp only at hSw); go_simp) <;> (try with_reducible rfl)
  (try simp only [Act.put, List.setIfInBounds_toArray, List.set_cons_zero, List.set_cons_succ])
  refine take_run (d := (some 29)) (v := ?v71) 2 rfl rfl (by kernel_rfl) (by kernel_rfl) (by kernel_rfl) (fun _ _ _ h => h) (by rfl) hHeld ?hy71 ?rs71
  case hy71 => (intro w hSw; (try dsimp only at hSw); go_simp) <;> (try with_reducible rfl)
  (try simp only [Act.put, List.setIfInBounds_toArray, List.set_cons_zero, List.set_cons_succ])
  refine take_run (d := (some 30)) (v := ?v72) 3 rfl rfl (by kernel_rfl) (by kernel_rfl) (by kernel_rfl) (fun _ _ _ h => h) (by rfl) hHeld ?hy72 ?rs72
  case hy72 => (intro w hSw; (try dsimp only at hSw); go_simp) <;> (try with_reducible rfl)
  (try simp only [Act.put, List.setIfInBounds_toArray, List.set_cons_zero, List.set_cons_succ])
  refine take_run (d := (some 32)) (v := ?v73) 5 rfl rfl (by kernel_rfl) (by kernel_rfl) (by kernel_rfl) (fun _ _ _ h => h) (by rfl) hHeld ?hy73 ?rs73
  case hy73 => (intro w hSw; (try dsimp only at hSw); go_simp) <;> (try with_reducible rfl)
  (try simp only [Act.put, List.setIfInBounds_toArray, List.set_cons_zero, List.set_cons_succ])
  refine take_run (d := (some 33)) (v := ?v74) 6 rfl rfl (by kernel_rfl) (by kernel_rfl) (by kernel_rfl) (fun _ _ _ h => h) (by rfl) hHeld ?hy74 ?rs74
  case hy74 => (intro w hSw; (try dsimp only at hSw); go_simp) <;> (try with_reducible rfl)
  (try simp only [Act.put, List.setIfInBounds_toArray, List.set_cons_zero, List.set_cons_succ])
  refine take_call 4 rfl (by kernel_rfl) (by rfl) (fun K hK => ?_)
  go_simp
  refine (CR1.out _).mono ?_
  rintro e w' ⟨rfl, hb⟩
  refine hK.out _ _ (by obtain ⟨h0, h1, h2, h3, h4, h5, h6, hw⟩ := hHeld; exact ⟨cell_keep h0 hb, cell_keep h1 hb, cell_keep h2 hb, cell_keep h3 hb, cell_keep h4 hb, cell_keep h5 hb, cell_keep h6 hb, Lib.hid (blw_trans hw.out hb)⟩) (fun hHeld => ?_)
  clear hK K
  (try simp only [Act.put, List.setIfInBounds_toArray, List.set_cons_zero, List.set_cons_succ])
  refine take_call 7 rfl (by kernel_rfl) (by rfl) (fun K hK => ?_)
  go_simp
  refine (CR2.out _).mono ?_
  rintro e w' ⟨rfl, hb⟩
  refine hK.out _ _ (by obtain ⟨h0, h1, h2, h3, h4, h5, h6, hw⟩ := hHeld; exact ⟨cell_keep h0 hb, cell_keep h1 hb, cell_keep h2 hb, cell_keep h3 hb, cell_keep h4 hb, cell_keep h5 hb, cell_keep h6 hb, Lib.hid (blw_trans hw.out hb)⟩) (fun hHeld => ?_)
  clear hK K
  (try simp only [Act.put, List.setIfInBounds_toArray, List.set_cons_zero, List.set_cons_succ])
  refine take_run (d := (some 35)) (v := ?v77) 8 rfl rfl (by kernel_rfl) (by kernel_rfl) (by kernel_rfl) (fun _ _ _ h => h) (by rfl) hHeld ?hy77 ?rs77
  case hy77 => (intro w hSw; (try dsimp only at hSw); go_simp) <;> (try with_reducible rfl)
  (try simp only [Act.put, List.setIfInBounds_toArray, List.set_cons_zero, List.set_cons_succ])
  refine take_run (d := (some 6)) (v := ?v78) 9 rfl rfl (by kernel_rfl) (by kernel_rfl) (by kernel_rfl) (fun _ _ _ h => h) (by rfl) hHeld ?hy78 ?rs78
  case hy78 => (intro w hSw; (try dsimp only at hSw); go_simp) <;> (try with_reducible rfl)
  (try simp only [Act.put, List.setIfInBounds_toArray, List.set_cons_zero, List.set_cons_succ])
  refine wpAnyH_done (by kernel_rfl) ?_ _
  obtain ⟨z0, z1, z2, z3, z4, z5, z6, zW⟩ := hHeld
  rename World => w2
  clear c0 c1 c2 c3 c4 c5 c6 cl
  have c0 := z0
  have c1 := z1
  have c2 := z2
  have c3 := z3
  have c4 := z4
  have c5 := z5
  have c6 := z6
  have cl := World.block_lt_of_cell? _ _ c0
  clear z0 z1 z2 z3 z4 z5 z6
  go_wp2_with fail
  go_quiet (fail)
  rename_i nq
  have Bq := Lib.hid (blw_drewN (Below.refl w2.heap.size w2) nq)
  replace c0 := cell_keep c0 Bq.out
  replace c1 := cell_keep c1 Bq.out
  replace c2 := cell_keep c2 Bq.out
  replace c3 := cell_keep c3 Bq.out
  replace c4 := cell_keep c4 Bq.out
  replace c5 := cell_keep c5 Bq.out
  replace c6 := cell_keep c6 Bq.out
  replace zW := Lib.hid (blw_trans zW.out Bq.out)
  generalize w2.drewN nq = w3 at *
  clear Bq cl
  have cl := World.block_lt_of_cell? _ _ c0
  go_wp2_with fail
  go_quiet (fail)
  rename_i nq
  have Bq := Lib.hid (blw_drewN (Below.refl w3.heap.size w3) nq)
  replace c0 := cell_keep c0 Bq.out
  replace c1 := cell_keep c1 Bq.out
  replace c2 := cell_keep c2 Bq.out
  replace c3 := cell_keep c3 Bq.out
  replace c4 := cell_keep c4 Bq.out
  replace c5 := cell_keep c5 Bq.out
  replace c6 := cell_keep c6 Bq.out
  replace zW := Lib.hid (blw_trans zW.out Bq.out)
  generalize w3.drewN nq = w4 at *
  clear Bq cl
  have cl := World.block_lt_of_cell? _ _ c0
  go_wp2_with fail
  go_ret2
  exact ⟨rfl, zW.out⟩
set_option maxRecDepth 100000 in
set_option maxHeartbeats 4000000 in
theorem ptext_111 (pre suf : List UInt8) (M F X A C : Nat) (w : World) (hpre : pre.length ≤ 100) (hsuf : suf.length ≤ 100) (hM : 1 ≤ M ∧ M ≤ 9) (hF : F ≤ X ∧ X ≤ 6) (hAA : A ≤ 4) (hCC : C ≤ 4) (he : Nt.patE ⟨pre, suf, (M : Int), (F : Int), (X : Int), (A : Int), (C : Int)⟩ = 0) (hA : A ≠ 0) (hC : C ≠ 0) (hX : X ≠ 0) :
    Calls Tryd.prog 7 #[.agg #[.string ⟨pre.toArray⟩, .string ⟨suf.toArray⟩, .int .i64 (M : Int), .int .i64 (F : Int), .int .i64 (X : Int), .int .i64 (A : Int), .int .i64 (C : Int)]] w fun e w' => e = .returned (.tuple #[.string ⟨((pre ++ (Nt.ptG M A C ++ Nt.ptF F X)) ++ suf).toArray⟩, .nilIface]) ∧ Below w.heap.size w w' := by
  have CK := Lib.hid fun wx => pck_any ⟨pre, suf, (M : Int), (F : Int), (X : Int), (A : Int), (C : Int)⟩ wx (by show pre.length ≤ _; omega) (by show suf.length ≤ _; omega)
  rw [he] at CK
  obtain ⟨n1, n2, n3⟩ := Nt.ptN_le M A C hM.2 hAA hCC
  have hwl := Nt.ptW_len M A C n1
  obtain ⟨N, hN⟩ : ∃ N, Nt.ptN M A C = N := ⟨_, rfl⟩
  obtain ⟨TW, hTW⟩ : ∃ TW, Nt.ptW M A C = TW := ⟨_, rfl⟩
  have hTG : Nt.ptG M A C = Nt.comma (N - A - C) (Nt.comma (N - A) TW) := by unfold Nt.ptG; rw [hTW, hN]; rw [if_neg hA, if_neg hC]
  have hTF : Nt.ptF F X = ([46] ++ List.replicate F 48) ++ List.replicate (X - F) 35 := by unfold Nt.ptF; rw [if_neg hX]
  rw [hTG, hTF]
  have hW2 : TW = List.replicate (N - M) 35 ++ List.replicate M 48 := by rw [← hTW, ← hN]; rfl
  rw [hTW, hN] at hwl
  rw [hN] at n1 n2 n3
  obtain ⟨D, hD⟩ : ∃ D, D = N - M := ⟨_, rfl⟩
  rw [← hD] at hW2
  obtain ⟨K, hK⟩ : ∃ K, K = N - A := ⟨_, rfl⟩
  rw [← hK]
  obtain ⟨J, hJ⟩ : ∃ J, J = K - C := ⟨_, rfl⟩
  rw [← hJ]
  have CR1 := Lib.hid fun wx => repeat_any 35 D wx (by omega)
  have CR2 := Lib.hid fun wx => repeat_any 48 M wx (by omega)
  have hd1 : IntKind.i64.wrap ((N : Int) - (M : Int)) = (D : Int) := by rw [IntWalk.i64_in _ (by omega)]; omega
  have hlr1 : (List.replicate D (35 : UInt8)).length ≤ 9 := by rw [List.length_replicate]; omega
  have hlr2 : (List.replicate M (48 : UInt8)).length ≤ 9 := by rw [List.length_replicate]; omega
  generalize List.replicate D (35 : UInt8) = R1 at *
  generalize List.replicate M (48 : UInt8) = R2 at *
  have AD1 : ∀ w, (Op.stringOp .add ⟨R1.toArray⟩ ⟨R2.toArray⟩).run Tryd.prog w = .ok (.string ⟨TW.toArray⟩) w := fun w => by rw [hW2]; exact add_str (P := Tryd.prog) R1 R2 (by (try simp); omega) w
  have hmx : IntKind.i64.wrap ((A : Int) + (C : Int)) = (A : Int) + (C : Int) := IntWalk.i64_in _ (by omega)
  have hmy : IntKind.i64.wrap ((A : Int) + (C : Int) + 1) = (A : Int) + (C : Int) + 1 := IntWalk.i64_in _ (by omega)
  have hmz : max (M : Int) ((A : Int) + (C : Int) + 1) = (N : Int) := by rw [← hN]; unfold Nt.ptN; rw [if_neg hA]; omega
  have hA0 : ((A : Int) == 0) = false := beq_no (by omega)
  have hA1 : ((A : Int) != 0) = true := by rw [bne, hA0]; rfl
  have hk : IntKind.i64.wrap ((N : Int) - (A : Int)) = (K : Int) := by rw [IntWalk.i64_in _ (by omega)]; omega
  obtain ⟨T1, hT1⟩ : ∃ T1, Nt.comma K TW = T1 := ⟨_, rfl⟩
  have hl1 : T1.length = N + 1 := by rw [← hT1, Nt.comma_len _ _ (by omega), hwl]
  rw [hT1]
  have SA := fun w => slice_to (P := Tryd.prog) 9 Tryd.underlying9 TW .i64 K (by omega) w
  have SB := fun w => slice_from (P := Tryd.prog) 9 Tryd.underlying9 TW .i64 K (by omega) w
  obtain ⟨U1, hU1⟩ : ∃ U1, U1 = TW.take K := ⟨_, rfl⟩
  obtain ⟨U3, hU3⟩ : ∃ U3, U3 = TW.drop K := ⟨_, rfl⟩
  rw [← hU1] at SA
  rw [← hU3] at SB
  obtain ⟨U2, hU2⟩ : ∃ U2, U2 = U1 ++ [44] := ⟨_, rfl⟩
  have AD2 : ∀ w, (Op.stringOp .add ⟨U1.toArray⟩ ⟨#[44]⟩).run Tryd.prog w = .ok (.string ⟨U2.toArray⟩) w := fun w => by rw [hU2]; exact add_str (P := Tryd.prog) U1 [44] (by rw [hU1]; (try simp); omega) w
  have AD3 : ∀ w, (Op.stringOp .add ⟨U2.toArray⟩ ⟨U3.toArray⟩).run Tryd.prog w = .ok (.string ⟨T1.toArray⟩) w := fun w => by rw [← hT1]; unfold Nt.comma; rw [← hU1, ← hU3, ← hU2]; exact add_str (P := Tryd.prog) U2 U3 (by rw [hU2, hU1, hU3]; (try simp); omega) w
  have hj : IntKind.i64.wrap ((K : Int) - (C : Int)) = (J : Int) := by rw [IntWalk.i64_in _ (by omega)]; omega
  have hC0 : ((C : Int) == 0) = false := beq_no (by omega)
  have hC1 : ((C : Int) != 0) = true := by rw [bne, hC0]; rfl
  obtain ⟨T2, hT2⟩ : ∃ T2, Nt.comma J T1 = T2 := ⟨_, rfl⟩
  have hl2 : T2.length = N + 2 := by rw [← hT2, Nt.comma_len _ _ (by omega), hl1]
  rw [hT2]
  have SC := fun w => slice_to (P := Tryd.prog) 9 Tryd.underlying9 T1 .i64 J (by omega) w
  have SD := fun w => slice_from (P := Tryd.prog) 9 Tryd.underlying9 T1 .i64 J (by omega) w
  obtain ⟨U4, hU4⟩ : ∃ U4, U4 = T1.take J := ⟨_, rfl⟩
  obtain ⟨U6, hU6⟩ : ∃ U6, U6 = T1.drop J := ⟨_, rfl⟩
  rw [← hU4] at SC
  rw [← hU6] at SD
  obtain ⟨U5, hU5⟩ : ∃ U5, U5 = U4 ++ [44] := ⟨_, rfl⟩
  have AD4 : ∀ w, (Op.stringOp .add ⟨U4.toArray⟩ ⟨#[44]⟩).run Tryd.prog w = .ok (.string ⟨U5.toArray⟩) w := fun w => by rw [hU5]; exact add_str (P := Tryd.prog) U4 [44] (by rw [hU4]; (try simp); omega) w
  have AD5 : ∀ w, (Op.stringOp .add ⟨U5.toArray⟩ ⟨U6.toArray⟩).run Tryd.prog w = .ok (.string ⟨T2.toArray⟩) w := fun w => by rw [← hT2]; unfold Nt.comma; rw [← hU4, ← hU6, ← hU5]; exact add_str (P := Tryd.prog) U5 U6 (by rw [hU5, hU4, hU6]; (try simp); omega) w
  have hX0 : ((X : Int) == 0) = false := beq_no (by omega)
  have hX1 : ((X : Int) != 0) = true := by rw [bne, hX0]; rfl
  have CR3 := Lib.hid fun wx => repeat_any 48 F wx (by omega)
  have CR4 := Lib.hid fun wx => repeat_any 35 (X - F) wx (by omega)
  have hd2 : IntKind.i64.wrap ((X : Int) - (F : Int)) = ((X - F : Nat) : Int) := by rw [IntWalk.i64_in _ (by omega)]; omega
  have hlr3 : (List.replicate F (48 : UInt8)).length ≤ 6 := by rw [List.length_replicate]; omega
  have hlr4 : (List.replicate (X - F) (35 : UInt8)).length ≤ 6 := by rw [List.length_replicate]; omega
  generalize List.replicate F (48 : UInt8) = R3 at *
  generalize List.replicate (X - F) (35 : UInt8) = R4 at *
  obtain ⟨V1, hV1⟩ : ∃ V1, V1 = [46] ++ R3 := ⟨_, rfl⟩
  obtain ⟨V2, hV2⟩ : ∃ V2, V2 = V1 ++ R4 := ⟨_, rfl⟩
  obtain ⟨T3, hT3⟩ : ∃ T3, T3 = T2 ++ V2 := ⟨_, rfl⟩
  rw [← hV1, ← hV2, ← hT3]
  have AD6 : ∀ w, (Op.stringOp .add ⟨#[46]⟩ ⟨R3.toArray⟩).run Tryd.prog w = .ok (.string ⟨V1.toArray⟩) w := fun w => by rw [hV1]; exact add_str (P := Tryd.prog) [46] R3 (by (try simp); omega) w
  have AD7 : ∀ w, (Op.stringOp .add ⟨V1.toArray⟩ ⟨R4.toArray⟩).run Tryd.prog w = .ok (.string ⟨V2.toArray⟩) w := fun w => by rw [hV2]; exact add_str (P := Tryd.prog) V1 R4 (by rw [hV1]; (try simp); omega) w
  have AD8 : ∀ w, (Op.stringOp .add ⟨T2.toArray⟩ ⟨V2.toArray⟩).run Tryd.prog w = .ok (.string ⟨T3.toArray⟩) w := fun w => by rw [hT3]; exact add_str (P := Tryd.prog) T2 V2 (by rw [hV2, hV1]; (try simp); omega) w
  have hl3 : T3.length ≤ 30 := by rw [hT3, hV2, hV1]; simp; omega
  obtain ⟨Y1, hY1⟩ : ∃ Y1, Y1 = pre ++ T3 := ⟨_, rfl⟩
  obtain ⟨Y2, hY2⟩ : ∃ Y2, Y2 = Y1 ++ suf := ⟨_, rfl⟩
  rw [← hY1, ← hY2]
  have AD9 : ∀ w, (Op.stringOp .add ⟨pre.toArray⟩ ⟨T3.toArray⟩).run Tryd.prog w = .ok (.string ⟨Y1.toArray⟩) w := fun w => by rw [hY1]; exact add_str (P := Tryd.prog) pre T3 (by (try simp); omega) w
  have ADA : ∀ w, (Op.stringOp .add ⟨Y1.toArray⟩ ⟨suf.toArray⟩).run Tryd.prog w = .ok (.string ⟨Y2.toArray⟩) w := fun w => by rw [hY2]; exact add_str (P := Tryd.prog) Y1 suf (by rw [hY1]; (try simp); omega) w
  have W0 := Lib.hid (blw_alloc w (.cells #[.string ⟨pre.toArray⟩, .string ⟨suf.toArray⟩, .int .i64 (M : Int), .int .i64 (F : Int), .int .i64 (X : Int), .int .i64 (A : Int), .int .i64 (C : Int)] 23))
  have B0 := Lib.hid (Boxed.made w #[.string ⟨pre.toArray⟩, .string ⟨suf.toArray⟩, .int .i64 (M : Int), .int .i64 (F : Int), .int .i64 (X : Int), .int .i64 (A : Int), .int .i64 (C : Int)] 23)
  clear hpre hsuf hM hF hAA hCC he hwl hTW hTG hTF hW2 hN n1 n2 n3 hlr1 hlr2 hY1 hY2 hl1 hT1 hU1 hU2 hU3 hK hD hl2 hT2 hU4 hU5 hU6 hJ hl3 hlr3 hlr4 hV1 hV2 hT3
  go_enter Tryd.func7, Tryd.ntmps7
  go_wp2_with fail
  refine (CK.out _).mono ?_
  rintro e w1 ⟨rfl, hb⟩
  rw [show errN 0 = .nilIface from rfl]
  have W1 := Lib.hid (blw_trans W0.out hb)
  have B1 := Lib.hid (B0.out.below hb)
  clear hb CK W0 B0
  have c0 : w1.cell? ⟨w.heap.size, 0, none⟩ = some (.string ⟨pre.toArray⟩) := B1.out.cell 0 _ rfl
  have c1 : w1.cell? ⟨w.heap.size, 1, none⟩ = some (.string ⟨suf.toArray⟩) := B1.out.cell 1 _ rfl
  have c2 : w1.cell? ⟨w.heap.size, 2, none⟩ = some (.int .i64 (M : Int)) := B1.out.cell 2 _ rfl
  have c3 : w1.cell? ⟨w.heap.size, 3, none⟩ = some (.int .i64 (F : Int)) := B1.out.cell 3 _ rfl
  have c4 : w1.cell? ⟨w.heap.size, 4, none⟩ = some (.int .i64 (X : Int)) := B1.out.cell 4 _ rfl
  have c5 : w1.cell? ⟨w.heap.size, 5, none⟩ = some (.int .i64 (A : Int)) := B1.out.cell 5 _ rfl
  have c6 : w1.cell? ⟨w.heap.size, 6, none⟩ = some (.int .i64 (C : Int)) := B1.out.cell 6 _ rfl
  have cl := B1.out.lt
  go_wp2_with fail
  refine wp_region_held_drew (S := fun w' => w'.cell? ⟨w.heap.size, 0, none⟩ = some (.string ⟨pre.toArray⟩) ∧ w'.cell? ⟨w.heap.size, 1, none⟩ = some (.string ⟨suf.toArray⟩) ∧ w'.cell? ⟨w.heap.size, 2, none⟩ = some (.int .i64 (M : Int)) ∧ w'.cell? ⟨w.heap.size, 3, none⟩ = some (.int .i64 (F : Int)) ∧ w'.cell? ⟨w.heap.size, 4, none⟩ = some (.int .i64 (X : Int)) ∧ w'.cell? ⟨w.heap.size, 5, none⟩ = some (.int .i64 (A : Int)) ∧ w'.cell? ⟨w.heap.size, 6, none⟩ = some (.int .i64 (C : Int)) ∧ Hid (Below w.heap.size w w')) (by kernel_rfl) (by exact ⟨by go_keep, by go_keep, by go_keep, by go_keep, by go_keep, by go_keep, by go_keep, Lib.hid (Below.drew W1.out)⟩) (fun hHeld => ?_)
  refine take_run (d := (some 27)) (v := ?v79) 0 rfl rfl (by kernel_rfl) (by kernel_rfl) (by kernel_rfl) (fun _ _ _ h => h) (by rfl) hHeld ?hy79 ?rs79
  case hy79 => (intro w hSw; (try dsimp only at hSw); go_simp) <;> (try with_reducible rfl)
  (try simp only [Act.put, List.setIfInBounds_toArray, List.set_cons_zero, List.set_cons_succ])
  refine take_run (d := (some 28)) (v := ?v80) 1 rfl rfl (by kernel_rfl) (by kernel_rfl) (by kernel_rfl) (fun _ _ _ h => h) (by rfl) hHeld ?hy80 ?rs80
  case hy80 => (intro w hSw; (try dsimp only at hSw); go_simp) <;> (try with_reducible rfl)
  (try simp only [Act.put, List.setIfInBounds_toArray, List.set_cons_zero, List.set_cons_succ])
  refine take_run (d := (some 29)) (v := ?v81) 2 rfl rfl (by kernel_rfl) (by kernel_rfl) (by kernel_rfl) (fun _ _ _ h => h) (by rfl) hHeld ?hy81 ?rs81
  case hy81 => (intro w hSw; (try dsimp only at hSw); go_simp) <;> (try with_reducible rfl)
  (try simp only [Act.put, List.setIfInBounds_toArray, List.set_cons_zero, List.set_cons_succ])
  refine take_run (d := (some 30)) (v := ?v82) 3 rfl rfl (by kernel_rfl) (by kernel_rfl) (by kernel_rfl) (fun _ _ _ h => h) (by rfl) hHeld ?hy82 ?rs82
  case hy82 => (intro w hSw; (try dsimp only at hSw); go_simp) <;> (try with_reducible rfl)
  (try simp only [Act.put, List.setIfInBounds_toArray, List.set_cons_zero, List.set_cons_succ])
  refine take_run (d := (some 32)) (v := ?v83) 5 rfl rfl (by kernel_rfl) (by kernel_rfl) (by kernel_rfl) (fun _ _ _ h => h) (by rfl) hHeld ?hy83 ?rs83
  case hy83 => (intro w hSw; (try dsimp only at hSw); go_simp) <;> (try with_reducible rfl)
  (try simp only [Act.put, List.setIfInBounds_toArray, List.set_cons_zero, List.set_cons_succ])
  refine take_run (d := (some 33)) (v := ?v84) 6 rfl rfl (by kernel_rfl) (by kernel_rfl) (by kernel_rfl) (fun _ _ _ h => h) (by rfl) hHeld ?hy84 ?rs84
  case hy84 => (intro w hSw; (try dsimp only at hSw); go_simp) <;> (try with_reducible rfl)
  (try simp only [Act.put, List.setIfInBounds_toArray, List.set_cons_zero, List.set_cons_succ])
  refine take_call 4 rfl (by kernel_rfl) (by rfl) (fun K hK => ?_)
  go_simp
  refine (CR1.out _).mono ?_
  rintro e w' ⟨rfl, hb⟩
  refine hK.out _ _ (by obtain ⟨h0, h1, h2, h3, h4, h5, h6, hw⟩ := hHeld; exact ⟨cell_keep h0 hb, cell_keep h1 hb, cell_keep h2 hb, cell_keep h3 hb, cell_keep h4 hb, cell_keep h5 hb, cell_keep h6 hb, Lib.hid (blw_trans hw.out hb)⟩) (fun hHeld => ?_)
  clear hK K
  (try simp only [Act.put, List.setIfInBounds_toArray, List.set_cons_zero, List.set_cons_succ])
  refine take_call 7 rfl (by kernel_rfl) (by rfl) (fun K hK => ?_)
  go_simp
  refine (CR2.out _).mono ?_
  rintro e w' ⟨rfl, hb⟩
  refine hK.out _ _ (by obtain ⟨h0, h1, h2, h3, h4, h5, h6, hw⟩ := hHeld; exact ⟨cell_keep h0 hb, cell_keep h1 hb, cell_keep h2 hb, cell_keep h3 hb, cell_keep h4 hb, cell_keep h5 hb, cell_keep h6 hb, Lib.hid (blw_trans hw.out hb)⟩) (fun hHeld => ?_)
  clear hK K
  (try simp only [Act.put, List.setIfInBounds_toArray, List.set_cons_zero, List.set_cons_succ])
  refine take_run (d := (some 35)) (v := ?v87) 8 rfl rfl (by kernel_rfl) (by kernel_rfl) (by kernel_rfl) (fun _ _ _ h => h) (by rfl) hHeld ?hy87 ?rs87
  case hy87 => (intro w hSw; (try dsimp only at hSw); go_simp) <;> (try with_reducible rfl)
  (try simp only [Act.put, List.setIfInBounds_toArray, List.set_cons_zero, List.set_cons_succ])
  refine take_run (d := (some 6)) (v := ?v88) 9 rfl rfl (by kernel_rfl) (by kernel_rfl) (by kernel_rfl) (fun _ _ _ h => h) (by rfl) hHeld ?hy88 ?rs88
  case hy88 => (intro w hSw; (try dsimp only at hSw); go_simp) <;> (try with_reducible rfl)
  (try simp only [Act.put, List.setIfInBounds_toArray, List.set_cons_zero, List.set_cons_succ])
  refine wpAnyH_done (by kernel_rfl) ?_ _
  obtain ⟨z0, z1, z2, z3, z4, z5, z6, zW⟩ := hHeld
  rename World => w2
  clear c0 c1 c2 c3 c4 c5 c6 cl
  have c0 := z0
  have c1 := z1
  have c2 := z2
  have c3 := z3
  have c4 := z4
  have c5 := z5
  have c6 := z6
  have cl := World.block_lt_of_cell? _ _ c0
  clear z0 z1 z2 z3 z4 z5 z6
  go_wp2_with fail
  go_quiet (fail)
  rename_i nq
  have Bq := Lib.hid (blw_drewN (Below.refl w2.heap.size w2) nq)
  replace c0 := cell_keep c0 Bq.out
  replace c1 := cell_keep c1 Bq.out
  replace c2 := cell_keep c2 Bq.out
  replace c3 := cell_keep c3 Bq.out
  replace c4 := cell_keep c4 Bq.out
  replace c5 := cell_keep c5 Bq.out
  replace c6 := cell_keep c6 Bq.out
  replace zW := Lib.hid (blw_trans zW.out Bq.out)
  generalize w2.drewN nq = w3 at *
  clear Bq cl
  have cl := World.block_lt_of_cell? _ _ c0
  go_wp2_with fail
  go_quiet (fail)
  rename_i nq
  have Bq := Lib.hid (blw_drewN (Below.refl w3.heap.size w3) nq)
  replace c0 := cell_keep c0 Bq.out
  replace c1 := cell_keep c1 Bq.out
  replace c2 := cell_keep c2 Bq.out
  replace c3 := cell_keep c3 Bq.out
  replace c4 := cell_keep c4 Bq.out
  replace c5 := cell_keep c5 Bq.out
  replace c6 := cell_keep c6 Bq.out
  replace zW := Lib.hid (blw_trans zW.out Bq.out)
  generalize w3.drewN nq = w4 at *
  clear Bq cl
  have cl := World.block_lt_of_cell? _ _ c0
  go_wp2_with fail
  have W5 := zW
  clear zW
  refine wp_region_held_drew (S := fun w' => w'.cell? ⟨w.heap.size, 0, none⟩ = some (.string ⟨pre.toArray⟩) ∧ w'.cell? ⟨w.heap.size, 1, none⟩ = some (.string ⟨suf.toArray⟩) ∧ w'.cell? ⟨w.heap.size, 2, none⟩ = some (.int .i64 (M : Int)) ∧ w'.cell? ⟨w.heap.size, 3, none⟩ = some (.int .i64 (F : Int)) ∧ w'.cell? ⟨w.heap.size, 4, none⟩ = some (.int .i64 (X : Int)) ∧ w'.cell? ⟨w.heap.size, 5, none⟩ = some (.int .i64 (A : Int)) ∧ w'.cell? ⟨w.heap.size, 6, none⟩ = some (.int .i64 (C : Int)) ∧ Hid (Below w.heap.size w w')) (by kernel_rfl) (by exact ⟨by go_keep, by go_keep, by go_keep, by go_keep, by go_keep, by go_keep, by go_keep, Lib.hid (Below.drew W5.out)⟩) (fun hHeld => ?_)
  refine take_run (d := (some 69)) (v := ?v89) 0 rfl rfl (by kernel_rfl) (by kernel_rfl) (by kernel_rfl) (fun _ _ _ h => h) (by rfl) hHeld ?hy89 ?rs89
  case hy89 => (intro w hSw; (try dsimp only at hSw); go_simp) <;> (try with_reducible rfl)
  (try simp only [Act.put, List.setIfInBounds_toArray, List.set_cons_zero, List.set_cons_succ])
  refine take_run (d := (some 70)) (v := ?v90) 1 rfl rfl (by kernel_rfl) (by kernel_rfl) (by kernel_rfl) (fun _ _ _ h => h) (by rfl) hHeld ?hy90 ?rs90
  case hy90 => (intro w hSw; (try dsimp only at hSw); go_simp) <;> (try with_reducible rfl)
  (try simp only [Act.put, List.setIfInBounds_toArray, List.set_cons_zero, List.set_cons_succ])
  refine take_run (d := (some 71)) (v := ?v91) 2 rfl rfl (by kernel_rfl) (by kernel_rfl) (by kernel_rfl) (fun _ _ _ h => h) (by rfl) hHeld ?hy91 ?rs91
  case hy91 => (intro w hSw; (try dsimp only at hSw); go_simp) <;> (try with_reducible rfl)
  (try simp only [Act.put, List.setIfInBounds_toArray, List.set_cons_zero, List.set_cons_succ])
  refine take_run (d := (some 74)) (v := ?v92) 5 rfl rfl (by kernel_rfl) (by kernel_rfl) (by kernel_rfl) (fun _ _ _ h => h) (by rfl) hHeld ?hy92 ?rs92
  case hy92 => (intro w hSw; (try dsimp only at hSw); go_simp) <;> (try with_reducible rfl)
  (try simp only [Act.put, List.setIfInBounds_toArray, List.set_cons_zero, List.set_cons_succ])
  refine take_run (d := (some 75)) (v := ?v93) 6 rfl rfl (by kernel_rfl) (by kernel_rfl) (by kernel_rfl) (fun _ _ _ h => h) (by rfl) hHeld ?hy93 ?rs93
  case hy93 => (intro w hSw; (try dsimp only at hSw); go_simp) <;> (try with_reducible rfl)
  (try simp only [Act.put, List.setIfInBounds_toArray, List.set_cons_zero, List.set_cons_succ])
  refine take_run (d := (some 76)) (v := ?v94) 7 rfl rfl (by kernel_rfl) (by kernel_rfl) (by kernel_rfl) (fun _ _ _ h => h) (by rfl) hHeld ?hy94 ?rs94
  case hy94 => (intro w hSw; (try dsimp only at hSw); go_simp) <;> (try with_reducible rfl)
  (try simp only [Act.put, List.setIfInBounds_toArray, List.set_cons_zero, List.set_cons_succ])
  refine take_run (d := (some 77)) (v := ?v95) 8 rfl rfl (by kernel_rfl) (by kernel_rfl) (by kernel_rfl) (fun _ _ _ h => h) (by rfl) hHeld ?hy95 ?rs95
  case hy95 => (intro w hSw; (try dsimp only at hSw); go_simp) <;> (try with_reducible rfl)
  (try simp only [Act.put, List.setIfInBounds_toArray, List.set_cons_zero, List.set_cons_succ])
  refine take_run (d := (some 78)) (v := ?v96) 9 rfl rfl (by kernel_rfl) (by kernel_rfl) (by kernel_rfl) (fun _ _ _ h => h) (by rfl) hHeld ?hy96 ?rs96
  case hy96 => (intro w hSw; (try dsimp only at hSw); go_simp) <;> (try with_reducible rfl)
  (try simp only [Act.put, List.setIfInBounds_toArray, List.set_cons_zero, List.set_cons_succ])
  refine take_call 3 rfl (by kernel_rfl) (by rfl) (fun K hK => ?_)
  go_simp
  refine (CR3.out _).mono ?_
  rintro e w' ⟨rfl, hb⟩
  refine hK.out _ _ (by obtain ⟨h0, h1, h2, h3, h4, h5, h6, hw⟩ := hHeld; exact ⟨cell_keep h0 hb, cell_keep h1 hb, cell_keep h2 hb, cell_keep h3 hb, cell_keep h4 hb, cell_keep h5 hb, cell_keep h6 hb, Lib.hid (blw_trans hw.out hb)⟩) (fun hHeld => ?_)
  clear hK K
  (try simp only [Act.put, List.setIfInBounds_toArray, List.set_cons_zero, List.set_cons_succ])
  refine take_run (d := (some 73)) (v := ?v98) 4 rfl rfl (by kernel_rfl) (by kernel_rfl) (by kernel_rfl) (fun _ _ _ h => h) (by rfl) hHeld ?hy98 ?rs98
  case hy98 => (intro w hSw; (try dsimp only at hSw); go_simp) <;> (try with_reducible rfl)
  (try simp only [Act.put, List.setIfInBounds_toArray, List.set_cons_zero, List.set_cons_succ])
  refine take_call 10 rfl (by kernel_rfl) (by rfl) (fun K hK => ?_)
  go_simp
  refine (CR4.out _).mono ?_
  rintro e w' ⟨rfl, hb⟩
  refine hK.out _ _ (by obtain ⟨h0, h1, h2, h3, h4, h5, h6, hw⟩ := hHeld; exact ⟨cell_keep h0 hb, cell_keep h1 hb, cell_keep h2 hb, cell_keep h3 hb, cell_keep h4 hb, cell_keep h5 hb, cell_keep h6 hb, Lib.hid (blw_trans hw.out hb)⟩) (fun hHeld => ?_)
  clear hK K
  (try simp only [Act.put, List.setIfInBounds_toArray, List.set_cons_zero, List.set_cons_succ])
  refine take_run (d := (some 80)) (v := ?v100) 11 rfl rfl (by kernel_rfl) (by kernel_rfl) (by kernel_rfl) (fun _ _ _ h => h) (by rfl) hHeld ?hy100 ?rs100
  case hy100 => (intro w hSw; (try dsimp only at hSw); go_simp) <;> (try with_reducible rfl)
  (try simp only [Act.put, List.setIfInBounds_toArray, List.set_cons_zero, List.set_cons_succ])
  refine take_run (d := (some 81)) (v := ?v101) 12 rfl rfl (by kernel_rfl) (by kernel_rfl) (by kernel_rfl) (fun _ _ _ h => h) (by rfl) hHeld ?hy101 ?rs101
  case hy101 => (intro w hSw; (try dsimp only at hSw); go_simp) <;> (try with_reducible rfl)
  (try simp only [Act.put, List.setIfInBounds_toArray, List.set_cons_zero, List.set_cons_succ])
  refine take_run (d := (some 6)) (v := ?v102) 13 rfl rfl (by kernel_rfl) (by kernel_rfl) (by kernel_rfl) (fun _ _ _ h => h) (by rfl) hHeld ?hy102 ?rs102
  case hy102 => (intro w hSw; (try dsimp only at hSw); go_simp) <;> (try with_reducible rfl)
  (try simp only [Act.put, List.setIfInBounds_toArray, List.set_cons_zero, List.set_cons_succ])
  refine wpAnyH_done (by kernel_rfl) ?_ _
  obtain ⟨z0, z1, z2, z3, z4, z5, z6, zW⟩ := hHeld
  rename World => w6
  clear c0 c1 c2 c3 c4 c5 c6 cl
  have c0 := z0
  have c1 := z1
  have c2 := z2
  have c3 := z3
  have c4 := z4
  have c5 := z5
  have c6 := z6
  have cl := World.block_lt_of_cell? _ _ c0
  clear z0 z1 z2 z3 z4 z5 z6
  go_wp2_with fail
  go_ret2
  exact ⟨rfl, zW.out⟩
set_option maxRecDepth 100000 in
set_option maxHeartbeats 2000000 in
theorem ptext_no (p : Nt.Pt) (w : World) (h1 : p.pre.length ≤ 1000000000) (h2 : p.suf.length ≤ 1000000000) (h : Nt.patE p ≠ 0) :
    Calls Tryd.prog 7 #[.agg #[.string ⟨p.pre.toArray⟩, .string ⟨p.suf.toArray⟩, .int .i64 p.mi, .int .i64 p.nf, .int .i64 p.mf, .int .i64 p.g, .int .i64 p.g2]] w fun e w' => e = .returned (.tuple #[.string ⟨#[]⟩, errN (Nt.patE p)]) ∧ Below w.heap.size w w' := by
  have CK := Lib.hid fun wx => pck_any p wx h1 h2
  have he : errN (Nt.patE p) = errV (Nt.patE p) := if_neg h
  rw [he] at CK ⊢
  have W0 := Lib.hid (blw_alloc w (.cells #[.string ⟨p.pre.toArray⟩, .string ⟨p.suf.toArray⟩, .int .i64 p.mi, .int .i64 p.nf, .int .i64 p.mf, .int .i64 p.g, .int .i64 p.g2] 23))
  obtain ⟨pre, suf, mi, nf, mf, g, g2⟩ := p
  dsimp only at *
  generalize Nt.patE ⟨pre, suf, mi, nf, mf, g, g2⟩ = E at *
  clear h1 h2 he h
  go_enter Tryd.func7, Tryd.ntmps7
  go_wp2_with fail
  refine (CK.out _).mono ?_
  rintro e w1 ⟨rfl, hb⟩
  have W1 := Lib.hid (blw_trans W0.out hb)
  clear hb CK W0
  go_wp2_with fail
  go_ret2
  exact ⟨rfl, W1.out⟩
theorem ptext_ok (p : Nt.Pt) (w : World) (h : Nt.patE p = 0) :
    Calls Tryd.prog 7 #[.agg #[.string ⟨p.pre.toArray⟩, .string ⟨p.suf.toArray⟩, .int .i64 p.mi, .int .i64 p.nf, .int .i64 p.mf, .int .i64 p.g, .int .i64 p.g2]] w fun e w' => e = .returned (.tuple #[.string ⟨(Nt.patT p).toArray⟩, .nilIface]) ∧ Below w.heap.size w w' := by
  have hp : Nt.affB p.pre = true ∧ Nt.affB p.suf = true ∧ Nt.sizeB p = true ∧ ¬ (p.g2 ≠ 0 ∧ p.g = 0) := by
    have h' := h
    unfold Nt.patE at h'
    split at h'
    · rename_i ha
      rw [Bool.and_eq_true] at ha
      split at h'
      · rename_i hs
        split at h'
        · cases h'
        · rename_i hg
          exact ⟨ha.1, ha.2, hs, hg⟩
      · cases h'
    · cases h'
  obtain ⟨a1, a2, hs, hg⟩ := hp
  obtain ⟨s1, s2, s3, s4, s5, s6, s7, s8, s9, s10⟩ := Nt.size_ok hs
  have l1 : p.pre.length ≤ 100 := by unfold Nt.affB at a1; simp at a1; omega
  have l2 : p.suf.length ≤ 100 := by unfold Nt.affB at a2; simp at a2; omega
  obtain ⟨pre, suf, mi, nf, mf, g, g2⟩ := p
  dsimp only at *
  obtain ⟨M, rfl⟩ : ∃ n : Nat, mi = (n : Int) := ⟨mi.toNat, by omega⟩
  obtain ⟨F, rfl⟩ : ∃ n : Nat, nf = (n : Int) := ⟨nf.toNat, by omega⟩
  obtain ⟨X, rfl⟩ : ∃ n : Nat, mf = (n : Int) := ⟨mf.toNat, by omega⟩
  obtain ⟨A, rfl⟩ : ∃ n : Nat, g = (n : Int) := ⟨g.toNat, by omega⟩
  obtain ⟨C, rfl⟩ : ∃ n : Nat, g2 = (n : Int) := ⟨g2.toNat, by omega⟩
  have eT : Nt.patT ⟨pre, suf, (M : Int), (F : Int), (X : Int), (A : Int), (C : Int)⟩ = (pre ++ (Nt.ptG M A C ++ Nt.ptF F X)) ++ suf := by simp [Nt.patT]
  rw [eT]
  by_cases hA : A = 0
  · obtain rfl : C = 0 := by omega
    subst hA
    by_cases hX : X = 0
    · subst hX; exact ptext_000 pre suf M F w l1 l2 (by omega) h
    · exact ptext_001 pre suf M F X w l1 l2 (by omega) (by omega) h hX
  · by_cases hC : C = 0
    · subst hC
      by_cases hX : X = 0
      · subst hX; exact ptext_100 pre suf M F A w l1 l2 (by omega) (by omega) h hA
      · exact ptext_101 pre suf M F X A w l1 l2 (by omega) (by omega) (by omega) h hA hX
    · by_cases hX : X = 0
      · subst hX; exact ptext_110 pre suf M F A C w l1 l2 (by omega) (by omega) (by omega) h hA hC
      · exact ptext_111 pre suf M F X A C w l1 l2 (by omega) (by omega) (by omega) (by omega) h hA hC hX
end Go.Proofs.YtjakpdfonnpchaaDoor
