/- The walk of (*Server).ready at the one message, on a server whose cache and codes are empty. Condition: the table of powers. -/
import Derived.Test.YtghohnbajbikjaaGreatDoorUnT
import Derived.Test.YtghohnbajbikjaaGreatDoorUnJ
import Derived.Test.YtghohnbajbikjaaGreatDoorUnY
import Derived.Test.YtghohnbajbikjaaGreatDoorTb0
import Derived.Test.YtghohnbajbikjaaGreatDoorTa1
namespace Go.Proofs.YtghohnbajbikjaaGreatDoor
open Go.RowKit Go.MapKept
namespace Tn
theorem cell_ne {w : World} {g p : Nat} {u v : Value} (h : w.cell? ⟨g, 0, none⟩ = some u) (k : w.cell? ⟨p, 0, none⟩ = some v) (hn : u ≠ v) : g ≠ p := fun e => by
  subst e
  rw [h] at k
  exact hn (Option.some.inj k)
theorem map_ne {w : World} {g cm : Nat} {u : Value} {l : List (List UInt8 × Value)} (h : w.cell? ⟨g, 0, none⟩ = some u) (k : MapAt (fun v : Value => v) cm l w) : g ≠ cm := fun e => by
  subst e
  obtain ⟨es, c, hc, _⟩ := k
  simp [World.cell?, hc] at h
theorem HiM.at0 {w : World} {gu uc : Nat} (h : HiM w (.slice (some ⟨gu, 0, none⟩) 1 uc)) : 1 ≤ uc ∧ w.cell? ⟨gu, 0, none⟩ = some (.int .i64 1) ∧ w.cell? ⟨gu, 1, none⟩ = some (.string ⟨#[104, 101, 108, 108, 111]⟩) ∧ w.cell? ⟨gu, 2, none⟩ = some (.int .i64 0) ∧ w.cell? ⟨gu, 3, none⟩ = some (.slice none 0 0) := by
  obtain ⟨b, off, cap, e, h1, x0, x1, x2, x3⟩ := h
  injection e with e _ e3
  injection e with e
  injection e with e1 e2
  subst e1 e2 e3
  exact ⟨h1, x0, x1, x2, x3⟩
theorem HiM.kpt {S : Nat → Prop} {w w' : World} {gu uc : Nat} (h : HiM w (.slice (some ⟨gu, 0, none⟩) 1 uc)) (k : Kpt S w w') (hn : ¬ S gu) : HiM w' (.slice (some ⟨gu, 0, none⟩) 1 uc) := by
  obtain ⟨h1, x0, x1, x2, x3⟩ := h.at0
  exact ⟨gu, 0, uc, rfl, h1, k.cell x0 hn, k.cell x1 hn, k.cell x2 hn, k.cell x3 hn⟩
set_option maxRecDepth 100000 in
set_option maxHeartbeats 4000000 in
theorem ready_any (base p st ca cb al cm : Nat) (bn : Value) (ver nw : Int) (w : World) (hP : PowW w) (hS : Srv base w p st ca cb al cm bn ver nw) :
    Calls Tryz.prog 42 #[.pointer (some ⟨p, 0, none⟩), .int .i64 0, .string ⟨#[104, 105]⟩, .string ⟨#[104, 101, 108, 108, 111]⟩] w fun e w' => ∃ g cap ab cl gu uc, e = .returned (.tuple #[.agg #[.slice (some ⟨g, 0, none⟩) 1 cap, .slice (some ⟨gu, 0, none⟩) 1 uc], .nilIface]) ∧ 1 ≤ cap ∧ Boxed w' g (stC (.slice ab 1 cl)) ∧ HiM w' (.slice (some ⟨gu, 0, none⟩) 1 uc) ∧ Kpt (fun k => k = cb ∨ k = cm) w w' := by
  have CI := Lib.hid fun wx (hb : Below w.heap.size w wx) => itoa_any 0 wx (hP.below hb) (by omega) (by omega)
  rw [show Lib.itoa 0 = [48] by decide +kernel] at CI
  have CG := Lib.hid fun wx (hA : Boxed wx ca #[.slice (some ⟨cb, 0, none⟩) 1 1, .int .i64 0]) (hB : Boxed wx cb #[.string ⟨#[]⟩, .string ⟨#[]⟩, .bool false, .bool false]) => cget_any ca cb [48, 32, 104, 105] wx hA hB
  have CT := Lib.hid fun wx (hA : Boxed wx ca #[.slice (some ⟨cb, 0, none⟩) 1 1, .int .i64 0]) (hB : Boxed wx cb #[.string ⟨#[]⟩, .string ⟨#[]⟩, .bool false, .bool false]) => cput_any ca cb [48, 32, 104, 105] [104, 101, 108, 108, 111] wx hA hB
  have CP := Lib.hid gparse_any
  have CC := Lib.hid gcompile_any
  have A1 : ∀ w, (Op.stringOp .add ⟨#[48]⟩ ⟨#[32]⟩).run Tryz.prog w = .ok (.string ⟨#[48, 32]⟩) w := fun w => add_str (P := Tryz.prog) [48] [32] (by decide) w
  have A2 : ∀ w, (Op.stringOp .add ⟨#[48, 32]⟩ ⟨#[104, 105]⟩).run Tryz.prog w = .ok (.string ⟨#[48, 32, 104, 105]⟩) w := fun w => add_str (P := Tryz.prog) [48, 32] [104, 105] (by decide) w
  have o1 := hS.o1
  have o2 := hS.o2
  have M0 : MapAt (fun v : Value => v) cm [] w := by obtain ⟨c, hc⟩ := hS.cod; exact ⟨#[], c, hc, rfl⟩
  have M0 := Lib.hid M0
  have BP := Lib.hid hS.srv
  have BA := Lib.hid hS.cac
  have BB := Lib.hid hS.pla
  have lp := hS.srv.lt
  have lb := hS.pla.lt
  clear hS hP
  go_enter Tryz.func42, Tryz.ntmps42
  have W1 := Lib.hid (blw_alloc w (.cells #[.slice none 0 0, .slice none 0 0] 86))
  have BR := Lib.hid (Boxed.made w #[.slice none 0 0, .slice none 0 0] 86)
  go_wp2_with fail
  refine (CI.out _ W1.out).mono ?_
  rintro e w2 ⟨rfl, hb⟩
  have W2 := Lib.hid (blw_trans W1.out hb)
  have BR2 := Lib.hid (BR.out.below hb)
  have BP2 := BP.out.below W2.out
  have c1 := BP2.cell 1 _ rfl
  have cl := BP2.lt
  clear hb CI BR W1
  go_wp2_with fail
  refine (CG.out _ (BA.out.below W2.out) (BB.out.below W2.out)).mono ?_
  rintro e w3 ⟨rfl, hb⟩
  have W3 := Lib.hid (blw_trans W2.out hb)
  have BR3 := Lib.hid (BR2.out.below hb)
  clear hb CG BR2 W2 BP2 c1 cl
  go_wp2_with fail
  refine (CP.out _).mono ?_
  rintro e w4 ⟨g0, c0, rfl, hc0, hG, hb⟩
  have W4 := Lib.hid (blw_trans W3.out hb)
  have BR4 := Lib.hid (BR3.out.below hb)
  have HM4 := Lib.hid (HiM.of_box hG hc0)
  clear hb CP BR3 W3 hG
  go_wp2_with fail
  refine (CC.out _ _ HM4.out).mono ?_
  rintro e w5 ⟨g, cap, ab, cl, gu, uc, rfl, hcap, hG, hU, hb⟩
  have W5 := Lib.hid ((blw_trans W4.out hb).alloc (blw_trans W4.out hb).size (.cells #[.slice (some ⟨g, 0, none⟩) 1 cap, .slice (some ⟨gu, 0, none⟩) 1 uc] 86))
  have BR5 := Lib.hid ((BR4.out.below hb).alloc (.cells #[.slice (some ⟨g, 0, none⟩) 1 cap, .slice (some ⟨gu, 0, none⟩) 1 uc] 86))
  have BC5 := Lib.hid (Boxed.made w5 #[.slice (some ⟨g, 0, none⟩) 1 cap, .slice (some ⟨gu, 0, none⟩) 1 uc] 86)
  have BG5 := Lib.hid (hG.alloc (.cells #[.slice (some ⟨g, 0, none⟩) 1 cap, .slice (some ⟨gu, 0, none⟩) 1 uc] 86))
  have HU5 := Lib.hid (hU.below (blw_alloc w5 (.cells #[.slice (some ⟨g, 0, none⟩) 1 cap, .slice (some ⟨gu, 0, none⟩) 1 uc] 86)))
  have hs5 : w.heap.size < w5.heap.size := Nat.lt_of_lt_of_le BR4.out.lt hb.size
  have hgl := hG.lt
  clear hb CC BR4 W4 HM4 hG hU
  have BP5 := BP.out.below W5.out
  have p1 := BP5.cell 1 _ rfl
  have pl := BP5.lt
  go_upto_region 11 with fail
  generalize w5.alloc (.cells #[.slice (some ⟨g, 0, none⟩) 1 cap, .slice (some ⟨gu, 0, none⟩) 1 uc] 86) = w6 at *
  generalize w5.heap.size = kb at *
  go_wp2_with fail
  refine (CT.out _ (BA.out.below W5.out) (BB.out.below W5.out)).mono ?_
  rintro e w7 ⟨rfl, hk⟩
  have hbl : ∀ {k : Nat}, w.heap.size ≤ k → ¬ k = cb := fun h e => by omega
  have K7 := Lib.hid ((Kpt.of_below (S := fun k => k = cb ∨ k = cm) W5.out).trans (hk.mono fun _ _ h => .inl h))
  have BR7 := Lib.hid (hk.box BR5.out (by omega))
  have BC7 := Lib.hid (hk.box BC5.out (by omega))
  have BP7 := Lib.hid (K7.out.box BP.out (by omega))
  have n1 := cell_ne (BG5.out.cell 0 _ rfl) ((BB.out.below W5.out).cell 0 _ rfl) (by simp [stC])
  have n2 := cell_ne HU5.out.at0.2.1 ((BB.out.below W5.out).cell 0 _ rfl) (by simp)
  have n3 := map_ne (BG5.out.cell 0 _ rfl) (M0.out.below W5.out)
  have n4 := map_ne HU5.out.at0.2.1 (M0.out.below W5.out)
  have n5 := (cell_ne (BG5.out.cell 0 _ rfl) (BR5.out.cell 0 _ rfl) (by simp [stC])).symm
  have n6 := (cell_ne HU5.out.at0.2.1 (BR5.out.cell 0 _ rfl) (by simp)).symm
  have n := Lib.hid (And.intro n3 (And.intro n4 (And.intro n5 n6)))
  have BG7 := Lib.hid (hk.box BG5.out n1)
  have HU7 := Lib.hid (HU5.out.kpt hk n2)
  have M7 := Lib.hid ((M0.out.below W5.out).kept (hk.block cm (M0.out.below W5.out).lt (by omega)))
  clear n1 n2 n3 n4 n5 n6 hk CT W5 BR5 BC5 BG5 HU5 BP5 p1 pl M0 BP BA BB
  have p2 := BP7.out.cell 2 _ rfl
  have k0 := BC7.out.cell 0 _ rfl
  have k1 := BC7.out.cell 1 _ rfl
  have pl := BP7.out.lt
  have kl := BC7.out.lt
  go_upto_region 14 with fail
  refine wp_region_held_drew (S := fun w' => w'.cell? ⟨p, 2, none⟩ = some (.map (some cm)) ∧ w'.cell? ⟨kb, 0, none⟩ = some (.slice (some ⟨g, 0, none⟩) 1 cap) ∧ w'.cell? ⟨kb, 1, none⟩ = some (.slice (some ⟨gu, 0, none⟩) 1 uc) ∧ Hid (Kpt (fun k => k = cb ∨ k = cm) w w')) (by kernel_rfl) (by exact ⟨by go_keep, by go_keep, by go_keep, Lib.hid (K7.out.below (Below.drew (Below.refl _ _)))⟩) (fun hHeld => ?_)
  refine take_run (d := (some 73)) (v := ?v1) 0 rfl rfl (by kernel_rfl) (by kernel_rfl) (by kernel_rfl) (fun _ _ _ h => h) (by rfl) hHeld ?hy1 ?rs1
  case hy1 => (intro w hSw; (try dsimp only at hSw); go_simp) <;> (try with_reducible rfl)
  (try simp only [Act.put, List.setIfInBounds_toArray, List.set_cons_zero, List.set_cons_succ])
  refine take_run (d := (some 74)) (v := ?v2) 1 rfl rfl (by kernel_rfl) (by kernel_rfl) (by kernel_rfl) (fun _ _ _ h => h) (by rfl) hHeld ?hy2 ?rs2
  case hy2 => (intro w hSw; (try dsimp only at hSw); go_simp) <;> (try with_reducible rfl)
  (try simp only [Act.put, List.setIfInBounds_toArray, List.set_cons_zero, List.set_cons_succ])
  refine take_run (d := (some 75)) (v := ?v3) 2 rfl rfl (by kernel_rfl) (by kernel_rfl) (by kernel_rfl) (fun _ _ _ h => h) (by rfl) hHeld ?hy3 ?rs3
  case hy3 => (intro w hSw; (try dsimp only at hSw); go_simp) <;> (try with_reducible rfl)
  (try simp only [Act.put, List.setIfInBounds_toArray, List.set_cons_zero, List.set_cons_succ])
  refine take_run (d := (some 76)) (v := ?v4) 3 rfl rfl (by kernel_rfl) (by kernel_rfl) (by kernel_rfl) (fun _ _ _ h => h) (by rfl) hHeld ?hy4 ?rs4
  case hy4 => (intro w hSw; (try dsimp only at hSw); go_simp) <;> (try with_reducible rfl)
  (try simp only [Act.put, List.setIfInBounds_toArray, List.set_cons_zero, List.set_cons_succ])
  refine take_run (d := (some 77)) (v := ?v5) 4 rfl rfl (by kernel_rfl) (by kernel_rfl) (by kernel_rfl) (fun _ _ _ h => h) (by rfl) hHeld ?hy5 ?rs5
  case hy5 => (intro w hSw; (try dsimp only at hSw); go_simp) <;> (try with_reducible rfl)
  (try simp only [Act.put, List.setIfInBounds_toArray, List.set_cons_zero, List.set_cons_succ])
  refine take_run (d := (some 78)) (v := ?v6) 5 rfl rfl (by kernel_rfl) (by kernel_rfl) (by kernel_rfl) (fun _ _ _ h => h) (by rfl) hHeld ?hy6 ?rs6
  case hy6 => (intro w hSw; (try dsimp only at hSw); go_simp) <;> (try with_reducible rfl)
  (try simp only [Act.put, List.setIfInBounds_toArray, List.set_cons_zero, List.set_cons_succ])
  refine take_call 6 rfl (by kernel_rfl) (by rfl) (fun K hK => ?_)
  have hHeld0 := hHeld
  obtain ⟨h0, h1, h2, hw⟩ := hHeld
  obtain ⟨w9, MU, _, ho9, hs9, HB9⟩ := (M7.out.below (Below.drew (Below.refl _ _))).put (P := Tryz.prog) 79 9 86 Tryz.underlying79 Tryz.underlying9 (t := [48, 32, 104, 105]) (.agg #[.slice (some ⟨g, 0, none⟩) 1 cap, .slice (some ⟨gu, 0, none⟩) 1 uc]) rfl
  have b9 := HB9 cm w7 (Nat.le_refl _) (Below.drew (Below.refl _ _))
  have K9 := Lib.hid (K7.out.trans (⟨b9.os, b9.tape, b9.output, b9.size, fun k _ hn => ho9 k (fun e => hn (.inr e))⟩ : Kpt (fun k => k = cb ∨ k = cm) w7 w9))
  have BP9 := Lib.hid (BP7.out.drew.same (ho9 _ (by omega)))
  have BC9 := Lib.hid (BC7.out.drew.same (ho9 _ (by omega)))
  have BR9 := Lib.hid (BR7.out.drew.same (ho9 _ (by omega)))
  have BG9 := Lib.hid (BG7.out.drew.same (ho9 _ n.out.1))
  have HU9 := Lib.hid (HU7.out.kpt (⟨b9.os, b9.tape, b9.output, b9.size, fun k _ hn => ho9 k hn⟩ : Kpt (fun k => k = cm) w7 w9) n.out.2.1)
  clear b9 HB9 hs9 ho9
  go_simp
  refine hK.out _ _ (by exact ⟨BP9.out.cell 2 _ rfl, BC9.out.cell 0 _ rfl, BC9.out.cell 1 _ rfl, K9⟩) (fun hHeld => ?_)
  clear hK K
  (try simp only [Act.put, List.setIfInBounds_toArray, List.set_cons_zero, List.set_cons_succ])
  refine wpAnyH_done (by kernel_rfl) ?_ _
  obtain ⟨z0, z1, z2, zW⟩ := hHeld
  clear z0 z1 z2 zW MU hHeld0 h0 h1 h2 hw p2 k0 k1 pl kl BP7 BC7 BR7 BG7 HU7 M7 K7 BP9
  have k0 := BC9.out.cell 0 _ rfl
  have k1 := BC9.out.cell 1 _ rfl
  have kl := BC9.out.lt
  have r0 := BR9.out.cell 0 _ rfl
  have r1 := BR9.out.cell 1 _ rfl
  have f0 := BR9.out.free 0 (by simp)
  have f1 := BR9.out.free 1 (by simp)
  have rl := BR9.out.lt
  have n5 := n.out.2.2.1
  have n6 := n.out.2.2.2
  go_wp2_with fail
  refine bodyPost_ret (by simp [results, Tryz.results42, go_sem, k0, k1, r0, r1]; try rfl) rfl ?_
  have KE := (K9.out.setCell ⟨w.heap.size, 0, none⟩ (.slice (some ⟨g, 0, none⟩) 1 cap) (fun h => absurd h (Nat.lt_irrefl _))).setCell ⟨w.heap.size, 1, none⟩ (.slice (some ⟨gu, 0, none⟩) 1 uc) (fun h => absurd h (Nat.lt_irrefl _))
  exact ⟨g, cap, ab, cl, gu, uc, rfl, hcap, (BG9.out.far n5 _ _).far n5 _ _, HU9.out.kpt (((Kpt.refl (fun k => k = w.heap.size) w9).setCell ⟨w.heap.size, 0, none⟩ _ (fun _ => rfl)).setCell ⟨w.heap.size, 1, none⟩ _ (fun _ => rfl)) n6.symm, KE⟩
end Tn
end Go.Proofs.YtghohnbajbikjaaGreatDoor

