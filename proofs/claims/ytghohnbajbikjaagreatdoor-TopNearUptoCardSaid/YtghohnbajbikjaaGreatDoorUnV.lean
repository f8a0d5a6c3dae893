/- The walk of store.Load at the one bundle that is loaded. Condition: the library's variable MaxLen holds a number. -/
import Derived.Test.YtghohnbajbikjaaGreatDoorUnD
import Derived.Test.YtghohnbajbikjaaGreatDoorUnC
import Derived.Test.YtghohnbajbikjaaGreatDoorUnE
import Derived.Test.YtghohnbajbikjaaGreatDoorTa1
namespace Go.Proofs.YtghohnbajbikjaaGreatDoor
open Go.RowKit Go.MapKept
namespace Tn
theorem hi_short : BdS hiB := ⟨by decide, by decide, by decide⟩
theorem zero_mapss (w : World) : (zeroValue 116).run Tryz.prog w = .ok (.map none) w := by kernel_rfl
theorem neq_maps (w : World) : (binOp .neq 116 (.map none) (.map none)).run Tryz.prog w = .ok (.bool false) w := by
  first | kernel_rfl | (simp [binOp, compare, run_underlying Tryz.underlying116]; done)
theorem put_one (w : World) (al vp : Nat) (hm : w.heap[al]? = some (.map #[] 0)) :
    ∃ w', (Instr.mapUpdate 109 (.map (some al)) (.int .i64 1) (.pointer (some ⟨vp, 0, none⟩))).run Tryz.prog w = .ok () w' ∧ w'.heap[al]? = some (.map (oneE vp) 1) ∧ But al w w' := by
  refine ⟨{ w with heap := w.heap.setIfInBounds al (.map (oneE vp) 1) }, ?_, (heap_set hm).1, rfl, rfl, rfl, Array.size_setIfInBounds, fun k hk => (heap_set hm).2 k hk⟩
  have hf : Instr.findNow (.int .i64) (.int .i64 1) (#[] : Array MapEntry).toList 0 = some none := rfl
  simp [Instr.mapUpdate, run_underlying Tryz.underlying109, MapKept.run_getObj_map hm, run_checkKey Tryz.underlying3 (show IsKey (.int .i64) (.int .i64 1) from by simp [IsKey]), run_findKey Tryz.underlying3 hf, MapKept.run_setObj_map _ hm, Result.andThen]
  rfl
theorem But.kpt {r : Nat} {w w' : World} (h : But r w w') : Kpt (fun k => k = r) w w' := ⟨h.os, h.tape, h.output, by rw [h.size]; exact Nat.le_refl _, fun k _ hk => h.block k hk⟩

set_option maxRecDepth 100000 in
set_option maxHeartbeats 4000000 in
theorem sload_any (st al : Nat) (a : Option Addr) (n c : Nat) (w : World) (hM : MaxW w) (hB : SlAt 2 BdC w (.slice a n c) [hiB]) (hs : Boxed w st #[.int .i64 0, .map (some al)]) (hm : w.heap[al]? = some (.map #[] 0)) :
    Calls Tryz.prog 40 #[.pointer (some ⟨st, 0, none⟩), .slice a n c] w fun e w' => e = .returned (.tuple #[.int .i64 1, .nilIface]) ∧ Boxed w' st #[.int .i64 1, .map (some al)] ∧ Kpt (fun k => k = st ∨ k = al) w w' := by
  have hal : al < w.heap.size := (Array.getElem?_eq_some_iff.1 hm).1
  have HS := Lib.hid hs
  have hsl := hs.lt
  have hne : al ≠ st := fun e => by
    have := hs.cell 0 _ rfl
    rw [← e] at this
    simp [World.cell?, hm] at this
  have HMW := Lib.hid fun wx (hb : Below w.heap.size w wx) => hM.below hb
  have HMM := Lib.hid hm
  obtain ⟨A0, cap, e1, _, hsp⟩ := hB.spread
  injection e1 with e1 e2 e3
  subst e1
  obtain rfl : n = 1 := e2
  obtain ⟨b, off, rfl, za, zn, zc, x0, x1, xs⟩ := hsp 0 hiB rfl
  obtain ⟨A1, cap1, e4, _, hse⟩ := xs.spread
  injection e4 with e4 e5 e6
  subst e4
  obtain rfl : zn = 1 := e5
  obtain ⟨b1, off1, rfl, s0, s1⟩ := hse 0 ⟨[104, 105], [104, 101, 108, 108, 111]⟩ rfl
  rw [show off + 0 * 2 = off by omega] at x0 x1
  rw [show off1 + 0 * 2 = off1 by omega] at s0 s1
  have CK := Lib.hid (show ∀ wx, Below w.heap.size w wx → Calls Tryz.prog 9 #[.agg #[.string ⟨#[101, 110]⟩, .slice (some ⟨b1, off1, none⟩) 1 zc]] wx fun e w' => e = .returned .nilIface ∧ Below wx.heap.size wx w' from fun wx hb => by
    have h := pchk_any hiB (some ⟨b1, off1, none⟩) 1 zc wx (HMW.out wx hb) hi_short (ens_below xs hb)
    rw [hi_ok] at h
    exact h)
  clear hsp hse xs hs hM hB hm e3 e6
  have X0 := Lib.hid (show w.cell? ⟨b, off, none⟩ = some (.string ⟨#[101, 110]⟩) from x0)
  have X1 := Lib.hid x1
  have S0 := Lib.hid s0
  have S1 := Lib.hid s1
  have l0 := World.block_lt_of_cell? _ _ x0
  have l1 := World.block_lt_of_cell? _ _ s0
  dsimp only at l0 l1
  clear x0 x1 s0 s1
  have MM := fun wx => (run_makeMap (P := Tryz.prog) (w := wx) 113)
  have MM2 := fun wx => (run_makeMap (P := Tryz.prog) (w := wx) 116)
  have KM := Lib.hid ((map_made (val := fun v : Value => v) w).below (blw_alloc (w.alloc (.map #[] 0)) (.cells #[.map (some w.heap.size), .int .i64 0] 115)))
  have BV := Lib.hid ((Boxed.made (w.alloc (.map #[] 0)) #[.map (some w.heap.size), .int .i64 0] 115).at (q := w.heap.size + 1) (by simp))
  have W2 := Lib.hid ((blw_alloc w (.map #[] 0)).alloc (by simp) (.cells #[.map (some w.heap.size), .int .i64 0] 115))
  go_enter Tryz.func40, Tryz.ntmps40
  go_wp2_with fail
  generalize hw2 : (w.alloc (.map #[] 0)).alloc (.cells #[.map (some w.heap.size), .int .i64 0] 115) = w2 at *
  have hz2 : w2.heap.size = w.heap.size + 2 := by rw [← hw2]; simp
  have y0 := cell_keep X0.out W2.out
  have y1 := cell_keep X1.out W2.out
  clear hw2
  refine wp_loop_rounds 2 ?_
  rw [rounds_succ]
  go_wp2_with fail
  have W3 := Lib.hid (W2.out.alloc W2.out.size (.cells #[.string ⟨#[101, 110]⟩, .slice (some ⟨b1, off1, none⟩) 1 zc] 38))
  have BB := Lib.hid (Boxed.made w2 #[.string ⟨#[101, 110]⟩, .slice (some ⟨b1, off1, none⟩) 1 zc] 38)
  have BV3 := Lib.hid (BV.out.alloc (.cells #[.string ⟨#[101, 110]⟩, .slice (some ⟨b1, off1, none⟩) 1 zc] 38))
  have KM3 := Lib.hid (KM.out.below (blw_alloc w2 (.cells #[.string ⟨#[101, 110]⟩, .slice (some ⟨b1, off1, none⟩) 1 zc] 38)))
  refine (CK.out _ W3.out).mono ?_
  rintro e w4 ⟨rfl, hb⟩
  have W4 := Lib.hid (blw_trans W3.out hb)
  have BB4 := Lib.hid (BB.out.below hb)
  have BV4 := Lib.hid (BV3.out.below hb)
  have KM4 := Lib.hid (KM3.out.below hb)
  clear hb CK BB BV3 KM3 BV KM y0 y1 W3
  rw [hz2] at BB4
  have g0 := BV4.out.cell 0 _ rfl
  have g1 := BB4.out.cell 0 _ rfl
  have gl := BV4.out.lt
  have gl1 := BB4.out.lt
  have LNW := Lib.hid fun wx (h : MapAt (fun v : Value => v) w.heap.size [] wx) => h.none1 (P := Tryz.prog) 113 9 116 Tryz.underlying113 Tryz.underlying9 (t := [101, 110]) (zero_mapss _) rfl
  go_wp2_with fail
  refine wp_region_held_drew (S := fun w' => w'.cell? ⟨w.heap.size + 1, 0, none⟩ = some (.map (some w.heap.size)) ∧ w'.cell? ⟨w.heap.size + 2, 0, none⟩ = some (.string ⟨#[101, 110]⟩) ∧ Hid (MapAt (fun v : Value => v) w.heap.size [] w') ∧ Hid (Boxed w' (w.heap.size + 1) #[.map (some w.heap.size), .int .i64 0]) ∧ Hid (Boxed w' (w.heap.size + 2) #[.string ⟨#[101, 110]⟩, .slice (some ⟨b1, off1, none⟩) 1 zc]) ∧ Hid (Below w.heap.size w w')) (by kernel_rfl) (by exact ⟨by go_keep, by go_keep, Lib.hid (KM4.out.below (blw_drewN (Below.refl _ _) 1)), Lib.hid BV4.out.drew, Lib.hid BB4.out.drew, Lib.hid (Below.drew W4.out)⟩) (fun hHeld => ?_)
  refine take_run (d := (some 30)) (v := ?v1) 0 rfl rfl (by kernel_rfl) (by kernel_rfl) (by kernel_rfl) (fun _ _ _ h => h) (by rfl) hHeld ?hy1 ?rs1
  case hy1 => (intro w hSw; (try dsimp only at hSw); go_simp) <;> (try with_reducible rfl)
  (try simp only [Act.put, List.setIfInBounds_toArray, List.set_cons_zero, List.set_cons_succ])
  refine take_run (d := (some 31)) (v := ?v2) 1 rfl rfl (by kernel_rfl) (by kernel_rfl) (by kernel_rfl) (fun _ _ _ h => h) (by rfl) hHeld ?hy2 ?rs2
  case hy2 => (intro w hSw; (try dsimp only at hSw); go_simp) <;> (try with_reducible rfl)
  (try simp only [Act.put, List.setIfInBounds_toArray, List.set_cons_zero, List.set_cons_succ])
  refine take_run (d := (some 32)) (v := ?v3) 2 rfl rfl (by kernel_rfl) (by kernel_rfl) (by kernel_rfl) (fun _ _ _ h => h) (by rfl) hHeld ?hy3 ?rs3
  case hy3 => (intro w hSw; (try dsimp only at hSw); go_simp) <;> (try with_reducible rfl)
  (try simp only [Act.put, List.setIfInBounds_toArray, List.set_cons_zero, List.set_cons_succ])
  refine take_run (d := (some 33)) (v := ?v4) 3 rfl rfl (by kernel_rfl) (by kernel_rfl) (by kernel_rfl) (fun _ _ _ h => h) (by rfl) hHeld ?hy4 ?rs4
  case hy4 => (intro w hSw; (try dsimp only at hSw); go_simp) <;> (try with_reducible rfl)
  (try simp only [Act.put, List.setIfInBounds_toArray, List.set_cons_zero, List.set_cons_succ])
  refine take_run (d := (some 34)) (v := ?v5) 4 rfl rfl (by kernel_rfl) (by kernel_rfl) (by kernel_rfl) (fun _ _ _ h => h) (by rfl) hHeld ?hy5 ?rs5
  case hy5 => (intro w hSw; (try dsimp only at hSw); go_simp) <;> (try with_reducible rfl)
  (try simp only [Act.put, List.setIfInBounds_toArray, List.set_cons_zero, List.set_cons_succ])
  refine take_run (d := (some 35)) (v := ?v6) 5 rfl rfl (by kernel_rfl) (by kernel_rfl) (by kernel_rfl) (fun _ _ _ h => h) (by rfl) hHeld ?hy6 ?rs6
  case hy6 => (intro w hSw; (try dsimp only at hSw); go_simp) <;> (try with_reducible rfl)
  (try simp only [Act.put, List.setIfInBounds_toArray, List.set_cons_zero, List.set_cons_succ])
  refine take_run (d := (some 36)) (v := ?v7) 6 rfl rfl (by kernel_rfl) (by kernel_rfl) (by kernel_rfl) (fun _ _ _ h => h) (by rfl) hHeld ?hy7 ?rs7
  case hy7 => (intro w hSw; (try dsimp only at hSw); have LN := LNW.out w hSw.2.2.1.out; go_simp) <;> (try with_reducible rfl)
  (try simp only [Act.put, List.setIfInBounds_toArray, List.set_cons_zero, List.set_cons_succ])
  refine take_run (d := (some 37)) (v := ?v8) 7 rfl rfl (by kernel_rfl) (by kernel_rfl) (by kernel_rfl) (fun _ _ _ h => h) (by rfl) hHeld ?hy8 ?rs8
  case hy8 => (intro w hSw; (try dsimp only at hSw); have NM := neq_maps w; go_simp) <;> (try with_reducible rfl)
  (try simp only [Act.put, List.setIfInBounds_toArray, List.set_cons_zero, List.set_cons_succ])
  refine wpAnyH_done (by kernel_rfl) ?_ _
  obtain ⟨z0, z1, z2, z3, z4, zW⟩ := hHeld
  have KM5 := Lib.hid z2.out
  have BV5 := Lib.hid z3.out
  have BB5 := Lib.hid z4.out
  have W5 := Lib.hid zW.out
  clear z0 z1 z2 z3 z4 zW KM4 BV4 BB4 W4 g0 g1 gl gl1
  generalize w4.drew = w5 at *
  have g0 := BV5.out.cell 0 _ rfl
  have g1 := BB5.out.cell 0 _ rfl
  have gl := BV5.out.lt
  have gl1 := BB5.out.lt
  go_wp2_with fail
  refine wp_region_held_drew (S := fun w' => w'.cell? ⟨w.heap.size + 1, 0, none⟩ = some (.map (some w.heap.size)) ∧ w'.cell? ⟨w.heap.size + 2, 0, none⟩ = some (.string ⟨#[101, 110]⟩) ∧ Hid (Below w.heap.size w w')) (by kernel_rfl) (by exact ⟨by go_keep, by go_keep, Lib.hid (Below.drew W5.out)⟩) (fun hHeld => ?_)
  refine take_run (d := (some 39)) (v := ?v9) 0 rfl rfl (by kernel_rfl) (by kernel_rfl) (by kernel_rfl) (fun _ _ _ h => h) (by rfl) hHeld ?hy9 ?rs9
  case hy9 => (intro w hSw; (try dsimp only at hSw); go_simp) <;> (try with_reducible rfl)
  (try simp only [Act.put, List.setIfInBounds_toArray, List.set_cons_zero, List.set_cons_succ])
  refine take_run (d := (some 40)) (v := ?v10) 1 rfl rfl (by kernel_rfl) (by kernel_rfl) (by kernel_rfl) (fun _ _ _ h => h) (by rfl) hHeld ?hy10 ?rs10
  case hy10 => (intro w hSw; (try dsimp only at hSw); go_simp) <;> (try with_reducible rfl)
  (try simp only [Act.put, List.setIfInBounds_toArray, List.set_cons_zero, List.set_cons_succ])
  refine take_run (d := (some 41)) (v := ?v11) 2 rfl rfl (by kernel_rfl) (by kernel_rfl) (by kernel_rfl) (fun _ _ _ h => h) (by rfl) hHeld ?hy11 ?rs11
  case hy11 => (intro w hSw; (try dsimp only at hSw); go_simp) <;> (try with_reducible rfl)
  (try simp only [Act.put, List.setIfInBounds_toArray, List.set_cons_zero, List.set_cons_succ])
  refine take_run (d := (some 42)) (v := ?v12) 3 rfl rfl (by kernel_rfl) (by kernel_rfl) (by kernel_rfl) (fun _ _ _ h => h) (by rfl) hHeld ?hy12 ?rs12
  case hy12 => (intro w hSw; (try dsimp only at hSw); go_simp) <;> (try with_reducible rfl)
  (try simp only [Act.put, List.setIfInBounds_toArray, List.set_cons_zero, List.set_cons_succ])
  refine take_run (d := (some 43)) (v := ?v13) 4 rfl rfl (by kernel_rfl) (by kernel_rfl) (by kernel_rfl) (fun _ _ _ h => h) (by rfl) hHeld ?hy13 ?rs13
  case hy13 => (intro w hSw; (try dsimp only at hSw); go_simp) <;> (try with_reducible rfl)
  (try simp only [Act.put, List.setIfInBounds_toArray, List.set_cons_zero, List.set_cons_succ])
  refine take_run (d := (some 44)) (v := ?v14) 5 rfl rfl (by kernel_rfl) (by kernel_rfl) (by kernel_rfl) (fun _ _ _ h => h) (by rfl) hHeld ?hy14 ?rs14
  case hy14 => (intro w hSw; (try dsimp only at hSw); go_simp) <;> (try with_reducible rfl)
  (try simp only [Act.put, List.setIfInBounds_toArray, List.set_cons_zero, List.set_cons_succ])
  refine take_call 6 rfl (by kernel_rfl) (by rfl) (fun K hK => ?_)
  have hHeld0 := hHeld
  obtain ⟨h0, h1, hw⟩ := hHeld
  go_simp
  refine hK.out _ _ (by exact ⟨cell_keep h0 (blw_alloc _ _), cell_keep h1 (blw_alloc _ _), Lib.hid (hw.out.alloc hw.out.size _)⟩) (fun hHeld => ?_)
  clear hK K
  (try simp only [Act.put, List.setIfInBounds_toArray, List.set_cons_zero, List.set_cons_succ])
  refine take_call 7 rfl (by kernel_rfl) (by rfl) (fun K hK => ?_)
  have hHeld0 := hHeld
  obtain ⟨h0, h1, hw⟩ := hHeld
  obtain ⟨w7, MU, HK7, ho7, hs7, HB7⟩ := (KM5.out.below (Below.drew (blw_alloc w5 (.map #[] 0)))).put (P := Tryz.prog) 113 9 116 Tryz.underlying113 Tryz.underlying9 (t := [101, 110]) (.map (some w5.heap.size)) rfl
  have K7 := Lib.hid HK7
  have M7 := Lib.hid (((map_made (val := fun v : Value => v) w5).below (Below.drew (Below.refl _ _))).kept (ho7 w5.heap.size (by omega)))
  have BV7 := Lib.hid ((BV5.out.alloc (.map #[] 0)).drew.same (ho7 _ (by omega)))
  have BB7 := Lib.hid ((BB5.out.alloc (.map #[] 0)).drew.same (ho7 _ (by omega)))
  have W7 := Lib.hid (HB7 w.heap.size w (Nat.le_refl _) (Below.drew (W5.out.alloc W5.out.size (.map #[] 0))))
  clear HK7 ho7 hs7 HB7
  go_simp
  refine hK.out _ _ (by exact ⟨BV7.out.cell 0 _ rfl, BB7.out.cell 0 _ rfl, W7⟩) (fun hHeld => ?_)
  clear hK K
  (try simp only [Act.put, List.setIfInBounds_toArray, List.set_cons_zero, List.set_cons_succ])
  refine wpAnyH_done (by kernel_rfl) ?_ _
  obtain ⟨z0, z1, zW⟩ := hHeld
  have hm2 := W5.out.size
  have hm3 := BB5.out.lt
  clear z0 z1 zW MU KM5 BV5 BB5 W5 g0 g1 hHeld0 h0 h1 hw
  have g1 := BB7.out.cell 1 _ rfl
  have gl := BV7.out.lt
  have gl1 := BB7.out.lt
  generalize w5.heap.size = m2 at *
  go_wp2_with fail
  have s0 := cell_keep S0.out W7.out
  have s1 := cell_keep S1.out W7.out
  have hsz7 := W7.out.size
  refine wp_loop_rounds 2 ?_
  rw [rounds_succ]
  have LN2 := Lib.hid fun wx (h : MapAt (fun v : Value => v) w.heap.size [([101, 110], .map (some m2))] wx) => h.look1 (P := Tryz.prog) 113 9 116 Tryz.underlying113 Tryz.underlying9 (t := [101, 110]) (p := ([101, 110], .map (some m2))) rfl
  have BE := Lib.hid (Boxed.made w7 #[.string ⟨#[104, 105]⟩, .string ⟨#[104, 101, 108, 108, 111]⟩] 41)
  go_wp2_with fail
  have WA := Lib.hid (blw_alloc w7 (.cells #[.string ⟨#[104, 105]⟩, .string ⟨#[104, 101, 108, 108, 111]⟩] 41))
  have e0 := cell_keep (BV7.out.cell 0 _ rfl) WA.out
  have e1 := cell_keep (BB7.out.cell 0 _ rfl) WA.out
  have e2 := BE.out.cell 0 _ rfl
  have e3 := BE.out.cell 1 _ rfl
  refine wp_region_held_drew (S := fun w' => w'.cell? ⟨w.heap.size + 1, 0, none⟩ = some (.map (some w.heap.size)) ∧ w'.cell? ⟨w.heap.size + 2, 0, none⟩ = some (.string ⟨#[101, 110]⟩) ∧ w'.cell? ⟨w7.heap.size, 0, none⟩ = some (.string ⟨#[104, 105]⟩) ∧ w'.cell? ⟨w7.heap.size, 1, none⟩ = some (.string ⟨#[104, 101, 108, 108, 111]⟩) ∧ Hid (MapAt (fun v : Value => v) w.heap.size [([101, 110], .map (some m2))] w') ∧ Hid (Below w.heap.size w w')) (by kernel_rfl) (by exact ⟨by go_keep, by go_keep, by go_keep, by go_keep, Lib.hid (K7.out.below (Below.drew WA.out)), Lib.hid (Below.drew (blw_trans W7.out WA.out))⟩) (fun hHeld => ?_)
  refine take_run (d := (some 53)) (v := ?v17) 0 rfl rfl (by kernel_rfl) (by kernel_rfl) (by kernel_rfl) (fun _ _ _ h => h) (by rfl) hHeld ?hy17 ?rs17
  case hy17 => (intro w hSw; (try dsimp only at hSw); go_simp) <;> (try with_reducible rfl)
  (try simp only [Act.put, List.setIfInBounds_toArray, List.set_cons_zero, List.set_cons_succ])
  refine take_run (d := (some 54)) (v := ?v18) 1 rfl rfl (by kernel_rfl) (by kernel_rfl) (by kernel_rfl) (fun _ _ _ h => h) (by rfl) hHeld ?hy18 ?rs18
  case hy18 => (intro w hSw; (try dsimp only at hSw); go_simp) <;> (try with_reducible rfl)
  (try simp only [Act.put, List.setIfInBounds_toArray, List.set_cons_zero, List.set_cons_succ])
  refine take_run (d := (some 55)) (v := ?v19) 2 rfl rfl (by kernel_rfl) (by kernel_rfl) (by kernel_rfl) (fun _ _ _ h => h) (by rfl) hHeld ?hy19 ?rs19
  case hy19 => (intro w hSw; (try dsimp only at hSw); go_simp) <;> (try with_reducible rfl)
  (try simp only [Act.put, List.setIfInBounds_toArray, List.set_cons_zero, List.set_cons_succ])
  refine take_run (d := (some 56)) (v := ?v20) 3 rfl rfl (by kernel_rfl) (by kernel_rfl) (by kernel_rfl) (fun _ _ _ h => h) (by rfl) hHeld ?hy20 ?rs20
  case hy20 => (intro w hSw; (try dsimp only at hSw); go_simp) <;> (try with_reducible rfl)
  (try simp only [Act.put, List.setIfInBounds_toArray, List.set_cons_zero, List.set_cons_succ])
  refine take_run (d := (some 57)) (v := ?v21) 4 rfl rfl (by kernel_rfl) (by kernel_rfl) (by kernel_rfl) (fun _ _ _ h => h) (by rfl) hHeld ?hy21 ?rs21
  case hy21 => (intro w hSw; (try dsimp only at hSw); go_simp) <;> (try with_reducible rfl)
  (try simp only [Act.put, List.setIfInBounds_toArray, List.set_cons_zero, List.set_cons_succ])
  refine take_run (d := (some 58)) (v := ?v22) 5 rfl rfl (by kernel_rfl) (by kernel_rfl) (by kernel_rfl) (fun _ _ _ h => h) (by rfl) hHeld ?hy22 ?rs22
  case hy22 => (intro w hSw; (try dsimp only at hSw); go_simp) <;> (try with_reducible rfl)
  (try simp only [Act.put, List.setIfInBounds_toArray, List.set_cons_zero, List.set_cons_succ])
  refine take_run (d := (some 59)) (v := ?v23) 6 rfl rfl (by kernel_rfl) (by kernel_rfl) (by kernel_rfl) (fun _ _ _ h => h) (by rfl) hHeld ?hy23 ?rs23
  case hy23 => (intro w hSw; (try dsimp only at hSw); have LN := LN2.out w hSw.2.2.2.2.1.out; go_simp) <;> (try with_reducible rfl)
  (try simp only [Act.put, List.setIfInBounds_toArray, List.set_cons_zero, List.set_cons_succ])
  refine take_run (d := (some 60)) (v := ?v24) 7 rfl rfl (by kernel_rfl) (by kernel_rfl) (by kernel_rfl) (fun _ _ _ h => h) (by rfl) hHeld ?hy24 ?rs24
  case hy24 => (intro w hSw; (try dsimp only at hSw); go_simp) <;> (try with_reducible rfl)
  (try simp only [Act.put, List.setIfInBounds_toArray, List.set_cons_zero, List.set_cons_succ])
  refine take_run (d := (some 61)) (v := ?v25) 8 rfl rfl (by kernel_rfl) (by kernel_rfl) (by kernel_rfl) (fun _ _ _ h => h) (by rfl) hHeld ?hy25 ?rs25
  case hy25 => (intro w hSw; (try dsimp only at hSw); go_simp) <;> (try with_reducible rfl)
  (try simp only [Act.put, List.setIfInBounds_toArray, List.set_cons_zero, List.set_cons_succ])
  refine take_run (d := (some 62)) (v := ?v26) 9 rfl rfl (by kernel_rfl) (by kernel_rfl) (by kernel_rfl) (fun _ _ _ h => h) (by rfl) hHeld ?hy26 ?rs26
  case hy26 => (intro w hSw; (try dsimp only at hSw); go_simp) <;> (try with_reducible rfl)
  (try simp only [Act.put, List.setIfInBounds_toArray, List.set_cons_zero, List.set_cons_succ])
  refine take_run (d := (some 63)) (v := ?v27) 10 rfl rfl (by kernel_rfl) (by kernel_rfl) (by kernel_rfl) (fun _ _ _ h => h) (by rfl) hHeld ?hy27 ?rs27
  case hy27 => (intro w hSw; (try dsimp only at hSw); go_simp) <;> (try with_reducible rfl)
  (try simp only [Act.put, List.setIfInBounds_toArray, List.set_cons_zero, List.set_cons_succ])
  refine take_call 11 rfl (by kernel_rfl) (by rfl) (fun K hK => ?_)
  have hHeld0 := hHeld
  obtain ⟨h0, h1, h2, h3, h4, hw⟩ := hHeld
  obtain ⟨w9, MU, _, ho9, _, HB9⟩ := (M7.out.below (Below.drew WA.out)).put (P := Tryz.prog) 116 9 9 Tryz.underlying116 Tryz.underlying9 (t := [104, 105]) (.string ⟨#[104, 101, 108, 108, 111]⟩) rfl
  have W9 := Lib.hid (HB9 w.heap.size w hm2 (Below.drew (blw_trans W7.out WA.out)))
  have hl7 := M7.out.lt
  have hl0 := K7.out.lt
  have q1 := Lib.hid ((BV7.out.below (Below.drew WA.out)).same (ho9 _ (by omega)))
  have q2 := Lib.hid ((BB7.out.below (Below.drew WA.out)).same (ho9 _ (by omega)))
  have q3 := Lib.hid (BE.out.drew.same (ho9 _ (by omega)))
  have q4 := Lib.hid ((K7.out.below (Below.drew WA.out)).kept (ho9 _ (by omega)))
  go_simp
  refine hK.out _ _ (by exact ⟨q1.out.cell 0 _ rfl, q2.out.cell 0 _ rfl, q3.out.cell 0 _ rfl, q3.out.cell 1 _ rfl, q4, W9⟩) (fun hHeld => ?_)
  clear hK K
  (try simp only [Act.put, List.setIfInBounds_toArray, List.set_cons_zero, List.set_cons_succ])
  refine wpAnyH_done (by kernel_rfl) ?_ _
  obtain ⟨z0, z1, z2, z3, z4, zW⟩ := hHeld
  clear z0 z1 z2 z3 z4 zW MU hHeld0 h0 h1 h2 h3 h4 hw q1 q2 q3 q4 e0 e1 e2 e3 s0 s1 g1 BV7 BB7 BE K7 M7 LN2 W7 WA
  go_wp2_with fail
  rw [rounds_succ]
  go_wp2_with fail
  rw [rounds_succ]
  have HS9 := Lib.hid (HS.out.below W9.out)
  have c0 := HS9.out.cell 0 _ rfl
  have c1 := HS9.out.cell 1 _ rfl
  have f0 := HS9.out.free 0 (by simp)
  have cl := HS9.out.lt
  go_wp2_with fail
  have HS10 := Lib.hid (HS9.out.set 0 (.int .i64 1) (by simp))
  have K10 := Lib.hid ((Kpt.of_below (S := fun k => k = st ∨ k = al) W9.out).setCell ⟨st, 0, none⟩ (.int .i64 1) (fun _ => .inl rfl))
  have HM10 := Lib.hid ((((Kpt.of_below (S := fun k => k = st) W9.out).setCell ⟨st, 0, none⟩ (.int .i64 1) (fun _ => rfl)).block al hal hne).trans HMM.out)
  clear c0 c1 f0 cl
  refine wp_region_held_drew (S := fun w' => w'.cell? ⟨st, 0, none⟩ = some (.int .i64 1) ∧ w'.cell? ⟨st, 1, none⟩ = some (.map (some al)) ∧ Hid (Kpt (fun k => k = st ∨ k = al) w w')) (by kernel_rfl) (by exact ⟨HS10.out.drew.cell 0 _ rfl, HS10.out.drew.cell 1 _ rfl, Lib.hid (K10.out.below (Below.drew (Below.refl _ _)))⟩) (fun hHeld => ?_)
  refine take_run (d := (some 73)) (v := ?v29) 0 rfl rfl (by kernel_rfl) (by kernel_rfl) (by kernel_rfl) (fun _ _ _ h => h) (by rfl) hHeld ?hy29 ?rs29
  case hy29 => (intro w hSw; (try dsimp only at hSw); go_simp) <;> (try with_reducible rfl)
  (try simp only [Act.put, List.setIfInBounds_toArray, List.set_cons_zero, List.set_cons_succ])
  refine take_run (d := (some 74)) (v := ?v30) 1 rfl rfl (by kernel_rfl) (by kernel_rfl) (by kernel_rfl) (fun _ _ _ h => h) (by rfl) hHeld ?hy30 ?rs30
  case hy30 => (intro w hSw; (try dsimp only at hSw); go_simp) <;> (try with_reducible rfl)
  (try simp only [Act.put, List.setIfInBounds_toArray, List.set_cons_zero, List.set_cons_succ])
  refine take_run (d := (some 75)) (v := ?v31) 2 rfl rfl (by kernel_rfl) (by kernel_rfl) (by kernel_rfl) (fun _ _ _ h => h) (by rfl) hHeld ?hy31 ?rs31
  case hy31 => (intro w hSw; (try dsimp only at hSw); go_simp) <;> (try with_reducible rfl)
  (try simp only [Act.put, List.setIfInBounds_toArray, List.set_cons_zero, List.set_cons_succ])
  refine take_run (d := (some 76)) (v := ?v32) 3 rfl rfl (by kernel_rfl) (by kernel_rfl) (by kernel_rfl) (fun _ _ _ h => h) (by rfl) hHeld ?hy32 ?rs32
  case hy32 => (intro w hSw; (try dsimp only at hSw); go_simp) <;> (try with_reducible rfl)
  (try simp only [Act.put, List.setIfInBounds_toArray, List.set_cons_zero, List.set_cons_succ])
  refine take_run (d := (some 77)) (v := ?v33) 4 rfl rfl (by kernel_rfl) (by kernel_rfl) (by kernel_rfl) (fun _ _ _ h => h) (by rfl) hHeld ?hy33 ?rs33
  case hy33 => (intro w hSw; (try dsimp only at hSw); go_simp) <;> (try with_reducible rfl)
  (try simp only [Act.put, List.setIfInBounds_toArray, List.set_cons_zero, List.set_cons_succ])
  refine take_run (d := (some 78)) (v := ?v34) 5 rfl rfl (by kernel_rfl) (by kernel_rfl) (by kernel_rfl) (fun _ _ _ h => h) (by rfl) hHeld ?hy34 ?rs34
  case hy34 => (intro w hSw; (try dsimp only at hSw); go_simp) <;> (try with_reducible rfl)
  (try simp only [Act.put, List.setIfInBounds_toArray, List.set_cons_zero, List.set_cons_succ])
  refine take_run (d := (some 79)) (v := ?v35) 6 rfl rfl (by kernel_rfl) (by kernel_rfl) (by kernel_rfl) (fun _ _ _ h => h) (by rfl) hHeld ?hy35 ?rs35
  case hy35 => (intro w hSw; (try dsimp only at hSw); go_simp) <;> (try with_reducible rfl)
  (try simp only [Act.put, List.setIfInBounds_toArray, List.set_cons_zero, List.set_cons_succ])
  refine take_run (d := (some 80)) (v := ?v36) 7 rfl rfl (by kernel_rfl) (by kernel_rfl) (by kernel_rfl) (fun _ _ _ h => h) (by rfl) hHeld ?hy36 ?rs36
  case hy36 => (intro w hSw; (try dsimp only at hSw); go_simp) <;> (try with_reducible rfl)
  (try simp only [Act.put, List.setIfInBounds_toArray, List.set_cons_zero, List.set_cons_succ])
  refine take_run (d := (some 81)) (v := ?v37) 8 rfl rfl (by kernel_rfl) (by kernel_rfl) (by kernel_rfl) (fun _ _ _ h => h) (by rfl) hHeld ?hy37 ?rs37
  case hy37 => (intro w hSw; (try dsimp only at hSw); go_simp) <;> (try with_reducible rfl)
  (try simp only [Act.put, List.setIfInBounds_toArray, List.set_cons_zero, List.set_cons_succ])
  refine take_call 9 rfl (by kernel_rfl) (by rfl) (fun K hK => ?_)
  have hHeld0 := hHeld
  obtain ⟨h0, h1, hw⟩ := hHeld
  obtain ⟨w11, MU, hm11, hB11⟩ := put_one (w9.setCell ⟨st, 0, none⟩ (.int .i64 1)).drew al (w.heap.size + 1) HM10.out
  have HS11 := Lib.hid (HS10.out.drew.same (hB11.block st (by omega)))
  have HM11 := Lib.hid hm11
  have K11 := Lib.hid (hw.out.trans (hB11.kpt.mono (fun k _ h => .inr h)))
  clear hm11 hB11
  go_simp
  refine hK.out _ _ (by exact ⟨HS11.out.cell 0 _ rfl, HS11.out.cell 1 _ rfl, K11⟩) (fun hHeld => ?_)
  clear hK K
  (try simp only [Act.put, List.setIfInBounds_toArray, List.set_cons_zero, List.set_cons_succ])
  refine wpAnyH_done (by kernel_rfl) ?_ _
  obtain ⟨z0, z1, zW⟩ := hHeld
  clear z0 z1 zW MU hHeld0 h0 h1 hw HS10 HM10 K10 HS9 W9
  have CL := Lib.hid (clean_any al st (w.heap.size + 1) w11 HS11.out HM11.out)
  go_wp2_with fail
  refine CL.out.mono ?_
  rintro e w12 ⟨rfl, hb⟩
  have HS12 := Lib.hid (HS11.out.below hb)
  have K12 := Lib.hid (K11.out.below hb)
  have c0 := HS12.out.cell 0 _ rfl
  have cl := HS12.out.lt
  clear hb CL
  go_wp2_with fail
  go_ret2
  exact ⟨rfl, HS12.out, K12.out⟩
end Tn
end Go.Proofs.YtghohnbajbikjaaGreatDoor

