/- The walks of linguisterref1's Leap, Month, DateFault, YearDay, Years, DayNumber. -/
import Derived.Test.YtdcemkfljhdceaaGreatDoorDay
import Derived.Test.YtdcemkfljhdceaaGreatDoorHeld
namespace Go.Proofs.YtdcemkfljhdceaaGreatDoor
open Go.RowKit

set_option maxHeartbeats 400000 in
theorem rleap_any (y : Int) (w : World) (h0 : 0 ≤ y) (h1 : y ≤ 100000) :
    Calls Tryz.prog 27 #[.int .i64 y] w fun e w' => e = .returned (.bool (lpB y)) ∧ w = w' := by
  go_enter Tryz.func27, Tryz.ntmps27
  go_wp2
  all_goals go_ret
  all_goals (refine ⟨ret_bool ?_, rfl⟩; unfold lpB; rw [Bool.eq_iff_iff]; simp <;> omega)

/-- how many days a month has -/
def mlen (y m : Int) : Int := Cal.bef y (m + 1) - Cal.bef y m
theorem mlen_two (y : Int) : mlen y 2 = 28 + Cal.lp y := by simp [mlen, Cal.bef, Cal.ahd]; omega
theorem mlen_bd (y m : Int) (h1 : 1 ≤ m) (h2 : m ≤ 12) : 28 ≤ mlen y m ∧ mlen y m ≤ 31 := by
  have := Cal.bef_step y m h1 h2
  unfold mlen; omega
set_option maxHeartbeats 1000000 in
theorem rmonth_two (y : Int) (w : World) (h0 : 0 ≤ y) (h1 : y ≤ 100000) :
    Calls Tryz.prog 16 #[.int .i64 y, .int .i64 2] w fun e w' => e = .returned (.int .i64 (mlen y 2)) ∧ w = w' := by
  rw [mlen_two, lp_of]
  have C := Lib.hid fun w => rleap_any y w h0 h1
  cases hl : lpB y
  · rw [hl] at C
    go_enter Tryz.func16, Tryz.ntmps16
    go_wp2_with fail
    refine (C.out _).mono ?_
    rintro e w' ⟨rfl, rfl⟩
    go_wp2_with fail
    go_ret
    exact ⟨ret_int (by simp), rfl⟩
  · rw [hl] at C
    go_enter Tryz.func16, Tryz.ntmps16
    go_wp2_with fail
    refine (C.out _).mono ?_
    rintro e w' ⟨rfl, rfl⟩
    go_wp2_with fail
    go_ret
    exact ⟨ret_int (by simp), rfl⟩
set_option maxHeartbeats 2000000 in
theorem rmonth_any (y m : Int) (w : World) (h0 : 0 ≤ y) (h1 : y ≤ 100000) (m0 : 1 ≤ m) (m1 : m ≤ 12) :
    Calls Tryz.prog 16 #[.int .i64 y, .int .i64 m] w fun e w' => e = .returned (.int .i64 (mlen y m)) ∧ w = w' := by
  by_cases h2 : m = 2
  · subst h2; exact rmonth_two y w h0 h1
  rcases Cal.twelve m m0 m1 with rfl | rfl | rfl | rfl | rfl | rfl | rfl | rfl | rfl | rfl | rfl | rfl
  all_goals first | (exact absurd rfl h2) | skip
  all_goals
    clear h2 m0 m1
    go_enter Tryz.func16, Tryz.ntmps16
    go_wp2_with fail
    go_ret
    exact ⟨ret_int (by simp [mlen, Cal.bef, Cal.ahd]; try omega), rfl⟩

set_option maxRecDepth 100000 in
set_option maxHeartbeats 1000000 in
theorem ryearday_any (y m d : Int) (w : World) (h : Cal.vld y m d) :
    Calls Tryz.prog 18 #[.agg #[.int .i64 y, .int .i64 m, .int .i64 d]] w fun e w' => e = .returned (.int .i64 (d + Cal.bef y m)) ∧ Below w.heap.size w w' := by
  have st := Cal.bef_step y m h.2.2.1 h.2.2.2.1
  obtain ⟨v1, v2, v3, v4, v5, v6⟩ := h
  have CM := Lib.hid fun k w (k0 : 1 ≤ k) (k1 : k ≤ 12) => rmonth_any y k w (by omega) (by omega) k0 k1
  have HB := Lib.hid (Cal.bef_bd y)
  have H1 := Lib.hid (Cal.bef_one y)
  have d31 : d ≤ 31 := by omega
  clear st v6
  go_enter Tryz.func18, Tryz.ntmps18
  go_wp2_with fail
  have B1 := Boxed.made w #[.int .i64 y, .int .i64 m, .int .i64 d] 23
  have W1 := Lib.hid (blw_alloc w (.cells #[.int .i64 y, .int .i64 m, .int .i64 d] 23))
  generalize w.alloc (.cells #[.int .i64 y, .int .i64 m, .int .i64 d] 23) = w1 at *
  have k0 := B1.cell 0 _ rfl
  have k1 := B1.cell 1 _ rfl
  have k2 := B1.cell 2 _ rfl
  clear B1
  go_loop [3, 4] (fun n i => ∃ k : Int, 1 ≤ k ∧ k ≤ m ∧ i = .int .i64 k ∧ n = .int .i64 (d + Cal.bef y k)) (fun _ i => 12 - (RowKit.intOf i).toNat)
  case atStart => exact ⟨1, by omega, by omega, rfl, by rw [H1.out, Int.add_zero]⟩
  case round =>
    obtain ⟨k, q0, q1, rfl, rfl⟩ := hrel
    have hb := HB.out k
    have hb2 := HB.out (k + 1)
    by_cases hlt : k < m
    · have C := Lib.hid fun w => CM.out k w q0 (by omega)
      have E := Lib.hid (show Cal.bef y k + mlen y k = Cal.bef y (k + 1) by unfold mlen; omega)
      have ml := mlen_bd y k q0 (by omega)
      clear hb2
      go_wp2_with fail
      refine (C.out _).mono ?_
      rintro e w' ⟨rfl, rfl⟩
      go_wp2_with fail
      go_round
      case rel => exact ⟨k + 1, by omega, by omega, rfl, by rw [← E.out, ← Int.add_assoc]⟩
      case measure => simp [RowKit.intOf]; omega
    · have e : k = m := by omega
      subst e
      go_wp2_with fail
      go_ret
      exact ⟨rfl, W1.out⟩

/-- how many years of 366 days lie ahead of a fourth one -/
def cnt (k : Int) : Int := (k - 4) / 4 - (k - 4) / 100 + (k - 4) / 400
theorem cnt_step (k : Int) (h : k % 4 = 0) : cnt (k + 4) = cnt k + Cal.lp k := by
  unfold cnt Cal.lp
  split <;> omega
theorem cnt_end (y k : Int) (h4 : k % 4 = 0) (h1 : y ≤ k) (h2 : k < y + 4) : Cal.yr y = 365 * (y - 1) + cnt k := by
  unfold cnt Cal.yr
  omega
theorem cnt_bd (k : Int) (h1 : 4 ≤ k) (h2 : k ≤ 30000) : 0 ≤ cnt k ∧ cnt k ≤ 10000 := by unfold cnt; omega
set_option maxRecDepth 100000 in
set_option maxHeartbeats 1000000 in
theorem ryears_any (y : Int) (w : World) (y0 : 1 ≤ y) (y1 : y ≤ 20000) :
    Calls Tryz.prog 17 #[.int .i64 y] w fun e w' => e = .returned (.int .i64 (Cal.yr y)) ∧ w = w' := by
  have CL := Lib.hid fun k w (k0 : 0 ≤ k) (k1 : k ≤ 100000) => rleap_any k w k0 k1
  have HE := Lib.hid (cnt_end y)
  go_enter Tryz.func17, Tryz.ntmps17
  go_wp2_with fail
  go_loop [3, 4] (fun n i => ∃ k : Int, 4 ≤ k ∧ k < y + 4 ∧ Hid (k % 4 = 0) ∧ i = .int .i64 k ∧ n = .int .i64 (365 * (y - 1) + cnt k)) (fun _ i => 30000 - (RowKit.intOf i).toNat)
  case atStart => exact ⟨4, by omega, by omega, Lib.hid (by decide), rfl, by show _ = Value.int .i64 (365 * (y - 1) + 0); rw [Int.add_zero]⟩
  case round =>
    obtain ⟨k, q0, q1, HK, rfl, rfl⟩ := hrel
    have cb := cnt_bd k q0 (by omega)
    by_cases hlt : k < y
    · have C := Lib.hid fun w => CL.out k w (by omega) (by omega)
      have S := cnt_step k HK.out
      have HK2 : Hid ((k + 4) % 4 = 0) := Lib.hid (by have := HK.out; omega)
      rw [lp_of] at S
      cases hl : lpB k
      · rw [hl] at C S
        have S' := Lib.hid S
        clear S hl
        go_wp2_with fail
        refine (C.out _).mono ?_
        rintro e w' ⟨rfl, rfl⟩
        go_wp2_with fail
        go_round
        case rel => exact ⟨k + 4, by omega, by omega, HK2, rfl, by rw [S'.out]; simp⟩
        case measure => simp [RowKit.intOf]; omega
      · rw [hl] at C S
        have S' := Lib.hid S
        clear S hl
        go_wp2_with fail
        refine (C.out _).mono ?_
        rintro e w' ⟨rfl, rfl⟩
        go_wp2_with fail
        go_round
        case rel => exact ⟨k + 4, by omega, by omega, HK2, rfl, by rw [S'.out]; simp [Int.add_assoc]⟩
        case measure => simp [RowKit.intOf]; omega
    · have E := Lib.hid (HE.out k HK.out (by omega) q1)
      go_wp2_with fail
      go_ret
      exact ⟨ret_int (by rw [E.out]), rfl⟩

set_option maxRecDepth 100000 in
set_option maxHeartbeats 1000000 in
theorem rnumber_any (y m d : Int) (w : World) (h : Cal.vld y m d) :
    Calls Tryz.prog 6 #[.agg #[.int .i64 y, .int .i64 m, .int .i64 d]] w fun e w' => e = .returned (.int .i64 (Cal.num y m d)) ∧ Below w.heap.size w w' := by
  have CY : Hid (∀ w : World, Calls Tryz.prog 17 #[.int .i64 y] w fun e w' => e = .returned (.int .i64 (Cal.yr y)) ∧ Below w.heap.size w w') := Lib.hid (fun w => (ryears_any y w h.1 (by have := h.2.1; omega)).mono fun _ _ ⟨he, hw⟩ => ⟨he, hw ▸ Below.refl _ _⟩)
  have CD := Lib.hid fun w => ryearday_any y m d w h
  have yb := Cal.yr_bd y h.1 (by have := h.2.1; omega)
  have bb := Cal.bef_bd y m
  have st := Cal.bef_step y m h.2.2.1 h.2.2.2.1
  obtain ⟨v1, v2, v3, v4, v5, v6⟩ := h
  have E := Lib.hid (show Cal.num y m d = Cal.yr y + (d + Cal.bef y m) - 1 by unfold Cal.num; omega)
  have d31 : d ≤ 31 := by omega
  have s1 : IntKind.i64.wrap (Cal.yr y + (d + Cal.bef y m)) = Cal.yr y + (d + Cal.bef y m) := IntWalk.i64_in _ (by omega)
  have s2 : IntKind.i64.wrap (Cal.yr y + (d + Cal.bef y m) - 1) = Cal.yr y + (d + Cal.bef y m) - 1 := IntWalk.i64_in _ (by omega)
  generalize Cal.yr y = Y at *
  generalize Cal.bef y m = B at *
  generalize hz : d + B = Z at *
  clear hz st v6
  go_enter Tryz.func6, Tryz.ntmps6
  go_wp2_with fail
  have B1 := Boxed.made w #[.int .i64 y, .int .i64 m, .int .i64 d] 23
  have W1 := Lib.hid (blw_alloc w (.cells #[.int .i64 y, .int .i64 m, .int .i64 d] 23))
  refine wp_region_held_drew (S := fun w' => w'.cell? ⟨w.heap.size, 0, none⟩ = some (.int .i64 y) ∧ w'.cell? ⟨w.heap.size, 1, none⟩ = some (.int .i64 m) ∧ w'.cell? ⟨w.heap.size, 2, none⟩ = some (.int .i64 d) ∧ Hid (Below w.heap.size w w')) (by kernel_rfl) (by exact ⟨by go_keep, by go_keep, by go_keep, Lib.hid (Below.drew W1.out)⟩) (fun hHeld => ?_)
  refine take_run (d := (some 3)) (v := ?v1) 0 rfl rfl (by kernel_rfl) (by kernel_rfl) (by kernel_rfl) (fun _ _ _ h => h) (by rfl) hHeld ?hy1 ?rs1
  case hy1 => (intro w hSw; (try dsimp only at hSw); go_simp) <;> (try with_reducible rfl)
  (try simp only [Act.put, List.setIfInBounds_toArray, List.set_cons_zero, List.set_cons_succ])
  refine take_run (d := (some 4)) (v := ?v2) 1 rfl rfl (by kernel_rfl) (by kernel_rfl) (by kernel_rfl) (fun _ _ _ h => h) (by rfl) hHeld ?hy2 ?rs2
  case hy2 => (intro w hSw; (try dsimp only at hSw); go_simp) <;> (try with_reducible rfl)
  (try simp only [Act.put, List.setIfInBounds_toArray, List.set_cons_zero, List.set_cons_succ])
  refine take_run (d := (some 6)) (v := ?v3) 3 rfl rfl (by kernel_rfl) (by kernel_rfl) (by kernel_rfl) (fun _ _ _ h => h) (by rfl) hHeld ?hy3 ?rs3
  case hy3 => (intro w hSw; (try dsimp only at hSw); go_simp) <;> (try with_reducible rfl)
  (try simp only [Act.put, List.setIfInBounds_toArray, List.set_cons_zero, List.set_cons_succ])
  refine take_call 2 rfl (by kernel_rfl) (by rfl) (fun K hK => ?_)
  go_simp
  refine (CY.out _).mono ?_
  rintro e w' ⟨rfl, hb⟩
  refine hK.out _ _ (by obtain ⟨h0, h1, h2, hw⟩ := hHeld; exact ⟨cell_keep h0 hb, cell_keep h1 hb, cell_keep h2 hb, Lib.hid (blw_trans hw.out hb)⟩) (fun hHeld => ?_)
  clear hK K
  (try simp only [Act.put, List.setIfInBounds_toArray, List.set_cons_zero, List.set_cons_succ])
  refine take_call 4 rfl (by kernel_rfl) (by rfl) (fun K hK => ?_)
  go_simp
  refine (CD.out _).mono ?_
  rintro e w' ⟨rfl, hb⟩
  refine hK.out _ _ (by obtain ⟨h0, h1, h2, hw⟩ := hHeld; exact ⟨cell_keep h0 hb, cell_keep h1 hb, cell_keep h2 hb, Lib.hid (blw_trans hw.out hb)⟩) (fun hHeld => ?_)
  clear hK K
  (try simp only [Act.put, List.setIfInBounds_toArray, List.set_cons_zero, List.set_cons_succ])
  refine take_run (d := (some 8)) (v := ?v6) 5 rfl rfl (by kernel_rfl) (by kernel_rfl) (by kernel_rfl) (fun _ _ _ h => h) (by rfl) hHeld ?hy6 ?rs6
  case hy6 => (intro w hSw; (try dsimp only at hSw); go_simp) <;> (try with_reducible rfl)
  (try simp only [Act.put, List.setIfInBounds_toArray, List.set_cons_zero, List.set_cons_succ])
  refine take_run (d := (some 9)) (v := ?v7) 6 rfl rfl (by kernel_rfl) (by kernel_rfl) (by kernel_rfl) (fun _ _ _ h => h) (by rfl) hHeld ?hy7 ?rs7
  case hy7 => (intro w hSw; (try dsimp only at hSw); go_simp) <;> (try with_reducible rfl)
  (try simp only [Act.put, List.setIfInBounds_toArray, List.set_cons_zero, List.set_cons_succ])
  refine take_run (d := (some 2)) (v := ?v8) 7 rfl rfl (by kernel_rfl) (by kernel_rfl) (by kernel_rfl) (fun _ _ _ h => h) (by rfl) hHeld ?hy8 ?rs8
  case hy8 => (intro w hSw; (try dsimp only at hSw); go_simp) <;> (try with_reducible rfl)
  (try simp only [Act.put, List.setIfInBounds_toArray, List.set_cons_zero, List.set_cons_succ])
  refine wpAnyH_done (by kernel_rfl) ?_ _
  obtain ⟨z0, z1, z2, zW⟩ := hHeld
  go_wp2
  go_ret
  exact ⟨ret_int (by rw [E.out]), zW.out⟩

end Go.Proofs.YtdcemkfljhdceaaGreatDoor
