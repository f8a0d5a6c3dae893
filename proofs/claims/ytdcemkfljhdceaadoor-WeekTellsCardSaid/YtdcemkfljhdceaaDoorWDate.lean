/- The walk of week.Date. Conditions: the table 'ahead' holds its numbers. -/
import Derived.Test.YtdcemkfljhdceaaDoorWeek
import Derived.Deep.RegionHeld3
namespace Go.Proofs.YtdcemkfljhdceaaDoor
open Go.RowKit

def rightWk (y k d : Int) : Prop := 1 ≤ y ∧ y ≤ 9999 ∧ 1 ≤ k ∧ k ≤ Cal.wks y ∧ 1 ≤ d ∧ d ≤ 7

set_option maxRecDepth 100000 in
set_option maxHeartbeats 800000 in
theorem weekDate_yes (y k d : Int) (w : World) (h : rightWk y k d) (hT : TabW w) (hn : Cal.fst y + 7 * (k - 1) + d - 1 < 3652059) :
    Calls Tryd.prog 12 #[.agg #[.int .i64 y, .int .i64 k, .int .i64 d]] w (IsDay (Cal.fst y + 7 * (k - 1) + d - 1) w) := by
  obtain ⟨y1, y2, k1, k2, d1, d2⟩ := h
  have r1 := Cal.fst_rng y y1 (by omega)
  have hk : k ≤ 53 := by rcases Cal.wks_52 y with g | g <;> omega
  have hT2 := (hT.alloc (.cells #[.int .i64 y, .int .i64 k, .int .i64 d] 25)).alloc (.cells #[.int .i64 0, .int .i64 0, .int .i64 0] 23)
  have H1 := Lib.hid fun W => first_any y W y1 (by omega)
  have H2 := Lib.hid fun W hW => of_yes (Cal.fst y + 7 * (k - 1) + d - 1) W (by omega) hn hW
  have s1 : IntKind.i64.wrap (k - 1) = k - 1 := IntWalk.i64_in _ (by omega)
  have s2 : IntKind.i64.wrap (7 * (k - 1)) = 7 * (k - 1) := IntWalk.i64_in _ (by omega)
  have s3 : IntKind.i64.wrap (Cal.fst y + 7 * (k - 1)) = Cal.fst y + 7 * (k - 1) := IntWalk.i64_in _ (by omega)
  have s4 : IntKind.i64.wrap (Cal.fst y + 7 * (k - 1) + d) = Cal.fst y + 7 * (k - 1) + d := IntWalk.i64_in _ (by omega)
  have s5 : IntKind.i64.wrap (Cal.fst y + 7 * (k - 1) + d - 1) = Cal.fst y + 7 * (k - 1) + d - 1 := IntWalk.i64_in _ (by omega)
  go_enter Tryd.func12, Tryd.ntmps12
  go_wp2_with (go_at_call 15; refine (weeks_yes _ _ y1 y2).mono ?_; rintro e w' ⟨rfl, rfl⟩)
  go_region_held3 (fun w' => w'.cell? ⟨w.heap.size, 0, none⟩ = some (.int .i64 y) ∧ w'.cell? ⟨w.heap.size, 1, none⟩ = some (.int .i64 k) ∧ w'.cell? ⟨w.heap.size, 2, none⟩ = some (.int .i64 d)) (first | go_keep | (go_split_ands; refine ⟨?_, ?_, ?_⟩ <;> (rw [hb.cell (by simp; omega)]; simp [*])) | (go_split_ands; refine ⟨?_, ?_, ?_⟩ <;> simp [*]))
    (first | (go_at_call 25; refine (H1.out _).mono ?_; rintro e w' ⟨rfl, rfl⟩) | (go_at_call 17; refine (H2.out _ (by exact hT2)).mono ?_; rintro e w' ⟨y', m', d', rfl, hv, hnn, hb⟩; have k0 := hb.cell (p := ⟨w.heap.size + 1, 0, none⟩) (by simp); have k1 := hb.cell (p := ⟨w.heap.size + 1, 1, none⟩) (by simp); have k2 := hb.cell (p := ⟨w.heap.size + 1, 2, none⟩) (by simp); have f0 := hb.frozen (p := ⟨w.heap.size + 1, 0, none⟩) (by simp); have f1 := hb.frozen (p := ⟨w.heap.size + 1, 1, none⟩) (by simp); have f2 := hb.frozen (p := ⟨w.heap.size + 1, 2, none⟩) (by simp); simp at k0 k1 k2 f0 f1 f2))
  go_wp2
  refine bodyPost_ret (v := .tuple #[.agg #[.int .i64 y', .int .i64 m', .int .i64 d'], .nilIface]) (by simp [results, Tryd.results12, go_sem, k0, k1, k2]) rfl ⟨y', m', d', rfl, hv, hnn, ?_⟩
  exact (((blw_trans (Below.drew (blw_trans (blw_alloc w _) (blw_alloc _ _))) hb).setCell (by simp) _).setCell (by simp) _).setCell (by simp) _

set_option maxRecDepth 100000 in
set_option maxHeartbeats 800000 in
theorem weekDate_far (y k d : Int) (w : World) (h : rightWk y k d) (hn : 3652059 ≤ Cal.fst y + 7 * (k - 1) + d - 1) :
    Calls Tryd.prog 12 #[.agg #[.int .i64 y, .int .i64 k, .int .i64 d]] w fun e w' => e = .returned (.tuple #[.agg #[.int .i64 0, .int .i64 0, .int .i64 0], errV 1]) ∧ Below w.heap.size w w' := by
  obtain ⟨y1, y2, k1, k2, d1, d2⟩ := h
  have r1 := Cal.fst_rng y y1 (by omega)
  have hk : k ≤ 53 := by rcases Cal.wks_52 y with g | g <;> omega
  have H1 := Lib.hid fun W => first_any y W y1 (by omega)
  have H2 := Lib.hid fun W => of_no (Cal.fst y + 7 * (k - 1) + d - 1) W (.inr hn)
  have s1 : IntKind.i64.wrap (k - 1) = k - 1 := IntWalk.i64_in _ (by omega)
  have s2 : IntKind.i64.wrap (7 * (k - 1)) = 7 * (k - 1) := IntWalk.i64_in _ (by omega)
  have s3 : IntKind.i64.wrap (Cal.fst y + 7 * (k - 1)) = Cal.fst y + 7 * (k - 1) := IntWalk.i64_in _ (by omega)
  have s4 : IntKind.i64.wrap (Cal.fst y + 7 * (k - 1) + d) = Cal.fst y + 7 * (k - 1) + d := IntWalk.i64_in _ (by omega)
  have s5 : IntKind.i64.wrap (Cal.fst y + 7 * (k - 1) + d - 1) = Cal.fst y + 7 * (k - 1) + d - 1 := IntWalk.i64_in _ (by omega)
  go_enter Tryd.func12, Tryd.ntmps12
  go_wp2_with (go_at_call 15; refine (weeks_yes _ _ y1 y2).mono ?_; rintro e w' ⟨rfl, rfl⟩)
  go_region_held3 (fun w' => w'.cell? ⟨w.heap.size, 0, none⟩ = some (.int .i64 y) ∧ w'.cell? ⟨w.heap.size, 1, none⟩ = some (.int .i64 k) ∧ w'.cell? ⟨w.heap.size, 2, none⟩ = some (.int .i64 d)) (first | go_keep | (go_split_ands; refine ⟨?_, ?_, ?_⟩ <;> (rw [hb.cell (by simp; omega)]; simp [*])) | (go_split_ands; refine ⟨?_, ?_, ?_⟩ <;> simp [*]))
    (first | (go_at_call 25; refine (H1.out _).mono ?_; rintro e w' ⟨rfl, rfl⟩) | (go_at_call 17; refine (H2.out _).mono ?_; rintro e w' ⟨rfl, hb⟩; have k0 := hb.cell (p := ⟨w.heap.size + 1, 0, none⟩) (by simp); have k1 := hb.cell (p := ⟨w.heap.size + 1, 1, none⟩) (by simp); have k2 := hb.cell (p := ⟨w.heap.size + 1, 2, none⟩) (by simp); have f0 := hb.frozen (p := ⟨w.heap.size + 1, 0, none⟩) (by simp); have f1 := hb.frozen (p := ⟨w.heap.size + 1, 1, none⟩) (by simp); have f2 := hb.frozen (p := ⟨w.heap.size + 1, 2, none⟩) (by simp); simp at k0 k1 k2 f0 f1 f2))
  go_wp2
  refine bodyPost_ret (v := .tuple #[.agg #[.int .i64 0, .int .i64 0, .int .i64 0], errV 1]) (by simp [results, Tryd.results12, go_sem, k0, k1, k2]) rfl ⟨rfl, ?_⟩
  exact (((blw_trans (Below.drew (blw_trans (blw_alloc w _) (blw_alloc _ _))) hb).setCell (by simp) _).setCell (by simp) _).setCell (by simp) _

set_option maxRecDepth 100000 in
set_option maxHeartbeats 1000000 in
theorem weekDate_year (y k d : Int) (w : World) (h : y < 1 ∨ 9999 < y) :
    Calls Tryd.prog 12 #[.agg #[.int .i64 y, .int .i64 k, .int .i64 d]] w fun e w' => e = .returned (.tuple #[.agg #[.int .i64 0, .int .i64 0, .int .i64 0], errV 1]) ∧ Below w.heap.size w w' := by
  go_enter Tryd.func12, Tryd.ntmps12
  go_wp2_with (go_at_call 15; refine (weeks_no _ _ h).mono ?_; rintro e w' ⟨rfl, rfl⟩)
  refine bodyPost_ret (v := .tuple #[.agg #[.int .i64 0, .int .i64 0, .int .i64 0], errV 1]) (by simp [results, Tryd.results12, go_sem]) rfl ⟨rfl, ?_⟩
  exact blw_trans (blw_alloc w _) (blw_alloc _ _)

set_option maxRecDepth 100000 in
set_option maxHeartbeats 1000000 in
theorem weekDate_bad1 (y k d : Int) (w : World) (y1 : 1 ≤ y) (y2 : y ≤ 9999) (h1 : k < 1) :
    Calls Tryd.prog 12 #[.agg #[.int .i64 y, .int .i64 k, .int .i64 d]] w fun e w' => e = .returned (.tuple #[.agg #[.int .i64 0, .int .i64 0, .int .i64 0], errV 1]) ∧ Below w.heap.size w w' := by
  have e1 : decide (k < 1) = true := dec_yes h1
  go_enter Tryd.func12, Tryd.ntmps12
  go_wp2_with (go_at_call 15; refine (weeks_yes _ _ y1 y2).mono ?_; rintro e w' ⟨rfl, rfl⟩)
  refine bodyPost_ret (v := .tuple #[.agg #[.int .i64 0, .int .i64 0, .int .i64 0], errV 1]) (by simp [results, Tryd.results12, go_sem]) rfl ⟨rfl, ?_⟩
  exact blw_trans (blw_alloc w _) (blw_alloc _ _)

set_option maxRecDepth 100000 in
set_option maxHeartbeats 1000000 in
theorem weekDate_bad2 (y k d : Int) (w : World) (y1 : 1 ≤ y) (y2 : y ≤ 9999) (h1 : ¬ k < 1) (h2 : Cal.wks y < k) :
    Calls Tryd.prog 12 #[.agg #[.int .i64 y, .int .i64 k, .int .i64 d]] w fun e w' => e = .returned (.tuple #[.agg #[.int .i64 0, .int .i64 0, .int .i64 0], errV 1]) ∧ Below w.heap.size w w' := by
  have e1 : decide (k < 1) = false := dec_no h1
  have e2 : decide (Cal.wks y < k) = true := dec_yes h2
  go_enter Tryd.func12, Tryd.ntmps12
  go_wp2_with (go_at_call 15; refine (weeks_yes _ _ y1 y2).mono ?_; rintro e w' ⟨rfl, rfl⟩)
  refine bodyPost_ret (v := .tuple #[.agg #[.int .i64 0, .int .i64 0, .int .i64 0], errV 1]) (by simp [results, Tryd.results12, go_sem]) rfl ⟨rfl, ?_⟩
  exact blw_trans (blw_alloc w _) (blw_alloc _ _)

set_option maxRecDepth 100000 in
set_option maxHeartbeats 1000000 in
theorem weekDate_bad3 (y k d : Int) (w : World) (y1 : 1 ≤ y) (y2 : y ≤ 9999) (h1 : ¬ k < 1) (h2 : ¬ Cal.wks y < k) (h3 : d < 1) :
    Calls Tryd.prog 12 #[.agg #[.int .i64 y, .int .i64 k, .int .i64 d]] w fun e w' => e = .returned (.tuple #[.agg #[.int .i64 0, .int .i64 0, .int .i64 0], errV 1]) ∧ Below w.heap.size w w' := by
  have e1 : decide (k < 1) = false := dec_no h1
  have e2 : decide (Cal.wks y < k) = false := dec_no h2
  have e3 : decide (d < 1) = true := dec_yes h3
  go_enter Tryd.func12, Tryd.ntmps12
  go_wp2_with (go_at_call 15; refine (weeks_yes _ _ y1 y2).mono ?_; rintro e w' ⟨rfl, rfl⟩)
  refine bodyPost_ret (v := .tuple #[.agg #[.int .i64 0, .int .i64 0, .int .i64 0], errV 1]) (by simp [results, Tryd.results12, go_sem]) rfl ⟨rfl, ?_⟩
  exact blw_trans (blw_alloc w _) (blw_alloc _ _)

set_option maxRecDepth 100000 in
set_option maxHeartbeats 1000000 in
theorem weekDate_bad4 (y k d : Int) (w : World) (y1 : 1 ≤ y) (y2 : y ≤ 9999) (h1 : ¬ k < 1) (h2 : ¬ Cal.wks y < k) (h3 : ¬ d < 1) (h4 : 7 < d) :
    Calls Tryd.prog 12 #[.agg #[.int .i64 y, .int .i64 k, .int .i64 d]] w fun e w' => e = .returned (.tuple #[.agg #[.int .i64 0, .int .i64 0, .int .i64 0], errV 1]) ∧ Below w.heap.size w w' := by
  have e1 : decide (k < 1) = false := dec_no h1
  have e2 : decide (Cal.wks y < k) = false := dec_no h2
  have e3 : decide (d < 1) = false := dec_no h3
  have e4 : decide (7 < d) = true := dec_yes h4
  go_enter Tryd.func12, Tryd.ntmps12
  go_wp2_with (go_at_call 15; refine (weeks_yes _ _ y1 y2).mono ?_; rintro e w' ⟨rfl, rfl⟩)
  refine bodyPost_ret (v := .tuple #[.agg #[.int .i64 0, .int .i64 0, .int .i64 0], errV 1]) (by simp [results, Tryd.results12, go_sem]) rfl ⟨rfl, ?_⟩
  exact blw_trans (blw_alloc w _) (blw_alloc _ _)

theorem weekDate_no (y k d : Int) (w : World) (h : ¬ (rightWk y k d ∧ Cal.fst y + 7 * (k - 1) + d - 1 < 3652059)) :
    Calls Tryd.prog 12 #[.agg #[.int .i64 y, .int .i64 k, .int .i64 d]] w fun e w' => e = .returned (.tuple #[.agg #[.int .i64 0, .int .i64 0, .int .i64 0], errV 1]) ∧ Below w.heap.size w w' := by
  by_cases hy : y < 1 ∨ 9999 < y
  · exact weekDate_year y k d w hy
  by_cases h1 : k < 1
  · exact weekDate_bad1 y k d w (by omega) (by omega) h1
  by_cases h2 : Cal.wks y < k
  · exact weekDate_bad2 y k d w (by omega) (by omega) h1 h2
  by_cases h3 : d < 1
  · exact weekDate_bad3 y k d w (by omega) (by omega) h1 h2 h3
  by_cases h4 : 7 < d
  · exact weekDate_bad4 y k d w (by omega) (by omega) h1 h2 h3 h4
  have hr : rightWk y k d := ⟨by omega, by omega, by omega, by omega, by omega, by omega⟩
  by_cases h5 : Cal.fst y + 7 * (k - 1) + d - 1 < 3652059
  · exact absurd ⟨hr, h5⟩ h
  · exact weekDate_far y k d w hr (by omega)

set_option maxRecDepth 100000 in
set_option maxHeartbeats 1000000 in
theorem weekly_any (w : World) (hT : TabW w) :
    Calls Tryd.prog 5 #[] w fun e w' => e = .returned (.bool true) ∧ Below w.heap.size w w' := by
  have c : ∀ w : World, TabW w → Calls Tryd.prog 8 #[.agg #[.int .i64 2021, .int .i64 1, .int .i64 3]] w fun e w' => e = .returned (.tuple #[.agg #[.int .i64 2020, .int .i64 53, .int .i64 7], .nilIface]) ∧ Below w.heap.size w w' := fun w h =>
    (weekOf_yes 2021 1 3 w (by decide) h).mono fun e w' ⟨y, he, hk, hb⟩ => by
      have hn : Cal.num 2021 1 3 = 737792 := by decide
      obtain rfl : y = 2020 := Cal.isWk_inj hk (by rw [hn]; decide)
      exact ⟨he, hb⟩
  have H := Lib.hid c
  clear c
  go_enter Tryd.func5, Tryd.ntmps5
  go_wp2_with (go_at_call 8; refine (H.out _ hT).mono ?_; rintro e w' ⟨rfl, hb⟩)
  go_ret
  exact ⟨ret_bool (by simp), blw_trans hb (blw_alloc _ _)⟩
end Go.Proofs.YtdcemkfljhdceaaDoor
