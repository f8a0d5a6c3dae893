/- The walk of date.Of: the right day of a number. Conditions: the table 'ahead' holds its numbers. -/
import Derived.Test.YtdcemkfljhdceaaGreatDoorCheck
namespace Go.Proofs.YtdcemkfljhdceaaGreatDoor
open Go.RowKit

theorem year_max (w : World) : Calls Tryz.prog 22 #[.int .i64 10000] w fun e w' => e = .returned (.int .i64 3652059) ∧ w = w' := by
  have h := year_any 10000 w (by omega) (by omega)
  rwa [Cal.yr_max] at h

set_option maxRecDepth 100000 in
set_option maxHeartbeats 1000000 in
theorem of_no (n : Int) (w : World) (h : n < 0 ∨ 3652059 ≤ n) :
    Calls Tryz.prog 13 #[.int .i64 n] w fun e w' => e = .returned (.tuple #[.agg #[.int .i64 0, .int .i64 0, .int .i64 0], errV 1]) ∧ Below w.heap.size w w' := by
  rcases h with h | h
  · have d1 : decide (n < 0) = true := dec_yes h
    go_enter Tryz.func13, Tryz.ntmps13
    go_wp2
    exact bodyPost_ret (v := .tuple #[.agg #[.int .i64 0, .int .i64 0, .int .i64 0], errV 1]) (by simp [results, Tryz.results13, go_sem]) rfl ⟨rfl, ((Below.refl _ _).alloc (Nat.le_refl _) _)⟩
  · have d1 : ¬ n < 0 := by omega
    go_enter Tryz.func13, Tryz.ntmps13
    go_wp2_with (go_at_call 22; refine (year_max _).mono ?_; rintro e w' ⟨rfl, rfl⟩)
    exact bodyPost_ret (v := .tuple #[.agg #[.int .i64 0, .int .i64 0, .int .i64 0], errV 1]) (by simp [results, Tryz.results13, go_sem]) rfl ⟨rfl, ((Below.refl _ _).alloc (Nat.le_refl _) _)⟩

/-- the right day of number n -/
def IsDay (n : Int) (w : World) (e : Ending) (w' : World) : Prop :=
  ∃ y m d : Int, e = .returned (.tuple #[.agg #[.int .i64 y, .int .i64 m, .int .i64 d], .nilIface]) ∧ Cal.vld y m d ∧ Cal.num y m d = n ∧ Below w.heap.size w w'

theorem isDay_mk {n y m : Int} (y0 : 1 ≤ y) (y1 : y ≤ 9999) (m0 : 1 ≤ m) (m1 : m ≤ 12) (a : Cal.yr y + Cal.bef y m ≤ n) (b : n < Cal.yr y + Cal.bef y (m + 1)) :
    Cal.vld y m (n - Cal.yr y - Cal.bef y m + 1) ∧ Cal.num y m (n - Cal.yr y - Cal.bef y m + 1) = n :=
  ⟨⟨y0, y1, m0, m1, by omega, by omega⟩, by unfold Cal.num; omega⟩

set_option maxRecDepth 100000 in
set_option maxHeartbeats 2000000 in
theorem of_yes (n : Int) (w : World) (h0 : 0 ≤ n) (h1 : n < 3652059) (hT : TabW w) :
    Calls Tryz.prog 13 #[.int .i64 n] w (IsDay n w) := by
  have g := Cal.has_day_y n h0 h1
  go_enter Tryz.func13, Tryz.ntmps13
  go_wp2_with (go_at_call 22; refine (year_max _).mono ?_; rintro e w' ⟨rfl, rfl⟩)
  go_loop [4] (fun t => ∃ y : Int, 1 ≤ y ∧ y ≤ 9999 ∧ Cal.yr y ≤ n ∧ t = .int .i64 y) (fun t => (9999 - intOf t).toNat)
  case atStart => exact ⟨_, by omega, by omega, g.2.2, rfl⟩
  case round =>
    obtain ⟨y, hy1, hy2, hy3, rfl⟩ := hrel
    clear g
    have hs := Cal.yr_succ y
    have hl := Cal.lp_01 y
    by_cases hc : Cal.yr (y + 1) ≤ n
    · have hlt : y + 1 ≤ 9999 := by
        rcases Int.lt_or_le (y + 1) 10000 with g | g
        · omega
        · have := Cal.yr_mono 10000 (y + 1) g; rw [Cal.yr_max] at this; omega
      go_wp2_with (go_at_call 22; refine (year_any _ _ (by omega) (by omega)).mono ?_; rintro e w' ⟨rfl, rfl⟩)
      go_round
      case rel => exact ⟨y + 1, by omega, by omega, hc, rfl⟩
      case measure => simp [intOf]; omega
    · have HS := Lib.hid hs
      have b13 := Lib.hid (Cal.bef_thirteen y)
      have hyb := Cal.yr_bd y hy1 (by omega)
      clear hs
      go_wp2_with (go_at_call 22; refine (year_any _ _ (by omega) (by omega)).mono ?_; rintro e w' ⟨rfl, rfl⟩)
      go_loop [5] (fun k => ∃ m : Int, 1 ≤ m ∧ m ≤ 12 ∧ k = .int .i64 m ∧ Cal.yr y + Cal.bef y m ≤ n) (fun k => (12 - intOf k).toNat)
      case atStart => exact ⟨1, by omega, by omega, rfl, by rw [Cal.bef_one]; omega⟩
      case round =>
        obtain ⟨m, hm1, hm2, rfl, hr⟩ := hrel
        have b1 := Cal.bef_bd y m
        have b2 := Cal.bef_bd y (m + 1)
        by_cases hm : m < 12
        · by_cases hd : Cal.yr y + Cal.bef y (m + 1) ≤ n
          · go_wp2_with (first | (go_at_call 22; refine (year_any _ _ (by omega) (by omega)).mono ?_; rintro e w' ⟨rfl, rfl⟩) | (go_at_call 21; refine (before_any _ _ _ (by omega) (by omega) (by omega) (by omega) (hT.alloc _)).mono ?_; rintro e w' ⟨rfl, rfl⟩))
            go_round
            case rel => exact ⟨m + 1, by omega, by omega, rfl, hd⟩
            case measure => simp [intOf]; omega
          · have hx := isDay_mk hy1 hy2 hm1 hm2 hr (by omega)
            have HX := Lib.hid hx
            clear hx
            go_wp2_with (first | (go_at_call 22; refine (year_any _ _ (by omega) (by omega)).mono ?_; rintro e w' ⟨rfl, rfl⟩) | (go_at_call 21; refine (before_any _ _ _ (by omega) (by omega) (by omega) (by omega) (hT.alloc _)).mono ?_; rintro e w' ⟨rfl, rfl⟩))
            refine bodyPost_ret (v := .tuple #[.agg #[.int .i64 y, .int .i64 m, .int .i64 (n - Cal.yr y - Cal.bef y m + 1)], .nilIface]) (by simp [results, Tryz.results13, go_sem]) rfl ⟨y, m, _, rfl, HX.out.1, HX.out.2, ?_⟩
            exact (Below.refl _ _).alloc (Nat.le_refl _) _
        · have hx := isDay_mk hy1 hy2 hm1 hm2 hr (by (obtain rfl : m = 12 := by omega); have := HS.out; have := b13.out; have e13 : Cal.bef y (12 + 1) = Cal.bef y 13 := rfl; omega)
          have HX := Lib.hid hx
          clear hx
          go_wp2_with (first | (go_at_call 22; refine (year_any _ _ (by omega) (by omega)).mono ?_; rintro e w' ⟨rfl, rfl⟩) | (go_at_call 21; refine (before_any _ _ _ (by omega) (by omega) (by omega) (by omega) (hT.alloc _)).mono ?_; rintro e w' ⟨rfl, rfl⟩))
          refine bodyPost_ret (v := .tuple #[.agg #[.int .i64 y, .int .i64 m, .int .i64 (n - Cal.yr y - Cal.bef y m + 1)], .nilIface]) (by simp [results, Tryz.results13, go_sem]) rfl ⟨y, m, _, rfl, HX.out.1, HX.out.2, ?_⟩
          exact (Below.refl _ _).alloc (Nat.le_refl _) _
end Go.Proofs.YtdcemkfljhdceaaGreatDoor
