/- The walks of package week: first, Of, Weeks, Date. Conditions: the table 'ahead' holds its numbers. -/
import Derived.Test.YtdcemkfljhdceaaDoorWkCal
import Derived.Test.YtdcemkfljhdceaaDoorOf
import Derived.Test.YtdcemkfljhdceaaDoorBox3
import Derived.Test.YtdcemkfljhdceaaDoorDated
import Derived.Deep.RegionHeld3
namespace Go.Proofs.YtdcemkfljhdceaaDoor
open Go.RowKit

set_option maxHeartbeats 400000 in
theorem first_any (y : Int) (w : World) (h0 : 1 ≤ y) (h1 : y ≤ 100000) :
    Calls Tryd.prog 25 #[.int .i64 y] w fun e w' => e = .returned (.int .i64 (Cal.fst y)) ∧ w = w' := by
  go_enter Tryd.func25, Tryd.ntmps25
  go_wp2
  go_ret
  exact ⟨ret_int (by unfold Cal.fst Cal.yr; omega), rfl⟩

set_option maxRecDepth 100000 in
set_option maxHeartbeats 1000000 in
theorem weeks_no (y : Int) (w : World) (h : y < 1 ∨ 9999 < y) :
    Calls Tryd.prog 15 #[.int .i64 y] w fun e w' => e = .returned (.tuple #[.int .i64 0, errV 1]) ∧ w = w' := by
  rcases h with h | h
  · go_enter Tryd.func15, Tryd.ntmps15
    go_wp2
    go_ret2
    exact ⟨rfl, rfl⟩
  · have h0 : ¬ y < 1 := by omega
    go_enter Tryd.func15, Tryd.ntmps15
    go_wp2
    go_ret2
    exact ⟨rfl, rfl⟩
set_option maxRecDepth 100000 in
set_option maxHeartbeats 1000000 in
theorem weeks_yes (y : Int) (w : World) (h0 : 1 ≤ y) (h1 : y ≤ 9999) :
    Calls Tryd.prog 15 #[.int .i64 y] w fun e w' => e = .returned (.tuple #[.int .i64 (Cal.wks y), .nilIface]) ∧ w = w' := by
  have r1 := Cal.fst_rng y h0 (by omega)
  have r2 := Cal.fst_rng (y + 1) (by omega) (by omega)
  have r3 := Cal.fst_mono y (y + 1) (by omega)
  have HW := Lib.hid (show Cal.wks y = (Cal.fst (y + 1) - Cal.fst y) / 7 from rfl)
  go_enter Tryd.func15, Tryd.ntmps15
  go_wp2_with (go_at_call 25; refine (first_any _ _ (by omega) (by omega)).mono ?_; rintro e w' ⟨rfl, rfl⟩)
  go_ret2
  exact ⟨by rw [HW.out]; rfl, rfl⟩

set_option maxRecDepth 100000 in
set_option maxHeartbeats 1000000 in
theorem weekOf_no (y m d : Int) (w : World) (h : ¬ Cal.vld y m d) (hT : TabW w) :
    Calls Tryd.prog 8 #[.agg #[.int .i64 y, .int .i64 m, .int .i64 d]] w fun e w' => e = .returned (.tuple #[.agg #[.int .i64 0, .int .i64 0, .int .i64 0], errV 1]) ∧ Below w.heap.size w w' := by
  go_enter Tryd.func8, Tryd.ntmps8
  go_wp2_with fail
  refine (number_no _ _ _ _ h ((hT.alloc _).alloc _)).mono ?_
  rintro e w1 ⟨rfl, hb⟩
  have B1 := (Box3.made (w.alloc (.cells #[.int .i64 y, .int .i64 m, .int .i64 d] 23)) (.int .i64 0) (.int .i64 0) (.int .i64 0) 25).below hb
  have W1 := Lib.hid (blw_trans (blw_trans (blw_alloc w _) (blw_alloc _ _)) hb)
  have k0 := B1.c0; have k1 := B1.c1; have k2 := B1.c2
  have f0 := hb.frozen (p := ⟨w.heap.size + 1, 0, none⟩) (by simp)
  have f1 := hb.frozen (p := ⟨w.heap.size + 1, 1, none⟩) (by simp)
  have f2 := hb.frozen (p := ⟨w.heap.size + 1, 2, none⟩) (by simp)
  simp at k0 k1 k2 f0 f1 f2
  clear hb hT h B1
  go_wp2
  refine bodyPost_ret (v := .tuple #[.agg #[.int .i64 0, .int .i64 0, .int .i64 0], errV 1]) (by simp [results, Tryd.results8, go_sem, k0, k1, k2]) rfl ⟨rfl, ?_⟩
  exact ((W1.out.setCell (by simp) _).setCell (by simp) _).setCell (by simp) _

/-- the week of number n -/
def IsWeek (n : Int) (w : World) (e : Ending) (w' : World) : Prop :=
  ∃ y : Int, e = .returned (.tuple #[.agg #[.int .i64 y, .int .i64 (Cal.wkOf n y), .int .i64 (n % 7 + 1)], .nilIface]) ∧ Cal.isWk n y ∧ Below w.heap.size w w'

set_option maxRecDepth 100000 in
set_option maxHeartbeats 2000000 in
theorem weekOf_yes (y m d : Int) (w : World) (h : Cal.vld y m d) (hT : TabW w) :
    Calls Tryd.prog 8 #[.agg #[.int .i64 y, .int .i64 m, .int .i64 d]] w (IsWeek (Cal.num y m d) w) := by
  have hab := Cal.above h
  have hr := Cal.num_rng y m d h
  have hy := h.1
  have hy' := h.2.1
  generalize hn : Cal.num y m d = n at *
  have c : ∀ w : World, TabW w → Calls Tryd.prog 18 #[.agg #[.int .i64 y, .int .i64 m, .int .i64 d]] w fun e w' => e = .returned (.tuple #[.int .i64 n, .nilIface]) ∧ Below w.heap.size w w' := fun w hw => hn ▸ number_yes y m d w h hw
  have C := Lib.hid c
  clear c hn h
  go_enter Tryd.func8, Tryd.ntmps8
  go_wp2_with fail
  refine (C.out _ ((hT.alloc _).alloc _)).mono ?_
  rintro e w1 ⟨rfl, hb⟩
  have B0 := ((Box3.made w (.int .i64 y) (.int .i64 m) (.int .i64 d) 23).below (blw_alloc _ (.cells #[.int .i64 0, .int .i64 0, .int .i64 0] 25))).below hb
  have B1 := (Box3.made (w.alloc (.cells #[.int .i64 y, .int .i64 m, .int .i64 d] 23)) (.int .i64 0) (.int .i64 0) (.int .i64 0) 25).below hb
  have W1 := Lib.hid (blw_trans (blw_trans (blw_alloc w _) (blw_alloc _ _)) hb)
  have k0 := B1.c0; have k1 := B1.c1; have k2 := B1.c2; have k3 := B0.c0
  have f0 := hb.frozen (p := ⟨w.heap.size + 1, 0, none⟩) (by simp)
  have f1 := hb.frozen (p := ⟨w.heap.size + 1, 1, none⟩) (by simp)
  have f2 := hb.frozen (p := ⟨w.heap.size + 1, 2, none⟩) (by simp)
  simp at k0 k1 k2 f0 f1 f2
  clear hb hT B1 B0 C
  go_wp2_with fail
  go_loop [6] (fun t => ∃ x : Int, 1 ≤ x ∧ x ≤ y + 1 ∧ n < Cal.fst (x + 1) ∧ t = .int .i64 x) (fun t => (intOf t).toNat)
  case atStart => exact ⟨_, by omega, by omega, by rw [show y + 1 + 1 = y + 2 from by omega]; exact hab, rfl⟩
  case round =>
    obtain ⟨x, hx1, hx2, hx3, rfl⟩ := hrel
    have hx4 := Cal.fst_rng x hx1 (by omega)
    by_cases hc : n < Cal.fst x
    · have hx5 : 2 ≤ x := by
        rcases Int.lt_or_le x 2 with g | g
        · obtain rfl : x = 1 := by omega
          rw [Cal.fst_one] at hc; omega
        · exact g
      go_wp2_with (go_at_call 25; refine (first_any _ _ (by omega) (by omega)).mono ?_; rintro e w' ⟨rfl, rfl⟩)
      go_round
      case rel => exact ⟨x - 1, by omega, by omega, by rw [show x - 1 + 1 = x from by omega]; exact hc, rfl⟩
      case measure => simp [intOf]; omega
    · have hk : Cal.isWk n x := ⟨by omega, hx3⟩
      have HK := Lib.hid hk
      have HW := Lib.hid (show Cal.wkOf n x = (n - Cal.fst x) / 7 + 1 from rfl)
      clear hk hx3
      go_wp2_with (go_at_call 25; refine (first_any _ _ (by omega) (by omega)).mono ?_; rintro e w' ⟨rfl, rfl⟩)
      refine bodyPost_ret (v := .tuple #[.agg #[.int .i64 x, .int .i64 ((n - Cal.fst x) / 7 + 1), .int .i64 (n % 7 + 1)], .nilIface]) (by simp [results, Tryd.results8, go_sem, k0, k1, k2]) rfl ⟨x, by rw [HW.out], HK.out, ?_⟩
      exact ((W1.out.setCell (by simp) _).setCell (by simp) _).setCell (by simp) _
end Go.Proofs.YtdcemkfljhdceaaDoor
