/- The walks of package date's inner functions: leap, year, before; what they compute. Conditions: the table 'ahead' holds its numbers. -/
import Derived.Test.YtdcemkfljhdceaaGreatDoorProg
import Derived.Test.YtdcemkfljhdceaaGreatDoorCal
import Derived.Test.YtdcemkfljhdceaaGreatDoorBox
namespace Go.Proofs.YtdcemkfljhdceaaGreatDoor
open Go.RowKit

/-- the table 'ahead' holds its numbers -/
def TabW (w : World) : Prop := 0 < w.heap.size ∧ ∀ m : Int, 1 ≤ m → m ≤ 13 → w.cell? ⟨0, m.toNat - 1, none⟩ = some (.int .i64 (Cal.ahd m))
theorem TabW.below {w w' : World} (h : TabW w) (hb : Below w.heap.size w w') : TabW w' :=
  ⟨Nat.lt_of_lt_of_le h.1 hb.size, fun m a b => by rw [hb.cell (by exact h.1)]; exact h.2 m a b⟩
theorem TabW.drewN {w : World} (h : TabW w) (n : Nat) : TabW (w.drewN n) := h
theorem TabW.alloc {w : World} (h : TabW w) (o : Obj) : TabW (w.alloc o) := h.below ((Below.refl _ _).alloc (Nat.le_refl _) o)
def lpB (y : Int) : Bool := decide (y % 4 = 0 ∧ y % 100 ≠ 0 ∨ y % 400 = 0)
theorem lp_of (y : Int) : Cal.lp y = if lpB y then 1 else 0 := by
  unfold Cal.lp lpB; by_cases h : y % 4 = 0 ∧ y % 100 ≠ 0 ∨ y % 400 = 0 <;> simp [h]

set_option maxHeartbeats 400000 in
theorem leap_any (y : Int) (w : World) (h0 : 0 ≤ y) (h1 : y ≤ 100000) :
    Calls Tryz.prog 29 #[.int .i64 y] w fun e w' => e = .returned (.bool (lpB y)) ∧ w = w' := by
  go_enter Tryz.func29, Tryz.ntmps29
  go_wp2
  all_goals go_ret
  all_goals (refine ⟨ret_bool ?_, rfl⟩; unfold lpB; by_cases h4 : y % 400 = 0 <;> simp_all)

set_option maxHeartbeats 400000 in
theorem year_any (y : Int) (w : World) (h0 : 1 ≤ y) (h1 : y ≤ 100000) :
    Calls Tryz.prog 22 #[.int .i64 y] w fun e w' => e = .returned (.int .i64 (Cal.yr y)) ∧ w = w' := by
  go_enter Tryz.func22, Tryz.ntmps22
  go_wp2
  go_ret
  exact ⟨ret_int (by unfold Cal.yr; omega), rfl⟩

set_option maxHeartbeats 400000 in
theorem before_any (y m : Int) (w : World) (h0 : 0 ≤ y) (h1 : y ≤ 100000) (m0 : 1 ≤ m) (m1 : m ≤ 13) (hT : TabW w) :
    Calls Tryz.prog 21 #[.int .i64 y, .int .i64 m] w fun e w' => e = .returned (.int .i64 (Cal.bef y m)) ∧ w = w' := by
  have hc := hT.2 m m0 m1
  have hA := Cal.ahd_bd m
  clear hT
  by_cases h2 : 2 < m
  · cases hl : lpB y
    · have HL := Lib.hid hl
      have hb : Cal.bef y m = Cal.ahd m := by simp [Cal.bef, lp_of, hl]
      have HB := Lib.hid hb
      clear hl hb
      go_enter Tryz.func21, Tryz.ntmps21
      go_wp2_with (go_at_call 29; refine (leap_any _ _ (by omega) (by omega)).mono ?_; rintro e w' ⟨rfl, rfl⟩; rw [HL.out])
      go_ret
      exact ⟨ret_int HB.out.symm, rfl⟩
    · have HL := Lib.hid hl
      have hb : Cal.bef y m = Cal.ahd m + 1 := by simp [Cal.bef, lp_of, hl, h2]
      have HB := Lib.hid hb
      clear hl hb
      go_enter Tryz.func21, Tryz.ntmps21
      go_wp2_with (go_at_call 29; refine (leap_any _ _ (by omega) (by omega)).mono ?_; rintro e w' ⟨rfl, rfl⟩; rw [HL.out])
      go_ret
      exact ⟨ret_int HB.out.symm, rfl⟩
  · have hb : Cal.bef y m = Cal.ahd m := by simp [Cal.bef, h2]
    have HB := Lib.hid hb
    clear hb
    go_enter Tryz.func21, Tryz.ntmps21
    go_wp2
    go_ret
    exact ⟨ret_int HB.out.symm, rfl⟩


end Go.Proofs.YtdcemkfljhdceaaGreatDoor
