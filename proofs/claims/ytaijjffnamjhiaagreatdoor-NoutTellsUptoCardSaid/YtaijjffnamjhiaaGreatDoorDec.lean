/- The walks of package dec's inner functions: Check, power, wide, compared, right, Less, Same. No conditions but the arguments' own. -/
import Derived.Test.YtaijjffnamjhiaaGreatDoorErrs
import Derived.Test.YtaijjffnamjhiaaGreatDoorBox
import Derived.Test.YtaijjffnamjhiaaGreatDoorDcm
import Derived.Test.YtaijjffnamjhiaaGreatDoorShelf
namespace Go.Proofs.YtaijjffnamjhiaaGreatDoor
open Go.RowKit
open Dcm (P10 okD nrm)


set_option maxHeartbeats 400000 in
theorem dchk_yes (c s : Int) (w : World) (h : okD c s) :
    Calls Tryz.prog 48 #[.agg #[.int .i64 c, .int .i64 s]] w fun e w' => e = .returned .nilIface ∧ Below w.heap.size w w' := by
  obtain ⟨h1, h2, h3, h4⟩ := h
  have d1 : decide (s < 0) = false := dec_no (by omega)
  have d2 : decide (9 < s) = false := dec_no (by omega)
  have d3 : decide (c < -1000000000000000) = false := dec_no (by omega)
  have d4 : decide (1000000000000000 < c) = false := dec_no (by omega)
  go_enter Tryz.func48, Tryz.ntmps48
  go_wp2
  go_ret
  exact ⟨rfl, blw_alloc _ _⟩
set_option maxHeartbeats 1000000 in
theorem dchk_no (c s : Int) (w : World) (h : ¬ okD c s) :
    Calls Tryz.prog 48 #[.agg #[.int .i64 c, .int .i64 s]] w fun e w' => e = .returned (errV 1) ∧ Below w.heap.size w w' := by
  by_cases h1 : s < 0
  · go_enter Tryz.func48, Tryz.ntmps48
    go_wp2
    go_ret
    exact ⟨rfl, blw_alloc _ _⟩
  by_cases h2 : 9 < s
  · go_enter Tryz.func48, Tryz.ntmps48
    go_wp2
    go_ret
    exact ⟨rfl, blw_alloc _ _⟩
  by_cases h3 : c < -1000000000000000
  · go_enter Tryz.func48, Tryz.ntmps48
    go_wp2
    go_ret
    exact ⟨rfl, blw_alloc _ _⟩
  by_cases h4 : 1000000000000000 < c
  · go_enter Tryz.func48, Tryz.ntmps48
    go_wp2
    go_ret
    exact ⟨rfl, blw_alloc _ _⟩
  exact absurd ⟨by omega, by omega, by omega, by omega⟩ h

set_option maxHeartbeats 400000 in
theorem power_any (n : Int) (w : World) (h0 : 0 ≤ n) (h1 : n ≤ 9) :
    Calls Tryz.prog 88 #[.int .i64 n] w fun e w' => e = .returned (.int .i64 (P10 n)) ∧ w = w' := by
  go_enter Tryz.func88, Tryz.ntmps88
  go_wp2
  go_loop [3, 5] (fun t i => ∃ k : Int, 0 ≤ k ∧ k ≤ n ∧ i = .int .i64 k ∧ t = .int .i64 (P10 k)) (fun _ i => (n - intOf i).toNat)
  case atStart => exact ⟨0, by omega, by omega, rfl, rfl⟩
  case round =>
    obtain ⟨k, k0, k1, rfl, rfl⟩ := hrel
    have hb := Dcm.P10_bd k
    by_cases hlt : k < n
    · have hs := Lib.hid (Dcm.P10_succ k k0 (by omega))
      go_wp2
      go_round
      case rel => exact ⟨k + 1, by omega, by omega, by go_num, by rw [hs.out]⟩
      case measure => simp [intOf]; omega
    · obtain rfl : k = n := by omega
      go_wp2
      go_ret
      exact ⟨rfl, rfl⟩

/-- the words of a product -/
def hiW (A : Int) : Int := A / 18446744073709551616
def loW (A : Int) : Int := A % 18446744073709551616
theorem hiW_bd {A : Int} (h0 : 0 ≤ A) (h1 : A ≤ 1000000000000000000000000) : 0 ≤ hiW A ∧ hiW A ≤ 1000000 := by unfold hiW; omega
theorem loW_bd (A : Int) : 0 ≤ loW A ∧ loW A ≤ 18446744073709551615 := by unfold loW; omega
theorem mul64_any (x y : Int) (w : World) (x0 : 0 ≤ x) (x1 : x ≤ 1000000000000000) (y0 : 0 ≤ y) (y1 : y ≤ 1000000000) :
    Calls Tryz.prog 145 #[.int .u64 x, .int .u64 y] w fun e w' => e = .returned (.tuple #[.int .u64 (hiW (x * y)), .int .u64 (loW (x * y))]) ∧ w = w' := by
  obtain ⟨a, rfl⟩ := Int.eq_ofNat_of_zero_le x0
  obtain ⟨b, rfl⟩ := Int.eq_ofNat_of_zero_le y0
  refine (Tryz.bits_Mul64 a b (by omega) (by omega) w).mono fun e w' ⟨he, hw⟩ => ⟨?_, hw.symm⟩
  rw [he]; unfold hiW loW; simp

set_option maxHeartbeats 400000 in
theorem wide_any (n s : Int) (w : World) (n0 : 0 ≤ n) (n1 : n ≤ 1000000000000000) (s0 : 0 ≤ s) (s1 : s ≤ 9) :
    Calls Tryz.prog 87 #[.int .i64 n, .int .i64 s] w fun e w' => e = .returned (.tuple #[.int .u64 (hiW (n * P10 s)), .int .u64 (loW (n * P10 s))]) ∧ w = w' := by
  have hb := Dcm.P10_bd s
  go_enter Tryz.func87, Tryz.ntmps87
  go_wp2_with fail
  refine (power_any _ _ s0 s1).mono ?_
  rintro e w' ⟨rfl, rfl⟩
  go_wp2_with fail
  refine (mul64_any _ _ _ n0 n1 (by omega) (by omega)).mono ?_
  rintro e w' ⟨rfl, rfl⟩
  go_wp2
  go_ret2
  exact ⟨rfl, rfl⟩
end Go.Proofs.YtaijjffnamjhiaaGreatDoor
