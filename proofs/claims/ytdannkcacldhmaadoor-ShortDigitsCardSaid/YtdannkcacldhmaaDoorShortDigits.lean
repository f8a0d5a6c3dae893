/- The walk of the law ShortDigits: it returns true of whatever number. -/
import Derived.Test.YtdannkcacldhmaaDoorShort
import Derived.Test.YtdannkcacldhmaaDoorShortQ
import Derived.Test.YtdannkcacldhmaaDoorStr
namespace Go.Proofs.YtdannkcacldhmaaDoor
open Go.RowKit Go.Lib

theorem short_1250 (w : World) (hp : PowW w) : Calls Tryd.prog 14 #[.int .i64 1250] w fun e w' => e = .returned (.tuple #[.string ⟨#[49, 46, 50, 75]⟩, .nilIface]) ∧ Below w.heap.size w w' := by
  have c := short_yes 1250 w hp (by omega) (by omega)
  rw [txt_1250] at c
  exact c

set_option maxRecDepth 100000 in
set_option maxHeartbeats 1000000 in
theorem shortDigits_n1 (n : Int) (w : World) (hT : PowW w) (h : n < 0) :
    Calls Tryd.prog 5 #[.int .i64 n] w fun e w' => e = .returned (.bool true) ∧ Below w.heap.size w w' := by
  have C0 := Lib.hid fun w hp => short_1250 w hp
  have C1 := Lib.hid fun w => short_no n w (by omega)
  go_enter Tryd.func5, Tryd.ntmps5
  go_wp2_with fail
  refine (C0.out _ (by exact hT)).mono ?_
  rintro e w1 ⟨rfl, hb⟩
  have T1 := hT.below hb
  have W1 := Lib.hid (blw_trans (Below.refl w.heap.size w) hb)
  clear hb 
  go_wp2_with fail
  refine (C1.out _).mono ?_
  rintro e w2 ⟨rfl, hb⟩
  have T2 := T1.below hb
  have W2 := Lib.hid (blw_trans W1.out hb)
  clear hb T1 W1
  clear T2
  go_wp2
  go_ret
  exact ⟨ret_bool (by simp), W2.out⟩

set_option maxRecDepth 100000 in
set_option maxHeartbeats 1000000 in
theorem shortDigits_n2 (n : Int) (w : World) (hT : PowW w) (h : 1000000000000000 < n) :
    Calls Tryd.prog 5 #[.int .i64 n] w fun e w' => e = .returned (.bool true) ∧ Below w.heap.size w w' := by
  have C0 := Lib.hid fun w hp => short_1250 w hp
  have C1 := Lib.hid fun w => short_no n w (by omega)
  go_enter Tryd.func5, Tryd.ntmps5
  go_wp2_with fail
  refine (C0.out _ (by exact hT)).mono ?_
  rintro e w1 ⟨rfl, hb⟩
  have T1 := hT.below hb
  have W1 := Lib.hid (blw_trans (Below.refl w.heap.size w) hb)
  clear hb 
  go_wp2_with fail
  refine (C1.out _).mono ?_
  rintro e w2 ⟨rfl, hb⟩
  have T2 := T1.below hb
  have W2 := Lib.hid (blw_trans W1.out hb)
  clear hb T1 W1
  clear T2
  go_wp2
  go_ret
  exact ⟨ret_bool (by simp), W2.out⟩

set_option maxRecDepth 100000 in
set_option maxHeartbeats 1000000 in
theorem shortDigits_small (n : Int) (w : World) (hT : PowW w) (n0 : 0 ≤ n) (n1 : n < 1000) :
    Calls Tryd.prog 5 #[.int .i64 n] w fun e w' => e = .returned (.bool true) ∧ Below w.heap.size w w' := by
  have C0 := Lib.hid fun w hp => short_1250 w hp
  have C1 := Lib.hid fun w hp => short_yes n w hp (by omega) (by omega)
  have E := Lib.hid (Sht.txt_small n n1)
  have C2 := Lib.hid fun w => digits_none n w n0 (by omega)
  have t : ¬ 1000 ≤ n := by omega
  go_enter Tryd.func5, Tryd.ntmps5
  go_wp2_with fail
  refine (C0.out _ (by exact hT)).mono ?_
  rintro e w1 ⟨rfl, hb⟩
  have T1 := hT.below hb
  have W1 := Lib.hid (blw_trans (Below.refl w.heap.size w) hb)
  clear hb 
  go_wp2_with fail
  refine (C1.out _ (by exact T1)).mono ?_
  rintro e w2 ⟨rfl, hb⟩
  have T2 := T1.below hb
  have W2 := Lib.hid (blw_trans W1.out hb)
  clear hb T1 W1
  go_wp2_with fail
  refine (C2.out _).mono ?_
  rintro e w3 ⟨rfl, hb⟩
  have T3 := T2.below hb
  have W3 := Lib.hid (blw_trans W2.out hb)
  clear hb T2 W2
  clear T3
  go_wp2
  go_ret
  exact ⟨ret_bool (by simp [E.out]), W3.out⟩

set_option maxRecDepth 100000 in
set_option maxHeartbeats 1000000 in
theorem shortDigits_big1 (n : Int) (w : World) (hT : PowW w) (n0 : 1000000000 < n) (n1 : n ≤ 1000000000000) :
    Calls Tryd.prog 5 #[.int .i64 n] w fun e w' => e = .returned (.bool true) ∧ Below w.heap.size w w' := by
  have C0 := Lib.hid fun w hp => short_1250 w hp
  have C1 := Lib.hid fun w hp => short_yes n w hp (by omega) (by omega)
  have L := Sht.txt_len n (by omega) (by omega)
  have t : ¬ n < 1000 := by omega
  have C2 := Lib.hid fun w hp => short_yes (1000 * n) w hp (by omega) (by omega)
  generalize Sht.txt n = S at *
  generalize Sht.txt (1000 * n) = T at *
  go_enter Tryd.func5, Tryd.ntmps5
  go_wp2_with fail
  refine (C0.out _ (by exact hT)).mono ?_
  rintro e w1 ⟨rfl, hb⟩
  have T1 := hT.below hb
  have W1 := Lib.hid (blw_trans (Below.refl w.heap.size w) hb)
  clear hb 
  go_wp2_with fail
  refine (C1.out _ (by exact T1)).mono ?_
  rintro e w2 ⟨rfl, hb⟩
  have T2 := T1.below hb
  have W2 := Lib.hid (blw_trans W1.out hb)
  clear hb T1 W1
  go_wp2_with fail
  refine (C2.out _ (by exact T2)).mono ?_
  rintro e w3 ⟨rfl, hb⟩
  have T3 := T2.below hb
  have W3 := Lib.hid (blw_trans W2.out hb)
  clear hb T2 W2
  clear T3
  go_wp2
  go_ret
  exact ⟨ret_bool (by simp), W3.out⟩

set_option maxRecDepth 100000 in
set_option maxHeartbeats 1000000 in
theorem shortDigits_big2 (n : Int) (w : World) (hT : PowW w) (n0 : 1000000000000 < n) (n1 : n ≤ 1000000000000000) :
    Calls Tryd.prog 5 #[.int .i64 n] w fun e w' => e = .returned (.bool true) ∧ Below w.heap.size w w' := by
  have C0 := Lib.hid fun w hp => short_1250 w hp
  have C1 := Lib.hid fun w hp => short_yes n w hp (by omega) (by omega)
  have L := Sht.txt_len n (by omega) (by omega)
  have t : ¬ n < 1000 := by omega
  have C2 := Lib.hid fun w => short_no (1000 * n) w (by omega)
  generalize Sht.txt n = S at *
  go_enter Tryd.func5, Tryd.ntmps5
  go_wp2_with fail
  refine (C0.out _ (by exact hT)).mono ?_
  rintro e w1 ⟨rfl, hb⟩
  have T1 := hT.below hb
  have W1 := Lib.hid (blw_trans (Below.refl w.heap.size w) hb)
  clear hb 
  go_wp2_with fail
  refine (C1.out _ (by exact T1)).mono ?_
  rintro e w2 ⟨rfl, hb⟩
  have T2 := T1.below hb
  have W2 := Lib.hid (blw_trans W1.out hb)
  clear hb T1 W1
  go_wp2_with fail
  refine (C2.out _).mono ?_
  rintro e w3 ⟨rfl, hb⟩
  have T3 := T2.below hb
  have W3 := Lib.hid (blw_trans W2.out hb)
  clear hb T2 W2
  clear T3
  go_wp2
  go_ret
  exact ⟨ret_bool (by simp), W3.out⟩

set_option maxRecDepth 100000 in
set_option maxHeartbeats 1000000 in
theorem shortDigits_l0 (n : Int) (w : World) (hT : PowW w) (n0 : 1000 ≤ n) (n1 : n ≤ 1000000000) (X : List UInt8) (x0 : 1 ≤ X.length) (x1 : X.length ≤ 4) (h1 : Sht.txt n = X ++ [75]) (h2 : Sht.txt (1000 * n) = X ++ [77]) :
    Calls Tryd.prog 5 #[.int .i64 n] w fun e w' => e = .returned (.bool true) ∧ Below w.heap.size w w' := by
  have t : ¬ n < 1000 := by omega
  have t2 : ¬ 1000000000 < n := by omega
  have C2 := Lib.hid fun w hp => short_yes (1000 * n) w hp (by omega) (by omega)
  have C1 := Lib.hid fun w hp => short_yes n w hp (by omega) (by omega)
  rw [h1] at C1
  rw [h2] at C2
  clear h1 h2
  have C0 := Lib.hid fun w hp => short_1250 w hp
  go_enter Tryd.func5, Tryd.ntmps5
  go_wp2_with fail
  refine (C0.out _ (by exact hT)).mono ?_
  rintro e w1 ⟨rfl, hb⟩
  have T1 := hT.below hb
  have W1 := Lib.hid (blw_trans (Below.refl w.heap.size w) hb)
  clear hb 
  go_wp2_with fail
  refine (C1.out _ (by exact T1)).mono ?_
  rintro e w2 ⟨rfl, hb⟩
  have T2 := T1.below hb
  have W2 := Lib.hid (blw_trans W1.out hb)
  clear hb T1 W1
  go_wp2_with fail
  refine (C2.out _ (by exact T2)).mono ?_
  rintro e w3 ⟨rfl, hb⟩
  have T3 := T2.below hb
  have W3 := Lib.hid (blw_trans W2.out hb)
  clear hb T2 W2
  clear T3
  have IS := fun w => index_str (P := Tryd.prog) 9 Tryd.underlying9 (X ++ [75]) .i64 X.length 75 (by simp) w
  have IT := fun w => index_str (P := Tryd.prog) 9 Tryd.underlying9 (X ++ [77]) .i64 X.length 77 (by simp) w
  have I0 : ∀ w, (Instr.index 9 (.string ⟨#[75, 77, 66, 84]⟩) (.int .i64 0)).run Tryd.prog w = .ok (.int .u8 75) w := fun w => by kernel_rfl
  have I1 : ∀ w, (Instr.index 9 (.string ⟨#[75, 77, 66, 84]⟩) (.int .i64 1)).run Tryd.prog w = .ok (.int .u8 77) w := fun w => by kernel_rfl
  have I2 : ∀ w, (Instr.index 9 (.string ⟨#[75, 77, 66, 84]⟩) (.int .i64 2)).run Tryd.prog w = .ok (.int .u8 66) w := fun w => by kernel_rfl
  have I3 : ∀ w, (Instr.index 9 (.string ⟨#[75, 77, 66, 84]⟩) (.int .i64 3)).run Tryd.prog w = .ok (.int .u8 84) w := fun w => by kernel_rfl
  have KS : ∀ w, (Instr.slice 9 (.string ⟨(X ++ [75]).toArray⟩) none (some (.int .i64 X.length)) none).run Tryd.prog w = .ok (.string ⟨X.toArray⟩) w := fun w => by rw [slice_to (P := Tryd.prog) 9 Tryd.underlying9 (X ++ [75]) .i64 X.length (by simp) w]; simp
  have KT : ∀ w, (Instr.slice 9 (.string ⟨(X ++ [77]).toArray⟩) none (some (.int .i64 X.length)) none).run Tryd.prog w = .ok (.string ⟨X.toArray⟩) w := fun w => by rw [slice_to (P := Tryd.prog) 9 Tryd.underlying9 (X ++ [77]) .i64 X.length (by simp) w]; simp
  go_wp2_with fail
  go_loopw [11] (fun i wr => ∃ (j : Int) (k : Nat), 0 ≤ j ∧ j ≤ 0 ∧ i = .int .i64 j ∧ wr = w3.drewN k) (fun i _ => 4 - (RowKit.intOf i).toNat)
  case atStart => exact ⟨0, 0, by omega, by omega, rfl, rfl⟩
  case round =>
    obtain ⟨j, k, hj0, hj, rfl, rfl⟩ := hrel
    have hj' : j = 0 := by omega
    clear hj0 hj
    subst hj'
    · go_wp2_with fail
      go_big_quiet (fail)
      go_wp2_with fail
      go_big_quiet (fail)
      go_wp2_with fail
      go_ret
      exact ⟨ret_bool (by simp), blw_drewN (blw_drewN (blw_drewN W3.out _) _) _⟩

set_option maxRecDepth 100000 in
set_option maxHeartbeats 1000000 in
theorem shortDigits_l1 (n : Int) (w : World) (hT : PowW w) (n0 : 1000 ≤ n) (n1 : n ≤ 1000000000) (X : List UInt8) (x0 : 1 ≤ X.length) (x1 : X.length ≤ 4) (h1 : Sht.txt n = X ++ [77]) (h2 : Sht.txt (1000 * n) = X ++ [66]) :
    Calls Tryd.prog 5 #[.int .i64 n] w fun e w' => e = .returned (.bool true) ∧ Below w.heap.size w w' := by
  have t : ¬ n < 1000 := by omega
  have t2 : ¬ 1000000000 < n := by omega
  have C2 := Lib.hid fun w hp => short_yes (1000 * n) w hp (by omega) (by omega)
  have C1 := Lib.hid fun w hp => short_yes n w hp (by omega) (by omega)
  rw [h1] at C1
  rw [h2] at C2
  clear h1 h2
  have C0 := Lib.hid fun w hp => short_1250 w hp
  go_enter Tryd.func5, Tryd.ntmps5
  go_wp2_with fail
  refine (C0.out _ (by exact hT)).mono ?_
  rintro e w1 ⟨rfl, hb⟩
  have T1 := hT.below hb
  have W1 := Lib.hid (blw_trans (Below.refl w.heap.size w) hb)
  clear hb 
  go_wp2_with fail
  refine (C1.out _ (by exact T1)).mono ?_
  rintro e w2 ⟨rfl, hb⟩
  have T2 := T1.below hb
  have W2 := Lib.hid (blw_trans W1.out hb)
  clear hb T1 W1
  go_wp2_with fail
  refine (C2.out _ (by exact T2)).mono ?_
  rintro e w3 ⟨rfl, hb⟩
  have T3 := T2.below hb
  have W3 := Lib.hid (blw_trans W2.out hb)
  clear hb T2 W2
  clear T3
  have IS := fun w => index_str (P := Tryd.prog) 9 Tryd.underlying9 (X ++ [77]) .i64 X.length 77 (by simp) w
  have IT := fun w => index_str (P := Tryd.prog) 9 Tryd.underlying9 (X ++ [66]) .i64 X.length 66 (by simp) w
  have I0 : ∀ w, (Instr.index 9 (.string ⟨#[75, 77, 66, 84]⟩) (.int .i64 0)).run Tryd.prog w = .ok (.int .u8 75) w := fun w => by kernel_rfl
  have I1 : ∀ w, (Instr.index 9 (.string ⟨#[75, 77, 66, 84]⟩) (.int .i64 1)).run Tryd.prog w = .ok (.int .u8 77) w := fun w => by kernel_rfl
  have I2 : ∀ w, (Instr.index 9 (.string ⟨#[75, 77, 66, 84]⟩) (.int .i64 2)).run Tryd.prog w = .ok (.int .u8 66) w := fun w => by kernel_rfl
  have I3 : ∀ w, (Instr.index 9 (.string ⟨#[75, 77, 66, 84]⟩) (.int .i64 3)).run Tryd.prog w = .ok (.int .u8 84) w := fun w => by kernel_rfl
  have KS : ∀ w, (Instr.slice 9 (.string ⟨(X ++ [77]).toArray⟩) none (some (.int .i64 X.length)) none).run Tryd.prog w = .ok (.string ⟨X.toArray⟩) w := fun w => by rw [slice_to (P := Tryd.prog) 9 Tryd.underlying9 (X ++ [77]) .i64 X.length (by simp) w]; simp
  have KT : ∀ w, (Instr.slice 9 (.string ⟨(X ++ [66]).toArray⟩) none (some (.int .i64 X.length)) none).run Tryd.prog w = .ok (.string ⟨X.toArray⟩) w := fun w => by rw [slice_to (P := Tryd.prog) 9 Tryd.underlying9 (X ++ [66]) .i64 X.length (by simp) w]; simp
  go_wp2_with fail
  go_loopw [11] (fun i wr => ∃ (j : Int) (k : Nat), 0 ≤ j ∧ j ≤ 1 ∧ i = .int .i64 j ∧ wr = w3.drewN k) (fun i _ => 4 - (RowKit.intOf i).toNat)
  case atStart => exact ⟨0, 0, by omega, by omega, rfl, rfl⟩
  case round =>
    obtain ⟨j, k, hj0, hj, rfl, rfl⟩ := hrel
    have hj' : j = 0 ∨ j = 1 := by omega
    clear hj0 hj
    rcases hj' with rfl | rfl
    · go_wp2_with fail
      go_big_quiet (fail)
      go_wp2_with fail
      go_roundw
      case rel => exact ⟨1, k + _, by omega, by omega, rfl, by rw [← World.drewN_drewN]⟩
      case measure => simp [RowKit.intOf]
    · go_wp2_with fail
      go_big_quiet (fail)
      go_wp2_with fail
      go_big_quiet (fail)
      go_wp2_with fail
      go_ret
      exact ⟨ret_bool (by simp), blw_drewN (blw_drewN (blw_drewN W3.out _) _) _⟩

set_option maxRecDepth 100000 in
set_option maxHeartbeats 1000000 in
theorem shortDigits_l2 (n : Int) (w : World) (hT : PowW w) (n0 : 1000 ≤ n) (n1 : n ≤ 1000000000) (X : List UInt8) (x0 : 1 ≤ X.length) (x1 : X.length ≤ 4) (h1 : Sht.txt n = X ++ [66]) (h2 : Sht.txt (1000 * n) = X ++ [84]) :
    Calls Tryd.prog 5 #[.int .i64 n] w fun e w' => e = .returned (.bool true) ∧ Below w.heap.size w w' := by
  have t : ¬ n < 1000 := by omega
  have t2 : ¬ 1000000000 < n := by omega
  have C2 := Lib.hid fun w hp => short_yes (1000 * n) w hp (by omega) (by omega)
  have C1 := Lib.hid fun w hp => short_yes n w hp (by omega) (by omega)
  rw [h1] at C1
  rw [h2] at C2
  clear h1 h2
  have C0 := Lib.hid fun w hp => short_1250 w hp
  go_enter Tryd.func5, Tryd.ntmps5
  go_wp2_with fail
  refine (C0.out _ (by exact hT)).mono ?_
  rintro e w1 ⟨rfl, hb⟩
  have T1 := hT.below hb
  have W1 := Lib.hid (blw_trans (Below.refl w.heap.size w) hb)
  clear hb 
  go_wp2_with fail
  refine (C1.out _ (by exact T1)).mono ?_
  rintro e w2 ⟨rfl, hb⟩
  have T2 := T1.below hb
  have W2 := Lib.hid (blw_trans W1.out hb)
  clear hb T1 W1
  go_wp2_with fail
  refine (C2.out _ (by exact T2)).mono ?_
  rintro e w3 ⟨rfl, hb⟩
  have T3 := T2.below hb
  have W3 := Lib.hid (blw_trans W2.out hb)
  clear hb T2 W2
  clear T3
  have IS := fun w => index_str (P := Tryd.prog) 9 Tryd.underlying9 (X ++ [66]) .i64 X.length 66 (by simp) w
  have IT := fun w => index_str (P := Tryd.prog) 9 Tryd.underlying9 (X ++ [84]) .i64 X.length 84 (by simp) w
  have I0 : ∀ w, (Instr.index 9 (.string ⟨#[75, 77, 66, 84]⟩) (.int .i64 0)).run Tryd.prog w = .ok (.int .u8 75) w := fun w => by kernel_rfl
  have I1 : ∀ w, (Instr.index 9 (.string ⟨#[75, 77, 66, 84]⟩) (.int .i64 1)).run Tryd.prog w = .ok (.int .u8 77) w := fun w => by kernel_rfl
  have I2 : ∀ w, (Instr.index 9 (.string ⟨#[75, 77, 66, 84]⟩) (.int .i64 2)).run Tryd.prog w = .ok (.int .u8 66) w := fun w => by kernel_rfl
  have I3 : ∀ w, (Instr.index 9 (.string ⟨#[75, 77, 66, 84]⟩) (.int .i64 3)).run Tryd.prog w = .ok (.int .u8 84) w := fun w => by kernel_rfl
  have KS : ∀ w, (Instr.slice 9 (.string ⟨(X ++ [66]).toArray⟩) none (some (.int .i64 X.length)) none).run Tryd.prog w = .ok (.string ⟨X.toArray⟩) w := fun w => by rw [slice_to (P := Tryd.prog) 9 Tryd.underlying9 (X ++ [66]) .i64 X.length (by simp) w]; simp
  have KT : ∀ w, (Instr.slice 9 (.string ⟨(X ++ [84]).toArray⟩) none (some (.int .i64 X.length)) none).run Tryd.prog w = .ok (.string ⟨X.toArray⟩) w := fun w => by rw [slice_to (P := Tryd.prog) 9 Tryd.underlying9 (X ++ [84]) .i64 X.length (by simp) w]; simp
  go_wp2_with fail
  go_loopw [11] (fun i wr => ∃ (j : Int) (k : Nat), 0 ≤ j ∧ j ≤ 2 ∧ i = .int .i64 j ∧ wr = w3.drewN k) (fun i _ => 4 - (RowKit.intOf i).toNat)
  case atStart => exact ⟨0, 0, by omega, by omega, rfl, rfl⟩
  case round =>
    obtain ⟨j, k, hj0, hj, rfl, rfl⟩ := hrel
    have hj' : j = 0 ∨ j = 1 ∨ j = 2 := by omega
    clear hj0 hj
    rcases hj' with rfl | rfl | rfl
    · go_wp2_with fail
      go_big_quiet (fail)
      go_wp2_with fail
      go_roundw
      case rel => exact ⟨1, k + _, by omega, by omega, rfl, by rw [← World.drewN_drewN]⟩
      case measure => simp [RowKit.intOf]
    · go_wp2_with fail
      go_big_quiet (fail)
      go_wp2_with fail
      go_roundw
      case rel => exact ⟨2, k + _, by omega, by omega, rfl, by rw [← World.drewN_drewN]⟩
      case measure => simp [RowKit.intOf]
    · go_wp2_with fail
      go_big_quiet (fail)
      go_wp2_with fail
      go_big_quiet (fail)
      go_wp2_with fail
      go_ret
      exact ⟨ret_bool (by simp), blw_drewN (blw_drewN (blw_drewN W3.out _) _) _⟩

theorem shortDigits_any (n : Int) (w : World) (hT : PowW w) :
    Calls Tryd.prog 5 #[.int .i64 n] w fun e w' => e = .returned (.bool true) ∧ Below w.heap.size w w' := by
  by_cases h1 : n < 0
  · exact shortDigits_n1 n w hT h1
  by_cases h2 : 1000000000000000 < n
  · exact shortDigits_n2 n w hT h2
  by_cases h3 : n < 1000
  · exact shortDigits_small n w hT (by omega) h3
  by_cases h4 : 1000000000000 < n
  · exact shortDigits_big2 n w hT h4 (by omega)
  by_cases h5 : 1000000000 < n
  · exact shortDigits_big1 n w hT h5 (by omega)
  obtain ⟨e, l1, l2⟩ := Sht.lv_up n (by omega) (by omega)
  obtain ⟨b1, b2⟩ := Sht.body_len n (by omega) (by omega)
  have t1 := Sht.txt_body n
  have t2 := Sht.txt_body (1000 * n)
  rw [Sht.body_up n (by omega) (by omega), e] at t2
  have hl : Sht.lv n = 1 ∨ Sht.lv n = 2 ∨ Sht.lv n = 3 := by omega
  rcases hl with g | g | g <;> rw [g] at t1 t2
  · exact shortDigits_l0 n w hT (by omega) (by omega) _ b1 b2 t1 t2
  · exact shortDigits_l1 n w hT (by omega) (by omega) _ b1 b2 t1 t2
  · exact shortDigits_l2 n w hT (by omega) (by omega) _ b1 b2 t1 t2
end Go.Proofs.YtdannkcacldhmaaDoor
