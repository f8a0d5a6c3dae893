/- The walks of linguisterref1.Apart, linguisterref1.Ago and rel.Text. -/
import Derived.Test.YthanbfimeolidaaDoorRel
import Derived.Shelf.Small.Strs
namespace Go.Proofs.YthanbfimeolidaaDoor
open Go.RowKit

def inFar (a b : Int) : Prop := ¬ a < -1099511627776 ∧ ¬ 1099511627776 < a ∧ ¬ b < -1099511627776 ∧ ¬ 1099511627776 < b
theorem size_far (a b : Int) (h : inFar a b) : Rlt.size (b - a) ≤ 2199023255552 := by
  obtain ⟨h1, h2, h3, h4⟩ := h
  unfold Rlt.size; split <;> omega
theorem relOf_yes (a b : Int) (w : World) (hT : UnitsW w) (h : inFar a b) :
    Calls Tryd.prog 12 #[.int .i64 a, .int .i64 b] w fun e w' => e = .returned (.tuple #[.string ⟨(Rlt.unit (b - a)).toArray⟩, .int .i64 (Rlt.quot (b - a)), .nilIface]) ∧ Below w.heap.size w w' := by
  obtain ⟨h1, h2, h3, h4⟩ := h
  have z0 := Rlt.tdiv_zero (b - a) 86400 (by omega)
  have z1 := Rlt.tdiv_zero (b - a) 3600 (by omega)
  have z2 := Rlt.tdiv_zero (b - a) 60 (by omega)
  unfold Rlt.unit Rlt.quot
  by_cases c0 : 86400 ≤ Rlt.size (b - a)
  · rw [if_pos c0, if_pos c0]
    exact relOf_c0 a b _ w hT h1 h2 h3 h4 rfl (fun g => by have := z0.1 g; omega)
  rw [if_neg c0, if_neg c0]
  by_cases c1 : 3600 ≤ Rlt.size (b - a)
  · rw [if_pos c1, if_pos c1]
    exact relOf_c1 a b _ w hT h1 h2 h3 h4 rfl (z0.2 (by omega)) (fun g => by have := z1.1 g; omega)
  rw [if_neg c1, if_neg c1]
  by_cases c2 : 60 ≤ Rlt.size (b - a)
  · rw [if_pos c2, if_pos c2]
    exact relOf_c2 a b _ w hT h1 h2 h3 h4 rfl (z0.2 (by omega)) (z1.2 (by omega)) (fun g => by have := z2.1 g; omega)
  rw [if_neg c2, if_neg c2]
  exact relOf_c3 a b _ w hT h1 h2 h3 h4 rfl (z0.2 (by omega)) (z1.2 (by omega)) (z2.2 (by omega))
theorem relOf_no (a b : Int) (w : World) (h : ¬ inFar a b) :
    Calls Tryd.prog 12 #[.int .i64 a, .int .i64 b] w fun e w' => e = .returned (.tuple #[.string ⟨#[]⟩, .int .i64 0, errV 1]) ∧ Below w.heap.size w w' := by
  by_cases h1 : a < -1099511627776
  · exact relOf_a1 a b w h1
  by_cases h2 : 1099511627776 < a
  · exact relOf_a2 a b w h2
  by_cases h3 : b < -1099511627776
  · exact relOf_b1 a b w h1 h2 h3
  by_cases h4 : 1099511627776 < b
  · exact relOf_b2 a b w h1 h2 h3 h4
  exact absurd ⟨h1, h2, h3, h4⟩ h

theorem rsize_any (n : Int) (w : World) (h1 : -9223372036854775807 ≤ n) (h2 : n ≤ 9223372036854775807) :
    Calls Tryd.prog 13 #[.int .i64 n] w fun e w' => e = .returned (.int .i64 (Rlt.size n)) ∧ w = w' := by
  unfold Rlt.size
  by_cases h : n < 0
  · rw [if_pos h]
    go_enter Tryd.func13, Tryd.ntmps13
    go_wp2_with fail
    go_ret
    exact ⟨ret_int (by omega), rfl⟩
  · rw [if_neg h]
    go_enter Tryd.func13, Tryd.ntmps13
    go_wp2_with fail
    go_ret
    exact ⟨rfl, rfl⟩

theorem apart_a1 (a b : Int) (w : World) (h : a < -1099511627776) :
    Calls Tryd.prog 14 #[.int .i64 a, .int .i64 b] w fun e w' => e = .returned (.tuple #[.string ⟨#[]⟩, .int .i64 0, .bool false]) ∧ w = w' := by
  go_enter Tryd.func14, Tryd.ntmps14
  go_wp2_with fail
  go_ret3
  exact ⟨rfl, rfl⟩

theorem apart_a2 (a b : Int) (w : World) (h0 : ¬ a < -1099511627776) (h : 1099511627776 < a) :
    Calls Tryd.prog 14 #[.int .i64 a, .int .i64 b] w fun e w' => e = .returned (.tuple #[.string ⟨#[]⟩, .int .i64 0, .bool false]) ∧ w = w' := by
  go_enter Tryd.func14, Tryd.ntmps14
  go_wp2_with fail
  go_ret3
  exact ⟨rfl, rfl⟩

theorem apart_b1 (a b : Int) (w : World) (h0 : ¬ a < -1099511627776) (h1 : ¬ 1099511627776 < a) (h : b < -1099511627776) :
    Calls Tryd.prog 14 #[.int .i64 a, .int .i64 b] w fun e w' => e = .returned (.tuple #[.string ⟨#[]⟩, .int .i64 0, .bool false]) ∧ w = w' := by
  go_enter Tryd.func14, Tryd.ntmps14
  go_wp2_with fail
  go_ret3
  exact ⟨rfl, rfl⟩

theorem apart_b2 (a b : Int) (w : World) (h0 : ¬ a < -1099511627776) (h1 : ¬ 1099511627776 < a) (h2 : ¬ b < -1099511627776) (h : 1099511627776 < b) :
    Calls Tryd.prog 14 #[.int .i64 a, .int .i64 b] w fun e w' => e = .returned (.tuple #[.string ⟨#[]⟩, .int .i64 0, .bool false]) ∧ w = w' := by
  go_enter Tryd.func14, Tryd.ntmps14
  go_wp2_with fail
  go_ret3
  exact ⟨rfl, rfl⟩

theorem apart_no (a b : Int) (w : World) (h : ¬ inFar a b) :
    Calls Tryd.prog 14 #[.int .i64 a, .int .i64 b] w fun e w' => e = .returned (.tuple #[.string ⟨#[]⟩, .int .i64 0, .bool false]) ∧ w = w' := by
  by_cases h1 : a < -1099511627776
  · exact apart_a1 a b w h1
  by_cases h2 : 1099511627776 < a
  · exact apart_a2 a b w h1 h2
  by_cases h3 : b < -1099511627776
  · exact apart_b1 a b w h1 h2 h3
  by_cases h4 : 1099511627776 < b
  · exact apart_b2 a b w h1 h2 h3 h4
  exact absurd ⟨h1, h2, h3, h4⟩ h

set_option maxRecDepth 100000 in
set_option maxHeartbeats 1000000 in
theorem apart_c0 (a b n : Int) (w : World) (h0 : ¬ a < -1099511627776) (h1 : ¬ 1099511627776 < a) (h2 : ¬ b < -1099511627776) (h3 : ¬ 1099511627776 < b) (hn : b - a = n) (c0 : 86400 ≤ Rlt.size n) :
    Calls Tryd.prog 14 #[.int .i64 a, .int .i64 b] w fun e w' => e = .returned (.tuple #[.string ⟨#[100, 97, 121]⟩, .int .i64 (n.tdiv 86400), .bool true]) ∧ w = w' := by
  have CS := Lib.hid fun w => rsize_any n w (by omega) (by omega)
  have hs : Rlt.size n ≤ 2199023255552 := by unfold Rlt.size; split <;> omega
  have bd := Rlt.tdiv_bd n 86400 (by omega)
  have q : IntKind.i64.wrap (n.tdiv 86400) = n.tdiv 86400 := IntWalk.i64_in _ (by omega)
  have k0 := c0
  generalize Rlt.size n = z at *
  have w0 : IntKind.i64.wrap (b - a) = n := by rw [hn]; exact IntWalk.i64_in _ (by omega)
  go_enter Tryd.func14, Tryd.ntmps14
  go_wp2_with fail
  refine (CS.out _).mono ?_
  rintro e w' ⟨rfl, rfl⟩
  go_wp2_with fail
  go_ret3
  exact ⟨rfl, rfl⟩

set_option maxRecDepth 100000 in
set_option maxHeartbeats 1000000 in
theorem apart_c1 (a b n : Int) (w : World) (h0 : ¬ a < -1099511627776) (h1 : ¬ 1099511627776 < a) (h2 : ¬ b < -1099511627776) (h3 : ¬ 1099511627776 < b) (hn : b - a = n) (c0 : ¬ 86400 ≤ Rlt.size n) (c1 : 3600 ≤ Rlt.size n) :
    Calls Tryd.prog 14 #[.int .i64 a, .int .i64 b] w fun e w' => e = .returned (.tuple #[.string ⟨#[104, 111, 117, 114]⟩, .int .i64 (n.tdiv 3600), .bool true]) ∧ w = w' := by
  have CS := Lib.hid fun w => rsize_any n w (by omega) (by omega)
  have hs : Rlt.size n ≤ 2199023255552 := by unfold Rlt.size; split <;> omega
  have bd := Rlt.tdiv_bd n 3600 (by omega)
  have q : IntKind.i64.wrap (n.tdiv 3600) = n.tdiv 3600 := IntWalk.i64_in _ (by omega)
  have k0 := c0
  have k1 := c1
  generalize Rlt.size n = z at *
  have w0 : IntKind.i64.wrap (b - a) = n := by rw [hn]; exact IntWalk.i64_in _ (by omega)
  go_enter Tryd.func14, Tryd.ntmps14
  go_wp2_with fail
  refine (CS.out _).mono ?_
  rintro e w' ⟨rfl, rfl⟩
  go_wp2_with fail
  refine (CS.out _).mono ?_
  rintro e w' ⟨rfl, rfl⟩
  go_wp2_with fail
  go_ret3
  exact ⟨rfl, rfl⟩

set_option maxRecDepth 100000 in
set_option maxHeartbeats 1000000 in
theorem apart_c2 (a b n : Int) (w : World) (h0 : ¬ a < -1099511627776) (h1 : ¬ 1099511627776 < a) (h2 : ¬ b < -1099511627776) (h3 : ¬ 1099511627776 < b) (hn : b - a = n) (c0 : ¬ 86400 ≤ Rlt.size n) (c1 : ¬ 3600 ≤ Rlt.size n) (c2 : 60 ≤ Rlt.size n) :
    Calls Tryd.prog 14 #[.int .i64 a, .int .i64 b] w fun e w' => e = .returned (.tuple #[.string ⟨#[109, 105, 110, 117, 116, 101]⟩, .int .i64 (n.tdiv 60), .bool true]) ∧ w = w' := by
  have CS := Lib.hid fun w => rsize_any n w (by omega) (by omega)
  have hs : Rlt.size n ≤ 2199023255552 := by unfold Rlt.size; split <;> omega
  have bd := Rlt.tdiv_bd n 60 (by omega)
  have q : IntKind.i64.wrap (n.tdiv 60) = n.tdiv 60 := IntWalk.i64_in _ (by omega)
  have k0 := c0
  have k1 := c1
  have k2 := c2
  generalize Rlt.size n = z at *
  have w0 : IntKind.i64.wrap (b - a) = n := by rw [hn]; exact IntWalk.i64_in _ (by omega)
  go_enter Tryd.func14, Tryd.ntmps14
  go_wp2_with fail
  refine (CS.out _).mono ?_
  rintro e w' ⟨rfl, rfl⟩
  go_wp2_with fail
  refine (CS.out _).mono ?_
  rintro e w' ⟨rfl, rfl⟩
  go_wp2_with fail
  refine (CS.out _).mono ?_
  rintro e w' ⟨rfl, rfl⟩
  go_wp2_with fail
  go_ret3
  exact ⟨rfl, rfl⟩

set_option maxRecDepth 100000 in
set_option maxHeartbeats 1000000 in
theorem apart_c3 (a b n : Int) (w : World) (h0 : ¬ a < -1099511627776) (h1 : ¬ 1099511627776 < a) (h2 : ¬ b < -1099511627776) (h3 : ¬ 1099511627776 < b) (hn : b - a = n) (c0 : ¬ 86400 ≤ Rlt.size n) (c1 : ¬ 3600 ≤ Rlt.size n) (c2 : ¬ 60 ≤ Rlt.size n) :
    Calls Tryd.prog 14 #[.int .i64 a, .int .i64 b] w fun e w' => e = .returned (.tuple #[.string ⟨#[115, 101, 99, 111, 110, 100]⟩, .int .i64 n, .bool true]) ∧ w = w' := by
  have CS := Lib.hid fun w => rsize_any n w (by omega) (by omega)
  have hs : Rlt.size n ≤ 2199023255552 := by unfold Rlt.size; split <;> omega
  have k0 := c0
  have k1 := c1
  have k2 := c2
  generalize Rlt.size n = z at *
  have w0 : IntKind.i64.wrap (b - a) = n := by rw [hn]; exact IntWalk.i64_in _ (by omega)
  go_enter Tryd.func14, Tryd.ntmps14
  go_wp2_with fail
  refine (CS.out _).mono ?_
  rintro e w' ⟨rfl, rfl⟩
  go_wp2_with fail
  refine (CS.out _).mono ?_
  rintro e w' ⟨rfl, rfl⟩
  go_wp2_with fail
  refine (CS.out _).mono ?_
  rintro e w' ⟨rfl, rfl⟩
  go_wp2_with fail
  go_ret3
  exact ⟨rfl, rfl⟩

theorem apart_yes (a b : Int) (w : World) (h : inFar a b) :
    Calls Tryd.prog 14 #[.int .i64 a, .int .i64 b] w fun e w' => e = .returned (.tuple #[.string ⟨(Rlt.unit (b - a)).toArray⟩, .int .i64 (Rlt.quot (b - a)), .bool true]) ∧ w = w' := by
  obtain ⟨h1, h2, h3, h4⟩ := h
  unfold Rlt.unit Rlt.quot
  by_cases c0 : 86400 ≤ Rlt.size (b - a)
  · rw [if_pos c0, if_pos c0]; exact apart_c0 a b _ w h1 h2 h3 h4 rfl c0
  rw [if_neg c0, if_neg c0]
  by_cases c1 : 3600 ≤ Rlt.size (b - a)
  · rw [if_pos c1, if_pos c1]; exact apart_c1 a b _ w h1 h2 h3 h4 rfl c0 c1
  rw [if_neg c1, if_neg c1]
  by_cases c2 : 60 ≤ Rlt.size (b - a)
  · rw [if_pos c2, if_pos c2]; exact apart_c2 a b _ w h1 h2 h3 h4 rfl c0 c1 c2
  rw [if_neg c2, if_neg c2]
  exact apart_c3 a b _ w h1 h2 h3 h4 rfl c0 c1 c2

theorem dd_len (n : Int) (h : n ≤ 9223372036854775807) : (Lib.decDigits n.toNat).length ≤ 20 := by rw [Lib.decDigits_length]; exact Lib.nDigits_le20 _ (by omega)
theorem size_nn (q : Int) : 0 ≤ Rlt.size q := by unfold Rlt.size; split <;> omega
theorem max_size (q : Int) : max q (-q) = Rlt.size q := by unfold Rlt.size; split <;> omega
theorem ago_zero (u : List UInt8) : Rlt.ago u 0 = [110, 111, 119] := rfl
theorem rago_zero (u : List UInt8) (w : World) : Calls Tryd.prog 15 #[.string ⟨u.toArray⟩, .int .i64 0] w fun e w' => e = .returned (.string ⟨(Rlt.ago u 0).toArray⟩) ∧ Below w.heap.size w w' := by
  go_enter Tryd.func15, Tryd.ntmps15
  go_wp2_with fail
  go_ret
  exact ⟨rfl, Below.refl _ _⟩

set_option maxRecDepth 100000 in
set_option maxHeartbeats 1000000 in
theorem rago_oneN (u : List UInt8) (q : Int) (w : World) (q0 : q ≠ 0) (b : Rlt.size q ≤ 2199023255552) (s1 : Rlt.size q = 1) (sg : q < 0) (ul : u.length ≤ 6) :
    Calls Tryd.prog 15 #[.string ⟨u.toArray⟩, .int .i64 q] w fun e w' => e = .returned (.string ⟨(Rlt.ago u q).toArray⟩) ∧ Below w.heap.size w w' := by
  have qb : -2199023255552 ≤ q ∧ q ≤ 2199023255552 := by unfold Rlt.size at b; split at b <;> omega
  have CS := Lib.hid fun w => rsize_any q w (by omega) (by omega)
  have sn := size_nn q
  have CD := Lib.hid fun w => digits_none (Rlt.size q) w sn (by omega)
  have e0 : (q == 0) = false := beq_no q0
  have G : Hid (Rlt.ago u q = Lib.decDigits (Rlt.size q).toNat ++ [32] ++ u ++ [] ++ [32, 97, 103, 111]) := Lib.hid (by unfold Rlt.ago; rw [if_neg q0]; simp only [if_pos s1, if_pos sg])
  have l1 := dd_len (Rlt.size q) (by omega)
  generalize Lib.decDigits (Rlt.size q).toNat = D at *
  obtain ⟨X1, x1⟩ : ∃ X, X = D ++ [32] := ⟨_, rfl⟩
  have A1 : ∀ w, (Op.stringOp .add ⟨D.toArray⟩ ⟨#[32]⟩).run Tryd.prog w = .ok (.string ⟨X1.toArray⟩) w := fun w => by rw [x1]; exact add_str (P := Tryd.prog) D [32] (by simp; omega) w
  have m1 : X1.length = D.length + 1 := by rw [x1]; simp
  obtain ⟨X2, x2⟩ : ∃ X, X = X1 ++ u := ⟨_, rfl⟩
  have A2 : ∀ w, (Op.stringOp .add ⟨X1.toArray⟩ ⟨u.toArray⟩).run Tryd.prog w = .ok (.string ⟨X2.toArray⟩) w := fun w => by rw [x2]; exact add_str (P := Tryd.prog) X1 u (by omega) w
  have m2 : X2.length = X1.length + u.length := by rw [x2]; simp
  obtain ⟨X4, x4⟩ : ∃ X, X = X2 ++ [32, 97, 103, 111] := ⟨_, rfl⟩
  have A4 : ∀ w, (Op.stringOp .add ⟨X2.toArray⟩ ⟨#[32, 97, 103, 111]⟩).run Tryd.prog w = .ok (.string ⟨X4.toArray⟩) w := fun w => by rw [x4]; exact add_str (P := Tryd.prog) X2 [32, 97, 103, 111] (by simp; omega) w
  have HX : Hid (Rlt.ago u q = X4) := Lib.hid (by rw [G.out, x4, x2, x1] <;> simp)
  clear x1 x2 x4 m1 m2 G
  generalize Rlt.size q = z at *
  have e1 : (z == 1) = true := beq_yes s1
  clear q0 qb s1
  go_enter Tryd.func15, Tryd.ntmps15
  go_wp2_with fail
  refine (CS.out _).mono ?_
  rintro e w' ⟨rfl, rfl⟩
  go_wp2_with fail
  refine (CD.out _).mono ?_
  rintro e w1 ⟨rfl, hb⟩
  go_wp2_with fail
  refine (CS.out _).mono ?_
  rintro e w' ⟨rfl, rfl⟩
  go_wp2_with fail
  go_ret
  exact ⟨ret_str (by rw [HX.out]), hb⟩

set_option maxRecDepth 100000 in
set_option maxHeartbeats 1000000 in
theorem relText_oneN (a c : Int) (u : List UInt8) (q : Int) (w : World) (hp : PowW w) (CO : Hid (Calls Tryd.prog 12 #[.int .i64 a, .int .i64 c] w fun e w' => e = .returned (.tuple #[.string ⟨u.toArray⟩, .int .i64 q, .nilIface]) ∧ Below w.heap.size w w')) (q0 : q ≠ 0) (b : Rlt.size q ≤ 2199023255552) (s1 : Rlt.size q = 1) (sg : q < 0) (ul : u.length ≤ 6) :
    Calls Tryd.prog 11 #[.int .i64 a, .int .i64 c] w fun e w' => e = .returned (.tuple #[.string ⟨(Rlt.ago u q).toArray⟩, .nilIface]) ∧ Below w.heap.size w w' := by
  have qb : -2199023255552 ≤ q ∧ q ≤ 2199023255552 := by unfold Rlt.size at b; split at b <;> omega
  obtain ⟨qb1, qb2⟩ := qb
  have sn := size_nn q
  have mx := max_size q
  have CD := Lib.hid fun w hp => itoa_pos (Rlt.size q) w hp sn (by omega)
  have e0 : (q == 0) = false := beq_no q0
  have G : Hid (Rlt.ago u q = Lib.decDigits (Rlt.size q).toNat ++ [32] ++ u ++ [] ++ [32, 97, 103, 111]) := Lib.hid (by unfold Rlt.ago; rw [if_neg q0]; simp only [if_pos s1, if_pos sg])
  have l1 := dd_len (Rlt.size q) (by omega)
  generalize Lib.decDigits (Rlt.size q).toNat = D at *
  obtain ⟨X1, x1⟩ : ∃ X, X = D ++ [32] := ⟨_, rfl⟩
  have A1 : ∀ w, (Op.stringOp .add ⟨D.toArray⟩ ⟨#[32]⟩).run Tryd.prog w = .ok (.string ⟨X1.toArray⟩) w := fun w => by rw [x1]; exact add_str (P := Tryd.prog) D [32] (by simp; omega) w
  have m1 : X1.length = D.length + 1 := by rw [x1]; simp
  obtain ⟨X2, x2⟩ : ∃ X, X = X1 ++ u := ⟨_, rfl⟩
  have A2 : ∀ w, (Op.stringOp .add ⟨X1.toArray⟩ ⟨u.toArray⟩).run Tryd.prog w = .ok (.string ⟨X2.toArray⟩) w := fun w => by rw [x2]; exact add_str (P := Tryd.prog) X1 u (by omega) w
  have m2 : X2.length = X1.length + u.length := by rw [x2]; simp
  obtain ⟨X4, x4⟩ : ∃ X, X = X2 ++ [32, 97, 103, 111] := ⟨_, rfl⟩
  have A4 : ∀ w, (Op.stringOp .add ⟨X2.toArray⟩ ⟨#[32, 97, 103, 111]⟩).run Tryd.prog w = .ok (.string ⟨X4.toArray⟩) w := fun w => by rw [x4]; exact add_str (P := Tryd.prog) X2 [32, 97, 103, 111] (by simp; omega) w
  have HX : Hid (Rlt.ago u q = X4) := Lib.hid (by rw [G.out, x4, x2, x1] <;> simp)
  clear x1 x2 x4 m1 m2 G
  generalize Rlt.size q = z at *
  have e1 : (z == 1) = true := beq_yes s1
  clear q0 s1
  go_enter Tryd.func11, Tryd.ntmps11
  go_wp2_with fail
  refine (CO.out).mono ?_
  rintro e w1 ⟨rfl, hb⟩
  have P1 := hp.below hb
  have W1 := Lib.hid hb
  clear hb
  go_wp2_with fail
  refine (CD.out _ P1).mono ?_
  rintro e w2 ⟨rfl, hb⟩
  have W2 := Lib.hid (blw_trans W1.out hb)
  clear hb
  go_wp2_with fail
  go_ret2
  exact ⟨ret_str_nil (by rw [HX.out]), W2.out⟩

set_option maxRecDepth 100000 in
set_option maxHeartbeats 1000000 in
theorem rago_oneP (u : List UInt8) (q : Int) (w : World) (q0 : q ≠ 0) (b : Rlt.size q ≤ 2199023255552) (s1 : Rlt.size q = 1) (sg : ¬ q < 0) (ul : u.length ≤ 6) :
    Calls Tryd.prog 15 #[.string ⟨u.toArray⟩, .int .i64 q] w fun e w' => e = .returned (.string ⟨(Rlt.ago u q).toArray⟩) ∧ Below w.heap.size w w' := by
  have qb : -2199023255552 ≤ q ∧ q ≤ 2199023255552 := by unfold Rlt.size at b; split at b <;> omega
  have CS := Lib.hid fun w => rsize_any q w (by omega) (by omega)
  have sn := size_nn q
  have CD := Lib.hid fun w => digits_none (Rlt.size q) w sn (by omega)
  have e0 : (q == 0) = false := beq_no q0
  have G : Hid (Rlt.ago u q = [105, 110, 32] ++ (Lib.decDigits (Rlt.size q).toNat ++ [32] ++ u ++ [])) := Lib.hid (by unfold Rlt.ago; rw [if_neg q0]; simp only [if_pos s1, if_neg sg])
  have l1 := dd_len (Rlt.size q) (by omega)
  generalize Lib.decDigits (Rlt.size q).toNat = D at *
  obtain ⟨X1, x1⟩ : ∃ X, X = D ++ [32] := ⟨_, rfl⟩
  have A1 : ∀ w, (Op.stringOp .add ⟨D.toArray⟩ ⟨#[32]⟩).run Tryd.prog w = .ok (.string ⟨X1.toArray⟩) w := fun w => by rw [x1]; exact add_str (P := Tryd.prog) D [32] (by simp; omega) w
  have m1 : X1.length = D.length + 1 := by rw [x1]; simp
  obtain ⟨X2, x2⟩ : ∃ X, X = X1 ++ u := ⟨_, rfl⟩
  have A2 : ∀ w, (Op.stringOp .add ⟨X1.toArray⟩ ⟨u.toArray⟩).run Tryd.prog w = .ok (.string ⟨X2.toArray⟩) w := fun w => by rw [x2]; exact add_str (P := Tryd.prog) X1 u (by omega) w
  have m2 : X2.length = X1.length + u.length := by rw [x2]; simp
  obtain ⟨X4, x4⟩ : ∃ X, X = [105, 110, 32] ++ X2 := ⟨_, rfl⟩
  have A4 : ∀ w, (Op.stringOp .add ⟨#[105, 110, 32]⟩ ⟨X2.toArray⟩).run Tryd.prog w = .ok (.string ⟨X4.toArray⟩) w := fun w => by rw [x4]; exact add_str (P := Tryd.prog) [105, 110, 32] X2 (by simp; omega) w
  have HX : Hid (Rlt.ago u q = X4) := Lib.hid (by rw [G.out, x4, x2, x1] <;> simp)
  clear x1 x2 x4 m1 m2 G
  generalize Rlt.size q = z at *
  have e1 : (z == 1) = true := beq_yes s1
  clear q0 qb s1
  go_enter Tryd.func15, Tryd.ntmps15
  go_wp2_with fail
  refine (CS.out _).mono ?_
  rintro e w' ⟨rfl, rfl⟩
  go_wp2_with fail
  refine (CD.out _).mono ?_
  rintro e w1 ⟨rfl, hb⟩
  go_wp2_with fail
  refine (CS.out _).mono ?_
  rintro e w' ⟨rfl, rfl⟩
  go_wp2_with fail
  go_ret
  exact ⟨ret_str (by rw [HX.out]), hb⟩

set_option maxRecDepth 100000 in
set_option maxHeartbeats 1000000 in
theorem relText_oneP (a c : Int) (u : List UInt8) (q : Int) (w : World) (hp : PowW w) (CO : Hid (Calls Tryd.prog 12 #[.int .i64 a, .int .i64 c] w fun e w' => e = .returned (.tuple #[.string ⟨u.toArray⟩, .int .i64 q, .nilIface]) ∧ Below w.heap.size w w')) (q0 : q ≠ 0) (b : Rlt.size q ≤ 2199023255552) (s1 : Rlt.size q = 1) (sg : ¬ q < 0) (ul : u.length ≤ 6) :
    Calls Tryd.prog 11 #[.int .i64 a, .int .i64 c] w fun e w' => e = .returned (.tuple #[.string ⟨(Rlt.ago u q).toArray⟩, .nilIface]) ∧ Below w.heap.size w w' := by
  have qb : -2199023255552 ≤ q ∧ q ≤ 2199023255552 := by unfold Rlt.size at b; split at b <;> omega
  obtain ⟨qb1, qb2⟩ := qb
  have sn := size_nn q
  have mx := max_size q
  have CD := Lib.hid fun w hp => itoa_pos (Rlt.size q) w hp sn (by omega)
  have e0 : (q == 0) = false := beq_no q0
  have G : Hid (Rlt.ago u q = [105, 110, 32] ++ (Lib.decDigits (Rlt.size q).toNat ++ [32] ++ u ++ [])) := Lib.hid (by unfold Rlt.ago; rw [if_neg q0]; simp only [if_pos s1, if_neg sg])
  have l1 := dd_len (Rlt.size q) (by omega)
  generalize Lib.decDigits (Rlt.size q).toNat = D at *
  obtain ⟨X1, x1⟩ : ∃ X, X = D ++ [32] := ⟨_, rfl⟩
  have A1 : ∀ w, (Op.stringOp .add ⟨D.toArray⟩ ⟨#[32]⟩).run Tryd.prog w = .ok (.string ⟨X1.toArray⟩) w := fun w => by rw [x1]; exact add_str (P := Tryd.prog) D [32] (by simp; omega) w
  have m1 : X1.length = D.length + 1 := by rw [x1]; simp
  obtain ⟨X2, x2⟩ : ∃ X, X = X1 ++ u := ⟨_, rfl⟩
  have A2 : ∀ w, (Op.stringOp .add ⟨X1.toArray⟩ ⟨u.toArray⟩).run Tryd.prog w = .ok (.string ⟨X2.toArray⟩) w := fun w => by rw [x2]; exact add_str (P := Tryd.prog) X1 u (by omega) w
  have m2 : X2.length = X1.length + u.length := by rw [x2]; simp
  obtain ⟨X4, x4⟩ : ∃ X, X = [105, 110, 32] ++ X2 := ⟨_, rfl⟩
  have A4 : ∀ w, (Op.stringOp .add ⟨#[105, 110, 32]⟩ ⟨X2.toArray⟩).run Tryd.prog w = .ok (.string ⟨X4.toArray⟩) w := fun w => by rw [x4]; exact add_str (P := Tryd.prog) [105, 110, 32] X2 (by simp; omega) w
  have HX : Hid (Rlt.ago u q = X4) := Lib.hid (by rw [G.out, x4, x2, x1] <;> simp)
  clear x1 x2 x4 m1 m2 G
  generalize Rlt.size q = z at *
  have e1 : (z == 1) = true := beq_yes s1
  clear q0 s1
  go_enter Tryd.func11, Tryd.ntmps11
  go_wp2_with fail
  refine (CO.out).mono ?_
  rintro e w1 ⟨rfl, hb⟩
  have P1 := hp.below hb
  have W1 := Lib.hid hb
  clear hb
  go_wp2_with fail
  refine (CD.out _ P1).mono ?_
  rintro e w2 ⟨rfl, hb⟩
  have W2 := Lib.hid (blw_trans W1.out hb)
  clear hb
  go_wp2_with fail
  go_ret2
  exact ⟨ret_str_nil (by rw [HX.out]), W2.out⟩

set_option maxRecDepth 100000 in
set_option maxHeartbeats 1000000 in
theorem rago_manyN (u : List UInt8) (q : Int) (w : World) (q0 : q ≠ 0) (b : Rlt.size q ≤ 2199023255552) (s1 : Rlt.size q ≠ 1) (sg : q < 0) (ul : u.length ≤ 6) :
    Calls Tryd.prog 15 #[.string ⟨u.toArray⟩, .int .i64 q] w fun e w' => e = .returned (.string ⟨(Rlt.ago u q).toArray⟩) ∧ Below w.heap.size w w' := by
  have qb : -2199023255552 ≤ q ∧ q ≤ 2199023255552 := by unfold Rlt.size at b; split at b <;> omega
  have CS := Lib.hid fun w => rsize_any q w (by omega) (by omega)
  have sn := size_nn q
  have CD := Lib.hid fun w => digits_none (Rlt.size q) w sn (by omega)
  have e0 : (q == 0) = false := beq_no q0
  have G : Hid (Rlt.ago u q = Lib.decDigits (Rlt.size q).toNat ++ [32] ++ u ++ [115] ++ [32, 97, 103, 111]) := Lib.hid (by unfold Rlt.ago; rw [if_neg q0]; simp only [if_neg s1, if_pos sg])
  have l1 := dd_len (Rlt.size q) (by omega)
  generalize Lib.decDigits (Rlt.size q).toNat = D at *
  obtain ⟨X1, x1⟩ : ∃ X, X = D ++ [32] := ⟨_, rfl⟩
  have A1 : ∀ w, (Op.stringOp .add ⟨D.toArray⟩ ⟨#[32]⟩).run Tryd.prog w = .ok (.string ⟨X1.toArray⟩) w := fun w => by rw [x1]; exact add_str (P := Tryd.prog) D [32] (by simp; omega) w
  have m1 : X1.length = D.length + 1 := by rw [x1]; simp
  obtain ⟨X2, x2⟩ : ∃ X, X = X1 ++ u := ⟨_, rfl⟩
  have A2 : ∀ w, (Op.stringOp .add ⟨X1.toArray⟩ ⟨u.toArray⟩).run Tryd.prog w = .ok (.string ⟨X2.toArray⟩) w := fun w => by rw [x2]; exact add_str (P := Tryd.prog) X1 u (by omega) w
  have m2 : X2.length = X1.length + u.length := by rw [x2]; simp
  obtain ⟨X3, x3⟩ : ∃ X, X = X2 ++ [115] := ⟨_, rfl⟩
  have A3 : ∀ w, (Op.stringOp .add ⟨X2.toArray⟩ ⟨#[115]⟩).run Tryd.prog w = .ok (.string ⟨X3.toArray⟩) w := fun w => by rw [x3]; exact add_str (P := Tryd.prog) X2 [115] (by simp; omega) w
  have m3 : X3.length = X2.length + 1 := by rw [x3]; simp
  obtain ⟨X4, x4⟩ : ∃ X, X = X3 ++ [32, 97, 103, 111] := ⟨_, rfl⟩
  have A4 : ∀ w, (Op.stringOp .add ⟨X3.toArray⟩ ⟨#[32, 97, 103, 111]⟩).run Tryd.prog w = .ok (.string ⟨X4.toArray⟩) w := fun w => by rw [x4]; exact add_str (P := Tryd.prog) X3 [32, 97, 103, 111] (by simp; omega) w
  have HX : Hid (Rlt.ago u q = X4) := Lib.hid (by rw [G.out, x4, x3, x2, x1] <;> simp)
  clear x1 x2 x3 x4 m1 m2 m3 G
  generalize Rlt.size q = z at *
  have e1 : (z == 1) = false := beq_no s1
  clear q0 qb s1
  go_enter Tryd.func15, Tryd.ntmps15
  go_wp2_with fail
  refine (CS.out _).mono ?_
  rintro e w' ⟨rfl, rfl⟩
  go_wp2_with fail
  refine (CD.out _).mono ?_
  rintro e w1 ⟨rfl, hb⟩
  go_wp2_with fail
  refine (CS.out _).mono ?_
  rintro e w' ⟨rfl, rfl⟩
  go_wp2_with fail
  go_ret
  exact ⟨ret_str (by rw [HX.out]), hb⟩

set_option maxRecDepth 100000 in
set_option maxHeartbeats 1000000 in
theorem relText_manyN (a c : Int) (u : List UInt8) (q : Int) (w : World) (hp : PowW w) (CO : Hid (Calls Tryd.prog 12 #[.int .i64 a, .int .i64 c] w fun e w' => e = .returned (.tuple #[.string ⟨u.toArray⟩, .int .i64 q, .nilIface]) ∧ Below w.heap.size w w')) (q0 : q ≠ 0) (b : Rlt.size q ≤ 2199023255552) (s1 : Rlt.size q ≠ 1) (sg : q < 0) (ul : u.length ≤ 6) :
    Calls Tryd.prog 11 #[.int .i64 a, .int .i64 c] w fun e w' => e = .returned (.tuple #[.string ⟨(Rlt.ago u q).toArray⟩, .nilIface]) ∧ Below w.heap.size w w' := by
  have qb : -2199023255552 ≤ q ∧ q ≤ 2199023255552 := by unfold Rlt.size at b; split at b <;> omega
  obtain ⟨qb1, qb2⟩ := qb
  have sn := size_nn q
  have mx := max_size q
  have CD := Lib.hid fun w hp => itoa_pos (Rlt.size q) w hp sn (by omega)
  have e0 : (q == 0) = false := beq_no q0
  have G : Hid (Rlt.ago u q = Lib.decDigits (Rlt.size q).toNat ++ [32] ++ u ++ [115] ++ [32, 97, 103, 111]) := Lib.hid (by unfold Rlt.ago; rw [if_neg q0]; simp only [if_neg s1, if_pos sg])
  have l1 := dd_len (Rlt.size q) (by omega)
  generalize Lib.decDigits (Rlt.size q).toNat = D at *
  obtain ⟨X1, x1⟩ : ∃ X, X = D ++ [32] := ⟨_, rfl⟩
  have A1 : ∀ w, (Op.stringOp .add ⟨D.toArray⟩ ⟨#[32]⟩).run Tryd.prog w = .ok (.string ⟨X1.toArray⟩) w := fun w => by rw [x1]; exact add_str (P := Tryd.prog) D [32] (by simp; omega) w
  have m1 : X1.length = D.length + 1 := by rw [x1]; simp
  obtain ⟨X2, x2⟩ : ∃ X, X = X1 ++ u := ⟨_, rfl⟩
  have A2 : ∀ w, (Op.stringOp .add ⟨X1.toArray⟩ ⟨u.toArray⟩).run Tryd.prog w = .ok (.string ⟨X2.toArray⟩) w := fun w => by rw [x2]; exact add_str (P := Tryd.prog) X1 u (by omega) w
  have m2 : X2.length = X1.length + u.length := by rw [x2]; simp
  obtain ⟨X3, x3⟩ : ∃ X, X = X2 ++ [115] := ⟨_, rfl⟩
  have A3 : ∀ w, (Op.stringOp .add ⟨X2.toArray⟩ ⟨#[115]⟩).run Tryd.prog w = .ok (.string ⟨X3.toArray⟩) w := fun w => by rw [x3]; exact add_str (P := Tryd.prog) X2 [115] (by simp; omega) w
  have m3 : X3.length = X2.length + 1 := by rw [x3]; simp
  obtain ⟨X4, x4⟩ : ∃ X, X = X3 ++ [32, 97, 103, 111] := ⟨_, rfl⟩
  have A4 : ∀ w, (Op.stringOp .add ⟨X3.toArray⟩ ⟨#[32, 97, 103, 111]⟩).run Tryd.prog w = .ok (.string ⟨X4.toArray⟩) w := fun w => by rw [x4]; exact add_str (P := Tryd.prog) X3 [32, 97, 103, 111] (by simp; omega) w
  have HX : Hid (Rlt.ago u q = X4) := Lib.hid (by rw [G.out, x4, x3, x2, x1] <;> simp)
  clear x1 x2 x3 x4 m1 m2 m3 G
  generalize Rlt.size q = z at *
  have e1 : (z == 1) = false := beq_no s1
  clear q0 s1
  go_enter Tryd.func11, Tryd.ntmps11
  go_wp2_with fail
  refine (CO.out).mono ?_
  rintro e w1 ⟨rfl, hb⟩
  have P1 := hp.below hb
  have W1 := Lib.hid hb
  clear hb
  go_wp2_with fail
  refine (CD.out _ P1).mono ?_
  rintro e w2 ⟨rfl, hb⟩
  have W2 := Lib.hid (blw_trans W1.out hb)
  clear hb
  go_wp2_with fail
  go_ret2
  exact ⟨ret_str_nil (by rw [HX.out]), W2.out⟩

set_option maxRecDepth 100000 in
set_option maxHeartbeats 1000000 in
theorem rago_manyP (u : List UInt8) (q : Int) (w : World) (q0 : q ≠ 0) (b : Rlt.size q ≤ 2199023255552) (s1 : Rlt.size q ≠ 1) (sg : ¬ q < 0) (ul : u.length ≤ 6) :
    Calls Tryd.prog 15 #[.string ⟨u.toArray⟩, .int .i64 q] w fun e w' => e = .returned (.string ⟨(Rlt.ago u q).toArray⟩) ∧ Below w.heap.size w w' := by
  have qb : -2199023255552 ≤ q ∧ q ≤ 2199023255552 := by unfold Rlt.size at b; split at b <;> omega
  have CS := Lib.hid fun w => rsize_any q w (by omega) (by omega)
  have sn := size_nn q
  have CD := Lib.hid fun w => digits_none (Rlt.size q) w sn (by omega)
  have e0 : (q == 0) = false := beq_no q0
  have G : Hid (Rlt.ago u q = [105, 110, 32] ++ (Lib.decDigits (Rlt.size q).toNat ++ [32] ++ u ++ [115])) := Lib.hid (by unfold Rlt.ago; rw [if_neg q0]; simp only [if_neg s1, if_neg sg])
  have l1 := dd_len (Rlt.size q) (by omega)
  generalize Lib.decDigits (Rlt.size q).toNat = D at *
  obtain ⟨X1, x1⟩ : ∃ X, X = D ++ [32] := ⟨_, rfl⟩
  have A1 : ∀ w, (Op.stringOp .add ⟨D.toArray⟩ ⟨#[32]⟩).run Tryd.prog w = .ok (.string ⟨X1.toArray⟩) w := fun w => by rw [x1]; exact add_str (P := Tryd.prog) D [32] (by simp; omega) w
  have m1 : X1.length = D.length + 1 := by rw [x1]; simp
  obtain ⟨X2, x2⟩ : ∃ X, X = X1 ++ u := ⟨_, rfl⟩
  have A2 : ∀ w, (Op.stringOp .add ⟨X1.toArray⟩ ⟨u.toArray⟩).run Tryd.prog w = .ok (.string ⟨X2.toArray⟩) w := fun w => by rw [x2]; exact add_str (P := Tryd.prog) X1 u (by omega) w
  have m2 : X2.length = X1.length + u.length := by rw [x2]; simp
  obtain ⟨X3, x3⟩ : ∃ X, X = X2 ++ [115] := ⟨_, rfl⟩
  have A3 : ∀ w, (Op.stringOp .add ⟨X2.toArray⟩ ⟨#[115]⟩).run Tryd.prog w = .ok (.string ⟨X3.toArray⟩) w := fun w => by rw [x3]; exact add_str (P := Tryd.prog) X2 [115] (by simp; omega) w
  have m3 : X3.length = X2.length + 1 := by rw [x3]; simp
  obtain ⟨X4, x4⟩ : ∃ X, X = [105, 110, 32] ++ X3 := ⟨_, rfl⟩
  have A4 : ∀ w, (Op.stringOp .add ⟨#[105, 110, 32]⟩ ⟨X3.toArray⟩).run Tryd.prog w = .ok (.string ⟨X4.toArray⟩) w := fun w => by rw [x4]; exact add_str (P := Tryd.prog) [105, 110, 32] X3 (by simp; omega) w
  have HX : Hid (Rlt.ago u q = X4) := Lib.hid (by rw [G.out, x4, x3, x2, x1] <;> simp)
  clear x1 x2 x3 x4 m1 m2 m3 G
  generalize Rlt.size q = z at *
  have e1 : (z == 1) = false := beq_no s1
  clear q0 qb s1
  go_enter Tryd.func15, Tryd.ntmps15
  go_wp2_with fail
  refine (CS.out _).mono ?_
  rintro e w' ⟨rfl, rfl⟩
  go_wp2_with fail
  refine (CD.out _).mono ?_
  rintro e w1 ⟨rfl, hb⟩
  go_wp2_with fail
  refine (CS.out _).mono ?_
  rintro e w' ⟨rfl, rfl⟩
  go_wp2_with fail
  go_ret
  exact ⟨ret_str (by rw [HX.out]), hb⟩

set_option maxRecDepth 100000 in
set_option maxHeartbeats 1000000 in
theorem relText_manyP (a c : Int) (u : List UInt8) (q : Int) (w : World) (hp : PowW w) (CO : Hid (Calls Tryd.prog 12 #[.int .i64 a, .int .i64 c] w fun e w' => e = .returned (.tuple #[.string ⟨u.toArray⟩, .int .i64 q, .nilIface]) ∧ Below w.heap.size w w')) (q0 : q ≠ 0) (b : Rlt.size q ≤ 2199023255552) (s1 : Rlt.size q ≠ 1) (sg : ¬ q < 0) (ul : u.length ≤ 6) :
    Calls Tryd.prog 11 #[.int .i64 a, .int .i64 c] w fun e w' => e = .returned (.tuple #[.string ⟨(Rlt.ago u q).toArray⟩, .nilIface]) ∧ Below w.heap.size w w' := by
  have qb : -2199023255552 ≤ q ∧ q ≤ 2199023255552 := by unfold Rlt.size at b; split at b <;> omega
  obtain ⟨qb1, qb2⟩ := qb
  have sn := size_nn q
  have mx := max_size q
  have CD := Lib.hid fun w hp => itoa_pos (Rlt.size q) w hp sn (by omega)
  have e0 : (q == 0) = false := beq_no q0
  have G : Hid (Rlt.ago u q = [105, 110, 32] ++ (Lib.decDigits (Rlt.size q).toNat ++ [32] ++ u ++ [115])) := Lib.hid (by unfold Rlt.ago; rw [if_neg q0]; simp only [if_neg s1, if_neg sg])
  have l1 := dd_len (Rlt.size q) (by omega)
  generalize Lib.decDigits (Rlt.size q).toNat = D at *
  obtain ⟨X1, x1⟩ : ∃ X, X = D ++ [32] := ⟨_, rfl⟩
  have A1 : ∀ w, (Op.stringOp .add ⟨D.toArray⟩ ⟨#[32]⟩).run Tryd.prog w = .ok (.string ⟨X1.toArray⟩) w := fun w => by rw [x1]; exact add_str (P := Tryd.prog) D [32] (by simp; omega) w
  have m1 : X1.length = D.length + 1 := by rw [x1]; simp
  obtain ⟨X2, x2⟩ : ∃ X, X = X1 ++ u := ⟨_, rfl⟩
  have A2 : ∀ w, (Op.stringOp .add ⟨X1.toArray⟩ ⟨u.toArray⟩).run Tryd.prog w = .ok (.string ⟨X2.toArray⟩) w := fun w => by rw [x2]; exact add_str (P := Tryd.prog) X1 u (by omega) w
  have m2 : X2.length = X1.length + u.length := by rw [x2]; simp
  obtain ⟨X3, x3⟩ : ∃ X, X = X2 ++ [115] := ⟨_, rfl⟩
  have A3 : ∀ w, (Op.stringOp .add ⟨X2.toArray⟩ ⟨#[115]⟩).run Tryd.prog w = .ok (.string ⟨X3.toArray⟩) w := fun w => by rw [x3]; exact add_str (P := Tryd.prog) X2 [115] (by simp; omega) w
  have m3 : X3.length = X2.length + 1 := by rw [x3]; simp
  obtain ⟨X4, x4⟩ : ∃ X, X = [105, 110, 32] ++ X3 := ⟨_, rfl⟩
  have A4 : ∀ w, (Op.stringOp .add ⟨#[105, 110, 32]⟩ ⟨X3.toArray⟩).run Tryd.prog w = .ok (.string ⟨X4.toArray⟩) w := fun w => by rw [x4]; exact add_str (P := Tryd.prog) [105, 110, 32] X3 (by simp; omega) w
  have HX : Hid (Rlt.ago u q = X4) := Lib.hid (by rw [G.out, x4, x3, x2, x1] <;> simp)
  clear x1 x2 x3 x4 m1 m2 m3 G
  generalize Rlt.size q = z at *
  have e1 : (z == 1) = false := beq_no s1
  clear q0 s1
  go_enter Tryd.func11, Tryd.ntmps11
  go_wp2_with fail
  refine (CO.out).mono ?_
  rintro e w1 ⟨rfl, hb⟩
  have P1 := hp.below hb
  have W1 := Lib.hid hb
  clear hb
  go_wp2_with fail
  refine (CD.out _ P1).mono ?_
  rintro e w2 ⟨rfl, hb⟩
  have W2 := Lib.hid (blw_trans W1.out hb)
  clear hb
  go_wp2_with fail
  go_ret2
  exact ⟨ret_str_nil (by rw [HX.out]), W2.out⟩

theorem rago_any (u : List UInt8) (q : Int) (w : World) (b : Rlt.size q ≤ 2199023255552) (ul : u.length ≤ 6) :
    Calls Tryd.prog 15 #[.string ⟨u.toArray⟩, .int .i64 q] w fun e w' => e = .returned (.string ⟨(Rlt.ago u q).toArray⟩) ∧ Below w.heap.size w w' := by
  by_cases q0 : q = 0
  · subst q0; exact rago_zero u w
  by_cases s1 : Rlt.size q = 1
  · by_cases sg : q < 0
    · exact rago_oneN u q w q0 b s1 sg ul
    · exact rago_oneP u q w q0 b s1 sg ul
  · by_cases sg : q < 0
    · exact rago_manyN u q w q0 b s1 sg ul
    · exact rago_manyP u q w q0 b s1 sg ul

theorem relText_zero (a c : Int) (u : List UInt8) (w : World) (CO : Hid (Calls Tryd.prog 12 #[.int .i64 a, .int .i64 c] w fun e w' => e = .returned (.tuple #[.string ⟨u.toArray⟩, .int .i64 0, .nilIface]) ∧ Below w.heap.size w w')) :
    Calls Tryd.prog 11 #[.int .i64 a, .int .i64 c] w fun e w' => e = .returned (.tuple #[.string ⟨(Rlt.ago u 0).toArray⟩, .nilIface]) ∧ Below w.heap.size w w' := by
  go_enter Tryd.func11, Tryd.ntmps11
  go_wp2_with fail
  refine (CO.out).mono ?_
  rintro e w1 ⟨rfl, hb⟩
  go_wp2_with fail
  go_ret2
  exact ⟨rfl, hb⟩
theorem relText_yes (a b : Int) (w : World) (hT : UnitsW w) (hp : PowW w) (h : inFar a b) :
    Calls Tryd.prog 11 #[.int .i64 a, .int .i64 b] w fun e w' => e = .returned (.tuple #[.string ⟨(Rlt.ago (Rlt.unit (b - a)) (Rlt.quot (b - a))).toArray⟩, .nilIface]) ∧ Below w.heap.size w w' := by
  have CO := Lib.hid (relOf_yes a b w hT h)
  have sb := size_far a b h
  have qb := Rlt.quot_bd (b - a)
  have bb : Rlt.size (Rlt.quot (b - a)) ≤ 2199023255552 := by
    generalize Rlt.quot (b - a) = q at *
    generalize Rlt.size (b - a) = z at *
    unfold Rlt.size; split <;> omega
  have ul := Rlt.unit_len (b - a)
  generalize Rlt.quot (b - a) = q at *
  generalize Rlt.unit (b - a) = u at *
  by_cases q0 : q = 0
  · subst q0; exact relText_zero a b u w CO
  by_cases s1 : Rlt.size q = 1
  · by_cases sg : q < 0
    · exact relText_oneN a b u q w hp CO q0 bb s1 sg ul
    · exact relText_oneP a b u q w hp CO q0 bb s1 sg ul
  · by_cases sg : q < 0
    · exact relText_manyN a b u q w hp CO q0 bb s1 sg ul
    · exact relText_manyP a b u q w hp CO q0 bb s1 sg ul
theorem relText_no (a b : Int) (w : World) (h : ¬ inFar a b) :
    Calls Tryd.prog 11 #[.int .i64 a, .int .i64 b] w fun e w' => e = .returned (.tuple #[.string ⟨#[]⟩, errV 1]) ∧ Below w.heap.size w w' := by
  have CO := Lib.hid (relOf_no a b w h)
  clear h
  go_enter Tryd.func11, Tryd.ntmps11
  go_wp2_with fail
  refine (CO.out).mono ?_
  rintro e w1 ⟨rfl, hb⟩
  go_wp2_with fail
  go_ret2
  exact ⟨rfl, hb⟩
theorem relText_fact (w : World) (hT : UnitsW w) (hp : PowW w) :
    Calls Tryd.prog 11 #[.int .i64 0, .int .i64 7200] w fun e w' => e = .returned (.tuple #[.string ⟨#[105, 110, 32, 50, 32, 104, 111, 117, 114, 115]⟩, .nilIface]) ∧ Below w.heap.size w w' := by
  have c := relText_yes 0 7200 w hT hp ⟨by omega, by omega, by omega, by omega⟩
  have e : Rlt.ago (Rlt.unit (7200 - 0)) (Rlt.quot (7200 - 0)) = [105, 110, 32, 50, 32, 104, 111, 117, 114, 115] := by decide +kernel
  rw [e] at c
  exact c
end Go.Proofs.YthanbfimeolidaaDoor
