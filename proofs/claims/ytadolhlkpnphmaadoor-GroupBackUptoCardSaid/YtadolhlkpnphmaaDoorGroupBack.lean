/- The walk of the law GroupBack. -/
import Derived.Test.YtadolhlkpnphmaaDoorGrpTake
namespace Go.Proofs.YtadolhlkpnphmaaDoor
open Go.RowKit

set_option maxRecDepth 100000 in
set_option maxHeartbeats 1000000 in
theorem groupBack_yy (d s : List UInt8) (A : List UInt8) (B : List UInt8) (g g2 : Int) (c : UInt8) (w : World) (hT : MaxW w)
    (C1 : Hid (∀ w : World, Calls Tryd.prog 38 #[.string ⟨d.toArray⟩, .int .i64 g, .int .i64 g2, .int .u8 (c.toNat : Int)] w fun e w' => e = .returned (.tuple #[.string ⟨A.toArray⟩, .nilIface]) ∧ Below w.heap.size w w'))
    (C2 : Hid (∀ w : World, MaxW w → Calls Tryd.prog 41 #[.string ⟨A.toArray⟩, .int .i64 g, .int .i64 g2, .int .u8 (c.toNat : Int)] w fun e w' => e = .returned (.tuple #[.string ⟨d.toArray⟩, .nilIface]) ∧ Below w.heap.size w w'))
    (C3 : Hid (∀ w : World, MaxW w → Calls Tryd.prog 41 #[.string ⟨s.toArray⟩, .int .i64 g, .int .i64 g2, .int .u8 (c.toNat : Int)] w fun e w' => e = .returned (.tuple #[.string ⟨B.toArray⟩, .nilIface]) ∧ Below w.heap.size w w'))
    (C4 : Hid (∀ w : World, Calls Tryd.prog 38 #[.string ⟨B.toArray⟩, .int .i64 g, .int .i64 g2, .int .u8 (c.toNat : Int)] w fun e w' => e = .returned (.tuple #[.string ⟨s.toArray⟩, .nilIface]) ∧ Below w.heap.size w w')) :
    Calls Tryd.prog 12 #[.string ⟨d.toArray⟩, .string ⟨s.toArray⟩, .int .i64 g, .int .i64 g2, .int .u8 (c.toNat : Int)] w fun e w' => e = .returned (.bool true) ∧ Below w.heap.size w w' := by
  have C0 := Lib.hid fun w => grouped_any w
  go_enter Tryd.func12, Tryd.ntmps12
  go_wp2_with fail
  refine (C0.out _).mono ?_
  rintro e w1 ⟨rfl, hb⟩
  have W1 := Lib.hid (blw_trans (show Below w.heap.size w _ by repeat (first | exact (Below.refl _ _) | refine blw_drewN ?_ _ | refine Below.setCell ?_ (by first | (simp; done) | omega | (simp; omega)) _ | refine Below.alloc ?_ (by first | (simp; done) | omega | (simp; omega)) _)) hb)
  have n1 := hb.size
  try simp at n1
  clear hb
  go_wp2_with fail
  refine (C1.out _).mono ?_
  rintro e w2 ⟨rfl, hb⟩
  have W2 := Lib.hid (blw_trans (show Below w.heap.size w _ by repeat (first | exact W1.out | refine blw_drewN ?_ _ | refine Below.setCell ?_ (by first | (simp; done) | omega | (simp; omega)) _ | refine Below.alloc ?_ (by first | (simp; done) | omega | (simp; omega)) _)) hb)
  have n2 := hb.size
  try simp at n2
  clear hb W1
  go_wp2_with fail
  refine (C2.out _ (hT.below (by repeat (first | exact W2.out | refine blw_drewN ?_ _ | refine Below.setCell ?_ (by first | (simp; done) | omega | (simp; omega)) _ | refine Below.alloc ?_ (by first | (simp; done) | omega | (simp; omega)) _)))).mono ?_
  rintro e w3 ⟨rfl, hb⟩
  have W3 := Lib.hid (blw_trans (show Below w.heap.size w _ by repeat (first | exact W2.out | refine blw_drewN ?_ _ | refine Below.setCell ?_ (by first | (simp; done) | omega | (simp; omega)) _ | refine Below.alloc ?_ (by first | (simp; done) | omega | (simp; omega)) _)) hb)
  have n3 := hb.size
  try simp at n3
  clear hb W2
  go_wp2_with fail
  refine (C3.out _ (hT.below (by repeat (first | exact W3.out | refine blw_drewN ?_ _ | refine Below.setCell ?_ (by first | (simp; done) | omega | (simp; omega)) _ | refine Below.alloc ?_ (by first | (simp; done) | omega | (simp; omega)) _)))).mono ?_
  rintro e w4 ⟨rfl, hb⟩
  have W4 := Lib.hid (blw_trans (show Below w.heap.size w _ by repeat (first | exact W3.out | refine blw_drewN ?_ _ | refine Below.setCell ?_ (by first | (simp; done) | omega | (simp; omega)) _ | refine Below.alloc ?_ (by first | (simp; done) | omega | (simp; omega)) _)) hb)
  have n4 := hb.size
  try simp at n4
  clear hb W3
  go_wp2_with fail
  refine (C4.out _).mono ?_
  rintro e w5 ⟨rfl, hb⟩
  have W5 := Lib.hid (blw_trans (show Below w.heap.size w _ by repeat (first | exact W4.out | refine blw_drewN ?_ _ | refine Below.setCell ?_ (by first | (simp; done) | omega | (simp; omega)) _ | refine Below.alloc ?_ (by first | (simp; done) | omega | (simp; omega)) _)) hb)
  have n5 := hb.size
  try simp at n5
  clear hb W4
  go_wp2
  go_ret
  exact ⟨ret_bool (by simp), by repeat (first | exact W5.out | refine blw_drewN ?_ _ | refine Below.setCell ?_ (by first | (simp; done) | omega | (simp; omega)) _ | refine Below.alloc ?_ (by first | (simp; done) | omega | (simp; omega)) _)⟩

set_option maxRecDepth 100000 in
set_option maxHeartbeats 1000000 in
theorem groupBack_yn (d s : List UInt8) (A : List UInt8) (g g2 m : Int) (c : UInt8) (w : World) (hT : MaxW w)
    (C1 : Hid (∀ w : World, Calls Tryd.prog 38 #[.string ⟨d.toArray⟩, .int .i64 g, .int .i64 g2, .int .u8 (c.toNat : Int)] w fun e w' => e = .returned (.tuple #[.string ⟨A.toArray⟩, .nilIface]) ∧ Below w.heap.size w w'))
    (C2 : Hid (∀ w : World, MaxW w → Calls Tryd.prog 41 #[.string ⟨A.toArray⟩, .int .i64 g, .int .i64 g2, .int .u8 (c.toNat : Int)] w fun e w' => e = .returned (.tuple #[.string ⟨d.toArray⟩, .nilIface]) ∧ Below w.heap.size w w'))
    (C3 : Hid (∀ w : World, MaxW w → Calls Tryd.prog 41 #[.string ⟨s.toArray⟩, .int .i64 g, .int .i64 g2, .int .u8 (c.toNat : Int)] w fun e w' => e = .returned (.tuple #[.string ⟨#[]⟩, errV m]) ∧ Below w.heap.size w w')) :
    Calls Tryd.prog 12 #[.string ⟨d.toArray⟩, .string ⟨s.toArray⟩, .int .i64 g, .int .i64 g2, .int .u8 (c.toNat : Int)] w fun e w' => e = .returned (.bool true) ∧ Below w.heap.size w w' := by
  have C0 := Lib.hid fun w => grouped_any w
  go_enter Tryd.func12, Tryd.ntmps12
  go_wp2_with fail
  refine (C0.out _).mono ?_
  rintro e w1 ⟨rfl, hb⟩
  have W1 := Lib.hid (blw_trans (show Below w.heap.size w _ by repeat (first | exact (Below.refl _ _) | refine blw_drewN ?_ _ | refine Below.setCell ?_ (by first | (simp; done) | omega | (simp; omega)) _ | refine Below.alloc ?_ (by first | (simp; done) | omega | (simp; omega)) _)) hb)
  have n1 := hb.size
  try simp at n1
  clear hb
  go_wp2_with fail
  refine (C1.out _).mono ?_
  rintro e w2 ⟨rfl, hb⟩
  have W2 := Lib.hid (blw_trans (show Below w.heap.size w _ by repeat (first | exact W1.out | refine blw_drewN ?_ _ | refine Below.setCell ?_ (by first | (simp; done) | omega | (simp; omega)) _ | refine Below.alloc ?_ (by first | (simp; done) | omega | (simp; omega)) _)) hb)
  have n2 := hb.size
  try simp at n2
  clear hb W1
  go_wp2_with fail
  refine (C2.out _ (hT.below (by repeat (first | exact W2.out | refine blw_drewN ?_ _ | refine Below.setCell ?_ (by first | (simp; done) | omega | (simp; omega)) _ | refine Below.alloc ?_ (by first | (simp; done) | omega | (simp; omega)) _)))).mono ?_
  rintro e w3 ⟨rfl, hb⟩
  have W3 := Lib.hid (blw_trans (show Below w.heap.size w _ by repeat (first | exact W2.out | refine blw_drewN ?_ _ | refine Below.setCell ?_ (by first | (simp; done) | omega | (simp; omega)) _ | refine Below.alloc ?_ (by first | (simp; done) | omega | (simp; omega)) _)) hb)
  have n3 := hb.size
  try simp at n3
  clear hb W2
  go_wp2_with fail
  refine (C3.out _ (hT.below (by repeat (first | exact W3.out | refine blw_drewN ?_ _ | refine Below.setCell ?_ (by first | (simp; done) | omega | (simp; omega)) _ | refine Below.alloc ?_ (by first | (simp; done) | omega | (simp; omega)) _)))).mono ?_
  rintro e w4 ⟨rfl, hb⟩
  have W4 := Lib.hid (blw_trans (show Below w.heap.size w _ by repeat (first | exact W3.out | refine blw_drewN ?_ _ | refine Below.setCell ?_ (by first | (simp; done) | omega | (simp; omega)) _ | refine Below.alloc ?_ (by first | (simp; done) | omega | (simp; omega)) _)) hb)
  have n4 := hb.size
  try simp at n4
  clear hb W3
  go_wp2
  go_ret
  exact ⟨ret_bool (by simp), by repeat (first | exact W4.out | refine blw_drewN ?_ _ | refine Below.setCell ?_ (by first | (simp; done) | omega | (simp; omega)) _ | refine Below.alloc ?_ (by first | (simp; done) | omega | (simp; omega)) _)⟩

set_option maxRecDepth 100000 in
set_option maxHeartbeats 1000000 in
theorem groupBack_ny (d s : List UInt8) (B : List UInt8) (g g2 n : Int) (c : UInt8) (w : World) (hT : MaxW w)
    (C1 : Hid (∀ w : World, Calls Tryd.prog 38 #[.string ⟨d.toArray⟩, .int .i64 g, .int .i64 g2, .int .u8 (c.toNat : Int)] w fun e w' => e = .returned (.tuple #[.string ⟨#[]⟩, errV n]) ∧ Below w.heap.size w w'))
    (C3 : Hid (∀ w : World, MaxW w → Calls Tryd.prog 41 #[.string ⟨s.toArray⟩, .int .i64 g, .int .i64 g2, .int .u8 (c.toNat : Int)] w fun e w' => e = .returned (.tuple #[.string ⟨B.toArray⟩, .nilIface]) ∧ Below w.heap.size w w'))
    (C4 : Hid (∀ w : World, Calls Tryd.prog 38 #[.string ⟨B.toArray⟩, .int .i64 g, .int .i64 g2, .int .u8 (c.toNat : Int)] w fun e w' => e = .returned (.tuple #[.string ⟨s.toArray⟩, .nilIface]) ∧ Below w.heap.size w w')) :
    Calls Tryd.prog 12 #[.string ⟨d.toArray⟩, .string ⟨s.toArray⟩, .int .i64 g, .int .i64 g2, .int .u8 (c.toNat : Int)] w fun e w' => e = .returned (.bool true) ∧ Below w.heap.size w w' := by
  have C0 := Lib.hid fun w => grouped_any w
  go_enter Tryd.func12, Tryd.ntmps12
  go_wp2_with fail
  refine (C0.out _).mono ?_
  rintro e w1 ⟨rfl, hb⟩
  have W1 := Lib.hid (blw_trans (show Below w.heap.size w _ by repeat (first | exact (Below.refl _ _) | refine blw_drewN ?_ _ | refine Below.setCell ?_ (by first | (simp; done) | omega | (simp; omega)) _ | refine Below.alloc ?_ (by first | (simp; done) | omega | (simp; omega)) _)) hb)
  have n1 := hb.size
  try simp at n1
  clear hb
  go_wp2_with fail
  refine (C1.out _).mono ?_
  rintro e w2 ⟨rfl, hb⟩
  have W2 := Lib.hid (blw_trans (show Below w.heap.size w _ by repeat (first | exact W1.out | refine blw_drewN ?_ _ | refine Below.setCell ?_ (by first | (simp; done) | omega | (simp; omega)) _ | refine Below.alloc ?_ (by first | (simp; done) | omega | (simp; omega)) _)) hb)
  have n2 := hb.size
  try simp at n2
  clear hb W1
  go_wp2_with fail
  refine (C3.out _ (hT.below (by repeat (first | exact W2.out | refine blw_drewN ?_ _ | refine Below.setCell ?_ (by first | (simp; done) | omega | (simp; omega)) _ | refine Below.alloc ?_ (by first | (simp; done) | omega | (simp; omega)) _)))).mono ?_
  rintro e w3 ⟨rfl, hb⟩
  have W3 := Lib.hid (blw_trans (show Below w.heap.size w _ by repeat (first | exact W2.out | refine blw_drewN ?_ _ | refine Below.setCell ?_ (by first | (simp; done) | omega | (simp; omega)) _ | refine Below.alloc ?_ (by first | (simp; done) | omega | (simp; omega)) _)) hb)
  have n3 := hb.size
  try simp at n3
  clear hb W2
  go_wp2_with fail
  refine (C4.out _).mono ?_
  rintro e w4 ⟨rfl, hb⟩
  have W4 := Lib.hid (blw_trans (show Below w.heap.size w _ by repeat (first | exact W3.out | refine blw_drewN ?_ _ | refine Below.setCell ?_ (by first | (simp; done) | omega | (simp; omega)) _ | refine Below.alloc ?_ (by first | (simp; done) | omega | (simp; omega)) _)) hb)
  have n4 := hb.size
  try simp at n4
  clear hb W3
  go_wp2
  go_ret
  exact ⟨ret_bool (by simp), by repeat (first | exact W4.out | refine blw_drewN ?_ _ | refine Below.setCell ?_ (by first | (simp; done) | omega | (simp; omega)) _ | refine Below.alloc ?_ (by first | (simp; done) | omega | (simp; omega)) _)⟩

set_option maxRecDepth 100000 in
set_option maxHeartbeats 1000000 in
theorem groupBack_nn (d s : List UInt8) (g g2 n m : Int) (c : UInt8) (w : World) (hT : MaxW w)
    (C1 : Hid (∀ w : World, Calls Tryd.prog 38 #[.string ⟨d.toArray⟩, .int .i64 g, .int .i64 g2, .int .u8 (c.toNat : Int)] w fun e w' => e = .returned (.tuple #[.string ⟨#[]⟩, errV n]) ∧ Below w.heap.size w w'))
    (C3 : Hid (∀ w : World, MaxW w → Calls Tryd.prog 41 #[.string ⟨s.toArray⟩, .int .i64 g, .int .i64 g2, .int .u8 (c.toNat : Int)] w fun e w' => e = .returned (.tuple #[.string ⟨#[]⟩, errV m]) ∧ Below w.heap.size w w')) :
    Calls Tryd.prog 12 #[.string ⟨d.toArray⟩, .string ⟨s.toArray⟩, .int .i64 g, .int .i64 g2, .int .u8 (c.toNat : Int)] w fun e w' => e = .returned (.bool true) ∧ Below w.heap.size w w' := by
  have C0 := Lib.hid fun w => grouped_any w
  go_enter Tryd.func12, Tryd.ntmps12
  go_wp2_with fail
  refine (C0.out _).mono ?_
  rintro e w1 ⟨rfl, hb⟩
  have W1 := Lib.hid (blw_trans (show Below w.heap.size w _ by repeat (first | exact (Below.refl _ _) | refine blw_drewN ?_ _ | refine Below.setCell ?_ (by first | (simp; done) | omega | (simp; omega)) _ | refine Below.alloc ?_ (by first | (simp; done) | omega | (simp; omega)) _)) hb)
  have n1 := hb.size
  try simp at n1
  clear hb
  go_wp2_with fail
  refine (C1.out _).mono ?_
  rintro e w2 ⟨rfl, hb⟩
  have W2 := Lib.hid (blw_trans (show Below w.heap.size w _ by repeat (first | exact W1.out | refine blw_drewN ?_ _ | refine Below.setCell ?_ (by first | (simp; done) | omega | (simp; omega)) _ | refine Below.alloc ?_ (by first | (simp; done) | omega | (simp; omega)) _)) hb)
  have n2 := hb.size
  try simp at n2
  clear hb W1
  go_wp2_with fail
  refine (C3.out _ (hT.below (by repeat (first | exact W2.out | refine blw_drewN ?_ _ | refine Below.setCell ?_ (by first | (simp; done) | omega | (simp; omega)) _ | refine Below.alloc ?_ (by first | (simp; done) | omega | (simp; omega)) _)))).mono ?_
  rintro e w3 ⟨rfl, hb⟩
  have W3 := Lib.hid (blw_trans (show Below w.heap.size w _ by repeat (first | exact W2.out | refine blw_drewN ?_ _ | refine Below.setCell ?_ (by first | (simp; done) | omega | (simp; omega)) _ | refine Below.alloc ?_ (by first | (simp; done) | omega | (simp; omega)) _)) hb)
  have n3 := hb.size
  try simp at n3
  clear hb W2
  go_wp2
  go_ret
  exact ⟨ret_bool (by simp), by repeat (first | exact W3.out | refine blw_drewN ?_ _ | refine Below.setCell ?_ (by first | (simp; done) | omega | (simp; omega)) _ | refine Below.alloc ?_ (by first | (simp; done) | omega | (simp; omega)) _)⟩

theorem groupBack_any (d s : List UInt8) (g g2 : Int) (c : UInt8) (w : World) (hT : MaxW w) (hd : d.length ≤ 100000000) (hs : s.length ≤ 100000000) :
    Calls Tryd.prog 12 #[.string ⟨d.toArray⟩, .string ⟨s.toArray⟩, .int .i64 g, .int .i64 g2, .int .u8 (c.toNat : Int)] w fun e w' => e = .returned (.bool true) ∧ Below w.heap.size w w' := by
  have hl := without_len c s
  by_cases hc : 48 ≤ (c.toNat : Int) ∧ (c.toNat : Int) ≤ 57
  · have t := fun (w : World) (_ : MaxW w) => take_err ⟨s.toArray⟩ g g2 (c.toNat : Int) 3 w (Lib.hid fun w => gcheck_form g g2 _ w hc.1 hc.2)
    cases h : digB d with
    | true => exact groupBack_nn d s g g2 _ _ c w hT (Lib.hid fun w => put_form d g g2 _ w (by omega) h hc.1 hc.2) (Lib.hid t)
    | false => exact groupBack_nn d s g g2 _ _ c w hT (Lib.hid fun w => put_bad d g g2 _ w (by omega) h) (Lib.hid t)
  by_cases hG : rightG g g2
  · by_cases ht : digB (without c s) = true ∧ gout (without c s) g g2 c = s
    · have t := fun (w : World) (hM : MaxW w) => take_yes s g g2 c w hM (by omega) hc hG ht.1 ht.2
      have p := fun (w : World) => put_ok (without c s) g g2 c w (by omega) ht.1 hc hG
      rw [ht.2] at p
      cases h : digB d with
      | true =>
        have hn := not_in h hc
        have hw := without_gout (g := g) (g2 := g2) hn
        have gl := gout_len d g g2 c
        have t2 := fun (w : World) (hM : MaxW w) => take_yes (gout d g g2 c) g g2 c w hM (by omega) hc hG (by rw [hw]; exact h) (by rw [hw])
        rw [hw] at t2
        exact groupBack_yy d s _ _ g g2 c w hT (Lib.hid fun w => put_ok d g g2 c w (by omega) h hc hG) (Lib.hid t2) (Lib.hid t) (Lib.hid p)
      | false => exact groupBack_ny d s _ g g2 _ c w hT (Lib.hid fun w => put_bad d g g2 _ w (by omega) h) (Lib.hid t) (Lib.hid p)
    · have t := fun (w : World) (hM : MaxW w) => take_no s g g2 c w hM (by omega) hc hG ht
      cases h : digB d with
      | true =>
        have hn := not_in h hc
        have hw := without_gout (g := g) (g2 := g2) hn
        have gl := gout_len d g g2 c
        have t2 := fun (w : World) (hM : MaxW w) => take_yes (gout d g g2 c) g g2 c w hM (by omega) hc hG (by rw [hw]; exact h) (by rw [hw])
        rw [hw] at t2
        exact groupBack_yn d s _ g g2 _ c w hT (Lib.hid fun w => put_ok d g g2 c w (by omega) h hc hG) (Lib.hid t2) (Lib.hid t)
      | false => exact groupBack_nn d s g g2 _ _ c w hT (Lib.hid fun w => put_bad d g g2 _ w (by omega) h) (Lib.hid t)
  · have t := fun (w : World) (_ : MaxW w) => take_err ⟨s.toArray⟩ g g2 (c.toNat : Int) 1 w (Lib.hid fun w => gcheck_range g g2 _ w hc hG)
    cases h : digB d with
    | true => exact groupBack_nn d s g g2 _ _ c w hT (Lib.hid fun w => put_range d g g2 _ w (by omega) h hc hG) (Lib.hid t)
    | false => exact groupBack_nn d s g g2 _ _ c w hT (Lib.hid fun w => put_bad d g g2 _ w (by omega) h) (Lib.hid t)
end Go.Proofs.YtadolhlkpnphmaaDoor
