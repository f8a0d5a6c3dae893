/- The walk of the law GroupSizes. -/
import Derived.Test.YtadolhlkpnphmaaDoorGrpTake
import Derived.Test.YtadolhlkpnphmaaDoorCut
import Derived.Test.YtadolhlkpnphmaaDoorJoined
namespace Go.Proofs.YtadolhlkpnphmaaDoor
open Go.RowKit

/-- how long a piece is to be -/
def want (g g2 : Int) (n k : Nat) : Int := if k + 1 = n then g else if g2 = 0 then g else g2

set_option maxRecDepth 100000 in
set_option maxHeartbeats 1000000 in
theorem groupSizes_no (d : List UInt8) (g g2 n : Int) (c : UInt8) (w : World)
    (C1 : Hid (∀ w : World, Calls Tryd.prog 38 #[.string ⟨d.toArray⟩, .int .i64 g, .int .i64 g2, .int .u8 (c.toNat : Int)] w fun e w' => e = .returned (.tuple #[.string ⟨#[]⟩, errV n]) ∧ Below w.heap.size w w')) :
    Calls Tryd.prog 11 #[.string ⟨d.toArray⟩, .int .i64 g, .int .i64 g2, .int .u8 (c.toNat : Int)] w fun e w' => e = .returned (.bool true) ∧ Below w.heap.size w w' := by
  have C0 := Lib.hid fun w => grouped_any w
  go_enter Tryd.func11, Tryd.ntmps11
  go_wp2_with fail
  refine (C0.out _).mono ?_
  rintro e w1 ⟨rfl, hb⟩
  have W1 := Lib.hid (blw_trans (show Below w.heap.size w _ by repeat (first | exact (Below.refl _ _) | refine blw_drewN ?_ _ | refine Below.setCell ?_ (by first | (simp; done) | omega | (simp; omega)) _ | refine Below.alloc ?_ (by first | (simp; done) | omega | (simp; omega)) _)) hb)
  have n1 := hb.size
  try simp at n1
  clear hb
  go_wp2_with fail
  refine (C1.out _).mono ?_
  rintro e w2 ⟨rfl, hb⟩
  have W2 := Lib.hid (blw_trans (show Below w.heap.size w _ by repeat (first | exact W1.out | refine blw_drewN ?_ _ | refine Below.setCell ?_ (by first | (simp; done) | omega | (simp; omega)) _ | refine Below.alloc ?_ (by first | (simp; done) | omega | (simp; omega)) _)) hb)
  have n2 := hb.size
  try simp at n2
  clear hb W1
  go_wp2
  go_ret
  exact ⟨ret_bool (by simp), by repeat (first | exact W2.out | refine blw_drewN ?_ _ | refine Below.setCell ?_ (by first | (simp; done) | omega | (simp; omega)) _ | refine Below.alloc ?_ (by first | (simp; done) | omega | (simp; omega)) _)⟩

set_option maxRecDepth 100000 in
set_option maxHeartbeats 2000000 in
theorem groupSizes_1z0 (d A : List UInt8) (L : List (List UInt8)) (g g2 : Int) (c : UInt8) (w : World)
    (C1 : Hid (∀ w : World, Calls Tryd.prog 38 #[.string ⟨d.toArray⟩, .int .i64 g, .int .i64 g2, .int .u8 (c.toNat : Int)] w fun e w' => e = .returned (.tuple #[.string ⟨A.toArray⟩, .nilIface]) ∧ Below w.heap.size w w'))
    (CU : Hid (∀ w : World, Calls Tryd.prog 39 #[.string ⟨A.toArray⟩, .string ⟨[c].toArray⟩] w (GivesStrs w L)))
    (CJ : Hid (∀ (w : World) (v : Value), StrsAt w v L → Calls Tryd.prog 40 #[v, .string ⟨#[]⟩] w fun e w' => e = .returned (.string ⟨d.toArray⟩) ∧ w = w'))
    (_hl : L.length ≤ 1000000000) (_hd : d.length ≤ 1000000000) (hn : L.length = 1) (h0 : g = 0) (hz : g2 = 0) :
    Calls Tryd.prog 11 #[.string ⟨d.toArray⟩, .int .i64 g, .int .i64 g2, .int .u8 (c.toNat : Int)] w fun e w' => e = .returned (.bool true) ∧ Below w.heap.size w w' := by
  have C0 := Lib.hid fun w => grouped_any w
  have CV := fun w => conv_by c w
  have b1 : (g == 0) = true := beq_yes h0
  have b2 : (g2 == 0) = true := beq_yes hz
  have q1 : ((L.length : Int) == 1) = true := beq_yes (by omega)
  have q2 : ((L.length : Int) != 1) = false := by rw [bne, q1]; rfl
  have q3 : decide ((1 : Int) < (L.length : Int)) = false := dec_no (by omega)
  have q4 : decide (1 < L.length) = false := dec_no (by omega)
  have q5 : ((L.length : Int) > 1) = False := eq_false (by omega)
  have HN := Lib.hid hn
  have hnp : 0 < L.length := by omega
  clear hn h0 hz
  go_enter Tryd.func11, Tryd.ntmps11
  go_wp2_with fail
  refine (C0.out _).mono ?_
  rintro e w1 ⟨rfl, hb⟩
  have W1 := Lib.hid (blw_trans (show Below w.heap.size w _ by repeat (first | exact (Below.refl _ _) | refine blw_drewN ?_ _ | refine Below.setCell ?_ (by first | (simp; done) | omega | (simp; omega)) _ | refine Below.alloc ?_ (by first | (simp; done) | omega | (simp; omega)) _)) hb)
  have n1 := hb.size
  try simp at n1
  clear hb
  go_wp2_with fail
  refine (C1.out _).mono ?_
  rintro e w2 ⟨rfl, hb⟩
  have W2 := Lib.hid (blw_trans (show Below w.heap.size w _ by repeat (first | exact W1.out | refine blw_drewN ?_ _ | refine Below.setCell ?_ (by first | (simp; done) | omega | (simp; omega)) _ | refine Below.alloc ?_ (by first | (simp; done) | omega | (simp; omega)) _)) hb)
  have n2 := hb.size
  try simp at n2
  clear hb W1
  go_wp2_with fail
  refine (CU.out _).mono ?_
  rintro e w3 ⟨v, rfl, hs, hb⟩
  have W3 := Lib.hid (blw_trans (show Below w.heap.size w _ by repeat (first | exact W2.out | refine Below.alloc ?_ (by first | (simp; done) | omega | (simp; omega)) _)) hb)
  clear hb W2 CV
  have J := Lib.hid (CJ.out w3 v hs)
  clear CJ
  rcases hs with ⟨hs, _⟩ | ⟨b, off, cap, rfl, p0, hcap, hcm, hcell⟩
  · have z := congrArg List.length hs; simp at z; rw [z] at hnp; simp at hnp
  unfold maxLen at hcm
  have HC := Lib.hid hcell
  clear hcell
  go_wp2_with fail
  refine (J.out).mono ?_
  rintro e w' ⟨rfl, rfl⟩
  go_wp2_with fail
  go_loopw [14, 15] (fun i _ wr => i = .int .i64 0 ∧ Hid (Below w.heap.size w wr)) (fun _ _ _ => 0)
  case atStart => exact ⟨rfl, W3⟩
  case round =>
    obtain ⟨rfl, HB⟩ := hrel
    clear W3
    go_wp2_with fail
    go_ret
    exact ⟨ret_bool (by simp), HB.out⟩

set_option maxRecDepth 100000 in
set_option maxHeartbeats 2000000 in
theorem groupSizes_1z2 (d A : List UInt8) (L : List (List UInt8)) (g g2 : Int) (c : UInt8) (w : World)
    (C1 : Hid (∀ w : World, Calls Tryd.prog 38 #[.string ⟨d.toArray⟩, .int .i64 g, .int .i64 g2, .int .u8 (c.toNat : Int)] w fun e w' => e = .returned (.tuple #[.string ⟨A.toArray⟩, .nilIface]) ∧ Below w.heap.size w w'))
    (CU : Hid (∀ w : World, Calls Tryd.prog 39 #[.string ⟨A.toArray⟩, .string ⟨[c].toArray⟩] w (GivesStrs w L)))
    (CJ : Hid (∀ (w : World) (v : Value), StrsAt w v L → Calls Tryd.prog 40 #[v, .string ⟨#[]⟩] w fun e w' => e = .returned (.string ⟨d.toArray⟩) ∧ w = w'))
    (_hl : L.length ≤ 1000000000) (_hd : d.length ≤ 1000000000) (hn : L.length = 1) (h0 : g = 0) (hz : g2 ≠ 0) :
    Calls Tryd.prog 11 #[.string ⟨d.toArray⟩, .int .i64 g, .int .i64 g2, .int .u8 (c.toNat : Int)] w fun e w' => e = .returned (.bool true) ∧ Below w.heap.size w w' := by
  have C0 := Lib.hid fun w => grouped_any w
  have CV := fun w => conv_by c w
  have b1 : (g == 0) = true := beq_yes h0
  have b2 : (g2 == 0) = false := beq_no hz
  have q1 : ((L.length : Int) == 1) = true := beq_yes (by omega)
  have q2 : ((L.length : Int) != 1) = false := by rw [bne, q1]; rfl
  have q3 : decide ((1 : Int) < (L.length : Int)) = false := dec_no (by omega)
  have q4 : decide (1 < L.length) = false := dec_no (by omega)
  have q5 : ((L.length : Int) > 1) = False := eq_false (by omega)
  have HN := Lib.hid hn
  have hnp : 0 < L.length := by omega
  clear hn h0 hz
  go_enter Tryd.func11, Tryd.ntmps11
  go_wp2_with fail
  refine (C0.out _).mono ?_
  rintro e w1 ⟨rfl, hb⟩
  have W1 := Lib.hid (blw_trans (show Below w.heap.size w _ by repeat (first | exact (Below.refl _ _) | refine blw_drewN ?_ _ | refine Below.setCell ?_ (by first | (simp; done) | omega | (simp; omega)) _ | refine Below.alloc ?_ (by first | (simp; done) | omega | (simp; omega)) _)) hb)
  have n1 := hb.size
  try simp at n1
  clear hb
  go_wp2_with fail
  refine (C1.out _).mono ?_
  rintro e w2 ⟨rfl, hb⟩
  have W2 := Lib.hid (blw_trans (show Below w.heap.size w _ by repeat (first | exact W1.out | refine blw_drewN ?_ _ | refine Below.setCell ?_ (by first | (simp; done) | omega | (simp; omega)) _ | refine Below.alloc ?_ (by first | (simp; done) | omega | (simp; omega)) _)) hb)
  have n2 := hb.size
  try simp at n2
  clear hb W1
  go_wp2_with fail
  refine (CU.out _).mono ?_
  rintro e w3 ⟨v, rfl, hs, hb⟩
  have W3 := Lib.hid (blw_trans (show Below w.heap.size w _ by repeat (first | exact W2.out | refine Below.alloc ?_ (by first | (simp; done) | omega | (simp; omega)) _)) hb)
  clear hb W2 CV
  have J := Lib.hid (CJ.out w3 v hs)
  clear CJ
  rcases hs with ⟨hs, _⟩ | ⟨b, off, cap, rfl, p0, hcap, hcm, hcell⟩
  · have z := congrArg List.length hs; simp at z; rw [z] at hnp; simp at hnp
  unfold maxLen at hcm
  have HC := Lib.hid hcell
  clear hcell
  go_wp2_with fail
  refine (J.out).mono ?_
  rintro e w' ⟨rfl, rfl⟩
  go_wp2_with fail
  go_loopw [14, 15] (fun i _ wr => i = .int .i64 0 ∧ Hid (Below w.heap.size w wr)) (fun _ _ _ => 0)
  case atStart => exact ⟨rfl, W3⟩
  case round =>
    obtain ⟨rfl, HB⟩ := hrel
    clear W3
    go_wp2_with fail
    go_ret
    exact ⟨ret_bool (by simp), HB.out⟩

set_option maxRecDepth 100000 in
set_option maxHeartbeats 2000000 in
theorem groupSizes_1g0 (d A : List UInt8) (L : List (List UInt8)) (g g2 : Int) (c : UInt8) (w : World)
    (C1 : Hid (∀ w : World, Calls Tryd.prog 38 #[.string ⟨d.toArray⟩, .int .i64 g, .int .i64 g2, .int .u8 (c.toNat : Int)] w fun e w' => e = .returned (.tuple #[.string ⟨A.toArray⟩, .nilIface]) ∧ Below w.heap.size w w'))
    (CU : Hid (∀ w : World, Calls Tryd.prog 39 #[.string ⟨A.toArray⟩, .string ⟨[c].toArray⟩] w (GivesStrs w L)))
    (CJ : Hid (∀ (w : World) (v : Value), StrsAt w v L → Calls Tryd.prog 40 #[v, .string ⟨#[]⟩] w fun e w' => e = .returned (.string ⟨d.toArray⟩) ∧ w = w'))
    (_hl : L.length ≤ 1000000000) (_hd : d.length ≤ 1000000000) (hn : L.length = 1) (h0 : g ≠ 0) (hz : g2 = 0) (hf : (d.length : Int) ≤ g) :
    Calls Tryd.prog 11 #[.string ⟨d.toArray⟩, .int .i64 g, .int .i64 g2, .int .u8 (c.toNat : Int)] w fun e w' => e = .returned (.bool true) ∧ Below w.heap.size w w' := by
  have C0 := Lib.hid fun w => grouped_any w
  have CV := fun w => conv_by c w
  have b1 : (g == 0) = false := beq_no h0
  have b2 : (g2 == 0) = true := beq_yes hz
  have q1 : ((L.length : Int) == 1) = true := beq_yes (by omega)
  have q2 : ((L.length : Int) != 1) = false := by rw [bne, q1]; rfl
  have q3 : decide ((1 : Int) < (L.length : Int)) = false := dec_no (by omega)
  have q4 : decide (1 < L.length) = false := dec_no (by omega)
  have q5 : ((L.length : Int) > 1) = False := eq_false (by omega)
  have q6 : decide ((d.length : Int) ≤ g) = true := dec_yes hf
  have HN := Lib.hid hn
  have hnp : 0 < L.length := by omega
  clear hn h0 hz
  go_enter Tryd.func11, Tryd.ntmps11
  go_wp2_with fail
  refine (C0.out _).mono ?_
  rintro e w1 ⟨rfl, hb⟩
  have W1 := Lib.hid (blw_trans (show Below w.heap.size w _ by repeat (first | exact (Below.refl _ _) | refine blw_drewN ?_ _ | refine Below.setCell ?_ (by first | (simp; done) | omega | (simp; omega)) _ | refine Below.alloc ?_ (by first | (simp; done) | omega | (simp; omega)) _)) hb)
  have n1 := hb.size
  try simp at n1
  clear hb
  go_wp2_with fail
  refine (C1.out _).mono ?_
  rintro e w2 ⟨rfl, hb⟩
  have W2 := Lib.hid (blw_trans (show Below w.heap.size w _ by repeat (first | exact W1.out | refine blw_drewN ?_ _ | refine Below.setCell ?_ (by first | (simp; done) | omega | (simp; omega)) _ | refine Below.alloc ?_ (by first | (simp; done) | omega | (simp; omega)) _)) hb)
  have n2 := hb.size
  try simp at n2
  clear hb W1
  go_wp2_with fail
  refine (CU.out _).mono ?_
  rintro e w3 ⟨v, rfl, hs, hb⟩
  have W3 := Lib.hid (blw_trans (show Below w.heap.size w _ by repeat (first | exact W2.out | refine Below.alloc ?_ (by first | (simp; done) | omega | (simp; omega)) _)) hb)
  clear hb W2 CV
  have J := Lib.hid (CJ.out w3 v hs)
  clear CJ
  rcases hs with ⟨hs, _⟩ | ⟨b, off, cap, rfl, p0, hcap, hcm, hcell⟩
  · have z := congrArg List.length hs; simp at z; rw [z] at hnp; simp at hnp
  unfold maxLen at hcm
  have HC := Lib.hid hcell
  clear hcell
  go_wp2_with fail
  refine (J.out).mono ?_
  rintro e w' ⟨rfl, rfl⟩
  go_wp2_with fail
  go_loopw [14, 15] (fun i _ wr => i = .int .i64 0 ∧ Hid (Below w.heap.size w wr)) (fun _ _ _ => 0)
  case atStart => exact ⟨rfl, W3⟩
  case round =>
    obtain ⟨rfl, HB⟩ := hrel
    clear W3
    go_wp2_with fail
    go_ret
    exact ⟨ret_bool (by simp), HB.out⟩

set_option maxRecDepth 100000 in
set_option maxHeartbeats 2000000 in
theorem groupSizes_1g2 (d A : List UInt8) (L : List (List UInt8)) (g g2 : Int) (c : UInt8) (w : World)
    (C1 : Hid (∀ w : World, Calls Tryd.prog 38 #[.string ⟨d.toArray⟩, .int .i64 g, .int .i64 g2, .int .u8 (c.toNat : Int)] w fun e w' => e = .returned (.tuple #[.string ⟨A.toArray⟩, .nilIface]) ∧ Below w.heap.size w w'))
    (CU : Hid (∀ w : World, Calls Tryd.prog 39 #[.string ⟨A.toArray⟩, .string ⟨[c].toArray⟩] w (GivesStrs w L)))
    (CJ : Hid (∀ (w : World) (v : Value), StrsAt w v L → Calls Tryd.prog 40 #[v, .string ⟨#[]⟩] w fun e w' => e = .returned (.string ⟨d.toArray⟩) ∧ w = w'))
    (_hl : L.length ≤ 1000000000) (_hd : d.length ≤ 1000000000) (hn : L.length = 1) (h0 : g ≠ 0) (hz : g2 ≠ 0) (hf : (d.length : Int) ≤ g) :
    Calls Tryd.prog 11 #[.string ⟨d.toArray⟩, .int .i64 g, .int .i64 g2, .int .u8 (c.toNat : Int)] w fun e w' => e = .returned (.bool true) ∧ Below w.heap.size w w' := by
  have C0 := Lib.hid fun w => grouped_any w
  have CV := fun w => conv_by c w
  have b1 : (g == 0) = false := beq_no h0
  have b2 : (g2 == 0) = false := beq_no hz
  have q1 : ((L.length : Int) == 1) = true := beq_yes (by omega)
  have q2 : ((L.length : Int) != 1) = false := by rw [bne, q1]; rfl
  have q3 : decide ((1 : Int) < (L.length : Int)) = false := dec_no (by omega)
  have q4 : decide (1 < L.length) = false := dec_no (by omega)
  have q5 : ((L.length : Int) > 1) = False := eq_false (by omega)
  have q6 : decide ((d.length : Int) ≤ g) = true := dec_yes hf
  have HN := Lib.hid hn
  have hnp : 0 < L.length := by omega
  clear hn h0 hz
  go_enter Tryd.func11, Tryd.ntmps11
  go_wp2_with fail
  refine (C0.out _).mono ?_
  rintro e w1 ⟨rfl, hb⟩
  have W1 := Lib.hid (blw_trans (show Below w.heap.size w _ by repeat (first | exact (Below.refl _ _) | refine blw_drewN ?_ _ | refine Below.setCell ?_ (by first | (simp; done) | omega | (simp; omega)) _ | refine Below.alloc ?_ (by first | (simp; done) | omega | (simp; omega)) _)) hb)
  have n1 := hb.size
  try simp at n1
  clear hb
  go_wp2_with fail
  refine (C1.out _).mono ?_
  rintro e w2 ⟨rfl, hb⟩
  have W2 := Lib.hid (blw_trans (show Below w.heap.size w _ by repeat (first | exact W1.out | refine blw_drewN ?_ _ | refine Below.setCell ?_ (by first | (simp; done) | omega | (simp; omega)) _ | refine Below.alloc ?_ (by first | (simp; done) | omega | (simp; omega)) _)) hb)
  have n2 := hb.size
  try simp at n2
  clear hb W1
  go_wp2_with fail
  refine (CU.out _).mono ?_
  rintro e w3 ⟨v, rfl, hs, hb⟩
  have W3 := Lib.hid (blw_trans (show Below w.heap.size w _ by repeat (first | exact W2.out | refine Below.alloc ?_ (by first | (simp; done) | omega | (simp; omega)) _)) hb)
  clear hb W2 CV
  have J := Lib.hid (CJ.out w3 v hs)
  clear CJ
  rcases hs with ⟨hs, _⟩ | ⟨b, off, cap, rfl, p0, hcap, hcm, hcell⟩
  · have z := congrArg List.length hs; simp at z; rw [z] at hnp; simp at hnp
  unfold maxLen at hcm
  have HC := Lib.hid hcell
  clear hcell
  go_wp2_with fail
  refine (J.out).mono ?_
  rintro e w' ⟨rfl, rfl⟩
  go_wp2_with fail
  go_loopw [14, 15] (fun i _ wr => i = .int .i64 0 ∧ Hid (Below w.heap.size w wr)) (fun _ _ _ => 0)
  case atStart => exact ⟨rfl, W3⟩
  case round =>
    obtain ⟨rfl, HB⟩ := hrel
    clear W3
    go_wp2_with fail
    go_ret
    exact ⟨ret_bool (by simp), HB.out⟩

set_option maxRecDepth 100000 in
set_option maxHeartbeats 2000000 in
theorem groupSizes_mg0 (d A : List UInt8) (L : List (List UInt8)) (g g2 : Int) (c : UInt8) (w : World)
    (C1 : Hid (∀ w : World, Calls Tryd.prog 38 #[.string ⟨d.toArray⟩, .int .i64 g, .int .i64 g2, .int .u8 (c.toNat : Int)] w fun e w' => e = .returned (.tuple #[.string ⟨A.toArray⟩, .nilIface]) ∧ Below w.heap.size w w'))
    (CU : Hid (∀ w : World, Calls Tryd.prog 39 #[.string ⟨A.toArray⟩, .string ⟨[c].toArray⟩] w (GivesStrs w L)))
    (CJ : Hid (∀ (w : World) (v : Value), StrsAt w v L → Calls Tryd.prog 40 #[v, .string ⟨#[]⟩] w fun e w' => e = .returned (.string ⟨d.toArray⟩) ∧ w = w'))
    (_hl : L.length ≤ 1000000000) (_hd : d.length ≤ 1000000000) (hn : 1 < L.length) (h0 : g ≠ 0) (hz : g2 = 0)
    (hS : Hid (∀ (k : Nat) x, L[k]? = some x → 0 < x.length ∧ (x.length : Int) ≤ want g g2 L.length k ∧ (0 < k → (x.length : Int) = want g g2 L.length k))) (hg : 0 ≤ g ∧ g ≤ 4 ∧ 0 ≤ g2 ∧ g2 ≤ 4) :
    Calls Tryd.prog 11 #[.string ⟨d.toArray⟩, .int .i64 g, .int .i64 g2, .int .u8 (c.toNat : Int)] w fun e w' => e = .returned (.bool true) ∧ Below w.heap.size w w' := by
  have C0 := Lib.hid fun w => grouped_any w
  have CV := fun w => conv_by c w
  have b1 : (g == 0) = false := beq_no h0
  have b2 : (g2 == 0) = true := beq_yes hz
  have q3 : decide ((1 : Int) < (L.length : Int)) = true := dec_yes (by omega)
  have q4 : decide (1 < L.length) = true := dec_yes hn
  obtain ⟨g1, g4, k1, k4⟩ := hg
  have HN := Lib.hid hn
  have HZ := Lib.hid hz
  have hnp : 0 < L.length := by omega
  clear h0 hz
  go_enter Tryd.func11, Tryd.ntmps11
  go_wp2_with fail
  refine (C0.out _).mono ?_
  rintro e w1 ⟨rfl, hb⟩
  have W1 := Lib.hid (blw_trans (show Below w.heap.size w _ by repeat (first | exact (Below.refl _ _) | refine blw_drewN ?_ _ | refine Below.setCell ?_ (by first | (simp; done) | omega | (simp; omega)) _ | refine Below.alloc ?_ (by first | (simp; done) | omega | (simp; omega)) _)) hb)
  have n1 := hb.size
  try simp at n1
  clear hb
  go_wp2_with fail
  refine (C1.out _).mono ?_
  rintro e w2 ⟨rfl, hb⟩
  have W2 := Lib.hid (blw_trans (show Below w.heap.size w _ by repeat (first | exact W1.out | refine blw_drewN ?_ _ | refine Below.setCell ?_ (by first | (simp; done) | omega | (simp; omega)) _ | refine Below.alloc ?_ (by first | (simp; done) | omega | (simp; omega)) _)) hb)
  have n2 := hb.size
  try simp at n2
  clear hb W1
  go_wp2_with fail
  refine (CU.out _).mono ?_
  rintro e w3 ⟨v, rfl, hs, hb⟩
  have W3 := Lib.hid (blw_trans (show Below w.heap.size w _ by repeat (first | exact W2.out | refine Below.alloc ?_ (by first | (simp; done) | omega | (simp; omega)) _)) hb)
  clear hb W2 CV
  have J := Lib.hid (CJ.out w3 v hs)
  clear CJ
  rcases hs with ⟨hs, _⟩ | ⟨b, off, cap, rfl, p0, hcap, hcm, hcell⟩
  · have z := congrArg List.length hs; simp at z; rw [z] at hnp; simp at hnp
  unfold maxLen at hcm
  have HC := Lib.hid hcell
  clear hcell
  go_wp2_with fail
  refine (J.out).mono ?_
  rintro e w' ⟨rfl, rfl⟩
  go_wp2_with fail
  go_loopw [14, 15] (fun i _ wr => ∃ k : Nat, i = .int .i64 k ∧ k ≤ L.length ∧ Hid (Below w.heap.size w wr) ∧ Hid (∀ (j : Nat) x, L[j]? = some x → wr.cell? ⟨b, off + j, none⟩ = some (.string ⟨x.toArray⟩))) (fun i _ _ => L.length - (RowKit.intOf i).toNat)
  case atStart => exact ⟨0, rfl, Nat.zero_le _, W3, HC⟩
  case round =>
    obtain ⟨k, rfl, hk, HB, HCK⟩ := hrel
    clear W3 HC
    by_cases hlt : k < L.length
    · obtain ⟨x, hx⟩ : ∃ x, L[k]? = some x := ⟨L[k], List.getElem?_eq_getElem hlt⟩
      obtain ⟨s1, s2, s3⟩ := hS.out k x hx
      have xc := HCK.out k x hx
      have xz := size_mkl x
      have nb0 : ((x.length : Int) == 0) = false := beq_no (by omega)
      unfold want at s2 s3
      have HX := Lib.hid hx
      clear hx
      by_cases hlast : k + 1 = L.length
      · have e1 : ((k : Int) == (L.length : Int) - 1) = true := beq_yes (by omega)
        rw [if_pos hlast] at s2 s3
        have t1 : decide (g < (x.length : Int)) = false := dec_no (by omega)
        have HLA := Lib.hid hlast
        clear hlast
        by_cases k0 : 0 < k
        · have s3' := s3 k0
          have t2 : decide ((x.length : Int) < g) = false := dec_no (by omega)
          have t3 : decide ((0 : Int) < (k : Int)) = true := dec_yes (by omega)
          have S3 := Lib.hid s3'
          clear s3 s3'
          go_wp2_with fail
          first | (go_roundw; case rel => exact ⟨k + 1, by go_num, by omega, HB, HCK⟩; case measure => simp [RowKit.intOf]; omega) | exact ⟨⟨k + 1, by go_num, by omega, HB, HCK⟩, by simp [RowKit.intOf]; omega⟩
        · exfalso; have := HN.out; have := HLA.out; omega
      · have e1 : ((k : Int) == (L.length : Int) - 1) = false := beq_no (by omega)
        rw [if_neg hlast, if_pos HZ.out] at s2 s3
        have t1 : decide (g < (x.length : Int)) = false := dec_no (by omega)
        have HLA := Lib.hid hlast
        clear hlast
        by_cases k0 : 0 < k
        · have s3' := s3 k0
          have t2 : decide ((x.length : Int) < g) = false := dec_no (by omega)
          have t3 : decide ((0 : Int) < (k : Int)) = true := dec_yes (by omega)
          have S3 := Lib.hid s3'
          clear s3 s3'
          go_wp2_with fail
          first | (go_roundw; case rel => exact ⟨k + 1, by go_num, by omega, HB, HCK⟩; case measure => simp [RowKit.intOf]; omega) | exact ⟨⟨k + 1, by go_num, by omega, HB, HCK⟩, by simp [RowKit.intOf]; omega⟩
        · have t3 : decide ((0 : Int) < (k : Int)) = false := dec_no (by omega)
          clear s3
          by_cases t4 : (x.length : Int) < g
          · have t2 : decide ((x.length : Int) < g) = true := dec_yes t4
            go_wp2_with fail
            first | (go_roundw; case rel => exact ⟨k + 1, by go_num, by omega, HB, HCK⟩; case measure => simp [RowKit.intOf]; omega) | exact ⟨⟨k + 1, by go_num, by omega, HB, HCK⟩, by simp [RowKit.intOf]; omega⟩
          · have t2 : decide ((x.length : Int) < g) = false := dec_no t4
            go_wp2_with fail
            first | (go_roundw; case rel => exact ⟨k + 1, by go_num, by omega, HB, HCK⟩; case measure => simp [RowKit.intOf]; omega) | exact ⟨⟨k + 1, by go_num, by omega, HB, HCK⟩, by simp [RowKit.intOf]; omega⟩
    · obtain rfl : k = L.length := by omega
      go_wp2_with fail
      go_ret
      exact ⟨ret_bool (by simp), HB.out⟩

set_option maxRecDepth 100000 in
set_option maxHeartbeats 2000000 in
theorem groupSizes_mg2 (d A : List UInt8) (L : List (List UInt8)) (g g2 : Int) (c : UInt8) (w : World)
    (C1 : Hid (∀ w : World, Calls Tryd.prog 38 #[.string ⟨d.toArray⟩, .int .i64 g, .int .i64 g2, .int .u8 (c.toNat : Int)] w fun e w' => e = .returned (.tuple #[.string ⟨A.toArray⟩, .nilIface]) ∧ Below w.heap.size w w'))
    (CU : Hid (∀ w : World, Calls Tryd.prog 39 #[.string ⟨A.toArray⟩, .string ⟨[c].toArray⟩] w (GivesStrs w L)))
    (CJ : Hid (∀ (w : World) (v : Value), StrsAt w v L → Calls Tryd.prog 40 #[v, .string ⟨#[]⟩] w fun e w' => e = .returned (.string ⟨d.toArray⟩) ∧ w = w'))
    (_hl : L.length ≤ 1000000000) (_hd : d.length ≤ 1000000000) (hn : 1 < L.length) (h0 : g ≠ 0) (hz : g2 ≠ 0)
    (hS : Hid (∀ (k : Nat) x, L[k]? = some x → 0 < x.length ∧ (x.length : Int) ≤ want g g2 L.length k ∧ (0 < k → (x.length : Int) = want g g2 L.length k))) (hg : 0 ≤ g ∧ g ≤ 4 ∧ 0 ≤ g2 ∧ g2 ≤ 4) :
    Calls Tryd.prog 11 #[.string ⟨d.toArray⟩, .int .i64 g, .int .i64 g2, .int .u8 (c.toNat : Int)] w fun e w' => e = .returned (.bool true) ∧ Below w.heap.size w w' := by
  have C0 := Lib.hid fun w => grouped_any w
  have CV := fun w => conv_by c w
  have b1 : (g == 0) = false := beq_no h0
  have b2 : (g2 == 0) = false := beq_no hz
  have q3 : decide ((1 : Int) < (L.length : Int)) = true := dec_yes (by omega)
  have q4 : decide (1 < L.length) = true := dec_yes hn
  obtain ⟨g1, g4, k1, k4⟩ := hg
  have HN := Lib.hid hn
  have HZ := Lib.hid hz
  have hnp : 0 < L.length := by omega
  clear h0 hz
  go_enter Tryd.func11, Tryd.ntmps11
  go_wp2_with fail
  refine (C0.out _).mono ?_
  rintro e w1 ⟨rfl, hb⟩
  have W1 := Lib.hid (blw_trans (show Below w.heap.size w _ by repeat (first | exact (Below.refl _ _) | refine blw_drewN ?_ _ | refine Below.setCell ?_ (by first | (simp; done) | omega | (simp; omega)) _ | refine Below.alloc ?_ (by first | (simp; done) | omega | (simp; omega)) _)) hb)
  have n1 := hb.size
  try simp at n1
  clear hb
  go_wp2_with fail
  refine (C1.out _).mono ?_
  rintro e w2 ⟨rfl, hb⟩
  have W2 := Lib.hid (blw_trans (show Below w.heap.size w _ by repeat (first | exact W1.out | refine blw_drewN ?_ _ | refine Below.setCell ?_ (by first | (simp; done) | omega | (simp; omega)) _ | refine Below.alloc ?_ (by first | (simp; done) | omega | (simp; omega)) _)) hb)
  have n2 := hb.size
  try simp at n2
  clear hb W1
  go_wp2_with fail
  refine (CU.out _).mono ?_
  rintro e w3 ⟨v, rfl, hs, hb⟩
  have W3 := Lib.hid (blw_trans (show Below w.heap.size w _ by repeat (first | exact W2.out | refine Below.alloc ?_ (by first | (simp; done) | omega | (simp; omega)) _)) hb)
  clear hb W2 CV
  have J := Lib.hid (CJ.out w3 v hs)
  clear CJ
  rcases hs with ⟨hs, _⟩ | ⟨b, off, cap, rfl, p0, hcap, hcm, hcell⟩
  · have z := congrArg List.length hs; simp at z; rw [z] at hnp; simp at hnp
  unfold maxLen at hcm
  have HC := Lib.hid hcell
  clear hcell
  go_wp2_with fail
  refine (J.out).mono ?_
  rintro e w' ⟨rfl, rfl⟩
  go_wp2_with fail
  go_loopw [14, 15] (fun i _ wr => ∃ k : Nat, i = .int .i64 k ∧ k ≤ L.length ∧ Hid (Below w.heap.size w wr) ∧ Hid (∀ (j : Nat) x, L[j]? = some x → wr.cell? ⟨b, off + j, none⟩ = some (.string ⟨x.toArray⟩))) (fun i _ _ => L.length - (RowKit.intOf i).toNat)
  case atStart => exact ⟨0, rfl, Nat.zero_le _, W3, HC⟩
  case round =>
    obtain ⟨k, rfl, hk, HB, HCK⟩ := hrel
    clear W3 HC
    by_cases hlt : k < L.length
    · obtain ⟨x, hx⟩ : ∃ x, L[k]? = some x := ⟨L[k], List.getElem?_eq_getElem hlt⟩
      obtain ⟨s1, s2, s3⟩ := hS.out k x hx
      have xc := HCK.out k x hx
      have xz := size_mkl x
      have nb0 : ((x.length : Int) == 0) = false := beq_no (by omega)
      unfold want at s2 s3
      have HX := Lib.hid hx
      clear hx
      by_cases hlast : k + 1 = L.length
      · have e1 : ((k : Int) == (L.length : Int) - 1) = true := beq_yes (by omega)
        rw [if_pos hlast] at s2 s3
        have t1 : decide (g < (x.length : Int)) = false := dec_no (by omega)
        have HLA := Lib.hid hlast
        clear hlast
        by_cases k0 : 0 < k
        · have s3' := s3 k0
          have t2 : decide ((x.length : Int) < g) = false := dec_no (by omega)
          have t3 : decide ((0 : Int) < (k : Int)) = true := dec_yes (by omega)
          have S3 := Lib.hid s3'
          clear s3 s3'
          go_wp2_with fail
          first | (go_roundw; case rel => exact ⟨k + 1, by go_num, by omega, HB, HCK⟩; case measure => simp [RowKit.intOf]; omega) | exact ⟨⟨k + 1, by go_num, by omega, HB, HCK⟩, by simp [RowKit.intOf]; omega⟩
        · exfalso; have := HN.out; have := HLA.out; omega
      · have e1 : ((k : Int) == (L.length : Int) - 1) = false := beq_no (by omega)
        rw [if_neg hlast, if_neg HZ.out] at s2 s3
        have t1 : decide (g2 < (x.length : Int)) = false := dec_no (by omega)
        have HLA := Lib.hid hlast
        clear hlast
        by_cases k0 : 0 < k
        · have s3' := s3 k0
          have t2 : decide ((x.length : Int) < g2) = false := dec_no (by omega)
          have t3 : decide ((0 : Int) < (k : Int)) = true := dec_yes (by omega)
          have S3 := Lib.hid s3'
          clear s3 s3'
          go_wp2_with fail
          first | (go_roundw; case rel => exact ⟨k + 1, by go_num, by omega, HB, HCK⟩; case measure => simp [RowKit.intOf]; omega) | exact ⟨⟨k + 1, by go_num, by omega, HB, HCK⟩, by simp [RowKit.intOf]; omega⟩
        · have t3 : decide ((0 : Int) < (k : Int)) = false := dec_no (by omega)
          clear s3
          by_cases t4 : (x.length : Int) < g2
          · have t2 : decide ((x.length : Int) < g2) = true := dec_yes t4
            go_wp2_with fail
            first | (go_roundw; case rel => exact ⟨k + 1, by go_num, by omega, HB, HCK⟩; case measure => simp [RowKit.intOf]; omega) | exact ⟨⟨k + 1, by go_num, by omega, HB, HCK⟩, by simp [RowKit.intOf]; omega⟩
          · have t2 : decide ((x.length : Int) < g2) = false := dec_no t4
            go_wp2_with fail
            first | (go_roundw; case rel => exact ⟨k + 1, by go_num, by omega, HB, HCK⟩; case measure => simp [RowKit.intOf]; omega) | exact ⟨⟨k + 1, by go_num, by omega, HB, HCK⟩, by simp [RowKit.intOf]; omega⟩
    · obtain rfl : k = L.length := by omega
      go_wp2_with fail
      go_ret
      exact ⟨ret_bool (by simp), HB.out⟩

theorem join_nothing (l : List (List UInt8)) : Lib.join l [] = l.flatten := Grp.join_flat l
theorem groupSizes_any (d : List UInt8) (g g2 : Int) (c : UInt8) (w : World) (hd : d.length ≤ 100000000) :
    Calls Tryd.prog 11 #[.string ⟨d.toArray⟩, .int .i64 g, .int .i64 g2, .int .u8 (c.toNat : Int)] w fun e w' => e = .returned (.bool true) ∧ Below w.heap.size w w' := by
  cases h : digB d with
  | false => exact groupSizes_no d g g2 _ c w (Lib.hid fun w => put_bad d g g2 _ w (by omega) h)
  | true =>
    by_cases hc : 48 ≤ (c.toNat : Int) ∧ (c.toNat : Int) ≤ 57
    · exact groupSizes_no d g g2 _ c w (Lib.hid fun w => put_form d g g2 _ w (by omega) h hc.1 hc.2)
    by_cases hG : rightG g g2
    · have hn := not_in h hc
      have gl := gout_len d g g2 c
      have c1 := fun w => put_ok d g g2 c w (by omega) h hc hG
      have cu := fun w => cut_any (gout d g g2 c) [c] w (by simp) (by omega) (by simp)
      obtain ⟨h1, h2, h3, h4⟩ := hG
      by_cases g0 : g = 0
      · have e : gout d g g2 c = d := by unfold gout; rw [if_pos g0]
        rw [e] at c1 cu
        rw [Byt.split_none hn] at cu
        have cj := fun (w : World) (v : Value) (hv : StrsAt w v [d]) => joined_any [d] v [] w hv (by simp) (by unfold Lst.total Lib.lens; simp; omega) (by simp)
        rw [Lib.join_one] at cj
        by_cases z : g2 = 0
        · exact groupSizes_1z0 d d [d] g g2 c w (Lib.hid c1) (Lib.hid cu) (Lib.hid cj) (by simp) (by omega) rfl g0 z
        · exact groupSizes_1z2 d d [d] g g2 c w (Lib.hid c1) (Lib.hid cu) (Lib.hid cj) (by simp) (by omega) rfl g0 z
      · have e : gout d g g2 c = Grp.grouped g.toNat (if g2 = 0 then g.toNat else g2.toNat) d c := by unfold gout; rw [if_neg g0]
        rw [e] at c1 cu
        rw [Grp.split_grouped hn] at cu
        have q2 : 0 < (if g2 = 0 then g.toNat else g2.toNat) := by split <;> omega
        have ps := Grp.pieces_sized d.length g.toNat (if g2 = 0 then g.toNat else g2.toNat) d (Nat.le_refl _) (by omega) q2
        have pl := (Grp.grouped_len d.length g.toNat (if g2 = 0 then g.toNat else g2.toNat) d c (Nat.le_refl _))
        have pa := Grp.pieces_all d.length g.toNat (if g2 = 0 then g.toNat else g2.toNat) d (Nat.le_refl _)
        have pn := Grp.pieces_ne g.toNat (if g2 = 0 then g.toNat else g2.toNat) d
        have lj := lens_le_join (Grp.pieces g.toNat (if g2 = 0 then g.toNat else g2.toNat) d) []
        rw [Grp.join_flat, pa] at lj
        have cj := fun (w : World) (v : Value) (hv : StrsAt w v (Grp.pieces g.toNat (if g2 = 0 then g.toNat else g2.toNat) d)) => joined_any _ v [] w hv (by omega) (by unfold Lst.total; simp only [List.length_nil]; omega) (by simp)
        rw [Grp.join_flat, pa] at cj
        have pl2 := pl.2
        have hp := List.length_pos_iff.2 pn
        by_cases n1 : (Grp.pieces g.toNat (if g2 = 0 then g.toNat else g2.toNat) d).length = 1
        · have hf := ps.2.1 n1
          by_cases z : g2 = 0
          · exact groupSizes_1g0 d _ _ g g2 c w (Lib.hid c1) (Lib.hid cu) (Lib.hid cj) (by omega) (by omega) n1 g0 z (by omega)
          · exact groupSizes_1g2 d _ _ g g2 c w (Lib.hid c1) (Lib.hid cu) (Lib.hid cj) (by omega) (by omega) n1 g0 z (by omega)
        · have nm : 1 < (Grp.pieces g.toNat (if g2 = 0 then g.toNat else g2.toNat) d).length := by omega
          have hs : ∀ (k : Nat) x, (Grp.pieces g.toNat (if g2 = 0 then g.toNat else g2.toNat) d)[k]? = some x → 0 < x.length ∧ (x.length : Int) ≤ want g g2 (Grp.pieces g.toNat (if g2 = 0 then g.toNat else g2.toNat) d).length k ∧ (0 < k → (x.length : Int) = want g g2 (Grp.pieces g.toNat (if g2 = 0 then g.toNat else g2.toNat) d).length k) := fun k x hx => by
            obtain ⟨a, b, q⟩ := ps.1 k x hx nm
            generalize (Grp.pieces g.toNat (if g2 = 0 then g.toNat else g2.toNat) d).length = n at *
            unfold want
            refine ⟨a, ?_, fun kp => ?_⟩
            · split at b
              · rw [if_pos ‹_›]; omega
              · rw [if_neg ‹_›]; split at b <;> first | (rw [if_pos ‹_›]; omega) | (rw [if_neg ‹_›]; omega)
            · have q' := q kp
              split at q'
              · rw [if_pos ‹_›]; omega
              · rw [if_neg ‹_›]; split at q' <;> first | (rw [if_pos ‹_›]; omega) | (rw [if_neg ‹_›]; omega)
          by_cases z : g2 = 0
          · exact groupSizes_mg0 d _ _ g g2 c w (Lib.hid c1) (Lib.hid cu) (Lib.hid cj) (by omega) (by omega) nm g0 z (Lib.hid hs) ⟨h1, h2, h3, h4⟩
          · exact groupSizes_mg2 d _ _ g g2 c w (Lib.hid c1) (Lib.hid cu) (Lib.hid cj) (by omega) (by omega) nm g0 z (Lib.hid hs) ⟨h1, h2, h3, h4⟩
    · exact groupSizes_no d g g2 _ c w (Lib.hid fun w => put_range d g g2 _ w (by omega) h hc hG)
end Go.Proofs.YtadolhlkpnphmaaDoor
