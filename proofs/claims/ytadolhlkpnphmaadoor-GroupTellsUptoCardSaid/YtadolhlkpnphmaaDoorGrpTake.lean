/- The walk of group.Take. Conditions: the library's variable MaxLen holds a number; the text is of at most 1000000000 bytes. -/
import Derived.Test.YtadolhlkpnphmaaDoorRgrp
import Derived.Test.YtadolhlkpnphmaaDoorBys
import Derived.Test.YtadolhlkpnphmaaDoorMax
namespace Go.Proofs.YtadolhlkpnphmaaDoor
open Go.RowKit

/-- a text without a sign -/
def without (c : UInt8) (s : List UInt8) : List UInt8 := s.filter (· != c)
theorem without_len (c : UInt8) (s : List UInt8) : (without c s).length ≤ s.length := List.length_filter_le _ _
theorem strike_any (s : List UInt8) (c : UInt8) (w : World) (hM : MaxW w) (hs : s.length ≤ 1000000000) :
    Calls Tryd.prog 66 #[.string ⟨s.toArray⟩, .string ⟨[c].toArray⟩, .string ⟨#[]⟩] w fun e w' => e = .returned (.string ⟨(without c s).toArray⟩) ∧ Below w.heap.size w w' := by
  obtain ⟨m, hm⟩ := hM
  have r := Tryd.strings_ReplaceAll ⟨s.toArray⟩ ⟨[c].toArray⟩ ⟨#[]⟩ m w (by rw [size_mkl]; omega) hm (by show 1 ≤ 1; omega) (by rw [size_mkl]; show _ + _ * 0 ≤ _; omega)
  have e : Lib.replaceAll s [c] [] = without c s := Byt.replaceAll_one c s
  rw [← e]
  exact r
theorem conv_by (c : UInt8) (w : World) : (convert 64 9 (.slice (some ⟨w.heap.size, 0, none⟩) 1 1)).run Tryd.prog (w.alloc (.cells #[byV c] 5)) = .ok (.string ⟨[c].toArray⟩) (w.alloc (.cells #[byV c] 5)) := by
  have cb := c.toNat_lt
  have q := conv_one (P := Tryd.prog) 64 9 5 Tryd.underlying64 Tryd.underlying5 Tryd.underlying9 (c.toNat : Int) w (by omega) (by omega)
  rw [show UInt8.ofNat (c.toNat : Int).toNat = c by simp] at q
  exact q

set_option maxRecDepth 100000 in
set_option maxHeartbeats 1000000 in
theorem take_err (s : ByteArray) (g g2 c n : Int) (w : World) (CK : Hid (∀ w : World, Calls Tryd.prog 64 #[.int .i64 g, .int .i64 g2, .int .u8 c] w fun e w' => e = .returned (errV n) ∧ w = w')) :
    Calls Tryd.prog 41 #[.string s, .int .i64 g, .int .i64 g2, .int .u8 c] w fun e w' => e = .returned (.tuple #[.string ⟨#[]⟩, errV n]) ∧ Below w.heap.size w w' := by
  go_enter Tryd.func41, Tryd.ntmps41
  go_wp2_with fail
  refine (CK.out _).mono ?_
  rintro e w' ⟨rfl, rfl⟩
  go_wp2_with fail
  go_ret2
  exact ⟨rfl, Below.refl _ _⟩

set_option maxRecDepth 100000 in
set_option maxHeartbeats 1000000 in
theorem take_yes (s : List UInt8) (g g2 : Int) (c : UInt8) (w : World) (hM : MaxW w) (hs : s.length ≤ 1000000000) (hc : ¬ (48 ≤ (c.toNat : Int) ∧ (c.toNat : Int) ≤ 57)) (hG : rightG g g2) (hd : digB (without c s) = true) (he : gout (without c s) g g2 c = s) :
    Calls Tryd.prog 41 #[.string ⟨s.toArray⟩, .int .i64 g, .int .i64 g2, .int .u8 (c.toNat : Int)] w fun e w' => e = .returned (.tuple #[.string ⟨(without c s).toArray⟩, .nilIface]) ∧ Below w.heap.size w w' := by
  have hl := without_len c s
  have CK := Lib.hid fun w => gcheck_ok g g2 (c.toNat : Int) w hc hG
  have CS := Lib.hid fun w hM => strike_any s c w hM hs
  have CP := Lib.hid fun w => put_ok (without c s) g g2 c w (by omega) hd hc hG
  rw [he] at CP
  clear hd he
  have CV := fun w => conv_by c w
  generalize without c s = D at *
  clear hc hG
  go_enter Tryd.func41, Tryd.ntmps41
  go_wp2_with fail
  refine (CK.out _).mono ?_
  rintro e w' ⟨rfl, rfl⟩
  go_wp2_with fail
  refine (CS.out _ (hM.alloc _)).mono ?_
  rintro e w1 ⟨rfl, hb⟩
  have W1 := Lib.hid (blw_trans (blw_alloc w _) hb)
  clear hb CV
  go_wp2_with fail
  refine (CP.out _).mono ?_
  rintro e w2 ⟨rfl, hb⟩
  have W2 := Lib.hid (blw_trans W1.out hb)
  clear hb
  go_wp2_with fail
  go_ret2
  exact ⟨rfl, W2.out⟩

set_option maxRecDepth 100000 in
set_option maxHeartbeats 1000000 in
theorem take_no1 (s : List UInt8) (g g2 : Int) (c : UInt8) (w : World) (hM : MaxW w) (hs : s.length ≤ 1000000000) (hc : ¬ (48 ≤ (c.toNat : Int) ∧ (c.toNat : Int) ≤ 57)) (hG : rightG g g2) (hd : digB (without c s) = false) :
    Calls Tryd.prog 41 #[.string ⟨s.toArray⟩, .int .i64 g, .int .i64 g2, .int .u8 (c.toNat : Int)] w fun e w' => e = .returned (.tuple #[.string ⟨#[]⟩, errV 3]) ∧ Below w.heap.size w w' := by
  have hl := without_len c s
  have CK := Lib.hid fun w => gcheck_ok g g2 (c.toNat : Int) w hc hG
  have CS := Lib.hid fun w hM => strike_any s c w hM hs
  have CP := Lib.hid fun w => put_bad (without c s) g g2 (c.toNat : Int) w (by omega) hd
  clear hd
  have CV := fun w => conv_by c w
  generalize without c s = D at *
  clear hc hG
  go_enter Tryd.func41, Tryd.ntmps41
  go_wp2_with fail
  refine (CK.out _).mono ?_
  rintro e w' ⟨rfl, rfl⟩
  go_wp2_with fail
  refine (CS.out _ (hM.alloc _)).mono ?_
  rintro e w1 ⟨rfl, hb⟩
  have W1 := Lib.hid (blw_trans (blw_alloc w _) hb)
  clear hb CV
  go_wp2_with fail
  refine (CP.out _).mono ?_
  rintro e w2 ⟨rfl, hb⟩
  have W2 := Lib.hid (blw_trans W1.out hb)
  clear hb
  go_wp2_with fail
  go_ret2
  exact ⟨rfl, W2.out⟩

set_option maxRecDepth 100000 in
set_option maxHeartbeats 1000000 in
theorem take_no2 (s : List UInt8) (g g2 : Int) (c : UInt8) (w : World) (hM : MaxW w) (hs : s.length ≤ 1000000000) (hc : ¬ (48 ≤ (c.toNat : Int) ∧ (c.toNat : Int) ≤ 57)) (hG : rightG g g2) (hd : digB (without c s) = true) (he : gout (without c s) g g2 c ≠ s) :
    Calls Tryd.prog 41 #[.string ⟨s.toArray⟩, .int .i64 g, .int .i64 g2, .int .u8 (c.toNat : Int)] w fun e w' => e = .returned (.tuple #[.string ⟨#[]⟩, errV 3]) ∧ Below w.heap.size w w' := by
  have hl := without_len c s
  have CK := Lib.hid fun w => gcheck_ok g g2 (c.toNat : Int) w hc hG
  have CS := Lib.hid fun w hM => strike_any s c w hM hs
  have CP := Lib.hid fun w => put_ok (without c s) g g2 c w (by omega) hd hc hG
  have q1 : (gout (without c s) g g2 c == s) = false := beq_eq_false_iff_ne.2 he
  have q2 : (gout (without c s) g g2 c != s) = true := by rw [bne, q1]; rfl
  clear hd he
  generalize gout (without c s) g g2 c = T at *
  have CV := fun w => conv_by c w
  generalize without c s = D at *
  clear hc hG
  go_enter Tryd.func41, Tryd.ntmps41
  go_wp2_with fail
  refine (CK.out _).mono ?_
  rintro e w' ⟨rfl, rfl⟩
  go_wp2_with fail
  refine (CS.out _ (hM.alloc _)).mono ?_
  rintro e w1 ⟨rfl, hb⟩
  have W1 := Lib.hid (blw_trans (blw_alloc w _) hb)
  clear hb CV
  go_wp2_with fail
  refine (CP.out _).mono ?_
  rintro e w2 ⟨rfl, hb⟩
  have W2 := Lib.hid (blw_trans W1.out hb)
  clear hb
  go_wp2_with fail
  go_ret2
  exact ⟨rfl, W2.out⟩
theorem take_no (s : List UInt8) (g g2 : Int) (c : UInt8) (w : World) (hM : MaxW w) (hs : s.length ≤ 1000000000) (hc : ¬ (48 ≤ (c.toNat : Int) ∧ (c.toNat : Int) ≤ 57)) (hG : rightG g g2) (h : ¬ (digB (without c s) = true ∧ gout (without c s) g g2 c = s)) :
    Calls Tryd.prog 41 #[.string ⟨s.toArray⟩, .int .i64 g, .int .i64 g2, .int .u8 (c.toNat : Int)] w fun e w' => e = .returned (.tuple #[.string ⟨#[]⟩, errV 3]) ∧ Below w.heap.size w w' := by
  cases hd : digB (without c s) with
  | false => exact take_no1 s g g2 c w hM hs hc hG hd
  | true => exact take_no2 s g g2 c w hM hs hc hG hd (fun e => h ⟨hd, e⟩)
/-- a sign that is no digit is not among digits -/
theorem not_in {s : List UInt8} {c : UInt8} (h : digB s = true) (hc : ¬ (48 ≤ (c.toNat : Int) ∧ (c.toNat : Int) ≤ 57)) : c ∉ s := fun hm => by
  unfold digB at h
  have ha := List.all_eq_true.1 (Bool.and_eq_true_iff.1 h).1 c hm
  simp at ha
  rcases ha with rfl | rfl | rfl | rfl | rfl | rfl | rfl | rfl | rfl | rfl <;> exact hc (by decide)
theorem without_gout {s : List UInt8} {g g2 : Int} {c : UInt8} (h : c ∉ s) : without c (gout s g g2 c) = s := by
  unfold gout without
  split
  · exact List.filter_eq_self.2 fun x hx => by simp; exact fun e => h (e ▸ hx)
  · exact Grp.filter_grouped h
set_option maxRecDepth 100000 in
set_option maxHeartbeats 1000000 in
theorem grouped_any (w : World) : Calls Tryd.prog 37 #[] w fun e w' => e = .returned (.bool true) ∧ Below w.heap.size w w' := by
  have c := fun w => put_ok [49, 50, 51, 52, 53] 3 0 44 w (by simp) (by decide) (by decide) ⟨by omega, by omega, by omega, by omega⟩
  have e : gout [49, 50, 51, 52, 53] 3 0 44 = [49, 50, 44, 51, 52, 53] := by
    show Grp.grouped 3 3 [49, 50, 51, 52, 53] 44 = _
    rw [Grp.grouped_cut 44 (by omega) (by simp), Grp.grouped_one 44 (by simp)]; rfl
  rw [e] at c
  have C := Lib.hid c
  clear c e
  go_enter Tryd.func37, Tryd.ntmps37
  go_wp2_with fail
  refine (C.out _).mono ?_
  rintro e w1 ⟨rfl, hb⟩
  have W1 := Lib.hid hb
  clear hb
  go_wp2_with fail
  go_ret
  exact ⟨ret_bool (by simp), W1.out⟩
end Go.Proofs.YtadolhlkpnphmaaDoor
