/- The walk of msg.size. Conditions: the message is one, of lists of at most 2000000. -/
import Derived.Test.YtainindkndjkbaaGreatDoorTrimL
import Derived.Test.YtainindkndjkbaaGreatDoorOnly
import Derived.Test.YtainindkndjkbaaGreatDoorShelfU
import Derived.Test.YtainindkndjkbaaGreatDoorShelfG
import Derived.Test.YtainindkndjkbaaGreatDoorBoxS
import Derived.Test.YtainindkndjkbaaGreatDoorNumOf
import Derived.Test.YtainindkndjkbaaGreatDoorAtoi
import Derived.Test.YtainindkndjkbaaGreatDoorMax
import Derived.Test.YtainindkndjkbaaGreatDoorStr
import Derived.Test.YtainindkndjkbaaGreatDoorHeld
import Derived.Test.YtainindkndjkbaaGreatDoorItoa
import Derived.Test.YtainindkndjkbaaGreatDoorShelfC
import Derived.Test.YtainindkndjkbaaGreatDoorMsgA
import Derived.Test.YtainindkndjkbaaGreatDoorRead
import Derived.Test.YtainindkndjkbaaGreatDoorErrs
import Derived.Test.YtainindkndjkbaaGreatDoorShelfT
import Derived.LoopTactic
import Derived.Maps.AppendAt
import Derived.OwnWalk
import Derived.Test.YtainindkndjkbaaGreatDoorProg
namespace Go.Proofs.YtainindkndjkbaaGreatDoor
open Go.RowKit
namespace Ms
def lowL : List UInt8 := [97, 98, 99, 100, 101, 102, 103, 104, 105, 106, 107, 108, 109, 110, 111, 112, 113, 114, 115, 116, 117, 118, 119, 120, 121, 122]
def namL : List UInt8 := [97, 98, 99, 100, 101, 102, 103, 104, 105, 106, 107, 108, 109, 110, 111, 112, 113, 114, 115, 116, 117, 118, 119, 120, 121, 122, 48, 49, 50, 51, 52, 53, 54, 55, 56, 57, 95]
def nameB (s : List UInt8) : Bool := (s.all (fun c => namL.contains c) && (decide (1 ≤ s.length) && decide (s.length ≤ 20))) && lowL.contains (s.headD 0)
theorem low_nam : ∀ x ∈ lowL, x ∈ namL := by decide
theorem nam_small : ∀ b ∈ namL, b.toNat < 128 := by decide
end Ms
theorem index_neg : ∀ (l : List UInt8) (c : UInt8), -1 ≤ Lib.indexByte l c ∧ (0 ≤ Lib.indexByte l c ↔ c ∈ l)
  | [], c => ⟨by simp [Lib.indexByte], by simp [Lib.indexByte]⟩
  | b :: l, c => by
    obtain ⟨i1, i2⟩ := index_neg l c
    unfold Lib.indexByte
    by_cases h : b = c
    · subst h; simp
    · have hb : (b == c) = false := beq_eq_false_iff_ne.2 h
      have hc : ¬ c = b := fun e => h e.symm
      rw [hb, if_neg (by simp)]
      by_cases h1 : Lib.indexByte l c = -1
      · rw [h1]
        have : c ∉ l := fun e => by have := i2.2 e; omega
        simp [this, hc]
      · have hh : (Lib.indexByte l c == -1) = false := beq_eq_false_iff_ne.2 h1
        rw [hh, if_neg (by simp)]
        have h0 : 0 ≤ Lib.indexByte l c := by omega
        refine ⟨by omega, ⟨fun _ => List.mem_cons_of_mem _ (i2.1 h0), fun _ => by omega⟩⟩
theorem trimM_any (s : List UInt8) (w : World) (hs : s.length ≤ 4000000000) :
    Calls Tryz.prog 51 #[.string ⟨s.toArray⟩, .string ⟨#[97, 98, 99, 100, 101, 102, 103, 104, 105, 106, 107, 108, 109, 110, 111, 112, 113, 114, 115, 116, 117, 118, 119, 120, 121, 122, 48, 49, 50, 51, 52, 53, 54, 55, 56, 57, 95]⟩] w fun e w' => e = .returned (.string ⟨(Lib.trimS s Ms.namL).toArray⟩) ∧ Below w.heap.size w w' :=
  Any.strings_Trim_laid Tryz.lays160 (by kernel_rfl) ⟨s.toArray⟩ ⟨Ms.namL.toArray⟩ w (by rw [size_mkl]; omega) (by decide) (fun j b hb => Ms.nam_small b (List.mem_of_getElem? (i := j) hb))
theorem lowb_any (x : UInt8) (w : World) : Calls Tryz.prog 52 #[.string ⟨#[97, 98, 99, 100, 101, 102, 103, 104, 105, 106, 107, 108, 109, 110, 111, 112, 113, 114, 115, 116, 117, 118, 119, 120, 121, 122]⟩, .int .u8 (x.toNat : Int)] w fun e w' => e = .returned (.int .i64 (Lib.indexByte Ms.lowL x)) ∧ w = w' := by
  have h := Tryz.strings_IndexByte ⟨#[97, 98, 99, 100, 101, 102, 103, 104, 105, 106, 107, 108, 109, 110, 111, 112, 113, 114, 115, 116, 117, 118, 119, 120, 121, 122]⟩ (x.toNat : Int) w
  rw [show ((x.toNat : Int).toNat.toUInt8) = x by simp] at h
  exact h.mono fun _ _ g => ⟨g.1, g.2.symm⟩

set_option maxRecDepth 100000 in
set_option maxHeartbeats 2000000 in
theorem mname_any (s : List UInt8) (w : World) (hs : s.length ≤ 4000000000) :
    Calls Tryz.prog 26 #[.string ⟨s.toArray⟩] w fun e w' => e = .returned (.bool (Ms.nameB s)) ∧ Below w.heap.size w w' := by
  cases s with
  | nil =>
    go_enter Tryz.func26, Tryz.ntmps26
    go_wp2_with fail
    go_ret
    exact ⟨ret_bool (by decide), Below.refl _ _⟩
  | cons x r =>
    have CT := Lib.hid fun w => trimM_any (x :: r) w hs
    have CB := Lib.hid fun w => lowb_any x w
    have HD : Hid ((x :: r).all (fun c => Ms.namL.contains c) = decide (Lib.trimS (x :: r) Ms.namL = [])) := Lib.hid (by
      rw [Bool.eq_iff_iff, decide_eq_true_iff, trim_none])
    have IX := fun w => index_str (P := Tryz.prog) 9 Tryz.underlying9 (x :: r) .i64 0 x rfl w
    rw [show ((0 : Nat) : Int) = 0 from rfl] at IX
    have hx := index_neg Ms.lowL x
    have e0 : Ms.nameB (x :: r) = ((x :: r).all (fun c => Ms.namL.contains c) && decide ((x :: r).length ≤ 20) && Ms.lowL.contains x) := by
      unfold Ms.nameB
      rw [decide_eq_true (show 1 ≤ (x :: r).length by simp), Bool.true_and]; rfl
    rw [e0]
    have hc : Ms.lowL.contains x = decide (0 ≤ Lib.indexByte Ms.lowL x) := by
      rw [Bool.eq_iff_iff, decide_eq_true_iff, hx.2, List.contains_iff_mem]
    rw [hc]
    have hne : (x :: r).isEmpty = false := rfl
    have hn0 : ((x :: r) == []) = false := rfl
    have l0 : (0 : Int) < ((x :: r).length : Int) := by simp only [List.length_cons]; omega
    generalize Lib.indexByte Ms.lowL x = I at *
    generalize (x :: r).all (fun c => Ms.namL.contains c) = A at *
    generalize Lib.trimS (x :: r) Ms.namL = T at *
    generalize hS : x :: r = S at *
    clear hS e0 hc hx hs
    by_cases h5 : S.length ≤ 20
    · have h6 : (S.length : Int) ≤ 20 := by omega
      rw [decide_eq_true h5]
      cases T with
      | nil =>
        go_enter Tryz.func26, Tryz.ntmps26
        go_wp2_with fail
        refine (CT.out _).mono ?_
        rintro e w1 ⟨rfl, hb⟩
        have W := Lib.hid hb
        clear hb
        go_wp2_with fail
        refine (CB.out _).mono ?_
        rintro e w' ⟨rfl, rfl⟩
        go_wp2_with fail
        go_ret
        exact ⟨ret_bool (by rw [HD.out]; simp), W.out⟩
      | cons y z =>
        go_enter Tryz.func26, Tryz.ntmps26
        go_wp2_with fail
        refine (CT.out _).mono ?_
        rintro e w1 ⟨rfl, hb⟩
        have W := Lib.hid hb
        clear hb
        go_wp2_with fail
        go_ret
        exact ⟨ret_bool (by rw [HD.out]; simp), W.out⟩
    · have h6 : ¬ (S.length : Int) ≤ 20 := by omega
      rw [decide_eq_false h5]
      go_enter Tryz.func26, Tryz.ntmps26
      go_wp2_with fail
      go_ret
      exact ⟨ret_bool (by simp), Below.refl _ _⟩

set_option maxRecDepth 100000 in
set_option maxHeartbeats 2000000 in
theorem qname_any (s : List UInt8) (w : World) (hs : s.length ≤ 4000000000) :
    Calls Tryz.prog 28 #[.string ⟨s.toArray⟩] w fun e w' => e = .returned (.bool (Ms.nameB s)) ∧ Below w.heap.size w w' := by
  have C1 := Lib.hid fun w => (only_any s Ms.namL 1 20 w hs (by decide)).mono fun e w' (h : e = .returned (.bool (onlyB s Ms.namL 1 20)) ∧ Drew w w') => (⟨h.1, by obtain ⟨n, rfl⟩ := h.2; exact blw_drewN (Below.refl _ _) n⟩ : e = .returned (.bool (onlyB s Ms.namL 1 20)) ∧ Below w.heap.size w w')
  have e1 : onlyB s Ms.namL 1 20 = (s.all (fun c => Ms.namL.contains c) && (decide (1 ≤ s.length) && decide (s.length ≤ 20))) := by
    unfold onlyB
    have a1 : decide ((1 : Int) ≤ (s.length : Int)) = decide (1 ≤ s.length) := by
      rw [Bool.eq_iff_iff, decide_eq_true_iff, decide_eq_true_iff]; omega
    have a2 : decide ((s.length : Int) ≤ 20) = decide (s.length ≤ 20) := by
      rw [Bool.eq_iff_iff, decide_eq_true_iff, decide_eq_true_iff]; omega
    rw [a1, a2]
  rw [e1] at C1
  unfold Ms.nameB
  cases hA : (s.all (fun c => Ms.namL.contains c) && (decide (1 ≤ s.length) && decide (s.length ≤ 20))) with
  | false =>
    rw [hA] at C1
    clear hA e1
    go_enter Tryz.func28, Tryz.ntmps28
    go_wp2_with fail
    refine (C1.out _).mono ?_
    rintro e w1 ⟨rfl, hb⟩
    have W := Lib.hid hb
    clear hb
    go_wp2_with fail
    go_ret
    exact ⟨ret_bool (by simp), W.out⟩
  | true =>
    rw [hA] at C1
    have h1 : 1 ≤ s.length := by
      rw [Bool.and_eq_true, Bool.and_eq_true, decide_eq_true_iff, decide_eq_true_iff] at hA; exact hA.2.1
    obtain ⟨x, r, rfl⟩ : ∃ x r, s = x :: r := by
      cases s with
      | nil => simp at h1
      | cons x r => exact ⟨x, r, rfl⟩
    have SL := fun w => slice_to (P := Tryz.prog) 9 Tryz.underlying9 (x :: r) .i64 1 (by simp) w
    rw [show ((1 : Nat) : Int) = 1 from rfl] at SL
    have C2 := Lib.hid fun w => (only_any [x] Ms.lowL 1 1 w (by simp) (by decide)).mono fun e w' (h : e = .returned (.bool (onlyB [x] Ms.lowL 1 1)) ∧ Drew w w') => (⟨h.1, by obtain ⟨n, rfl⟩ := h.2; exact blw_drewN (Below.refl _ _) n⟩ : e = .returned (.bool (onlyB [x] Ms.lowL 1 1)) ∧ Below w.heap.size w w')
    have e2 : onlyB [x] Ms.lowL 1 1 = Ms.lowL.contains x := by unfold onlyB; simp
    rw [e2] at C2
    have e3 : ((x :: r).headD 0) = x := rfl
    rw [e3]
    have e4 : (x :: r).take 1 = [x] := rfl
    rw [e4] at SL
    generalize Ms.lowL.contains x = B at *
    generalize x :: r = S at *
    clear hA e1 e2 e3 e4 h1
    go_enter Tryz.func28, Tryz.ntmps28
    go_wp2_with fail
    refine (C1.out _).mono ?_
    rintro e w1 ⟨rfl, hb⟩
    have W := Lib.hid hb
    clear hb
    go_wp2_with fail
    refine (C2.out _).mono ?_
    rintro e w2 ⟨rfl, hb⟩
    have W2 := Lib.hid (blw_trans W.out hb)
    clear hb
    go_wp2_with fail
    go_ret
    exact ⟨ret_bool (by simp), W2.out⟩
end Go.Proofs.YtainindkndjkbaaGreatDoor
namespace Go.Proofs.YtainindkndjkbaaGreatDoor
open Go.RowKit
namespace Ms
open Go.Lib
/-- the number of a key; -1: none -/
def exV (key : List UInt8) : Int := if hasPrefix key [61] = true ∧ key.length ≤ 4 then Byt.numP (trimPrefix key [61]) else -1
theorem num_atoi {l : List UInt8} (h : 0 ≤ Byt.numP l) : atoiAll l = .ok (Byt.numP l) ∧ decDigits (Byt.numP l).toNat = l := by
  obtain ⟨h1, h2⟩ := Byt.numP_some h
  have z := Byt.zdig_atoi 0 (Byt.numP l) (by omega)
  have e : Byt.sgn (Byt.numP l) ++ Byt.zdig 0 (Byt.numP l).natAbs = l := by
    unfold Byt.sgn Byt.zdig
    rw [if_neg (by omega), show (Byt.numP l).natAbs = (Byt.numP l).toNat by omega, h1]; rfl
  rw [e] at z
  exact ⟨z, h1⟩
theorem num_neg {l : List UInt8} (h : ¬ 0 ≤ Byt.numP l) : Byt.numP l = -1 := by
  have := (Byt.numP_bd l).1; omega
theorem dig_long : ∀ (k u : Nat), (decDigits u).length ≤ k → u < 10 ^ k
  | 0, u, h => absurd (List.length_eq_zero_iff.1 (Nat.le_zero.1 h)) (Byt.digits_ne u)
  | k + 1, u, h => by
    by_cases hu : u < 10
    · exact Nat.lt_of_lt_of_le hu (by rw [Nat.pow_succ]; have := Nat.pow_pos (n := k) (show 0 < 10 by omega); omega)
    · rw [Dtx.dd2 hu, List.length_append, List.length_singleton] at h
      have := dig_long k (u / 10) (by omega)
      rw [Nat.pow_succ]; omega
theorem pre_len {key : List UInt8} (h : hasPrefix key [61] = true) : (trimPrefix key [61]).length + 1 = key.length := by
  unfold trimPrefix
  rw [if_pos h, List.length_drop]
  cases key with
  | nil => exact absurd h (by decide)
  | cons x r => simp
/-- no number -/
theorem ex_none {key : List UInt8} (h : hasPrefix key [61] = false ∨ (∀ n, atoiAll (trimPrefix key [61]) ≠ .ok n) ∨ ∃ n, atoiAll (trimPrefix key [61]) = .ok n ∧ (n < 0 ∨ 999 < n ∨ itoa n ≠ trimPrefix key [61])) : exV key = -1 := by
  unfold exV
  by_cases h0 : hasPrefix key [61] = true ∧ key.length ≤ 4
  · rw [if_pos h0]
    by_cases hn : 0 ≤ Byt.numP (trimPrefix key [61])
    · exfalso
      obtain ⟨a1, a2⟩ := num_atoi hn
      rcases h with h | h | ⟨n, h1, h2⟩
      · rw [h] at h0; exact absurd h0.1 (by simp)
      · exact h _ a1
      · rw [a1] at h1
        injection h1 with h1
        have hl := pre_len h0.1
        have h9 := dig_long 3 (Byt.numP (trimPrefix key [61])).toNat (by rw [a2]; omega)
        rcases h2 with h2 | h2 | h2
        · omega
        · omega
        · exact h2 (by rw [← h1]; unfold itoa; rw [if_neg (by omega), a2])
    · exact num_neg hn
  · rw [if_neg h0]
theorem ex_some {key : List UInt8} {n : Int} (h : hasPrefix key [61] = true) (h1 : atoiAll (trimPrefix key [61]) = .ok n) (h2 : 0 ≤ n) (h3 : n ≤ 999) (h4 : itoa n = trimPrefix key [61]) : exV key = n := by
  have e : trimPrefix key [61] = decDigits n.toNat := by rw [← h4]; unfold itoa; rw [if_neg (by omega)]
  have hl := pre_len h
  have hd := Byt.digits_short 3 n.toNat (by omega) (by omega)
  unfold exV
  rw [e] at hl
  rw [if_pos ⟨h, by omega⟩, e, Byt.numP_dec _ (by omega)]
  omega
theorem ex_bd (key : List UInt8) : -1 ≤ exV key ∧ exV key ≤ 1000000000000000 := by
  unfold exV
  split
  · exact Byt.numP_bd _
  · omega
end Ms
theorem cuteq_any (s : List UInt8) (w : World) : Calls Tryz.prog 130 #[.string ⟨s.toArray⟩, .string ⟨#[61]⟩] w fun e w' => e = .returned (.tuple #[.string ⟨(Lib.trimPrefix s [61]).toArray⟩, .bool (Lib.hasPrefix s [61])]) ∧ w = w' :=
  (Tryz.strings_CutPrefix ⟨s.toArray⟩ ⟨#[61]⟩ w).mono fun _ _ h => ⟨h.1, h.2.symm⟩

set_option maxRecDepth 100000 in
set_option maxHeartbeats 2000000 in
theorem exact_any (key : List UInt8) (w : World) (hp : PowW w) (hn : NumW w) (hs : key.length ≤ 4000000000) :
    Calls Tryz.prog 116 #[.string ⟨key.toArray⟩] w fun e w' => e = .returned (.int .i64 (Ms.exV key)) ∧ Below w.heap.size w w' := by
  have C1 := Lib.hid fun w => cuteq_any key w
  have HN := Lib.hid (@Ms.ex_none key)
  have HS := Lib.hid fun (n : Int) (g1 : Lib.hasPrefix key [61] = true) g2 g3 g4 g5 => @Ms.ex_some key n g1 g2 g3 g4 g5
  have hl : (Lib.trimPrefix key [61]).length ≤ 4000000000 := by have := Lib.trimPrefix_le key [61]; omega
  generalize Ms.exV key = V at *
  generalize Lib.hasPrefix key [61] = B at *
  generalize Lib.trimPrefix key [61] = R at *
  have CI := Lib.hid fun (n : Int) (h0 : 0 ≤ n) (h1 : n ≤ 999) (wx : World) (hb : Below w.heap.size w wx) => itoa_any n wx (hp.below hb) (by omega) (by omega)
  by_cases ha : ∃ v, Lib.atoiAll R = .ok v
  · obtain ⟨n, ha⟩ := ha
    have CA := Lib.hid fun wx => atoi_yes R n wx hl ha
    cases B with
    | false =>
      have e := HN.out (.inl rfl)
      subst e
      clear HN HS CI ha hl hs hp hn
      go_enter Tryz.func116, Tryz.ntmps116
      go_wp2_with fail
      refine (C1.out _).mono ?_
      rintro e w' ⟨rfl, rfl⟩
      go_wp2_with fail
      refine (CA.out _).mono ?_
      rintro e w1 ⟨rfl, hb⟩
      go_wp2_with fail
      go_ret
      exact ⟨rfl, hb⟩
    | true =>
      rcases Int.lt_or_le n 0 with h0 | h0
      · have e := HN.out (.inr (.inr ⟨n, ha, .inl h0⟩))
        subst e
        have d0 : decide (n < 0) = true := dec_yes h0
        clear HN HS CI ha hl hs hp hn h0
        go_enter Tryz.func116, Tryz.ntmps116
        go_wp2_with fail
        refine (C1.out _).mono ?_
        rintro e w' ⟨rfl, rfl⟩
        go_wp2_with fail
        refine (CA.out _).mono ?_
        rintro e w1 ⟨rfl, hb⟩
        go_wp2_with fail
        go_ret
        exact ⟨rfl, hb⟩
      · have d0 : decide (n < 0) = false := dec_no (by omega)
        rcases Int.lt_or_le 999 n with h9 | h9
        · have e := HN.out (.inr (.inr ⟨n, ha, .inr (.inl h9)⟩))
          subst e
          have d1 : decide (999 < n) = true := dec_yes h9
          clear HN HS CI ha hl hs hp hn h0 h9
          go_enter Tryz.func116, Tryz.ntmps116
          go_wp2_with fail
          refine (C1.out _).mono ?_
          rintro e w' ⟨rfl, rfl⟩
          go_wp2_with fail
          refine (CA.out _).mono ?_
          rintro e w1 ⟨rfl, hb⟩
          go_wp2_with fail
          go_ret
          exact ⟨rfl, hb⟩
        · have d1 : decide (999 < n) = false := dec_no (by omega)
          have CIh := Lib.hid (CI.out n h0 h9)
          have HV : Hid ((Lib.itoa n = R → V = n) ∧ (Lib.itoa n ≠ R → V = -1)) := Lib.hid ⟨fun h => HS.out n rfl ha h0 h9 h, fun h => HN.out (.inr (.inr ⟨n, ha, .inr (.inr h)⟩))⟩
          clear HN HS CI ha hl hs hp hn h0 h9
          generalize Lib.itoa n = T at *
          go_enter Tryz.func116, Tryz.ntmps116
          go_wp2_with fail
          refine (C1.out _).mono ?_
          rintro e w' ⟨rfl, rfl⟩
          go_wp2_with fail
          refine (CA.out _).mono ?_
          rintro e w1 ⟨rfl, hb⟩
          have W1 := Lib.hid hb
          clear hb
          go_wp2_with fail
          refine (CIh.out _ W1.out).mono ?_
          rintro e w2 ⟨rfl, hb⟩
          have W2 := Lib.hid (blw_trans W1.out hb)
          clear hb CIh W1
          by_cases hT : T = R
          · have e := HV.out.1 hT
            subst hT
            subst e
            go_wp2_with fail
            go_ret
            exact ⟨rfl, W2.out⟩
          · have e := HV.out.2 hT
            subst e
            have b0 : (T == R) = false := beq_eq_false_iff_ne.2 hT
            have b1 : (T != R) = true := by rw [bne, b0]; rfl
            clear hT HV
            go_wp2_with fail
            go_ret
            exact ⟨rfl, W2.out⟩
  · have CA := Lib.hid fun wx hW => atoi_no R wx hW hl fun v h => ha ⟨v, h⟩
    have e := HN.out (.inr (.inl fun v h => ha ⟨v, h⟩))
    subst e
    have HNW := Lib.hid hn
    clear HN HS CI ha hl hs hp hn
    cases B
    all_goals
      go_enter Tryz.func116, Tryz.ntmps116
      go_wp2_with fail
      refine (C1.out _).mono ?_
      rintro e w' ⟨rfl, rfl⟩
      go_wp2_with fail
      refine (CA.out _ HNW.out).mono ?_
      rintro e w1 ⟨u, nb, rfl, hb⟩
      go_wp2_with fail
      go_ret
      exact ⟨rfl, hb⟩

set_option maxRecDepth 100000 in
set_option maxHeartbeats 2000000 in
theorem qexact_any (key : List UInt8) (w : World) (hs : key.length ≤ 4000000000) :
    Calls Tryz.prog 82 #[.string ⟨key.toArray⟩] w fun e w' => e = .returned (.int .i64 (Ms.exV key)) ∧ Below w.heap.size w w' := by
  have C1 := Lib.hid fun w => (starts_any key [61] w).mono fun e w' (h : e = .returned (.bool (key.take ([61] : List UInt8).length == [61])) ∧ w' = w) => (⟨h.1, h.2.symm⟩ : e = .returned (.bool (key.take ([61] : List UInt8).length == [61])) ∧ w = w')
  have ep : (key.take ([61] : List UInt8).length == [61]) = Lib.hasPrefix key [61] := by
    cases key with
    | nil => rfl
    | cons x r => simp [Lib.hasPrefix, List.isPrefixOf, Bool.beq_comm]
  rw [ep] at C1
  unfold Ms.exV
  cases hB : Lib.hasPrefix key [61] with
  | false =>
    rw [hB] at C1
    rw [if_neg (by simp)]
    clear ep hB
    go_enter Tryz.func82, Tryz.ntmps82
    go_wp2_with fail
    refine (C1.out _).mono ?_
    rintro e w' ⟨rfl, rfl⟩
    go_wp2_with fail
    go_ret
    exact ⟨rfl, Below.refl _ _⟩
  | true =>
    rw [hB] at C1
    by_cases h4 : key.length ≤ 4
    · rw [if_pos ⟨rfl, h4⟩]
      have h5 : ¬ (4 : Int) < (key.length : Int) := by omega
      have hk : 1 ≤ key.length := by have := Ms.pre_len hB; omega
      have SL := fun w => slice_from (P := Tryz.prog) 9 Tryz.underlying9 key .i64 1 hk w
      rw [show ((1 : Nat) : Int) = 1 from rfl] at SL
      have e1 : key.drop 1 = Lib.trimPrefix key [61] := by unfold Lib.trimPrefix; rw [if_pos hB]; rfl
      rw [e1] at SL
      have C2 := Lib.hid fun w => numof_any (Lib.trimPrefix key [61]) w (by have := Lib.trimPrefix_le key [61]; omega)
      generalize Lib.trimPrefix key [61] = R at *
      clear ep hB e1 h4 hs hk
      go_enter Tryz.func82, Tryz.ntmps82
      go_wp2_with fail
      refine (C1.out _).mono ?_
      rintro e w' ⟨rfl, rfl⟩
      go_wp2_with fail
      refine (C2.out _).mono ?_
      rintro e w1 ⟨rfl, hb⟩
      go_wp2_with fail
      go_ret
      exact ⟨rfl, hb⟩
    · rw [if_neg (fun h => h4 h.2)]
      have h5 : (4 : Int) < (key.length : Int) := by omega
      clear ep hB h4 hs
      go_enter Tryz.func82, Tryz.ntmps82
      go_wp2_with fail
      refine (C1.out _).mono ?_
      rintro e w' ⟨rfl, rfl⟩
      go_wp2_with fail
      go_ret
      exact ⟨rfl, Below.refl _ _⟩
end Go.Proofs.YtainindkndjkbaaGreatDoor
namespace Go.Proofs.YtainindkndjkbaaGreatDoor
open Go.RowKit
namespace Ms
def other : List UInt8 := [111, 116, 104, 101, 114]
def five : List (List UInt8) := [[122, 101, 114, 111], [111, 110, 101], [116, 119, 111], [102, 101, 119], [109, 97, 110, 121]]
/-- is a node fine, behind one of a kind? -/
def fineB (x : Nd) (prev : Option Int) (mark : Bool) : Bool :=
  if x.kind = 1 then !x.text.isEmpty && !(prev == some 1) else if x.kind = 2 ∨ x.kind = 3 ∨ x.kind = 4 ∨ x.kind = 5 then nameB x.text else decide (x.kind = 6) && mark
/-- is a key one of a node? -/
def keyB (x : Nd) (k : List UInt8) : Bool := if x.kind = 5 then nameB k else five.contains k || k == other || decide (0 ≤ exV k)
/-- what is wrong with cases: G tells it of a body -/
def csE (G : Bool → List Nd → Int) (x : Nd) (mark : Bool) : List (List UInt8) → List (List UInt8 × List Nd) → Int
  | seen, [] => if seen.contains other then 0 else 2
  | seen, y :: r => if !keyB x y.1 then 3 else if seen.contains y.1 then 5 else if G (mark || decide (x.kind = 4)) y.2 ≠ 0 then G (mark || decide (x.kind = 4)) y.2 else csE G x mark (seen ++ [y.1]) r
def ndE (G : Bool → List Nd → Int) (x : Nd) (prev : Option Int) (mark : Bool) : Int :=
  if !fineB x prev mark then 3 else if x.kind = 4 ∧ (x.off < 0 ∨ 9 < x.off) then 1 else if x.kind = 4 ∨ x.kind = 5 then csE G x mark [] x.cases else 0
def msE (G : Bool → List Nd → Int) (mark : Bool) : Option Int → List Nd → Int
  | _, [] => 0
  | prev, x :: r => if ndE G x prev mark ≠ 0 then ndE G x prev mark else msE G mark (some x.kind) r
/-- what is wrong with a message -/
def chk : Nat → Bool → List Nd → Int
  | 0, _, _ => 0
  | f + 1, mark, m => msE (chk f) mark none m
/-- .. of a message as a whole -/
def msgE (f : Nat) (m : List Nd) : Int := if (lrg 6 m).2 then 4 else chk f false m
end Ms
end Go.Proofs.YtainindkndjkbaaGreatDoor
namespace Go.Proofs.YtainindkndjkbaaGreatDoor
open Go.RowKit
theorem lcontains_any (l : List (List UInt8)) (b off k cap : Nat) (x : List UInt8) (w : World) (hk : k ≤ l.length) (hl : k ≤ 9223372036854775807) (hc : ∀ (j : Nat) x, l[j]? = some x → w.cell? ⟨b, off + j, none⟩ = some (.string ⟨x.toArray⟩)) :
    Calls Tryz.prog 104 #[.slice (some ⟨b, off, none⟩) k cap, .string ⟨x.toArray⟩] w fun e w' => e = .returned (.bool ((l.take k).contains x)) ∧ w = w' := by
  have c := Tryz.slices_Contains_string b off k cap (l.map fun x => ⟨x.toArray⟩) ⟨x.toArray⟩ w (by rw [List.length_map]; exact hk) hl (fun j hj => by
    rw [List.length_map] at hj
    rw [hc j l[j] (List.getElem?_eq_getElem hj), List.getD_eq_getElem?_getD, List.getElem?_map, List.getElem?_eq_getElem hj]; rfl)
  refine c.mono ?_
  rintro e w' ⟨rfl, rfl⟩
  refine ⟨ret_bool ?_, rfl⟩
  rw [Bool.eq_iff_iff, Lib.containsS_iff, List.contains_iff_mem, ← List.map_take, List.mem_map]
  constructor
  · rintro ⟨y, hy, e⟩
    have : y = x := by have := congrArg (fun z : ByteArray => z.data.toList) e; simpa using this
    exact this ▸ hy
  · exact fun h => ⟨x, h, rfl⟩
theorem scontains_any (l : List (List UInt8)) (V : Value) (x : List UInt8) (w : World) (h : StrsAt w V l) :
    Calls Tryz.prog 104 #[V, .string ⟨x.toArray⟩] w fun e w' => e = .returned (.bool (l.contains x)) ∧ w = w' := by
  rcases h with ⟨rfl, a, cap, rfl⟩ | ⟨b, off, cap, rfl, _, h3, h4, h5⟩
  · exact (Tryz.slices_Contains_string_empty a cap ⟨x.toArray⟩ w).mono fun e w' g => ⟨g.1, g.2.symm⟩
  · have := lcontains_any l b off l.length cap x w (Nat.le_refl _) (by unfold maxLen at h4; omega) h5
    rw [List.take_length] at this
    exact this
set_option maxRecDepth 100000 in
set_option maxHeartbeats 1000000 in
theorem lin_any (l : List (List UInt8)) (b off k cap : Nat) (x : List UInt8) (w : World) (hk : k ≤ l.length) (hkc : k ≤ cap) (hm : cap ≤ maxLen) (hc : ∀ (j : Nat) x, l[j]? = some x → w.cell? ⟨b, off + j, none⟩ = some (.string ⟨x.toArray⟩)) :
    Calls Tryz.prog 58 #[.slice (some ⟨b, off, none⟩) k cap, .string ⟨x.toArray⟩] w fun e w' => e = .returned (.bool ((l.take k).contains x)) ∧ w = w' := by
  generalize HPOST : (l.take k).contains x = POST
  have HP := Lib.hid HPOST
  have HC := Lib.hid hc
  unfold maxLen at hm
  clear HPOST hc
  go_enter Tryz.func58, Tryz.ntmps58
  go_wp2_with fail
  go_loop [5] (fun i => ∃ m : Nat, i = .int .i64 m ∧ m ≤ k ∧ Hid ((l.take m).contains x = false)) (fun i => k - (RowKit.intOf i).toNat)
  case atStart => exact ⟨0, rfl, Nat.zero_le _, Lib.hid (by simp)⟩
  case round =>
    obtain ⟨m, rfl, hmk, HN⟩ := hrel
    by_cases hlt : m < k
    · obtain ⟨y, hy⟩ : ∃ y, l[m]? = some y := ⟨l[m]'(by omega), List.getElem?_eq_getElem (by omega)⟩
      have yc := HC.out m y hy
      have HT := Lib.hid (show (l.take (m + 1)).contains x = (x == y) by
        rw [List.take_add_one, hy, Bool.eq_iff_iff, List.contains_iff_mem]
        have hn := HN.out
        simp at hn
        simp [hn])
      have HY := Lib.hid hy
      clear hy
      by_cases e : y = x
      · subst e
        have HR := Lib.hid (show POST = true by
          rw [← HP.out, List.contains_iff_mem]
          have h1 : y ∈ l.take (m + 1) := by rw [List.take_add_one, HY.out]; simp
          exact List.take_subset_take_left l (by omega) h1)
        go_wp2_with fail
        go_ret
        exact ⟨ret_bool HR.out.symm, rfl⟩
      · have q1 : (y == x) = false := beq_eq_false_iff_ne.2 e
        have HN2 := Lib.hid (show (l.take (m + 1)).contains x = false by rw [HT.out]; exact beq_eq_false_iff_ne.2 (fun g => e g.symm))
        clear HT e
        go_wp2_with fail
        go_round
        case rel => exact ⟨m + 1, by go_num, by omega, HN2⟩
        case measure => simp [RowKit.intOf]; omega
    · obtain rfl : m = k := by omega
      go_wp2_with fail
      go_ret
      exact ⟨ret_bool (by rw [← HP.out, HN.out]), rfl⟩
theorem sin_any (l : List (List UInt8)) (V : Value) (x : List UInt8) (w : World) (h : StrsAt w V l) :
    Calls Tryz.prog 58 #[V, .string ⟨x.toArray⟩] w fun e w' => e = .returned (.bool (l.contains x)) ∧ w = w' := by
  rcases h with ⟨rfl, a, cap, rfl⟩ | ⟨b, off, cap, rfl, _, h3, h4, h5⟩
  · simp only [List.contains_nil]
    go_enter Tryz.func58, Tryz.ntmps58
    go_wp2_with fail
    go_loop [5] (fun i => i = .int .i64 0) (fun _ => 0)
    case atStart => exact rfl
    case round =>
      obtain rfl := hrel
      go_wp2_with fail
      go_ret
      exact ⟨rfl, rfl⟩
  · have := lin_any l b off l.length cap x w (Nat.le_refl _) h3 h4 h5
    rw [List.take_length] at this
    exact this
end Go.Proofs.YtainindkndjkbaaGreatDoor
namespace Go.Proofs.YtainindkndjkbaaGreatDoor
open Go.RowKit

set_option maxRecDepth 100000 in
set_option maxHeartbeats 2000000 in
theorem mfine_any (x : Ms.Nd) {a : Option Addr} {n c : Nat} (A : Option Addr) (i C : Nat) (prev : Option Int) (mark : Bool) (w : World) (ht : x.text.length ≤ 2000000) (hC : i ≤ C) (hC2 : C ≤ 9223372036854775807)
    (hp : (i = 0 ∧ prev = none) ∨ ∃ b off q, A = some ⟨b, off, none⟩ ∧ prev = some q ∧ 0 < i ∧ w.cell? ⟨b, off + (i - 1) * 4, none⟩ = some (.int .i64 q)) :
    Calls Tryz.prog 87 #[.agg #[.int .i64 x.kind, .string ⟨x.text.toArray⟩, .int .i64 x.off, .slice a n c], .slice A i C, .bool mark] w fun e w' => e = .returned (.bool (Ms.fineB x prev mark)) ∧ Below w.heap.size w w' := by
  have CN := Lib.hid fun wx => mname_any x.text wx (by omega)
  unfold Ms.fineB
  generalize x.kind = K at *
  generalize x.off = O at *
  generalize Ms.nameB x.text = NB at *
  generalize x.text = T at *
  have W0 := Lib.hid (blw_alloc w (.cells #[.int .i64 K, .string ⟨T.toArray⟩, .int .i64 O, .slice a n c] 60))
  by_cases k1 : K = 1
  · subst k1
    rw [if_pos rfl]
    clear CN
    cases T with
    | nil =>
      go_enter Tryz.func87, Tryz.ntmps87
      go_wp2_with fail
      go_ret
      exact ⟨ret_bool (by simp), W0.out⟩
    | cons t0 tr =>
      have e1 : (t0 :: tr).isEmpty = false := rfl
      have e2 : ((t0 :: tr) == []) = false := rfl
      generalize t0 :: tr = T at *
      rcases hp with ⟨rfl, rfl⟩ | ⟨b, off, q, rfl, rfl, hi, hc⟩
      · go_enter Tryz.func87, Tryz.ntmps87
        go_wp2_with fail
        go_ret
        exact ⟨ret_bool (by rw [e1]; rfl), W0.out⟩
      · have b0 : ((i : Int) == 0) = false := beq_no (by omega)
        obtain ⟨j, hj⟩ : ∃ j, j = i - 1 := ⟨_, rfl⟩
        rw [← hj] at hc
        have hc2 := cell_keep hc W0.out
        have wj : IntKind.i64.wrap ((i : Int) - 1) = (j : Int) := by rw [IntWalk.i64_in _ (by omega)]; omega
        have ej : (i : Int) - 1 = (j : Int) := by omega
        have hlt : (j : Int) < (i : Int) := by omega
        have hlt2 : j < i := by omega
        clear hj hi hc
        by_cases hq : q = 1
        · subst hq
          go_enter Tryz.func87, Tryz.ntmps87
          go_wp2_with fail
          go_ret
          exact ⟨ret_bool (by rw [e1]; rfl), W0.out⟩
        · have q1 : (q == 1) = false := beq_no hq
          have q2 : (q != 1) = true := by rw [bne, q1]; rfl
          have q3 : ((some q : Option Int) == some 1) = false := by simpa using hq
          clear hq
          go_enter Tryz.func87, Tryz.ntmps87
          go_wp2_with fail
          go_ret
          exact ⟨ret_bool (by rw [e1, q3]; rfl), W0.out⟩
  · have b1 : (K == 1) = false := beq_no k1
    rw [if_neg k1]
    clear hp
    by_cases k2 : K = 2
    · subst k2
      rw [if_pos (.inl rfl)]
      clear k1 b1
      go_enter Tryz.func87, Tryz.ntmps87
      go_wp2_with fail
      refine (CN.out _).mono ?_
      rintro e w1 ⟨rfl, hb⟩
      go_wp2_with fail
      go_ret
      exact ⟨rfl, blw_trans W0.out hb⟩
    · have b2 : (K == 2) = false := beq_no k2
      by_cases k3 : K = 3
      · subst k3
        rw [if_pos (.inr (.inl rfl))]
        clear k1 b1 b2 k2
        go_enter Tryz.func87, Tryz.ntmps87
        go_wp2_with fail
        refine (CN.out _).mono ?_
        rintro e w1 ⟨rfl, hb⟩
        go_wp2_with fail
        go_ret
        exact ⟨rfl, blw_trans W0.out hb⟩
      · have b3 : (K == 3) = false := beq_no k3
        by_cases k4 : K = 4
        · subst k4
          rw [if_pos (.inr (.inr (.inl rfl)))]
          clear k1 b1 b2 k2 b3 k3
          go_enter Tryz.func87, Tryz.ntmps87
          go_wp2_with fail
          refine (CN.out _).mono ?_
          rintro e w1 ⟨rfl, hb⟩
          go_wp2_with fail
          go_ret
          exact ⟨rfl, blw_trans W0.out hb⟩
        · have b4 : (K == 4) = false := beq_no k4
          by_cases k5 : K = 5
          · subst k5
            rw [if_pos (.inr (.inr (.inr rfl)))]
            clear k1 b1 b2 k2 b3 k3 b4 k4
            go_enter Tryz.func87, Tryz.ntmps87
            go_wp2_with fail
            refine (CN.out _).mono ?_
            rintro e w1 ⟨rfl, hb⟩
            go_wp2_with fail
            go_ret
            exact ⟨rfl, blw_trans W0.out hb⟩
          · have b5 : (K == 5) = false := beq_no k5
            rw [if_neg (by omega)]
            clear CN
            by_cases k6 : K = 6
            · subst k6
              clear k1 k2 k3 k4 k5 b1 b2 b3 b4 b5
              go_enter Tryz.func87, Tryz.ntmps87
              go_wp2_with fail
              go_ret
              exact ⟨ret_bool (by simp), W0.out⟩
            · have b6 : (K == 6) = false := beq_no k6
              rw [decide_eq_false k6, Bool.false_and]
              clear k1 k2 k3 k4 k5 k6
              go_enter Tryz.func87, Tryz.ntmps87
              go_wp2_with fail
              go_ret
              exact ⟨rfl, W0.out⟩

set_option maxRecDepth 100000 in
set_option maxHeartbeats 2000000 in
theorem five_any (w : World) : Calls Tryz.prog 42 #[] w fun e w' => ∃ V, e = .returned V ∧ StrsAt w' V Ms.five ∧ Below w.heap.size w w' := by
  go_enter Tryz.func42, Tryz.ntmps42
  go_wp2_with fail
  go_ret
  refine ⟨_, rfl, .inr ⟨w.heap.size, 0, 5, rfl, by decide, by decide, by decide, fun j x hx => ?_⟩, blw_alloc _ _⟩
  match j, hx with
  | 0, hx => cases hx; simp [go_sem]
  | 1, hx => cases hx; simp [go_sem]
  | 2, hx => cases hx; simp [go_sem]
  | 3, hx => cases hx; simp [go_sem]
  | 4, hx => cases hx; simp [go_sem]

set_option maxRecDepth 100000 in
set_option maxHeartbeats 2000000 in
theorem qkey_any (x : Ms.Nd) {a : Option Addr} {n c : Nat} (k : List UInt8) (w : World) (hk : k.length ≤ 2000000) :
    Calls Tryz.prog 57 #[.agg #[.int .i64 x.kind, .string ⟨x.text.toArray⟩, .int .i64 x.off, .slice a n c], .string ⟨k.toArray⟩] w fun e w' => e = .returned (.bool (!Ms.keyB x k)) ∧ Below w.heap.size w w' := by
  have CN := Lib.hid fun wx => qname_any k wx (by omega)
  have CX := Lib.hid fun wx => qexact_any k wx (by omega)
  have CI := Lib.hid fun V wx (h : StrsAt wx V Ms.five) => sin_any Ms.five V k wx h
  unfold Ms.keyB
  generalize x.kind = K at *
  generalize x.off = O at *
  generalize x.text = T at *
  generalize Ms.nameB k = NB at *
  generalize Ms.exV k = EX at *
  generalize Ms.five.contains k = FB at *
  have W0 := Lib.hid (blw_alloc w (.cells #[.int .i64 K, .string ⟨T.toArray⟩, .int .i64 O, .slice a n c] 60))
  by_cases k5 : K = 5
  · subst k5
    rw [if_pos rfl]
    go_enter Tryz.func57, Tryz.ntmps57
    go_wp2_with fail
    refine (CN.out _).mono ?_
    rintro e w1 ⟨rfl, hb⟩
    go_wp2_with fail
    go_ret
    exact ⟨rfl, blw_trans W0.out hb⟩
  · have b5 : (K == 5) = false := beq_no k5
    rw [if_neg k5]
    by_cases ho : k = Ms.other
    · subst ho
      unfold Ms.other at *
      clear CN CX CI
      go_enter Tryz.func57, Tryz.ntmps57
      go_wp2_with fail
      go_ret
      exact ⟨ret_bool (by simp), W0.out⟩
    · have o0 : (k == Ms.other) = false := beq_eq_false_iff_ne.2 ho
      have o1 : (k == [111, 116, 104, 101, 114]) = false := o0
      have o2 : (k != [111, 116, 104, 101, 114]) = true := by rw [bne, o1]; rfl
      rw [o0]
      clear o0 ho CN k5
      go_enter Tryz.func57, Tryz.ntmps57
      go_wp2_with fail
      refine (five_any _).mono ?_
      rintro e w1 ⟨V, rfl, hV, hb⟩
      have W1 := Lib.hid (blw_trans W0.out hb)
      clear hb
      obtain ⟨va, vn, vc, rfl⟩ : ∃ a n c, V = .slice a n c := by
        rcases hV with ⟨_, a, cap, e⟩ | ⟨b, off, cap, e, _⟩
        · exact ⟨_, _, _, e⟩
        · exact ⟨_, _, _, e⟩
      go_wp2_with fail
      refine (CI.out _ _ hV).mono ?_
      rintro e w' ⟨rfl, rfl⟩
      clear hV CI
      cases FB with
      | true =>
        go_wp2_with fail
        go_ret
        exact ⟨ret_bool (by simp), W1.out⟩
      | false =>
        go_wp2_with fail
        refine (CX.out _).mono ?_
        rintro e w2 ⟨rfl, hb⟩
        go_wp2_with fail
        go_ret
        exact ⟨ret_bool (by rw [Bool.eq_iff_iff]; simp), blw_trans W1.out hb⟩
end Go.Proofs.YtainindkndjkbaaGreatDoor
namespace Go.Proofs.YtainindkndjkbaaGreatDoor
open Go.RowKit
namespace Ms
def six : List (List UInt8) := five ++ [other]
end Ms
/-- the package's list of kinds holds its six texts -/
def KdW (w : World) : Prop := ∃ a n c, w.cell? ⟨2, 0, none⟩ = some (.slice a n c) ∧ StrsAt w (.slice a n c) Ms.six
theorem KdW.below {w w' : World} (h : KdW w) (hb : Below w.heap.size w w') : KdW w' := by
  obtain ⟨a, n, c, h1, h2⟩ := h
  exact ⟨a, n, c, cell_keep h1 hb, h2.below hb⟩
/-- what a message's walks lean on -/
structure MW (w : World) : Prop where
  p : PowW w
  n : NumW w
  k : KdW w
theorem MW.below {w w' : World} (h : MW w) (hb : Below w.heap.size w w') : MW w' := ⟨h.p.below hb, h.n.below hb, h.k.below hb⟩

set_option maxRecDepth 100000 in
set_option maxHeartbeats 2000000 in
theorem mkey_any (x : Ms.Nd) {a : Option Addr} {n c : Nat} (k : List UInt8) (w : World) (hw : MW w) (hk : k.length ≤ 2000000) :
    Calls Tryz.prog 103 #[.agg #[.int .i64 x.kind, .string ⟨x.text.toArray⟩, .int .i64 x.off, .slice a n c], .string ⟨k.toArray⟩] w fun e w' => e = .returned (.bool (Ms.keyB x k)) ∧ Below w.heap.size w w' := by
  have CN := Lib.hid fun wx => mname_any k wx (by omega)
  have CX := Lib.hid fun (wx : World) (hb : Below w.heap.size w wx) => exact_any k wx (hw.p.below hb) (hw.n.below hb) (by omega)
  obtain ⟨ka, kn, kc, hkc, hks⟩ := hw.k
  have CI := Lib.hid fun (wx : World) (hb : Below w.heap.size w wx) => scontains_any Ms.six (.slice ka kn kc) k wx (hks.below hb)
  have e6 : Ms.six.contains k = (Ms.five.contains k || k == Ms.other) := by rw [Bool.eq_iff_iff]; simp [Ms.six]
  rw [e6] at CI
  unfold Ms.keyB
  generalize x.kind = K at *
  generalize x.off = O at *
  generalize x.text = T at *
  generalize Ms.nameB k = NB at *
  generalize Ms.exV k = EX at *
  generalize (Ms.five.contains k || k == Ms.other) = FB at *
  have W0 := Lib.hid (blw_alloc w (.cells #[.int .i64 K, .string ⟨T.toArray⟩, .int .i64 O, .slice a n c] 60))
  have hkc2 := cell_keep hkc W0.out
  clear e6 hks hw hkc
  by_cases k5 : K = 5
  · subst k5
    rw [if_pos rfl]
    go_enter Tryz.func103, Tryz.ntmps103
    go_wp2_with fail
    refine (CN.out _).mono ?_
    rintro e w1 ⟨rfl, hb⟩
    go_wp2_with fail
    go_ret
    exact ⟨rfl, blw_trans W0.out hb⟩
  · have b5 : (K == 5) = false := beq_no k5
    rw [if_neg k5]
    clear CN k5
    cases FB with
    | true =>
      go_enter Tryz.func103, Tryz.ntmps103
      go_wp2_with fail
      refine (CI.out _ W0.out).mono ?_
      rintro e w' ⟨rfl, rfl⟩
      go_wp2_with fail
      go_ret
      exact ⟨ret_bool (by simp), W0.out⟩
    | false =>
      go_enter Tryz.func103, Tryz.ntmps103
      go_wp2_with fail
      refine (CI.out _ W0.out).mono ?_
      rintro e w' ⟨rfl, rfl⟩
      go_wp2_with fail
      refine (CX.out _ W0.out).mono ?_
      rintro e w2 ⟨rfl, hb⟩
      go_wp2_with fail
      go_ret
      exact ⟨ret_bool (by simp), blw_trans W0.out hb⟩
end Go.Proofs.YtainindkndjkbaaGreatDoor
namespace Go.Proofs.YtainindkndjkbaaGreatDoor
open Go.RowKit
theorem infoStrM : (Tryz.prog.info? 9).map (fun i => (i.zero, i.size, i.bytes)) = some (some (.string ByteArray.empty), 1, 16) := by kernel_rfl
theorem mgrown_below {w w' : World} (hb : Below w.heap.size w w') (row : Option Nat) : w.grownBy w' row :=
  ⟨hb.os, hb.tape, hb.output, hb.size, fun k hk _ => hb.block k hk⟩
theorem mrow_below {w w' : World} {base n k : Nat} {e : TypeId} {v : Value} {xs : List Value} (h : w.ownsRow base e k v n xs) (hb : Below w.heap.size w w') : w'.ownsRow base e k v n xs :=
  h.kept (mgrown_below hb none) (by cases v.ownBlock <;> simp)
theorem mboxed_grown {A C : World} {r : Option Nat} {p : Nat} {vs : Array Value} (h : Boxed A p vs) (g : A.grownBy C r) (hr : some p ≠ r) : Boxed C p vs :=
  ⟨Nat.lt_of_lt_of_le h.lt g.size, fun j v hv => g.cell (h.cell j v hv) hr, fun j hj => (World.frozen?_of_block (g.block p h.lt hr)).trans (h.free j hj)⟩
theorem mrow_slice {w : World} {base n k : Nat} {e : TypeId} {v : Value} {xs : List Value} (h : w.ownsRow base e k v n xs) : ∃ a c, v = .slice a n c := by
  rcases h.2 with ⟨rfl, rfl⟩ | ⟨g, cap, cur, rfl, _⟩
  · exact ⟨_, _, rfl⟩
  · exact ⟨_, _, rfl⟩
/-- what check tells of bodies -/
def ChkOf (f : Nat) (w0 : World) : Prop := ∀ (v : Value) (m : List Ms.Nd) (mark : Bool) (w : World), Below w0.heap.size w0 w → Ms.MsgAt f w v m → m.length ≤ 2000000 →
    Calls Tryz.prog 65 #[v, .bool mark] w fun e w' => e = .returned (errN (Ms.chk f mark m)) ∧ Below w.heap.size w w'

set_option maxRecDepth 100000 in
set_option maxHeartbeats 4000000 in
theorem mcs_any (f : Nat) (x : Ms.Nd) {a : Option Addr} {n c : Nat} (mark : Bool) (w : World) (hw : MW w) (hG : ChkOf f w) (h : Ms.CassAt f w (.slice a n c) x.cases) (hl : x.cases.length ≤ 2000000) :
    Calls Tryz.prog 88 #[.agg #[.int .i64 x.kind, .string ⟨x.text.toArray⟩, .int .i64 x.off, .slice a n c], .bool mark] w fun e w' => e = .returned (errN (Ms.csE (Ms.chk f) x mark [] x.cases)) ∧ Below w.heap.size w w' := by
  obtain ⟨i0, hi, hz0, hz1, hz2⟩ := info_parts infoStrM
  obtain ⟨A0, C0, e0, _, hel⟩ := h.spread
  injection e0 with e1 e2 e3
  subst e1 e2 e3
  have hcap : x.cases.length ≤ c ∨ x.cases.length = 0 := by
    rcases h with ⟨e, _⟩ | ⟨_, _, _, e, _, q, _, _⟩
    · exact .inr (by rw [e]; rfl)
    · injection e with _ _ e; exact .inl (by omega)
  have HEL := Lib.hid fun (k : Nat) y (hk : x.cases[k]? = some y) (wx : World) (hb : Below w.heap.size w wx) => (show ∃ bb oo, a = some ⟨bb, oo, none⟩ ∧ Ms.CsC f wx bb (oo + k * 2) y from by
    obtain ⟨bb, oo, e, q⟩ := hel k y hk
    exact ⟨bb, oo, e, q.below hb⟩)
  clear hel h
  obtain ⟨RES, hRES⟩ : ∃ RES, RES = Ms.csE (Ms.chk f) x mark [] x.cases := ⟨_, rfl⟩
  rw [← hRES]
  have HRES := Lib.hid hRES.symm
  clear hRES
  have CK := Lib.hid fun (k : List UInt8) (hk : k.length ≤ 2000000) (wx : World) (hb : Below w.heap.size w wx) => mkey_any x (a := a) (n := x.cases.length) (c := c) k wx (hw.below hb) hk
  have CC := Lib.hid fun (l : List (List UInt8)) V k (wx : World) (hs : StrsAt wx V l) => scontains_any l V k wx hs
  have CG := Lib.hid hG
  generalize hcs : x.cases = cs at *
  generalize hlc : cs.length = LC at *
  have bx := Boxed.made w #[.int .i64 x.kind, .string ⟨x.text.toArray⟩, .int .i64 x.off, .slice a LC c] 60
  have W0 := Lib.hid (blw_alloc w (.cells #[.int .i64 x.kind, .string ⟨x.text.toArray⟩, .int .i64 x.off, .slice a LC c] 60))
  have BX0 := Lib.hid bx
  clear bx hw hG
  go_enter Tryz.func88, Tryz.ntmps88
  go_wp2_with fail
  generalize hw1 : w.alloc (.cells #[.int .i64 x.kind, .string ⟨x.text.toArray⟩, .int .i64 x.off, .slice a LC c] 60) = w1 at *
  have hs1 : w1.heap.size = w.heap.size + 1 := by rw [← hw1]; simp
  clear hw1
  go_loopw [5, 12] (fun vs vk wr => ∃ (k : Nat) (seen : List (List UInt8)), vk = .int .i64 (k : Int) ∧ k ≤ LC ∧ seen.length = k ∧ Hid (wr.ownsRow w1.heap.size 9 1 vs seen.length (seen.map txtV)) ∧ Hid (Ms.csE (Ms.chk f) x mark seen (cs.drop k) = RES) ∧ Hid (Below w1.heap.size w1 wr)) (fun _ vk _ => LC - (RowKit.intOf vk).toNat)
  case atStart => exact ⟨0, [], rfl, Nat.zero_le _, rfl, Lib.hid ⟨rfl, .inl ⟨rfl, rfl⟩⟩, HRES, Lib.hid (Below.refl _ _)⟩
  case round =>
    obtain ⟨k, seen, rfl, hk, hsl, HO, HL, HB⟩ := hrel
    have HSL := Lib.hid hsl
    have hsl2 : seen.length ≤ LC := by omega
    clear HRES hsl
    have WB := Lib.hid (blw_trans W0.out HB.out)
    have BX := Lib.hid (BX0.out.below HB.out)
    have sz1 := HB.out.size
    obtain ⟨va, vc, rfl⟩ := mrow_slice HO.out
    have hx0 := BX.out.cell 0 _ rfl
    have hx1 := BX.out.cell 1 _ rfl
    have hx2 := BX.out.cell 2 _ rfl
    have hx3 := BX.out.cell 3 _ rfl
    have hxl := BX.out.lt
    by_cases hlt : k < LC
    · have hk' : (k : Int) < (LC : Int) := by omega
      obtain ⟨y, hy⟩ : ∃ y, cs[k]? = some y := ⟨cs[k]'(by omega), List.getElem?_eq_getElem (by omega)⟩
      obtain ⟨bb, oo, rfl, a9, n9, c9, p0, p1, q2, q3, q4⟩ := HEL.out k y hy w (Below.refl _ _)
      have q0 := cell_keep p0 WB.out
      have q1 := cell_keep p1 WB.out
      clear p0 p1
      have lb := World.block_lt_of_cell? _ _ q0
      have hcc : LC ≤ c := by omega
      have hst := HL.out
      rw [show cs.drop k = y :: cs.drop (k + 1) from by
        obtain ⟨hi', e⟩ := List.getElem?_eq_some_iff.1 hy
        rw [List.drop_eq_getElem_cons hi', e]] at hst
      unfold Ms.csE at hst
      have wk : IntKind.i64.wrap ((k : Int) + 1) = (k : Int) + 1 := IntWalk.i64_in _ (by omega)
      have BY := Lib.hid (Boxed.made wr #[.string ⟨y.1.toArray⟩, .slice a9 n9 c9] 62)
      have XB := Lib.hid (blw_alloc wr (.cells #[.string ⟨y.1.toArray⟩, .slice a9 n9 c9] 62))
      have CKh := Lib.hid (CK.out y.1 q3)
      have HQ2 := Lib.hid q2
      clear HL q2 hy
      generalize hKB : Ms.keyB x y.1 = KB at *
      clear hKB
      go_wp2_with fail
      refine (CKh.out _ (blw_trans WB.out XB.out)).mono ?_
      rintro e w2 ⟨rfl, hb⟩
      have B2 := Lib.hid (blw_trans XB.out hb)
      have BY2 := Lib.hid (BY.out.below hb)
      clear hb CKh BY XB hx0 hx1 hx2 hx3 hxl
      have BX2 := Lib.hid (BX.out.below B2.out)
      have hx0 := BX2.out.cell 0 _ rfl
      have hx1 := BX2.out.cell 1 _ rfl
      have hx2 := BX2.out.cell 2 _ rfl
      have hx3 := BX2.out.cell 3 _ rfl
      have hxl := BX2.out.lt
      have hy0 := BY2.out.cell 0 _ rfl
      have hy1 := BY2.out.cell 1 _ rfl
      have hyl := BY2.out.lt
      cases KB with
      | false =>
        simp only [Bool.not_false, if_true] at hst
        subst hst
        clear CK CC CG HEL
        go_wp2_with fail
        go_ret
        exact ⟨rfl, blw_trans WB.out B2.out⟩
      | true =>
        rw [if_neg (by simp)] at hst
        have HO2 := Lib.hid (mrow_below HO.out B2.out)
        have CCh := Lib.hid (CC.out seen (.slice va seen.length vc) y.1 w2 (StrsAt.of_row HO2.out))
        generalize hSC : seen.contains y.1 = SC at *
        clear hSC
        go_wp2_with fail
        refine CCh.out.mono ?_
        rintro e w' ⟨rfl, rfl⟩
        clear CCh CC
        cases SC with
        | true =>
          simp only [if_true] at hst
          subst hst
          clear CK CG HEL
          go_wp2_with fail
          go_ret
          exact ⟨rfl, blw_trans WB.out B2.out⟩
        | false =>
          rw [if_neg (by simp)] at hst
          obtain ⟨MK, hMK⟩ : ∃ MK, (mark || decide (x.kind = 4)) = MK := ⟨_, rfl⟩
          rw [hMK] at hst
          have HM := Lib.hid (show (mark = true → MK = true) ∧ (mark = false → (x.kind == 4) = MK) from by
            rw [← hMK]
            refine ⟨fun e => by rw [e]; rfl, fun e => ?_⟩
            rw [e, Bool.false_or, Bool.eq_iff_iff]; simp)
          have CGh := Lib.hid fun w3 (hb : Below w.heap.size w w3) => CG.out (.slice a9 n9 c9) y.2 MK w3 hb (Ms.msg_below HQ2.out hb) q4
          have HST := Lib.hid hst
          clear hst hMK
          generalize Ms.chk f MK y.2 = EE at *
          have hown := HO2.out
          have szB := B2.out.size
          have nyb : some wr.heap.size ≠ (Value.slice va seen.length vc).ownBlock := fun e => by have := (HO.out.lt wr.heap.size e.symm).2; omega
          have nxb : some w.heap.size ≠ (Value.slice va seen.length vc).ownBlock := fun e => by have := (HO.out.lt w.heap.size e.symm).1; omega
          cases mark with
          | true =>
            obtain rfl := HM.out.1 rfl
            go_wp2_with (at_builtin; refine wpList_append_own_at _ rfl _ _ 45 rfl w1.heap.size 9 i0 (.string ByteArray.empty) 1 16 Tryz.underlying45 hi hz0 hz1 hz2 rfl (by decide) _ _ _ rfl (hown.alloc _) ⟨w2.heap.size, 0, none⟩ 1 1 [txtV y.1] rfl rfl (cell_one_new _ _ _) (fun u hu => by simp at hu; subst hu; rfl) (by unfold maxLen; omega) (by omega) (by simp; omega) ?_; intro v' w3 hown' hgrow _ _; have HO3 := Lib.hid (show w3.ownsRow w1.heap.size 9 1 v' (seen ++ [y.1]).length ((seen ++ [y.1]).map txtV) by simpa using hown'); have HB3 := Lib.hid (show Below w1.heap.size w1 w3 from ((blw_trans HB.out B2.out).alloc (by omega) _).grown hgrow (by simp; omega) (fun k hk => (hown.lt k hk).1)); have BX3 := Lib.hid (mboxed_grown (BX2.out.alloc _) hgrow nxb); have BY3 := Lib.hid (mboxed_grown (BY2.out.alloc _) hgrow nyb); clear hown hown' hgrow nyb nxb HO HO2 B2 BX2 BY2 BX hx0 hx1 hx2 hx3 hxl hy0 hy1 hyl HB; obtain ⟨va', vc', rfl⟩ := mrow_slice HO3.out; have hx0 := BX3.out.cell 0 _ rfl; have hxl := BX3.out.lt; have hy0 := BY3.out.cell 0 _ rfl; have hy1 := BY3.out.cell 1 _ rfl; have hyl := BY3.out.lt)
            refine (CGh.out _ (blw_trans W0.out HB3.out)).mono ?_
            rintro e w4 ⟨rfl, hb⟩
            have HB4 := Lib.hid (blw_trans HB3.out hb)
            have HO4 := Lib.hid (mrow_below HO3.out hb)
            clear hb CGh
            have hst := HST.out
            by_cases hE : EE = 0
            · subst hE
              rw [if_neg (by simp)] at hst
              have HST2 := Lib.hid hst
              clear hst HST
              rw [show errN 0 = .nilIface from rfl]
              go_wp2_with fail
              go_roundw
              case rel => exact ⟨k + 1, seen ++ [y.1], by go_num, by omega, by rw [List.length_append, HSL.out]; rfl, by simpa using HO4, HST2, HB4⟩
              case measure => simp [RowKit.intOf]; omega
            · rw [if_pos hE] at hst
              subst hst
              have hEV : errN EE = errV EE := if_neg hE
              rw [hEV]
              go_wp2_with fail
              go_ret
              exact ⟨by first | (rw [hEV]; done) | (rw [hEV]; rfl), blw_trans W0.out HB4.out⟩
          | false =>
            have e4 := HM.out.2 rfl
            go_wp2_with (at_builtin; refine wpList_append_own_at _ rfl _ _ 45 rfl w1.heap.size 9 i0 (.string ByteArray.empty) 1 16 Tryz.underlying45 hi hz0 hz1 hz2 rfl (by decide) _ _ _ rfl (hown.alloc _) ⟨w2.heap.size, 0, none⟩ 1 1 [txtV y.1] rfl rfl (cell_one_new _ _ _) (fun u hu => by simp at hu; subst hu; rfl) (by unfold maxLen; omega) (by omega) (by simp; omega) ?_; intro v' w3 hown' hgrow _ _; have HO3 := Lib.hid (show w3.ownsRow w1.heap.size 9 1 v' (seen ++ [y.1]).length ((seen ++ [y.1]).map txtV) by simpa using hown'); have HB3 := Lib.hid (show Below w1.heap.size w1 w3 from ((blw_trans HB.out B2.out).alloc (by omega) _).grown hgrow (by simp; omega) (fun k hk => (hown.lt k hk).1)); have BX3 := Lib.hid (mboxed_grown (BX2.out.alloc _) hgrow nxb); have BY3 := Lib.hid (mboxed_grown (BY2.out.alloc _) hgrow nyb); clear hown hown' hgrow nyb nxb HO HO2 B2 BX2 BY2 BX hx0 hx1 hx2 hx3 hxl hy0 hy1 hyl HB; obtain ⟨va', vc', rfl⟩ := mrow_slice HO3.out; have hx0 := BX3.out.cell 0 _ rfl; have hxl := BX3.out.lt; have hy0 := BY3.out.cell 0 _ rfl; have hy1 := BY3.out.cell 1 _ rfl; have hyl := BY3.out.lt)
            refine (CGh.out _ (blw_trans W0.out HB3.out)).mono ?_
            rintro e w4 ⟨rfl, hb⟩
            have HB4 := Lib.hid (blw_trans HB3.out hb)
            have HO4 := Lib.hid (mrow_below HO3.out hb)
            clear hb CGh
            have hst := HST.out
            by_cases hE : EE = 0
            · subst hE
              rw [if_neg (by simp)] at hst
              have HST2 := Lib.hid hst
              clear hst HST
              rw [show errN 0 = .nilIface from rfl]
              go_wp2_with fail
              go_roundw
              case rel => exact ⟨k + 1, seen ++ [y.1], by go_num, by omega, by rw [List.length_append, HSL.out]; rfl, by simpa using HO4, HST2, HB4⟩
              case measure => simp [RowKit.intOf]; omega
            · rw [if_pos hE] at hst
              subst hst
              have hEV : errN EE = errV EE := if_neg hE
              rw [hEV]
              go_wp2_with fail
              go_ret
              exact ⟨by first | (rw [hEV]; done) | (rw [hEV]; rfl), blw_trans W0.out HB4.out⟩
    · have hk' : ¬ (k : Int) < (LC : Int) := by omega
      have hst := HL.out
      rw [List.drop_of_length_le (by omega)] at hst
      unfold Ms.csE at hst
      have CCh := Lib.hid (CC.out seen (.slice va seen.length vc) Ms.other wr (StrsAt.of_row HO.out))
      clear CK CC CG HEL HL HO
      unfold Ms.other at CCh
      generalize hSO : seen.contains Ms.other = SO at *
      have e5 : seen.contains [111, 116, 104, 101, 114] = SO := hSO
      rw [e5] at CCh
      clear hSO e5
      go_wp2_with fail
      refine CCh.out.mono ?_
      rintro e w' ⟨rfl, rfl⟩
      cases SO with
      | true =>
        simp only [if_true] at hst
        subst hst
        go_wp2_with fail
        go_ret
        exact ⟨rfl, WB.out⟩
      | false =>
        rw [if_neg (by simp)] at hst
        subst hst
        go_wp2_with fail
        go_ret
        exact ⟨rfl, WB.out⟩
end Go.Proofs.YtainindkndjkbaaGreatDoor
namespace Go.Proofs.YtainindkndjkbaaGreatDoor
open Go.RowKit

set_option maxRecDepth 100000 in
set_option maxHeartbeats 4000000 in
theorem qcases_to {f : Nat} (x : Ms.Nd) {a : Option Addr} {n c : Nat} (w : World) (h : Ms.CassAt f w (.slice a n c) x.cases) :
    Calls Tryz.prog 24 #[.agg #[.int .i64 x.kind, .string ⟨x.text.toArray⟩, .int .i64 x.off, .slice a n c]] w fun e w' => ∃ A C, e = .returned (.slice A (Ms.casesOf x).length C) ∧ (∀ W, Ms.CassAt f W (.slice a n c) x.cases → Ms.CassAt f W (.slice A (Ms.casesOf x).length C) (Ms.casesOf x)) ∧ Below w.heap.size w w' := by
  obtain ⟨A0, C0, e0, _, _⟩ := h.spread
  have en : n = x.cases.length := by injection e0
  subst en
  unfold Ms.casesOf
  generalize x.kind = K at *
  generalize x.text = T at *
  generalize x.off = O at *
  have W0 := Lib.hid (blw_alloc w (.cells #[.int .i64 K, .string ⟨T.toArray⟩, .int .i64 O, .slice a x.cases.length c] 60))
  generalize hcs : x.cases = cs at *
  clear h hcs e0
  by_cases h4 : K = 4
  · subst h4
    rw [if_pos (.inl rfl)]
    generalize hl : cs.length = l at *
    go_enter Tryz.func24, Tryz.ntmps24
    go_wp2_with fail
    go_ret
    exact ⟨a, c, rfl, fun _ h => h, W0.out⟩
  · have b4 : (K == 4) = false := beq_no h4
    by_cases h5 : K = 5
    · subst h5
      rw [if_pos (.inr rfl)]
      clear b4
      generalize hl : cs.length = l at *
      go_enter Tryz.func24, Tryz.ntmps24
      go_wp2_with fail
      go_ret
      exact ⟨a, c, rfl, fun _ h => h, W0.out⟩
    · have b5 : (K == 5) = false := beq_no h5
      rw [if_neg (by rintro (h | h); exact h4 h; exact h5 h)]
      clear h4 h5
      generalize hl : cs.length = l at *
      go_enter Tryz.func24, Tryz.ntmps24
      go_wp2_with fail
      go_ret
      exact ⟨none, 0, rfl, fun _ _ => .inl ⟨rfl, none, 0, rfl⟩, W0.out⟩

set_option maxRecDepth 100000 in
set_option maxHeartbeats 4000000 in
theorem mcases_to {f : Nat} (x : Ms.Nd) {a : Option Addr} {n c : Nat} (w : World) (h : Ms.CassAt f w (.slice a n c) x.cases) :
    Calls Tryz.prog 55 #[.agg #[.int .i64 x.kind, .string ⟨x.text.toArray⟩, .int .i64 x.off, .slice a n c]] w fun e w' => ∃ A C, e = .returned (.slice A (Ms.casesOf x).length C) ∧ (∀ W, Ms.CassAt f W (.slice a n c) x.cases → Ms.CassAt f W (.slice A (Ms.casesOf x).length C) (Ms.casesOf x)) ∧ Below w.heap.size w w' := by
  obtain ⟨A0, C0, e0, _, _⟩ := h.spread
  have en : n = x.cases.length := by injection e0
  subst en
  unfold Ms.casesOf
  generalize x.kind = K at *
  generalize x.text = T at *
  generalize x.off = O at *
  have W0 := Lib.hid (blw_alloc w (.cells #[.int .i64 K, .string ⟨T.toArray⟩, .int .i64 O, .slice a x.cases.length c] 60))
  generalize hcs : x.cases = cs at *
  clear h hcs e0
  by_cases h4 : K = 4
  · subst h4
    rw [if_pos (.inl rfl)]
    generalize hl : cs.length = l at *
    go_enter Tryz.func55, Tryz.ntmps55
    go_wp2_with fail
    go_ret
    exact ⟨a, c, rfl, fun _ h => h, W0.out⟩
  · have b4 : (K == 4) = false := beq_no h4
    by_cases h5 : K = 5
    · subst h5
      rw [if_pos (.inr rfl)]
      clear b4
      generalize hl : cs.length = l at *
      go_enter Tryz.func55, Tryz.ntmps55
      go_wp2_with fail
      go_ret
      exact ⟨a, c, rfl, fun _ h => h, W0.out⟩
    · have b5 : (K == 5) = false := beq_no h5
      rw [if_neg (by rintro (h | h); exact h4 h; exact h5 h)]
      clear h4 h5
      generalize hl : cs.length = l at *
      go_enter Tryz.func55, Tryz.ntmps55
      go_wp2_with fail
      go_ret
      exact ⟨none, 0, rfl, fun _ _ => .inl ⟨rfl, none, 0, rfl⟩, W0.out⟩
end Go.Proofs.YtainindkndjkbaaGreatDoor
namespace Go.Proofs.YtainindkndjkbaaGreatDoor
open Go.RowKit

set_option maxRecDepth 100000 in
set_option maxHeartbeats 4000000 in
theorem qcases_any {f : Nat} (x : Ms.Nd) {a : Option Addr} {n c : Nat} (w : World) (h : Ms.CassAt f w (.slice a n c) x.cases) :
    Calls Tryz.prog 24 #[.agg #[.int .i64 x.kind, .string ⟨x.text.toArray⟩, .int .i64 x.off, .slice a n c]] w fun e w' => ∃ A C, e = .returned (.slice A (Ms.casesOf x).length C) ∧ Ms.CassAt f w (.slice A (Ms.casesOf x).length C) (Ms.casesOf x) ∧ Below w.heap.size w w' := by
  obtain ⟨A0, C0, e0, _, _⟩ := h.spread
  have en : n = x.cases.length := by injection e0
  subst en
  unfold Ms.casesOf
  generalize x.kind = K at *
  generalize x.text = T at *
  generalize x.off = O at *
  have W0 := Lib.hid (blw_alloc w (.cells #[.int .i64 K, .string ⟨T.toArray⟩, .int .i64 O, .slice a x.cases.length c] 60))
  generalize hcs : x.cases = cs at *
  have HH := Lib.hid h
  clear h hcs e0
  by_cases h4 : K = 4
  · subst h4
    rw [if_pos (.inl rfl)]
    generalize hl : cs.length = l at *
    go_enter Tryz.func24, Tryz.ntmps24
    go_wp2_with fail
    go_ret
    exact ⟨a, c, rfl, HH.out, W0.out⟩
  · have b4 : (K == 4) = false := beq_no h4
    by_cases h5 : K = 5
    · subst h5
      rw [if_pos (.inr rfl)]
      clear b4
      generalize hl : cs.length = l at *
      go_enter Tryz.func24, Tryz.ntmps24
      go_wp2_with fail
      go_ret
      exact ⟨a, c, rfl, HH.out, W0.out⟩
    · have b5 : (K == 5) = false := beq_no h5
      rw [if_neg (by rintro (h | h); exact h4 h; exact h5 h)]
      clear h4 h5
      generalize hl : cs.length = l at *
      go_enter Tryz.func24, Tryz.ntmps24
      go_wp2_with fail
      go_ret
      exact ⟨none, 0, rfl, .inl ⟨rfl, none, 0, rfl⟩, W0.out⟩

set_option maxRecDepth 100000 in
set_option maxHeartbeats 4000000 in
theorem mcases_any {f : Nat} (x : Ms.Nd) {a : Option Addr} {n c : Nat} (w : World) (h : Ms.CassAt f w (.slice a n c) x.cases) :
    Calls Tryz.prog 55 #[.agg #[.int .i64 x.kind, .string ⟨x.text.toArray⟩, .int .i64 x.off, .slice a n c]] w fun e w' => ∃ A C, e = .returned (.slice A (Ms.casesOf x).length C) ∧ Ms.CassAt f w (.slice A (Ms.casesOf x).length C) (Ms.casesOf x) ∧ Below w.heap.size w w' := by
  obtain ⟨A0, C0, e0, _, _⟩ := h.spread
  have en : n = x.cases.length := by injection e0
  subst en
  unfold Ms.casesOf
  generalize x.kind = K at *
  generalize x.text = T at *
  generalize x.off = O at *
  have W0 := Lib.hid (blw_alloc w (.cells #[.int .i64 K, .string ⟨T.toArray⟩, .int .i64 O, .slice a x.cases.length c] 60))
  generalize hcs : x.cases = cs at *
  have HH := Lib.hid h
  clear h hcs e0
  by_cases h4 : K = 4
  · subst h4
    rw [if_pos (.inl rfl)]
    generalize hl : cs.length = l at *
    go_enter Tryz.func55, Tryz.ntmps55
    go_wp2_with fail
    go_ret
    exact ⟨a, c, rfl, HH.out, W0.out⟩
  · have b4 : (K == 4) = false := beq_no h4
    by_cases h5 : K = 5
    · subst h5
      rw [if_pos (.inr rfl)]
      clear b4
      generalize hl : cs.length = l at *
      go_enter Tryz.func55, Tryz.ntmps55
      go_wp2_with fail
      go_ret
      exact ⟨a, c, rfl, HH.out, W0.out⟩
    · have b5 : (K == 5) = false := beq_no h5
      rw [if_neg (by rintro (h | h); exact h4 h; exact h5 h)]
      clear h4 h5
      generalize hl : cs.length = l at *
      go_enter Tryz.func55, Tryz.ntmps55
      go_wp2_with fail
      go_ret
      exact ⟨none, 0, rfl, .inl ⟨rfl, none, 0, rfl⟩, W0.out⟩
end Go.Proofs.YtainindkndjkbaaGreatDoor
namespace Go.Proofs.YtainindkndjkbaaGreatDoor
open Go.RowKit

set_option maxRecDepth 100000 in
set_option maxHeartbeats 4000000 in
theorem large_any (d : Nat) : ∀ (f : Nat) (v : Value) (m : List Ms.Nd) (deep : Int) (w : World), Ms.MsgAt f w v m → m.length ≤ 2000000 → deep = 6 - (d : Int) → d ≤ 6 →
    Calls Tryz.prog 37 #[v, .int .i64 deep] w fun e w' => e = .returned (.tuple #[.int .i64 (Ms.lrg d m).1, .bool (Ms.lrg d m).2]) ∧ Below w.heap.size w w' := by
  induction d with
  | zero =>
    intro f v m deep w h hl hd _
    obtain rfl : deep = 6 := by omega
    clear hd
    cases m with
    | nil =>
      obtain ⟨A, cap, rfl, _, _⟩ := h.spread
      simp only [List.length_nil]
      clear h
      go_enter Tryz.func37, Tryz.ntmps37
      go_wp2_with fail
      go_ret2
      exact ⟨rfl, Below.refl _ _⟩
    | cons x r =>
      obtain ⟨A, cap, rfl, _, _⟩ := h.spread
      have h0 : (0 : Int) < ((x :: r).length : Int) := by simp only [List.length_cons]; omega
      have b0 : (((x :: r).length : Int) == 0) = false := beq_no (by omega)
      rw [show Ms.lrg 0 (x :: r) = (0, true) from rfl]
      generalize (x :: r).length = l at *
      clear h
      go_enter Tryz.func37, Tryz.ntmps37
      go_wp2_with fail
      go_ret2
      exact ⟨rfl, Below.refl _ _⟩
  | succ d ih =>
    intro f v m deep w h hl hd h6
    have hd6 : deep < 6 := by omega
    have wd : IntKind.i64.wrap (deep + 1) = deep + 1 := IntWalk.i64_in _ (by omega)
    have IH := Lib.hid fun f v m w (g : Ms.MsgAt f w v m) gl => ih f v m (deep + 1) w g gl (by omega) (by omega)
    have KB := Lib.hid fun f (w : World) v m (g : Ms.MsgAt f w v m) gl => Ms.lrg_bd d f (w := w) (v := v) (m := m) g gl
    have dB : (d : Int) * 3000000 ≤ 18000000 := by omega
    obtain ⟨RES, hRES⟩ : ∃ RES, RES = Ms.lgo (Ms.lrg d) m.length (Ms.bodies m) := ⟨_, rfl⟩
    rw [show Ms.lrg (d + 1) m = RES from hRES.symm]
    have HRES := Lib.hid hRES.symm
    have d0 : decide (6 ≤ deep) = false := dec_no (by omega)
    clear ih hRES hd h6
    generalize Ms.lrg d = F at *
    rcases h with ⟨rfl, A, cap, rfl⟩ | ⟨b, off, cap, rfl, hpos, hcap, hmx, hx⟩
    · have hr : RES = (0, false) := by rw [← HRES.out]; rfl
      subst hr
      clear HRES IH KB
      go_enter Tryz.func37, Tryz.ntmps37
      go_wp2_with fail
      go_ret2
      exact ⟨rfl, Below.refl _ _⟩
    · unfold maxLen at hmx
      have b0 : ((m.length : Int) == 0) = false := beq_no (by omega)
      cases f with
      | zero => exact absurd (hx 0 _ (List.getElem?_eq_getElem hpos)) (by simp [Ms.NdC])
      | succ f =>
      have HX := Lib.hid fun (j : Nat) (x : Ms.Nd) (hj : m[j]? = some x) (wr : World) (hb : Below w.heap.size w wr) => Ms.NdC.below (f + 1) (hx j x hj) hb
      clear hx
      generalize hlm : m.length = L at *
      go_enter Tryz.func37, Tryz.ntmps37
      go_wp2_with fail
      go_loopw [6, 7] (fun vn vi wr => ∃ (i : Nat) (n : Int), vi = .int .i64 (i : Int) ∧ vn = .int .i64 n ∧ i ≤ L ∧ 0 ≤ n ∧ n ≤ 2000060 ∧ Hid (Ms.lgo F n (Ms.bodies (m.drop i)) = RES) ∧ Hid (Below w.heap.size w wr)) (fun _ vi _ => L - (RowKit.intOf vi).toNat)
      case atStart => exact ⟨0, L, rfl, rfl, Nat.zero_le _, by omega, by omega, HRES, Lib.hid (Below.refl _ _)⟩
      case round =>
        obtain ⟨i, n, rfl, rfl, hi, n0, n1, HL, HB⟩ := hrel
        clear HRES
        by_cases hlt : i < L
        · have hi' : (i : Int) < (L : Int) := by omega
          obtain ⟨x, hxi⟩ : ∃ x, m[i]? = some x := ⟨m[i]'(by omega), List.getElem?_eq_getElem (by omega)⟩
          obtain ⟨a0, n0', c0, g0, g1, g2, g3, g4, g5, g6⟩ := HX.out i x hxi wr HB.out
          have lb := World.block_lt_of_cell? _ _ g0
          have HL2 := Lib.hid (Ms.lgo_cases F hxi n ▸ HL.out)
          have wi : IntKind.i64.wrap ((i : Int) + 1) = (i : Int) + 1 := IntWalk.i64_in _ (by omega)
          have CC := Lib.hid fun (wx : World) (hb : Below wr.heap.size wr wx) => qcases_any x wx (Ms.cass_below (f := f) (w := wr) (show Ms.CassAt f wr (.slice a0 n0' c0) x.cases from g4) hb)
          have lcs : (Ms.casesOf x).length ≤ 2000000 := by
            unfold Ms.casesOf; split
            · exact g6
            · simp
          clear HL g4 g5 g6 hxi
          generalize Ms.casesOf x = cs at *
          go_wp2_with fail
          refine (CC.out _ (Below.refl _ _)).mono ?_
          rintro e w1 ⟨A1, C1, rfl, hcs, hb⟩
          have W1 := Lib.hid (blw_trans (HB.out) hb)
          have HC := Lib.hid (Ms.cass_below hcs hb)
          clear hb hcs CC g0 g1 g2 g3 lb HB
          obtain ⟨A2, C2, e2, _, hel⟩ := HC.out.spread
          injection e2 with e3 e4 e5
          subst e3 e5
          have HEL := Lib.hid fun (k : Nat) y (hk : cs[k]? = some y) (wx : World) (hb : Below w1.heap.size w1 wx) => (show ∃ bb oo, A1 = some ⟨bb, oo, none⟩ ∧ Ms.CsC f wx bb (oo + k * 2) y from by
            obtain ⟨bb, oo, e, q⟩ := hel k y hk
            exact ⟨bb, oo, e, q.below hb⟩)
          have hcapc : cs.length ≤ C1 ∨ cs.length = 0 := by
            rcases HC.out with ⟨e, _⟩ | ⟨_, _, _, e, _, q, _, _⟩
            · exact .inr (by rw [e]; rfl)
            · injection e with _ _ e; exact .inl (by omega)
          clear HC hel e4
          have HL3 := Lib.hid (show Ms.lgo F n ((cs.drop 0).map (·.2) ++ Ms.bodies (m.drop (i + 1))) = RES by rw [List.drop_zero]; exact HL2.out)
          clear HL2
          generalize hlc : cs.length = LC at *
          go_wp2_with fail
          go_loopw [6, 9] (fun vn vk wr2 => ∃ (k : Nat) (n : Int), vk = .int .i64 (k : Int) ∧ vn = .int .i64 n ∧ k ≤ LC ∧ 0 ≤ n ∧ n ≤ 2000060 ∧ Hid (Ms.lgo F n ((cs.drop k).map (·.2) ++ Ms.bodies (m.drop (i + 1))) = RES) ∧ Hid (Below w1.heap.size w1 wr2)) (fun _ vk _ => LC - (RowKit.intOf vk).toNat)
          case atStart => exact ⟨0, n, rfl, rfl, Nat.zero_le _, n0, n1, HL3, Lib.hid (Below.refl _ _)⟩
          case round =>
            obtain ⟨k, n, rfl, rfl, hk, n0, n1, HL, HB⟩ := hrel
            clear HL3
            by_cases hlt2 : k < LC
            · have hk' : (k : Int) < (LC : Int) := by omega
              obtain ⟨y, hy⟩ : ∃ y, cs[k]? = some y := ⟨cs[k]'(by omega), List.getElem?_eq_getElem (by omega)⟩
              obtain ⟨bb, oo, rfl, a9, n9, c9, q0, q1, q2, q3, q4⟩ := HEL.out k y hy wr HB.out
              have lb := World.block_lt_of_cell? _ _ q0
              have kb := KB.out f wr _ _ q2 q4
              have hcc : LC ≤ C1 := by omega
              have CR := Lib.hid fun (wx : World) (hb : Below wr.heap.size wr wx) => IH.out f _ _ wx (Ms.msg_below q2 hb) q4
              have hst := HL.out
              rw [Ms.cases_step hy, List.cons_append] at hst
              unfold Ms.lgo at hst
              have wk : IntKind.i64.wrap ((k : Int) + 1) = (k : Int) + 1 := IntWalk.i64_in _ (by omega)
              clear HL q2 q3 q4 hy
              generalize F y.2 = FR at *
              obtain ⟨kk, is⟩ := FR
              simp only at *
              have wn : IntKind.i64.wrap (n + kk) = n + kk := IntWalk.i64_in _ (by omega)
              obtain ⟨nn, hnn⟩ : ∃ nn, n + kk = nn := ⟨_, rfl⟩
              rw [hnn] at wn hst
              have nn0 : 0 ≤ nn := by omega
              have HN := Lib.hid hnn
              go_wp2_with fail
              refine (CR.out _ (Below.refl _ _)).mono ?_
              rintro e w3 ⟨rfl, hb⟩
              have W3 := Lib.hid (blw_trans (HB.out) hb)
              clear hb CR q0 q1 lb HB
              cases is with
              | true =>
                simp only [Bool.true_or, if_true] at hst
                subst hst
                go_wp2_with fail
                go_ret2
                exact ⟨rfl, blw_trans W1.out W3.out⟩
              | false =>
                simp only [Bool.false_or] at hst
                by_cases hbig : 60 < nn
                · have d1 : decide (60 < nn) = true := dec_yes hbig
                  rw [if_pos d1] at hst
                  subst hst
                  clear hbig
                  go_wp2_with fail
                  go_ret2
                  exact ⟨rfl, blw_trans W1.out W3.out⟩
                · have d1 : decide (60 < nn) = false := dec_no hbig
                  rw [if_neg (by rw [d1]; simp)] at hst
                  have HST := Lib.hid hst
                  have nn1 : nn ≤ 2000060 := by omega
                  clear hst hbig
                  go_wp2_with fail
                  go_roundw
                  case rel => exact ⟨k + 1, nn, by go_num, rfl, by omega, nn0, nn1, HST, W3⟩
                  case measure => simp [RowKit.intOf]; omega
            · have hk' : ¬ (k : Int) < (LC : Int) := by omega
              have hst := HL.out
              rw [List.drop_of_length_le (by omega), List.map_nil, List.nil_append] at hst
              have HST := Lib.hid hst
              clear hst HL
              go_wp2_with fail
              go_roundw
              case rel => exact ⟨i + 1, n, by go_num, rfl, by omega, n0, n1, HST, Lib.hid (blw_trans W1.out HB.out)⟩
              case measure => simp [RowKit.intOf]; omega
        · have hi' : ¬ (i : Int) < (L : Int) := by omega
          have hst := HL.out
          rw [List.drop_of_length_le (by omega)] at hst
          have hst' : (n, decide (60 < n)) = RES := hst
          subst hst'
          clear hst HL
          go_wp2_with fail
          go_ret2
          exact ⟨rfl, HB.out⟩
end Go.Proofs.YtainindkndjkbaaGreatDoor
namespace Go.Proofs.YtainindkndjkbaaGreatDoor
open Go.RowKit

set_option maxRecDepth 100000 in
set_option maxHeartbeats 4000000 in
theorem size_any' (d : Nat) : ∀ (f : Nat) (v : Value) (m : List Ms.Nd) (deep : Int) (w : World), Ms.MsgAt f w v m → m.length ≤ 2000000 → deep = 6 - (d : Int) → d ≤ 6 →
    Calls Tryz.prog 64 #[v, .int .i64 deep] w fun e w' => e = .returned (.tuple #[.int .i64 (Ms.lrg d m).1, .bool (Ms.lrg d m).2]) ∧ Below w.heap.size w w' := by
  induction d with
  | zero =>
    intro f v m deep w h hl hd _
    obtain rfl : deep = 6 := by omega
    clear hd
    cases m with
    | nil =>
      obtain ⟨A, cap, rfl, _, _⟩ := h.spread
      simp only [List.length_nil]
      clear h
      go_enter Tryz.func64, Tryz.ntmps64
      go_wp2_with fail
      go_loopw [6, 24] (fun vn vi wr => vn = .int .i64 0 ∧ vi = .int .i64 0 ∧ w = wr) (fun _ _ _ => 0)
      case atStart => exact ⟨rfl, rfl, rfl⟩
      case round =>
        obtain ⟨rfl, rfl, rfl⟩ := hrel
        go_wp2_with fail
        go_ret2
        exact ⟨rfl, Below.refl _ _⟩
    | cons x r =>
      obtain ⟨A, cap, rfl, _, _⟩ := h.spread
      have h0 : (0 : Int) < ((x :: r).length : Int) := by simp only [List.length_cons]; omega
      have b0 : (((x :: r).length : Int) == 0) = false := beq_no (by omega)
      rw [show Ms.lrg 0 (x :: r) = (0, true) from rfl]
      generalize (x :: r).length = l at *
      clear h
      go_enter Tryz.func64, Tryz.ntmps64
      go_wp2_with fail
      go_ret2
      exact ⟨rfl, Below.refl _ _⟩
  | succ d ih =>
    intro f v m deep w h hl hd h6
    have hd6 : deep < 6 := by omega
    have wd : IntKind.i64.wrap (deep + 1) = deep + 1 := IntWalk.i64_in _ (by omega)
    have IH := Lib.hid fun f v m w (g : Ms.MsgAt f w v m) gl => ih f v m (deep + 1) w g gl (by omega) (by omega)
    have KB := Lib.hid fun f (w : World) v m (g : Ms.MsgAt f w v m) gl => Ms.lrg_bd d f (w := w) (v := v) (m := m) g gl
    have dB : (d : Int) * 3000000 ≤ 18000000 := by omega
    obtain ⟨RES, hRES⟩ : ∃ RES, RES = Ms.lgo (Ms.lrg d) m.length (Ms.bodies m) := ⟨_, rfl⟩
    rw [show Ms.lrg (d + 1) m = RES from hRES.symm]
    have HRES := Lib.hid hRES.symm
    have d0 : decide (6 ≤ deep) = false := dec_no (by omega)
    clear ih hRES hd h6
    generalize Ms.lrg d = F at *
    rcases h with ⟨rfl, A, cap, rfl⟩ | ⟨b, off, cap, rfl, hpos, hcap, hmx, hx⟩
    · have hr : RES = (0, false) := by rw [← HRES.out]; rfl
      subst hr
      clear HRES IH KB
      go_enter Tryz.func64, Tryz.ntmps64
      go_wp2_with fail
      go_loopw [6, 24] (fun vn vi wr => vn = .int .i64 0 ∧ vi = .int .i64 0 ∧ w = wr) (fun _ _ _ => 0)
      case atStart => exact ⟨rfl, rfl, rfl⟩
      case round =>
        obtain ⟨rfl, rfl, rfl⟩ := hrel
        go_wp2_with fail
        go_ret2
        exact ⟨rfl, Below.refl _ _⟩
    · unfold maxLen at hmx
      have b0 : ((m.length : Int) == 0) = false := beq_no (by omega)
      cases f with
      | zero => exact absurd (hx 0 _ (List.getElem?_eq_getElem hpos)) (by simp [Ms.NdC])
      | succ f =>
      have HX := Lib.hid fun (j : Nat) (x : Ms.Nd) (hj : m[j]? = some x) (wr : World) (hb : Below w.heap.size w wr) => Ms.NdC.below (f + 1) (hx j x hj) hb
      clear hx
      generalize hlm : m.length = L at *
      go_enter Tryz.func64, Tryz.ntmps64
      go_wp2_with fail
      go_loopw [6, 24] (fun vn vi wr => ∃ (i : Nat) (n : Int), vi = .int .i64 (i : Int) ∧ vn = .int .i64 n ∧ i ≤ L ∧ 0 ≤ n ∧ n ≤ 2000060 ∧ Hid (Ms.lgo F n (Ms.bodies (m.drop i)) = RES) ∧ Hid (Below w.heap.size w wr)) (fun _ vi _ => L - (RowKit.intOf vi).toNat)
      case atStart => exact ⟨0, L, rfl, rfl, Nat.zero_le _, by omega, by omega, HRES, Lib.hid (Below.refl _ _)⟩
      case round =>
        obtain ⟨i, n, rfl, rfl, hi, n0, n1, HL, HB⟩ := hrel
        clear HRES
        by_cases hlt : i < L
        · have hi' : (i : Int) < (L : Int) := by omega
          obtain ⟨x, hxi⟩ : ∃ x, m[i]? = some x := ⟨m[i]'(by omega), List.getElem?_eq_getElem (by omega)⟩
          obtain ⟨a0, n0', c0, g0, g1, g2, g3, g4, g5, g6⟩ := HX.out i x hxi wr HB.out
          have lb := World.block_lt_of_cell? _ _ g0
          have HL2 := Lib.hid (Ms.lgo_cases F hxi n ▸ HL.out)
          have wi : IntKind.i64.wrap ((i : Int) + 1) = (i : Int) + 1 := IntWalk.i64_in _ (by omega)
          have CC := Lib.hid fun (wx : World) (hb : Below wr.heap.size wr wx) => mcases_any x wx (Ms.cass_below (f := f) (w := wr) (show Ms.CassAt f wr (.slice a0 n0' c0) x.cases from g4) hb)
          have lcs : (Ms.casesOf x).length ≤ 2000000 := by
            unfold Ms.casesOf; split
            · exact g6
            · simp
          clear HL g4 g5 g6 hxi
          generalize Ms.casesOf x = cs at *
          have XB := Lib.hid (blw_alloc wr (.cells #[.int .i64 x.kind, .string ⟨x.text.toArray⟩, .int .i64 x.off, .slice a0 n0' c0] 60))
          go_wp2_with fail
          refine (CC.out _ XB.out).mono ?_
          rintro e w1 ⟨A1, C1, rfl, hcs, hb⟩
          have W1 := Lib.hid (blw_trans (blw_trans HB.out XB.out) hb)
          have HC := Lib.hid (Ms.cass_below hcs hb)
          clear hb hcs CC g0 g1 g2 g3 lb HB
          obtain ⟨A2, C2, e2, _, hel⟩ := HC.out.spread
          injection e2 with e3 e4 e5
          subst e3 e5
          have HEL := Lib.hid fun (k : Nat) y (hk : cs[k]? = some y) (wx : World) (hb : Below w1.heap.size w1 wx) => (show ∃ bb oo, A1 = some ⟨bb, oo, none⟩ ∧ Ms.CsC f wx bb (oo + k * 2) y from by
            obtain ⟨bb, oo, e, q⟩ := hel k y hk
            exact ⟨bb, oo, e, q.below hb⟩)
          have hcapc : cs.length ≤ C1 ∨ cs.length = 0 := by
            rcases HC.out with ⟨e, _⟩ | ⟨_, _, _, e, _, q, _, _⟩
            · exact .inr (by rw [e]; rfl)
            · injection e with _ _ e; exact .inl (by omega)
          clear HC hel e4
          have HL3 := Lib.hid (show Ms.lgo F n ((cs.drop 0).map (·.2) ++ Ms.bodies (m.drop (i + 1))) = RES by rw [List.drop_zero]; exact HL2.out)
          clear HL2
          generalize hlc : cs.length = LC at *
          go_wp2_with fail
          go_loopw [6, 31] (fun vn vk wr2 => ∃ (k : Nat) (n : Int), vk = .int .i64 (k : Int) ∧ vn = .int .i64 n ∧ k ≤ LC ∧ 0 ≤ n ∧ n ≤ 2000060 ∧ Hid (Ms.lgo F n ((cs.drop k).map (·.2) ++ Ms.bodies (m.drop (i + 1))) = RES) ∧ Hid (Below w1.heap.size w1 wr2)) (fun _ vk _ => LC - (RowKit.intOf vk).toNat)
          case atStart => exact ⟨0, n, rfl, rfl, Nat.zero_le _, n0, n1, HL3, Lib.hid (Below.refl _ _)⟩
          case round =>
            obtain ⟨k, n, rfl, rfl, hk, n0, n1, HL, HB⟩ := hrel
            clear HL3
            by_cases hlt2 : k < LC
            · have hk' : (k : Int) < (LC : Int) := by omega
              obtain ⟨y, hy⟩ : ∃ y, cs[k]? = some y := ⟨cs[k]'(by omega), List.getElem?_eq_getElem (by omega)⟩
              obtain ⟨bb, oo, rfl, a9, n9, c9, q0, q1, q2, q3, q4⟩ := HEL.out k y hy wr HB.out
              have lb := World.block_lt_of_cell? _ _ q0
              have kb := KB.out f wr _ _ q2 q4
              have hcc : LC ≤ C1 := by omega
              have CR := Lib.hid fun (wx : World) (hb : Below wr.heap.size wr wx) => IH.out f _ _ wx (Ms.msg_below q2 hb) q4
              have hst := HL.out
              rw [Ms.cases_step hy, List.cons_append] at hst
              unfold Ms.lgo at hst
              have wk : IntKind.i64.wrap ((k : Int) + 1) = (k : Int) + 1 := IntWalk.i64_in _ (by omega)
              clear HL q2 q3 q4 hy
              generalize F y.2 = FR at *
              obtain ⟨kk, is⟩ := FR
              simp only at *
              have wn : IntKind.i64.wrap (n + kk) = n + kk := IntWalk.i64_in _ (by omega)
              obtain ⟨nn, hnn⟩ : ∃ nn, n + kk = nn := ⟨_, rfl⟩
              rw [hnn] at wn hst
              have nn0 : 0 ≤ nn := by omega
              have HN := Lib.hid hnn
              have XB := Lib.hid (blw_alloc wr (.cells #[.string ⟨y.1.toArray⟩, .slice a9 n9 c9] 62))
              go_wp2_with fail
              refine (CR.out _ XB.out).mono ?_
              rintro e w3 ⟨rfl, hb⟩
              have W3 := Lib.hid (blw_trans (blw_trans HB.out XB.out) hb)
              clear hb CR q0 q1 lb HB
              cases is with
              | true =>
                simp only [Bool.true_or, if_true] at hst
                subst hst
                go_wp2_with fail
                go_ret2
                exact ⟨rfl, blw_trans W1.out W3.out⟩
              | false =>
                simp only [Bool.false_or] at hst
                by_cases hbig : 60 < nn
                · have d1 : decide (60 < nn) = true := dec_yes hbig
                  rw [if_pos d1] at hst
                  subst hst
                  clear hbig
                  go_wp2_with fail
                  go_ret2
                  exact ⟨rfl, blw_trans W1.out W3.out⟩
                · have d1 : decide (60 < nn) = false := dec_no hbig
                  rw [if_neg (by rw [d1]; simp)] at hst
                  have HST := Lib.hid hst
                  have nn1 : nn ≤ 2000060 := by omega
                  clear hst hbig
                  go_wp2_with fail
                  go_roundw
                  case rel => exact ⟨k + 1, nn, by go_num, rfl, by omega, nn0, nn1, HST, W3⟩
                  case measure => simp [RowKit.intOf]; omega
            · have hk' : ¬ (k : Int) < (LC : Int) := by omega
              have hst := HL.out
              rw [List.drop_of_length_le (by omega), List.map_nil, List.nil_append] at hst
              have HST := Lib.hid hst
              clear hst HL
              go_wp2_with fail
              go_roundw
              case rel => exact ⟨i + 1, n, by go_num, rfl, by omega, n0, n1, HST, Lib.hid (blw_trans W1.out HB.out)⟩
              case measure => simp [RowKit.intOf]; omega
        · have hi' : ¬ (i : Int) < (L : Int) := by omega
          have hst := HL.out
          rw [List.drop_of_length_le (by omega)] at hst
          have hst' : (n, decide (60 < n)) = RES := hst
          subst hst'
          clear hst HL
          go_wp2_with fail
          go_ret2
          exact ⟨rfl, HB.out⟩
end Go.Proofs.YtainindkndjkbaaGreatDoor
