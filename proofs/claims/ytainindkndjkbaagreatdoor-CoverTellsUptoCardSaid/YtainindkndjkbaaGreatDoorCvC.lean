/- Appends of rows of texts; the kinds' names and rules. No walk. -/
import Derived.Test.YtainindkndjkbaaGreatDoorCvE
import Derived.Test.YtainindkndjkbaaGreatDoorDcm
import Derived.Test.YtainindkndjkbaaGreatDoorProg
import Derived.Test.YtainindkndjkbaaGreatDoorBox
import Derived.Test.YtainindkndjkbaaGreatDoorBoxS
import Derived.Test.YtainindkndjkbaaGreatDoorErrs
import Derived.Test.YtainindkndjkbaaGreatDoorCvF
import Derived.Deep.DeepCutAuto
import Derived.Deep.CutRange
import Derived.Test.YtainindkndjkbaaGreatDoorNeedA
import Derived.Test.YtainindkndjkbaaGreatDoorCvA
import Derived.Test.YtainindkndjkbaaGreatDoorRead
import Derived.Test.YtainindkndjkbaaGreatDoorStr
import Derived.Test.YtainindkndjkbaaGreatDoorNeedF
import Derived.Laws.StructEq
import Derived.Test.YtainindkndjkbaaGreatDoorMsgA
import Derived.Test.YtainindkndjkbaaGreatDoorHeld
import Derived.Test.YtainindkndjkbaaGreatDoorCvB
import Derived.BigQuiet
namespace Rul
open Go Go.Lib Go.Proofs.YtainindkndjkbaaGreatDoor

/-- the operands of a right number -/
def opsD (c s : Int) : Op5 := ⟨Dcm.mag c / Dcm.P10 s, s, ((Dcm.strip s.toNat (Dcm.mag c % Dcm.P10 s)).1 : Int), Dcm.mag c % Dcm.P10 s, (Dcm.strip s.toNat (Dcm.mag c % Dcm.P10 s)).2⟩
/-- a text that is none, or a rule's -/
def textOk (t : List UInt8) : Bool := t.isEmpty || parseOk t
def setOk (l : List (List UInt8)) : Bool := l.all textOk
/-- a text that is a rule that holds -/
def hits (o : Op5) (t : List UInt8) : Bool := !t.isEmpty && ruleH (ruleP t) o
def kindL : List (List UInt8) := [[122, 101, 114, 111], [111, 110, 101], [116, 119, 111], [102, 101, 119], [109, 97, 110, 121]]
def other : List UInt8 := [111, 116, 104, 101, 114]
def kindAt (i : Nat) : List UInt8 := (kindL[i]?).getD other
/-- the first kind whose text holds -/
def kindS : List (List UInt8) → Op5 → Nat → List UInt8
  | [], _, _ => other
  | t :: r, o, i => if hits o t then kindAt i else kindS r o (i + 1)
theorem kindS_hit {o : Op5} {x : List UInt8} : ∀ {l : List (List UInt8)} {k i : Nat}, l[k]? = some x → (∀ y ∈ l.take k, hits o y = false) → hits o x = true → kindS l o i = kindAt (i + k)
  | [], k, i, h, _, _ => by simp at h
  | t :: r, 0, i, h, _, hx => by
    simp at h
    subst h
    unfold kindS
    rw [hx]
    rfl
  | t :: r, k + 1, i, h, ha, hx => by
    have h0 := ha t (by simp)
    unfold kindS
    rw [h0]
    have := kindS_hit (l := r) (k := k) (i := i + 1) (by simpa using h) (fun y hy => ha y (by simp [hy])) hx
    rw [show i + 1 + k = i + (k + 1) by omega] at this
    simpa using this
theorem kindS_none {o : Op5} : ∀ {l : List (List UInt8)} {i : Nat}, (∀ y ∈ l, hits o y = false) → kindS l o i = other
  | [], _, _ => rfl
  | t :: r, i, h => by
    unfold kindS
    rw [h t (by simp)]
    simpa using kindS_none (l := r) (i := i + 1) (fun y hy => h y (by simp [hy]))
theorem take_hits {o : Op5} {l : List (List UInt8)} {k : Nat} {x : List UInt8} (h : l[k]? = some x) (ha : ∀ y ∈ l.take k, hits o y = false) (hx : hits o x = false) : ∀ y ∈ l.take (k + 1), hits o y = false := by
  intro y hy
  rw [List.take_add_one, h] at hy
  rcases List.mem_append.1 hy with hy | hy
  · exact ha y hy
  · simp at hy; subst hy; exact hx
theorem take_ok {l : List (List UInt8)} {k : Nat} {x : List UInt8} (h : l[k]? = some x) (ha : (l.take k).all textOk = true) (hx : textOk x = true) : (l.take (k + 1)).all textOk = true := by
  rw [List.take_add_one, h, List.all_append, ha]
  simp [hx]
theorem not_ok {l : List (List UInt8)} {x : List UInt8} (h : x ∈ l) (hx : textOk x = false) : setOk l = false := by
  unfold setOk
  rw [List.all_eq_false]
  exact ⟨x, h, by rw [hx]; decide⟩
theorem mem_ok {l : List (List UInt8)} {x : List UInt8} (h : setOk l = true) (hx : x ∈ l) : textOk x = true := List.all_eq_true.1 h x hx
end Rul
namespace Go.Proofs.YtainindkndjkbaaGreatDoor
open Go.RowKit

set_option maxRecDepth 100000 in
set_option maxHeartbeats 1000000 in
theorem ptexts_any (t0 t1 t2 t3 t4 : List UInt8) (w : World) :
    Calls Tryz.prog 80 #[.agg #[.string ⟨t0.toArray⟩, .string ⟨t1.toArray⟩, .string ⟨t2.toArray⟩, .string ⟨t3.toArray⟩, .string ⟨t4.toArray⟩]] w fun e w' => e = .returned (.agg #[.string ⟨t0.toArray⟩, .string ⟨t1.toArray⟩, .string ⟨t2.toArray⟩, .string ⟨t3.toArray⟩, .string ⟨t4.toArray⟩]) ∧ Below w.heap.size w w' := by
  go_enter Tryz.func80, Tryz.ntmps80
  go_wp2
  refine bodyPost_ret (v := .agg #[.string ⟨t0.toArray⟩, .string ⟨t1.toArray⟩, .string ⟨t2.toArray⟩, .string ⟨t3.toArray⟩, .string ⟨t4.toArray⟩]) (by simp [results, Tryz.results80, go_sem]) rfl ⟨rfl, ?_⟩
  repeat (first | exact Below.refl _ _ | exact blw_alloc _ _ | refine Below.setCell ?_ (by first | (simp; done) | omega | (simp; omega)) _ | refine Below.alloc ?_ (by first | (simp; done) | omega | (simp; omega)) _)

/-- an element of an array of five texts -/
theorem ix_five (t0 t1 t2 t3 t4 x : List UInt8) (k : Nat) (h : [t0, t1, t2, t3, t4][k]? = some x) (w : World) :
    (Instr.index 136 (.agg #[.string ⟨t0.toArray⟩, .string ⟨t1.toArray⟩, .string ⟨t2.toArray⟩, .string ⟨t3.toArray⟩, .string ⟨t4.toArray⟩]) (.int .i64 (k : Int))).run Tryz.prog w = .ok (.string ⟨x.toArray⟩) w := by
  have u := Tryz.underlying136
  have z := Tryz.sizeOf9
  have a9 := Tryz.isAgg9
  match k, h with
  | 0, h => simp at h; subst h; simp [Instr.index, run_underlying u, go_sem, z, a9, Result.andThen]
  | 1, h => simp at h; subst h; simp [Instr.index, run_underlying u, go_sem, z, a9, Result.andThen]
  | 2, h => simp at h; subst h; simp [Instr.index, run_underlying u, go_sem, z, a9, Result.andThen]
  | 3, h => simp at h; subst h; simp [Instr.index, run_underlying u, go_sem, z, a9, Result.andThen]
  | 4, h => simp at h; subst h; simp [Instr.index, run_underlying u, go_sem, z, a9, Result.andThen]
  | k + 5, h => simp at h

set_option maxRecDepth 100000 in
set_option maxHeartbeats 4000000 in
theorem pcheck_any (t0 t1 t2 t3 t4 : List UInt8) (w : World) (hT : TR w) (hl : ∀ t ∈ [t0, t1, t2, t3, t4], t.length ≤ 100000000) :
    Calls Tryz.prog 54 #[.agg #[.string ⟨t0.toArray⟩, .string ⟨t1.toArray⟩, .string ⟨t2.toArray⟩, .string ⟨t3.toArray⟩, .string ⟨t4.toArray⟩]] w fun e w' => e = .returned (if Rul.setOk [t0, t1, t2, t3, t4] = true then .nilIface else errV 3) ∧ Below w.heap.size w w' := by
  have HT := Lib.hid hT
  have HL := Lib.hid hl
  obtain ⟨E, hE⟩ : ∃ E, (if Rul.setOk [t0, t1, t2, t3, t4] = true then Value.nilIface else errV 3) = E := ⟨_, rfl⟩
  rw [hE]
  have HE := Lib.hid hE
  clear hE hl hT
  have CT := Lib.hid fun w => ptexts_any t0 t1 t2 t3 t4 w
  have IX := fun k x h w => ix_five t0 t1 t2 t3 t4 x k h w
  have HIX := Lib.hid IX
  clear IX
  have W0 := Lib.hid (blw_alloc w (.cells #[.string ⟨t0.toArray⟩, .string ⟨t1.toArray⟩, .string ⟨t2.toArray⟩, .string ⟨t3.toArray⟩, .string ⟨t4.toArray⟩] 44))
  obtain ⟨L, hLL⟩ : ∃ L, [t0, t1, t2, t3, t4] = L := ⟨_, rfl⟩
  have HN := Lib.hid (show L.length = 5 by rw [← hLL]; rfl)
  rw [hLL] at HL HE HIX
  clear hLL
  go_enter Tryz.func54, Tryz.ntmps54
  go_wp2_with fail
  refine (CT.out _).mono ?_
  rintro e v ⟨rfl, hb⟩
  have W1 := Lib.hid (blw_trans W0.out hb)
  clear hb CT W0
  generalize Value.agg #[.string ⟨t0.toArray⟩, .string ⟨t1.toArray⟩, .string ⟨t2.toArray⟩, .string ⟨t3.toArray⟩, .string ⟨t4.toArray⟩] = AG at *
  go_wp2_with fail
  go_loopw [9] (fun i wr => ∃ k : Nat, i = .int .i64 k ∧ k ≤ 5 ∧ Hid ((L.take k).all Rul.textOk = true) ∧ Hid (Below w.heap.size w wr)) (fun i _ => 5 - (RowKit.intOf i).toNat)
  case atStart => exact ⟨0, rfl, by omega, Lib.hid (by simp), W1⟩
  case round =>
    obtain ⟨k, rfl, hk, HA, HB⟩ := hrel
    by_cases hlt : k < 5
    · obtain ⟨x, hx⟩ : ∃ x, L[k]? = some x := ⟨L[k]'(by have := HN.out; omega), List.getElem?_eq_getElem (by have := HN.out; omega)⟩
      have IXk := fun w => HIX.out k x hx w
      have HX := Lib.hid hx
      have hxl := HL.out x (List.mem_of_getElem? hx)
      have CP := Lib.hid (rparse_any x wr (HT.out.below HB.out).m (HT.out.below HB.out).n (HT.out.below HB.out).p hxl)
      have k5 : (k : Int) < 5 := by omega
      clear hx
      by_cases he : x = []
      · subst he
        have HA2 := Lib.hid (Rul.take_ok HX.out HA.out rfl)
        go_wp2_with fail
        go_roundw
        case rel => exact ⟨k + 1, by go_num, by omega, HA2, HB⟩
        case measure => simp [RowKit.intOf]; omega
      · have e0 : (x == []) = false := beq_eq_false_iff_ne.2 he
        have he' : x.isEmpty = false := by cases x <;> simp at he ⊢
        go_wp2_with fail
        refine CP.out.mono ?_
        rintro e w2 ⟨v2, f2, rfl, hP, hb⟩
        have W2 := Lib.hid (blw_trans HB.out hb)
        rcases hP with ⟨hok, rfl, _⟩ | ⟨hno, rfl, rfl⟩
        · have HA2 := Lib.hid (Rul.take_ok HX.out HA.out (show Rul.textOk x = true by unfold Rul.textOk; rw [he', hok]; rfl))
          clear hb hok
          go_wp2_with fail
          go_roundw
          case rel => exact ⟨k + 1, by go_num, by omega, HA2, W2⟩
          case measure => simp [RowKit.intOf]; omega
        · have HF := Lib.hid (Rul.not_ok (List.mem_of_getElem? HX.out) (show Rul.textOk x = false by unfold Rul.textOk; rw [he', hno]; rfl))
          have HEE := HE.out
          rw [HF.out, if_neg (by decide)] at HEE
          subst HEE
          clear hb hno
          go_wp2_with fail
          go_ret
          exact ⟨rfl, W2.out⟩
    · have e : k = 5 := by omega
      subst e
      have HEE := HE.out
      have h5 := HA.out
      rw [List.take_of_length_le (by have := HN.out; omega)] at h5
      rw [if_pos (show Rul.setOk L = true from h5)] at HEE
      subst HEE
      go_wp2_with fail
      go_ret
      exact ⟨rfl, HB.out⟩
end Go.Proofs.YtainindkndjkbaaGreatDoor
namespace Go.Proofs.YtainindkndjkbaaGreatDoor
open Go.RowKit

/-- texts as cells -/
def strC (l : List (List UInt8)) : Array Value := (l.map fun t => Value.string ⟨t.toArray⟩).toArray
theorem strC_get {l : List (List UInt8)} {k : Nat} {x : List UInt8} (h : l[k]? = some x) : (strC l)[k]? = some (.string ⟨x.toArray⟩) := by
  unfold strC
  simp [h]

set_option maxRecDepth 100000 in
set_option maxHeartbeats 1000000 in
theorem settexts_any (t0 t1 t2 t3 t4 : List UInt8) (w : World) :
    Calls Tryz.prog 39 #[.agg #[.string ⟨t0.toArray⟩, .string ⟨t1.toArray⟩, .string ⟨t2.toArray⟩, .string ⟨t3.toArray⟩, .string ⟨t4.toArray⟩]] w fun e w' => ∃ b, e = .returned (.slice (some ⟨b, 0, none⟩) 5 5) ∧ Boxed w' b (strC [t0, t1, t2, t3, t4]) ∧ Below w.heap.size w w' := by
  have W2 := Lib.hid ((blw_alloc w (.cells #[.string ⟨t0.toArray⟩, .string ⟨t1.toArray⟩, .string ⟨t2.toArray⟩, .string ⟨t3.toArray⟩, .string ⟨t4.toArray⟩] 44)).alloc (by simp) (.cells #[.string ⟨t0.toArray⟩, .string ⟨t1.toArray⟩, .string ⟨t2.toArray⟩, .string ⟨t3.toArray⟩, .string ⟨t4.toArray⟩] 9))
  have B2 := Lib.hid (Boxed.made (w.alloc (.cells #[.string ⟨t0.toArray⟩, .string ⟨t1.toArray⟩, .string ⟨t2.toArray⟩, .string ⟨t3.toArray⟩, .string ⟨t4.toArray⟩] 44)) #[.string ⟨t0.toArray⟩, .string ⟨t1.toArray⟩, .string ⟨t2.toArray⟩, .string ⟨t3.toArray⟩, .string ⟨t4.toArray⟩] 9)
  simp only [World.size_alloc] at B2
  go_enter Tryz.func39, Tryz.ntmps39
  go_wp2
  go_ret
  exact ⟨_, rfl, B2.out, W2.out⟩
set_option maxRecDepth 100000 in
set_option maxHeartbeats 1000000 in
theorem kinds_any (w : World) :
    Calls Tryz.prog 42 #[] w fun e w' => ∃ b, e = .returned (.slice (some ⟨b, 0, none⟩) 5 5) ∧ Boxed w' b (strC Rul.kindL) ∧ Below w.heap.size w w' := by
  have B := Lib.hid (Boxed.made w (strC Rul.kindL) 9)
  go_enter Tryz.func42, Tryz.ntmps42
  go_wp2
  go_ret
  exact ⟨_, rfl, B.out, blw_alloc _ _⟩
end Go.Proofs.YtainindkndjkbaaGreatDoor
namespace Go.Proofs.YtainindkndjkbaaGreatDoor
open Go.RowKit
open Dcm (P10 okD)

set_option maxRecDepth 100000 in
set_option maxHeartbeats 4000000 in
theorem setfault_any (t0 t1 t2 t3 t4 : List UInt8) (w : World) (hl : ∀ t ∈ [t0, t1, t2, t3, t4], t.length ≤ 100000000) :
    Calls Tryz.prog 17 #[.agg #[.string ⟨t0.toArray⟩, .string ⟨t1.toArray⟩, .string ⟨t2.toArray⟩, .string ⟨t3.toArray⟩, .string ⟨t4.toArray⟩]] w fun e w' => e = .returned (.int .i64 (if Rul.setOk [t0, t1, t2, t3, t4] = true then 0 else 3)) ∧ Below w.heap.size w w' := by
  have W0 := Lib.hid (blw_alloc w (.cells #[.string ⟨t0.toArray⟩, .string ⟨t1.toArray⟩, .string ⟨t2.toArray⟩, .string ⟨t3.toArray⟩, .string ⟨t4.toArray⟩] 44))
  have CX := Lib.hid fun w => settexts_any t0 t1 t2 t3 t4 w
  obtain ⟨E, hE⟩ : ∃ E : Int, (if Rul.setOk [t0, t1, t2, t3, t4] = true then (0 : Int) else 3) = E := ⟨_, rfl⟩
  rw [hE]
  obtain ⟨L, hLL⟩ : ∃ L, [t0, t1, t2, t3, t4] = L := ⟨_, rfl⟩
  have HN := Lib.hid (show L.length = 5 by rw [← hLL]; rfl)
  rw [hLL] at hl hE CX
  have HL := Lib.hid hl
  have HE := Lib.hid hE
  clear hLL hl hE
  go_enter Tryz.func17, Tryz.ntmps17
  go_wp2_with fail
  refine (CX.out _).mono ?_
  rintro e v ⟨bx, rfl, hbx, hb⟩
  have W1 := Lib.hid (blw_trans W0.out hb)
  have BX := Lib.hid hbx
  clear hb CX W0 hbx
  go_wp2_with fail
  go_loopw [4, 5, 6] (fun i _ _ wr => ∃ k : Nat, i = .int .i64 k ∧ k ≤ 5 ∧ Hid ((L.take k).all Rul.textOk = true) ∧ Hid (Below v.heap.size v wr)) (fun i _ _ _ => 5 - (RowKit.intOf i).toNat)
  case atStart => exact ⟨0, rfl, by omega, Lib.hid (by simp), Lib.hid (Below.refl _ _)⟩
  case round =>
    obtain ⟨k, rfl, hk, HA, HB⟩ := hrel
    by_cases hlt : k < 5
    · obtain ⟨x, hx⟩ : ∃ x, L[k]? = some x := ⟨L[k]'(by have := HN.out; omega), List.getElem?_eq_getElem (by have := HN.out; omega)⟩
      have HX := Lib.hid hx
      have xc := (BX.out.below HB.out).cell k _ (strC_get hx)
      have xl := (BX.out.below HB.out).lt
      have hxl := HL.out x (List.mem_of_getElem? hx)
      have CP := Lib.hid (ruleof_any x wr hxl)
      have hsame := (Rul.ok_same x).1
      rw [hsame] at CP
      have k5 : (k : Int) < 5 := by omega
      have k0 : 0 ≤ (k : Int) := by omega
      have HTO := Lib.hid (show Rul.textOk x = (x.isEmpty || Rul.parseOk x) from rfl)
      obtain ⟨p, hp⟩ : ∃ p, Rul.parseOk x = p := ⟨_, rfl⟩
      rw [hp] at CP HTO
      clear hx hsame hp
      go_wp2_with fail
      refine CP.out.mono ?_
      rintro e w5 ⟨v2, rfl, _, hb⟩
      have HB5 := Lib.hid (blw_trans HB.out hb)
      have xc5 := (BX.out.below HB5.out).cell k _ (strC_get HX.out)
      have xl5 := (BX.out.below HB5.out).lt
      clear hb CP xc xl
      by_cases he : x = []
      · have HA2 := Lib.hid (Rul.take_ok HX.out HA.out (by rw [HTO.out, he]; rfl))
        subst he
        go_wp2_with fail
        go_roundw
        case rel => exact ⟨k + 1, by go_num, by omega, HA2, HB5⟩
        case measure => simp [RowKit.intOf]; omega
      · have e0 : (x == []) = false := beq_eq_false_iff_ne.2 he
        have he' : x.isEmpty = false := by cases x <;> simp at he ⊢
        rw [he', Bool.false_or] at HTO
        clear he
        cases p with
        | true =>
          have HA2 := Lib.hid (Rul.take_ok HX.out HA.out HTO.out)
          go_wp2_with fail
          go_roundw
          case rel => exact ⟨k + 1, by go_num, by omega, HA2, HB5⟩
          case measure => simp [RowKit.intOf]; omega
        | false =>
          have hno := Rul.not_ok (List.mem_of_getElem? HX.out) HTO.out
          obtain rfl : E = 3 := by rw [← HE.out, hno]; rfl
          clear hno
          go_wp2_with fail
          go_ret
          exact ⟨rfl, blw_trans W1.out HB5.out⟩
    · have e : k = 5 := by omega
      subst e
      have h5 := HA.out
      rw [List.take_of_length_le (by have := HN.out; omega)] at h5
      obtain rfl : E = 0 := by rw [← HE.out, show Rul.setOk L = true from h5]; rfl
      clear h5
      go_wp2_with fail
      go_ret
      exact ⟨rfl, blw_trans W1.out HB.out⟩
end Go.Proofs.YtainindkndjkbaaGreatDoor
namespace Go.Proofs.YtainindkndjkbaaGreatDoor
open Go.RowKit
namespace Ms
theorem lgo_sum {F : List Nd → Int × Bool} : ∀ (L : List (List Nd)) (n : Int), (lgo F n L).2 = false → (∀ b ∈ L, (F b).2 = false) ∧ (lgo F n L).1 = n + (L.map fun b => (F b).1).sum ∧ (lgo F n L).1 ≤ 60
  | [], n, h => by
    have h' : decide (60 < n) = false := h
    have := of_decide_eq_false h'
    exact ⟨by simp, by show n = _; simp, by show n ≤ 60; omega⟩
  | b :: r, n, h => by
    unfold lgo at h ⊢
    split at h
    · cases h
    · rename_i hc
      rw [if_neg hc]
      have h1 := lgo_sum r (n + (F b).1) h
      have hb : (F b).2 = false := by
        cases hb : (F b).2 with
        | false => rfl
        | true => exact absurd (by rw [hb]; rfl) hc
      refine ⟨fun c hc => ?_, by rw [h1.2.1, List.map_cons, List.sum_cons]; omega, h1.2.2⟩
      rcases List.mem_cons.1 hc with rfl | hc
      · exact hb
      · exact h1.1 c hc
theorem cnt_bodies (f : Nat) : ∀ (m : List Nd), cnt (f + 1) m = m.length + ((bodies m).map (cnt f)).sum
  | [] => rfl
  | x :: r => by
    have h := cnt_bodies f r
    have e : cnt (f + 1) (x :: r) = (1 + ((casesOf x).map fun y => cnt f y.2).sum) + cnt (f + 1) r := by simp [cnt]
    rw [e, h, bodies_cons, List.map_append, List.sum_append, List.map_map, List.length_cons]
    show 1 + ((casesOf x).map (cnt f ∘ (·.2))).sum + _ = _
    omega
theorem cnt_sum {c : List Nd → Nat} {g : List Nd → Int} : ∀ (L : List (List Nd)), (∀ b ∈ L, (c b : Int) ≤ g b) → ((L.map c).sum : Int) ≤ (L.map g).sum
  | [], _ => by simp
  | b :: r, h => by
    have h1 := cnt_sum r (fun b hb => h b (by simp [hb]))
    have h2 := h b (by simp)
    simp only [List.map_cons, List.sum_cons]
    omega
theorem cnt_lrg : ∀ (d : Nat) (m : List Nd), (lrg d m).2 = false → ∀ f, (cnt f m : Int) ≤ (lrg d m).1
  | 0, m, h, f => by
    have : m = [] := by
      cases m with
      | nil => rfl
      | cons x r => cases h
    subst this
    cases f <;> simp [cnt, lrg]
  | d + 1, m, h, f => by
    have hs := lgo_sum (F := lrg d) (bodies m) m.length h
    have e : (lrg (d + 1) m).1 = m.length + ((bodies m).map fun b => (lrg d b).1).sum := hs.2.1
    have hb := fun f => cnt_sum (c := cnt f) (g := fun b => (lrg d b).1) (bodies m) (fun b hb => cnt_lrg d b (hs.1 b hb) f)
    cases f with
    | zero =>
      have := hb 0
      rw [e]
      show (0 : Int) ≤ _
      omega
    | succ f =>
      have := hb f
      rw [e, cnt_bodies]
      omega
theorem cnt_small {f : Nat} {m : List Nd} (h : msgE f m = 0) : cnt f m ≤ 60 := by
  unfold msgE at h
  cases hl : (lrg 6 m).2 with
  | true => rw [hl] at h; cases h
  | false =>
    have h1 := cnt_lrg 6 m hl f
    have h2 := (lgo_sum (F := lrg 5) (bodies m) m.length hl).2.2
    have h3 : (lrg 6 m).1 ≤ 60 := h2
    omega
/-- what is wrong with a message's names -/
def namE (f : Nat) (m : List Nd) : Int := if msgE f m ≠ 0 then msgE f m else if (allN f [] m).any (fun n => n.2.1 && n.2.2) then 7 else 0
/-- the names -/
def lstN (f : Nat) (m : List Nd) : List Need := if namE f m = 0 then allN f [] m else []
/-- does a Select have the name? -/
def selB (l : List Need) (t : List UInt8) : Bool := l.any fun n => n.1 == t && n.2.2
/-- does the message choose by it? -/
def chs : Nat → List Nd → List UInt8 → Bool
  | 0, _, _ => false
  | f + 1, m, t => m.any fun x => (x.kind == 5 && x.text == t) || (casesOf x).any fun y => chs f y.2 t
theorem selB_mod : ∀ {l : List Need} {i : Nat} {n : Need} (a b : Bool) (t : List UInt8), l[i]? = some n → selB (l.modify i (orN a b)) t = (selB l t || (n.1 == t && b))
  | [], i, n, a, b, t, h => by simp at h
  | x :: r, 0, n, a, b, t, h => by
    simp at h; subst h
    show (x.1 == t && (x.2.2 || b) || selB r t) = (x.1 == t && x.2.2 || selB r t || (x.1 == t && b))
    cases x.1 == t <;> cases x.2.2 <;> cases b <;> cases selB r t <;> rfl
  | x :: r, i + 1, n, a, b, t, h => by
    have h' := selB_mod (l := r) (i := i) a b t (by simpa using h)
    rw [List.modify_succ_cons]
    show (x.1 == t && x.2.2 || selB (r.modify i (orN a b)) t) = (x.1 == t && x.2.2 || selB r t || (n.1 == t && b))
    rw [h', Bool.or_assoc]
theorem grownN_at (l : List Need) (t : List UInt8) : ∃ n, (grownN l t)[l.findIdx (fun n => n.1 == t)]? = some n ∧ n.1 = t := by
  unfold grownN
  split
  · rename_i h
    refine ⟨_, List.getElem?_eq_getElem h, ?_⟩
    have := List.findIdx_getElem (xs := l) (p := fun n => n.1 == t) (w := h)
    simpa using this
  · rename_i h
    have e : l.findIdx (fun n => n.1 == t) = l.length := by have := List.findIdx_le_length (xs := l) (p := fun n => n.1 == t); omega
    rw [e]
    exact ⟨(t, false, false), by simp, rfl⟩
theorem selB_grown (l : List Need) (t s : List UInt8) : selB (grownN l t) s = selB l s := by
  unfold grownN
  split
  · rfl
  · unfold selB; simp
theorem selB_add (l : List Need) (x : Nd) (t : List UInt8) : selB (addN l x) t = (selB l t || (x.kind == 5 && x.text == t)) := by
  unfold addN
  split
  · rename_i h
    have : (x.kind == 5) = false := by
      rcases h with h | h <;> rw [h] <;> rfl
    rw [this]; simp
  · obtain ⟨n, hn, e⟩ := grownN_at l x.text
    rw [selB_mod _ _ t hn, selB_grown, e]
    congr 1
    rw [Bool.and_comm]
    congr 1
theorem selB_go {F : List Need → List Nd → List Need} {c : List Nd → Bool} {t : List UInt8} (hF : ∀ l b, selB (F l b) t = (selB l t || c b)) : ∀ (bs : List (List Nd)) (l : List Need), selB (goN F l bs) t = (selB l t || bs.any c)
  | [], l => by simp [goN]
  | b :: r, l => by
    show selB (goN F (F l b) r) t = _
    rw [selB_go hF r (F l b), hF, List.any_cons, Bool.or_assoc]
theorem selB_all : ∀ (f : Nat) (l : List Need) (m : List Nd) (t : List UInt8), selB (allN f l m) t = (selB l t || chs f m t)
  | 0, l, m, t => by simp [allN, chs]
  | f + 1, l, m, t => by
    induction m generalizing l with
    | nil => simp [allN, chs]
    | cons x r ih =>
      show selB (allN (f + 1) (goN (allN f) (addN l x) ((casesOf x).map (·.2))) r) t = _
      rw [ih, selB_go (c := fun b => chs f b t) (fun l b => selB_all f l b t), selB_add]
      show _ = (selB l t || ((x.kind == 5 && x.text == t || (casesOf x).any fun y => chs f y.2 t) || chs (f + 1) r t))
      rw [List.any_map]
      simp only [Bool.or_assoc]
      rfl
theorem sel_chs (f : Nat) (m : List Nd) (t : List UInt8) : chs f m t = selB (allN f [] m) t := by rw [selB_all]; rfl
/-- the names differ -/
abbrev Dist (l : List Need) : Prop := (l.map (·.1)).Nodup
theorem map_mod : ∀ (l : List Need) (i : Nat) (a b : Bool), (l.modify i (orN a b)).map (·.1) = l.map (·.1)
  | [], i, a, b => by simp
  | x :: r, 0, a, b => rfl
  | x :: r, i + 1, a, b => by rw [List.modify_succ_cons, List.map_cons, map_mod r i a b]; rfl
theorem dist_add {l : List Need} (h : Dist l) (x : Nd) : Dist (addN l x) := by
  unfold addN
  split
  · exact h
  · unfold Dist
    rw [map_mod]
    unfold grownN
    split
    · exact h
    · rename_i hl
      rw [List.map_append, List.nodup_append]
      refine ⟨h, by simp, fun a ha b hb e => hl ?_⟩
      obtain rfl : b = x.text := by simpa using hb
      subst e
      obtain ⟨n, hn, e⟩ := List.mem_map.1 ha
      exact List.findIdx_lt_length_of_exists ⟨n, hn, by simpa using e⟩
theorem dist_go {F : List Need → List Nd → List Need} (hF : ∀ l b, Dist l → Dist (F l b)) : ∀ (bs : List (List Nd)) (l : List Need), Dist l → Dist (goN F l bs)
  | [], _, h => h
  | b :: r, l, h => dist_go hF r (F l b) (hF l b h)
theorem dist_all : ∀ (f : Nat) (l : List Need) (m : List Nd), Dist l → Dist (allN f l m)
  | 0, _, _, h => h
  | f + 1, l, m, h => by
    induction m generalizing l with
    | nil => exact h
    | cons x r ih => exact ih _ (dist_go (fun l b => dist_all f l b) _ _ (dist_add h x))
theorem sel_at {l : List Need} (h : Dist l) {n : Need} (hn : n ∈ l) : selB l n.1 = n.2.2 := by
  induction l with
  | nil => cases hn
  | cons x r ih =>
    rw [show Dist (x :: r) = List.Nodup (x.1 :: r.map (·.1)) from rfl, List.nodup_cons] at h
    show (x.1 == n.1 && x.2.2 || selB r n.1) = _
    rcases List.mem_cons.1 hn with rfl | hm
    · have : selB r n.1 = false := by
        cases hs : selB r n.1 with
        | false => rfl
        | true =>
          obtain ⟨y, hy, e⟩ := List.any_eq_true.1 hs
          simp at e
          exact absurd (List.mem_map.2 ⟨y, hy, e.1⟩) h.1
      rw [this]; simp
    · have : (x.1 == n.1) = false := by
        rw [beq_eq_false_iff_ne]
        intro e
        exact h.1 (List.mem_map.2 ⟨n, hm, e.symm⟩)
      rw [this, ih h.2 hm]; simp
/-- the two ways of asking are one -/
theorem any_sel {l : List Need} (h : Dist l) : (l.any fun n => n.2.1 && n.2.2) = l.any fun n => n.2.1 && selB l n.1 := by
  rw [Bool.eq_iff_iff, List.any_eq_true, List.any_eq_true]
  constructor
  · rintro ⟨n, hn, e⟩; exact ⟨n, hn, by rw [sel_at h hn]; exact e⟩
  · rintro ⟨n, hn, e⟩; exact ⟨n, hn, by rw [sel_at h hn] at e; exact e⟩
theorem lstN_len (f : Nat) (m : List Nd) : (lstN f m).length ≤ 60 := by
  unfold lstN
  split
  · rename_i h
    have h0 : msgE f m = 0 := by
      unfold namE at h
      split at h
      · exact h
      · rename_i h'; exact Decidable.not_not.1 h'
    have := allN_len f [] m
    have := cnt_small h0
    simp at *; omega
  · simp
end Ms
end Go.Proofs.YtainindkndjkbaaGreatDoor
namespace Go.Proofs.YtainindkndjkbaaGreatDoor
open Go.RowKit
namespace Ms
def dot (t k : List UInt8) : List UInt8 := t ++ [46] ++ k
/-- the kinds: is the rule there? -/
def kS (S : List (List UInt8)) : List (List UInt8 × Bool) := (five.zip S).map fun p => (p.1, !p.2.isEmpty)
def missK (x : Nd) (L : List (List UInt8 × Bool)) : List (List UInt8) := (L.filter fun p => p.2 && !(x.cases.any fun y => y.1 == p.1)).map fun p => dot x.text p.1
def missN (S : List (List UInt8)) (x : Nd) : List (List UInt8) := missK x (kS S)
def idleN (S : List (List UInt8)) (x : Nd) (k : List UInt8) : List (List UInt8) := if (kS S).contains (k, false) then [dot x.text k] else []
/-- each Plural, and each case of it -/
def eachM (N : Nd → List (List UInt8)) (O : Nd → List UInt8 → List (List UInt8)) : Nat → List Nd → List (List UInt8)
  | 0, _ => []
  | f + 1, m => m.flatMap fun x => (if x.kind = 4 then N x else []) ++ (casesOf x).flatMap fun y => (if x.kind = 4 then O x y.1 else []) ++ eachM N O f y.2
theorem each_step {N : Nd → List (List UInt8)} {O : Nd → List UInt8 → List (List UInt8)} (f : Nat) {m : List Nd} {i : Nat} {x : Nd} (h : m[i]? = some x) : eachM N O (f + 1) (m.drop i) = (if x.kind = 4 then N x else []) ++ (((casesOf x).flatMap fun y => (if x.kind = 4 then O x y.1 else []) ++ eachM N O f y.2) ++ eachM N O (f + 1) (m.drop (i + 1))) := by
  obtain ⟨hi, e⟩ := List.getElem?_eq_some_iff.1 h
  rw [List.drop_eq_getElem_cons hi, e, ← List.append_assoc]
  rfl
theorem flat_step {α β : Type} {l : List α} {k : Nat} {y : α} (h : l[k]? = some y) (g : α → List β) : (l.drop k).flatMap g = g y ++ (l.drop (k + 1)).flatMap g := by
  obtain ⟨hi, e⟩ := List.getElem?_eq_some_iff.1 h
  rw [List.drop_eq_getElem_cons hi, e]
  rfl
theorem filt_step {l : List (List UInt8 × Bool)} {k : Nat} {y : List UInt8 × Bool} (h : l[k]? = some y) (x : Nd) : missK x (l.drop k) = (if y.2 && !(x.cases.any fun z => z.1 == y.1) then [dot x.text y.1] else []) ++ missK x (l.drop (k + 1)) := by
  obtain ⟨hi, e⟩ := List.getElem?_eq_some_iff.1 h
  unfold missK
  rw [List.drop_eq_getElem_cons hi, e, List.filter_cons]
  split <;> rfl
theorem missK_len (x : Nd) (L : List (List UInt8 × Bool)) : (missK x L).length ≤ L.length := by
  unfold missK
  rw [List.length_map]
  exact List.length_filter_le _ _
theorem idleN_len (S : List (List UInt8)) (x : Nd) (k : List UInt8) : (idleN S x k).length ≤ 1 := by
  unfold idleN
  split <;> simp
end Ms
end Go.Proofs.YtainindkndjkbaaGreatDoor
namespace Go.Proofs.YtainindkndjkbaaGreatDoor
open Go.RowKit
abbrev stV (t : List UInt8) : Value := txtV t
/-- the list lies in a row behind block p; block q holds the set -/
structure OutI (B p q : Nat) (us : Array Value) (s : List (List UInt8)) (v : Value) (w : World) : Prop where
  box : Boxed w p #[v]
  row : w.ownsRow B 9 1 v s.length (s.map stV)
  ne : v.ownBlock ≠ some p
  ge : B ≤ p
  set : Boxed w q us
  qp : q ≠ p
  qv : v.ownBlock ≠ some q
/-- nothing old has turned but block p and the row -/
structure Turn (p : Nat) (v : Value) (w : World) (v' : Value) (w' : World) : Prop where
  os : w'.os = w.os
  tape : w'.tape = w.tape
  output : w'.output = w.output
  size : w.heap.size ≤ w'.heap.size
  block : ∀ k, k < w.heap.size → k ≠ p → v.ownBlock ≠ some k → w'.heap[k]? = w.heap[k]?
  at' : v'.ownBlock = v.ownBlock ∨ ∃ k, v'.ownBlock = some k ∧ w.heap.size ≤ k
section
variable {B p q : Nat} {us : Array Value} {s : List (List UInt8)} {v v1 v2 : Value} {w w1 w2 : World}
theorem Turn.below (h : Below w.heap.size w w1) : Turn p v w v w1 := ⟨h.os, h.tape, h.output, h.size, fun k hk _ _ => h.block k hk, .inl rfl⟩
theorem Turn.trans (h : Turn p v w v1 w1) (g : Turn p v1 w1 v2 w2) : Turn p v w v2 w2 := by
  refine ⟨g.os.trans h.os, g.tape.trans h.tape, g.output.trans h.output, Nat.le_trans h.size g.size, fun k hk hp hv => ?_, ?_⟩
  · refine (g.block k (Nat.lt_of_lt_of_le hk h.size) hp (fun e => ?_)).trans (h.block k hk hp hv)
    rcases h.at' with e1 | ⟨j, e1, hj⟩
    · rw [e1] at e; exact hv e
    · rw [e1] at e; injection e with e; omega
  · rcases g.at' with e | ⟨j, e, hj⟩
    · rcases h.at' with e1 | ⟨i, e1, hi⟩
      · exact .inl (e.trans e1)
      · exact .inr ⟨i, e.trans e1, hi⟩
    · exact .inr ⟨j, e, Nat.le_trans h.size hj⟩
theorem Turn.boxed {k : Nat} {vs : Array Value} (h : Turn p v w v1 w1) (hb : Boxed w k vs) (hp : k ≠ p) (hv : v.ownBlock ≠ some k) : Boxed w1 k vs := by
  have e := h.block k hb.lt hp hv
  exact ⟨Nat.lt_of_lt_of_le hb.lt h.size, fun j x hx => (World.cell?_of_block e).trans (hb.cell j x hx), fun j hj => (World.frozen?_of_block e).trans (hb.free j hj)⟩
theorem Turn.keep {k : Nat} {vs : Array Value} (h : Turn p v w v1 w1) (hb : Boxed w k vs ∧ v.ownBlock ≠ some k) (hp : k ≠ p) : Boxed w1 k vs ∧ v1.ownBlock ≠ some k := by
  refine ⟨h.boxed hb.1 hp hb.2, fun e => ?_⟩
  rcases h.at' with e1 | ⟨j, e1, hj⟩
  · rw [e1] at e; exact hb.2 e
  · rw [e1] at e; injection e with e; have := hb.1.lt; omega
theorem Turn.base {W0 : World} (h : Turn p v w v1 w1) (hb : Below B W0 w) (hp : B ≤ p) (hv : ∀ k, v.ownBlock = some k → B ≤ k) (hB : B ≤ w.heap.size) : Below B W0 w1 :=
  ⟨h.os.trans hb.os, h.tape.trans hb.tape, h.output.trans hb.output, Nat.le_trans hb.size h.size, fun k hk => (h.block k (by omega) (by omega) (fun e => by have := hv k e; omega)).trans (hb.block k hk)⟩
theorem OutI.below (h : OutI B p q us s v w) (hb : Below w.heap.size w w1) : OutI B p q us s v w1 :=
  ⟨h.box.below hb, h.row.kept (row := none) ⟨hb.os, hb.tape, hb.output, hb.size, fun k hk _ => hb.block k hk⟩ (by cases v.ownBlock <;> simp), h.ne, h.ge, h.set.below hb, h.qp, h.qv⟩
theorem OutI.base {W0 : World} (h : OutI B p q us s v w) (t : Turn p v w v1 w1) (hb : Below B W0 w) : Below B W0 w1 :=
  t.base hb h.ge (fun k e => (h.row.lt k e).1) (Nat.le_trans h.ge (Nat.le_of_lt h.box.lt))
theorem OutI.isSlice (h : OutI B p q us s v w) : ∃ a c, v = .slice a s.length c := by
  rcases h.row.2 with ⟨rfl, h0⟩ | ⟨g, cap, cur, rfl, _⟩
  · exact ⟨none, 0, by rw [h0]⟩
  · exact ⟨_, _, rfl⟩
/-- the row has grown to w2, and is stored -/
theorem OutI.pushed {t : List UInt8} (h : OutI B p q us s v w) (hb : Below w.heap.size w w1) (ho : w2.ownsRow B 9 1 v1 (s.length + 1) (s.map stV ++ [stV t])) (hg : w1.grownBy w2 v.ownBlock) (hat : v1.ownBlock = v.ownBlock ∨ v1.ownBlock = some w1.heap.size) :
    OutI B p q us (s ++ [t]) v1 (w2.setCell ⟨p, 0, none⟩ v1) ∧ Turn p v w v1 (w2.setCell ⟨p, 0, none⟩ v1) := by
  have h1 := h.below hb
  have hbx := nboxed_grown h1.box hg (fun e => h.ne e.symm)
  have hqx := nboxed_grown h1.set hg (fun e => h.qv e.symm)
  have hne : v1.ownBlock ≠ some p := by
    rcases hat with e | e
    · rw [e]; exact h.ne
    · rw [e]; intro g; injection g with g; have := h1.box.lt; omega
  have hnq : v1.ownBlock ≠ some q := by
    rcases hat with e | e
    · rw [e]; exact h.qv
    · rw [e]; intro g; injection g with g; have := h1.set.lt; omega
  refine ⟨⟨by exact hbx.set 0 v1 (by simp), ?_, hne, h.ge, hqx.far (Ne.symm h.qp) 0 v1, h.qp, hnq⟩, ?_⟩
  · rw [List.length_append, List.map_append]
    refine ho.kept (row := some p) ⟨rfl, rfl, rfl, by simp, fun k _ hk => ?_⟩ (.inr hne)
    exact heap_setCell_other w2 ⟨p, 0, none⟩ k v1 (fun e => hk (by simp [e]))
  · refine ⟨hg.os.trans hb.os, hg.tape.trans hb.tape, hg.output.trans hb.output, ?_, fun k hk hp hv => ?_, ?_⟩
    · have := hb.size; have := hg.size; simp; omega
    · rw [heap_setCell_other w2 ⟨p, 0, none⟩ k v1 hp, hg.block k (Nat.lt_of_lt_of_le hk hb.size) (fun e => hv e.symm)]
      exact hb.block k hk
    · rcases hat with e | e
      · exact .inl e
      · exact .inr ⟨_, e, hb.size⟩
end
end Go.Proofs.YtainindkndjkbaaGreatDoor
namespace Go.Proofs.YtainindkndjkbaaGreatDoor
open Go.RowKit Ms
/-- kinds as cells -/
def kC (L : List (List UInt8 × Bool)) : Array Value := (L.flatMap fun p => [stV p.1, Value.bool p.2]).toArray
theorem kC_at : ∀ {L : List (List UInt8 × Bool)} {k : Nat} {y : List UInt8 × Bool}, L[k]? = some y → (kC L)[k * 2]? = some (stV y.1) ∧ (kC L)[k * 2 + 1]? = some (.bool y.2) := by
  have key : ∀ (L : List (List UInt8 × Bool)) (k : Nat) (y : List UInt8 × Bool), L[k]? = some y → (L.flatMap fun p => [stV p.1, Value.bool p.2])[k * 2]? = some (stV y.1) ∧ (L.flatMap fun p => [stV p.1, Value.bool p.2])[k * 2 + 1]? = some (.bool y.2) := by
    intro L
    induction L with
    | nil => intro k y h; simp at h
    | cons a L ih =>
      intro k y h
      cases k with
      | zero => simp at h; subst h; exact ⟨rfl, rfl⟩
      | succ k =>
        have h' := ih k y (by simpa using h)
        have e : (k + 1) * 2 = k * 2 + 1 + 1 := by omega
        rw [e]
        exact h'
  intro L k y h
  unfold kC
  simpa using key L k y h
theorem boxed_top {W : World} {p : Nat} (vs : Array Value) (t : TypeId) (h : p = W.heap.size) : Boxed (W.alloc (.cells vs t)) p vs := by subst h; exact Boxed.made W vs t

set_option maxRecDepth 100000 in
set_option maxHeartbeats 1000000 in
theorem ckinds_any (t0 t1 t2 t3 t4 : List UInt8) (w : World) :
    Calls Tryz.prog 33 #[.agg #[.string ⟨t0.toArray⟩, .string ⟨t1.toArray⟩, .string ⟨t2.toArray⟩, .string ⟨t3.toArray⟩, .string ⟨t4.toArray⟩]] w fun e w' => ∃ b, e = .returned (.slice (some ⟨b, 0, none⟩) 5 5) ∧ Boxed w' b (kC (kS [t0, t1, t2, t3, t4])) ∧ w.heap.size ≤ b ∧ Below w.heap.size w w' := by
  have e5 : kS [t0, t1, t2, t3, t4] = [([122, 101, 114, 111], !t0.isEmpty), ([111, 110, 101], !t1.isEmpty), ([116, 119, 111], !t2.isEmpty), ([102, 101, 119], !t3.isEmpty), ([109, 97, 110, 121], !t4.isEmpty)] := rfl
  rw [e5]
  go_enter Tryz.func33, Tryz.ntmps33
  go_wp2_with fail
  go_ret
  refine ⟨_, rfl, ?_, ?_, ?_⟩
  · exact boxed_top _ _ (by simp)
  · simp
  · exact (blw_alloc w _).alloc (by simp) _

theorem eq_kind (a b : List UInt8) (x y : Bool) (w : World) : (Op.equalIn 10000 76 (.agg #[.string ⟨a.toArray⟩, .bool x]) (.agg #[.string ⟨b.toArray⟩, .bool y])).run Tryz.prog w = .ok (a == b && x == y) w := by
  have u9 := Tryz.underlying9
  have u4 := Tryz.underlying4
  have a9 := Tryz.isAgg9
  have z9 := Tryz.sizeOf9
  have a4 := Tryz.isAgg4
  have z4 := Tryz.sizeOf4
  have e : ((⟨a.toArray⟩ : ByteArray).toList == (⟨b.toArray⟩ : ByteArray).toList) = (a == b) := by
    rw [← beq_toListBytes]
    show (a.toArray == b.toArray) = _
    simp
  cases h : a == b <;> rw [h] at e <;> cases x <;> cases y <;> go_simp

set_option maxRecDepth 100000 in
set_option maxHeartbeats 1000000 in
theorem kidx_any (L : List (List UInt8 × Bool)) (t : List UInt8) (z : Bool) (b : Nat) (w : World) (h : Boxed w b (kC L)) (hl : L.length ≤ 1000) :
    Calls Tryz.prog 63 #[.slice (some ⟨b, 0, none⟩) L.length L.length, .agg #[.string ⟨t.toArray⟩, .bool z]] w fun e w' => ∃ i : Int, e = .returned (.int .i64 i) ∧ decide (0 ≤ i) = L.contains (t, z) ∧ Below w.heap.size w w' := by
  have HX := Lib.hid fun (k : Nat) (y : List UInt8 × Bool) (hy : L[k]? = some y) => (show w.cell? ⟨b, k * 2, none⟩ = some (stV y.1) ∧ w.cell? ⟨b, k * 2 + 1, none⟩ = some (.bool y.2) by
    exact ⟨h.cell _ _ (kC_at hy).1, h.cell _ _ (kC_at hy).2⟩)
  have BX := Lib.hid (Boxed.made w #[.string ⟨t.toArray⟩, .bool z] 76)
  have W0 := Lib.hid (blw_alloc w (.cells #[.string ⟨t.toArray⟩, .bool z] 76))
  have hq := h.lt
  clear h
  generalize hN : L.length = N at *
  go_enter Tryz.func63, Tryz.ntmps63
  go_wp2_with fail
  generalize w.alloc (.cells #[.string ⟨t.toArray⟩, .bool z] 76) = w1 at *
  generalize hqq : w.heap.size = q at *
  go_loopw [5, 8] (fun _ vi wr => ∃ k : Nat, vi = .int .i64 (k : Int) ∧ k ≤ N ∧ Hid ((L.take k).contains (t, z) = false) ∧ Hid (Below w1.heap.size w1 wr)) (fun _ vi _ => N - (RowKit.intOf vi).toNat)
  case atStart => exact ⟨0, rfl, Nat.zero_le _, Lib.hid rfl, Lib.hid (Below.refl _ _)⟩
  case round =>
    obtain ⟨k, rfl, hk, HA, HB⟩ := hrel
    have WB := Lib.hid (show Below q w wr from by rw [← hqq] at W0 ⊢; exact blw_trans W0.out HB.out)
    by_cases hlt : k < N
    · have hk' : (k : Int) < (N : Int) := by omega
      have hk0 : (0 : Int) ≤ (k : Int) := by omega
      obtain ⟨y, hy⟩ : ∃ y, L[k]? = some y := ⟨L[k]'(by omega), List.getElem?_eq_getElem (by omega)⟩
      obtain ⟨p0, p1⟩ := HX.out k y hy
      have g0 := cell_keep p0 (show Below w.heap.size w wr by rw [hqq]; exact WB.out)
      have g1 := cell_keep p1 (show Below w.heap.size w wr by rw [hqq]; exact WB.out)
      have BXr := Lib.hid (BX.out.below HB.out)
      have x0 := BXr.out.cell 0 _ rfl
      have x1 := BXr.out.cell 1 _ rfl
      have HT := Lib.hid (show (L.take (k + 1)).contains (t, z) = ((t == y.1 && z == y.2)) by
        rw [List.take_add_one, hy]
        have := HA.out
        simp only [List.contains_eq_mem, List.mem_append, decide_eq_false_iff_not] at this ⊢
        rw [Bool.eq_iff_iff]
        simp [this, Prod.ext_iff])
      have HC := Lib.hid fun (h : (t == y.1 && z == y.2) = true) => (show L.contains (t, z) = true by
        simp at h
        have e : (t, z) = y := Prod.ext h.1 h.2
        rw [List.contains_eq_mem, e]
        exact decide_eq_true (List.mem_of_getElem? hy))
      have wk : IntKind.i64.wrap ((k : Int) + 1) = (k : Int) + 1 := IntWalk.i64_in _ (by omega)
      obtain ⟨T, Y⟩ := y
      have EQ := fun w => eq_kind t T z Y w
      unfold stV txtV at g0
      clear p0 p1 hy HX HA
      cases hE : (t == T && z == Y) with
      | true =>
        have hc := HC.out hE
        rw [hE] at EQ
        clear hE HC HT
        go_wp2_with fail
        go_region
        go_wp2_with fail
        go_ret
        exact ⟨_, rfl, by rw [hc]; exact decide_eq_true hk0, by rw [hqq]; exact blw_drewN WB.out 1⟩
      | false =>
        have ht := Lib.hid (HT.out.trans hE)
        rw [hE] at EQ
        clear hE HC HT
        go_wp2_with fail
        go_region
        go_wp2_with fail
        go_roundw
        case rel => exact ⟨k + 1, by go_num, by omega, ht, Lib.hid (blw_drewN HB.out _)⟩
        case measure => simp [RowKit.intOf]; omega
    · have hk' : ¬ (k : Int) < (N : Int) := by omega
      have hA := HA.out
      rw [List.take_of_length_le (by omega)] at hA
      go_wp2_with fail
      go_ret
      have hA' : ¬ (t, z) ∈ L := by simpa [List.contains_eq_mem] using hA
      exact ⟨_, rfl, by first | (rw [hA]; rfl) | exact ⟨fun h => by omega, fun h => absurd h hA'⟩, by first | exact WB.out | (rw [hqq]; exact WB.out)⟩
set_option maxRecDepth 100000 in
set_option maxHeartbeats 1000000 in
theorem khas_any (L : List (List UInt8 × Bool)) (t : List UInt8) (z : Bool) (b : Nat) (w : World) (h : Boxed w b (kC L)) (hl : L.length ≤ 1000) :
    Calls Tryz.prog 45 #[.slice (some ⟨b, 0, none⟩) L.length L.length, .agg #[.string ⟨t.toArray⟩, .bool z]] w fun e w' => e = .returned (.bool (L.contains (t, z))) ∧ Below w.heap.size w w' := by
  have CI := Lib.hid (kidx_any L t z b (w.alloc (.cells #[.string ⟨t.toArray⟩, .bool z] 76)) (h.alloc _) hl)
  have W0 := Lib.hid (blw_alloc w (.cells #[.string ⟨t.toArray⟩, .bool z] 76))
  generalize L.contains (t, z) = C at *
  clear h hl
  generalize L.length = N at *
  go_enter Tryz.func45, Tryz.ntmps45
  go_wp2_with fail
  refine CI.out.mono ?_
  rintro e w1 ⟨i, rfl, hi, hb⟩
  have W1 := Lib.hid (blw_trans W0.out hb)
  clear hb
  go_wp2_with fail
  go_ret
  exact ⟨rfl, W1.out⟩
end Go.Proofs.YtainindkndjkbaaGreatDoor
namespace Go.Proofs.YtainindkndjkbaaGreatDoor
open Go.RowKit Go.Lib Ms

/-- where the first one lies -/
def fstC (l : List (List UInt8 × List Nd)) (p : (List UInt8 × List Nd) → Bool) : Int := if l.findIdx p < l.length then (l.findIdx p : Int) else -1

set_option maxRecDepth 100000 in
set_option maxHeartbeats 1000000 in
theorem idx_case {f : Nat} (l : List (List UInt8 × List Nd)) (p : (List UInt8 × List Nd) → Bool) (g : Nat) (lb : Array Value) (eg : ∀ args w, (callFunc g args).run Tryz.prog w = .ok (.enter g args) w) (v : Value) (w : World) (hl : CassAt f w v l)
    (CP : Hid (∀ x ∈ l, ∀ a n c wx, Below w.heap.size w wx → Calls Tryz.prog g (#[.agg #[.string ⟨x.1.toArray⟩, .slice a n c]] ++ lb) wx fun e w' => e = .returned (.bool (p x)) ∧ Below wx.heap.size wx w')) :
    Calls Tryz.prog 56 #[v, .func (.func g) #[] lb] w fun e w' => e = .returned (.int .i64 (fstC l p)) ∧ Below w.heap.size w w' := by
  have HLB := Lib.hid (show ∀ wx, Below w.heap.size w wx → CassAt f wx v l from fun wx hb => cass_below hl hb)
  obtain ⟨A, cap, rfl, hm, _⟩ := hl.spread
  unfold maxLen at hm
  clear hl
  have HF := Lib.hid (show fstC l p = if l.findIdx p < l.length then (l.findIdx p : Int) else -1 from rfl)
  generalize fstC l p = R at *
  go_enter Tryz.func56, Tryz.ntmps56
  go_wp2_with fail
  go_loopw [5, 8] (fun _ i wr => ∃ k : Nat, i = .int .i64 k ∧ k ≤ l.length ∧ Hid ((l.take k).any p = false) ∧ Hid (Below w.heap.size w wr)) (fun _ i _ => l.length - (RowKit.intOf i).toNat)
  case atStart => exact ⟨0, rfl, Nat.zero_le _, Lib.hid rfl, Lib.hid (Below.refl _ _)⟩
  case round =>
    obtain ⟨k, rfl, hk, HA, HB⟩ := hrel
    by_cases hlt : k < l.length
    · obtain ⟨x, hx⟩ : ∃ x, l[k]? = some x := ⟨l[k], List.getElem?_eq_getElem hlt⟩
      have HX := Lib.hid (any_take' (p := p) hx)
      have hxm := List.mem_of_getElem? hx
      obtain ⟨A', cap', eA, _, hsp⟩ := (HLB.out wr HB.out).spread
      injection eA with e1 e2 e3
      subst e1
      obtain ⟨b, off, rfl, hxc⟩ := hsp k x hx
      clear hsp e2 e3
      obtain ⟨a9, n9, c9, x0, x1, _⟩ := hxc
      have CX := Lib.hid (CP.out x hxm a9 n9 c9 _ HB.out)
      cases hq : p x with
      | true =>
        rw [hq] at CX
        have hi := idx_first hx HA.out hq
        have HT := Lib.hid (show R = (k : Int) by rw [HF.out, hi, if_pos hlt])
        clear hq hx hxm hi
        go_wp2_with (go_at_fn g; refine CX.out.mono ?_; rintro e w' ⟨rfl, hb⟩; have HB2 := Lib.hid (blw_trans HB.out hb); clear hb)
        go_ret
        exact ⟨ret_int HT.out.symm, HB2.out⟩
      | false =>
        rw [hq] at CX
        have HT := Lib.hid (show (l.take (k + 1)).any p = false by rw [HX.out, hq, HA.out]; rfl)
        clear hq hx hxm
        go_wp2_with (go_at_fn g; refine CX.out.mono ?_; rintro e w' ⟨rfl, hb⟩; have HB2 := Lib.hid (blw_trans HB.out hb); clear hb)
        go_roundw
        case rel => exact ⟨k + 1, by go_num, by omega, HT, HB2⟩
        case measure => simp [RowKit.intOf]; omega
    · have HT := Lib.hid (show R = -1 by
        have h0 : l.any p = false := by rw [← List.take_of_length_le (l := l) (i := k) (by omega)]; exact HA.out
        rw [HF.out, idx_none h0, if_neg (Nat.lt_irrefl _)])
      go_wp2_with fail
      go_ret
      exact ⟨ret_int HT.out.symm, HB.out⟩

set_option maxRecDepth 100000 in
set_option maxHeartbeats 1000000 in
theorem has_case {f : Nat} (l : List (List UInt8 × List Nd)) (p : (List UInt8 × List Nd) → Bool) (g : Nat) (lb : Array Value) (eg : ∀ args w, (callFunc g args).run Tryz.prog w = .ok (.enter g args) w) (v : Value) (w : World) (hl : CassAt f w v l)
    (CP : Hid (∀ x ∈ l, ∀ a n c wx, Below w.heap.size w wx → Calls Tryz.prog g (#[.agg #[.string ⟨x.1.toArray⟩, .slice a n c]] ++ lb) wx fun e w' => e = .returned (.bool (p x)) ∧ Below wx.heap.size wx w')) :
    Calls Tryz.prog 34 #[v, .func (.func g) #[] lb] w fun e w' => e = .returned (.bool (l.any p)) ∧ Below w.heap.size w w' := by
  have CI := Lib.hid (idx_case l p g lb eg v w hl CP)
  obtain ⟨za, zn, zc, rfl⟩ := hl.isSlice
  have HF := Lib.hid (show l.any p = decide (0 ≤ fstC l p) by
    rw [any_idx]
    unfold fstC
    by_cases h : l.findIdx p < l.length
    · rw [if_pos h, decide_eq_true h]; exact (decide_eq_true (by omega)).symm
    · rw [if_neg h, decide_eq_false h]; rfl)
  generalize fstC l p = R at *
  generalize l.any p = Z at *
  clear hl CP eg
  go_enter Tryz.func34, Tryz.ntmps34
  go_wp2_with fail
  refine CI.out.mono ?_
  rintro e w1 ⟨rfl, hb⟩
  have W1 := Lib.hid hb
  clear hb
  go_wp2_with fail
  go_ret
  exact ⟨ret_bool (by rw [HF.out]), W1.out⟩

set_option maxRecDepth 100000 in
set_option maxHeartbeats 1000000 in
theorem miss11_any (x : List UInt8 × List Nd) (a : Option Addr) (n c q : Nat) (t : List UInt8) (w : World) (hq : w.cell? ⟨q, 0, none⟩ = some (.string ⟨t.toArray⟩)) :
    Calls Tryz.prog 35 (#[.agg #[.string ⟨x.1.toArray⟩, .slice a n c]] ++ #[.pointer (some ⟨q, 0, none⟩)]) w fun e w' => e = .returned (.bool (x.1 == t)) ∧ Below w.heap.size w w' := by
  obtain ⟨k, b⟩ := x
  dsimp only
  show Calls _ _ #[_, _] _ _
  have hlt := World.block_lt_of_cell? _ _ hq
  have hne : q ≠ w.heap.size := by dsimp only at hlt; omega
  go_enter Tryz.func35, Tryz.ntmps35
  go_wp2_with fail
  go_ret
  exact ⟨rfl, blw_alloc _ _⟩
theorem miss11_at (args : Array Value) (w : World) : (callFunc 35 args).run Tryz.prog w = .ok (.enter 35 args) w := enters_of Tryz.func35 (by kernel_rfl) rfl args w
end Go.Proofs.YtainindkndjkbaaGreatDoor
namespace Go.Proofs.YtainindkndjkbaaGreatDoor
open Go.RowKit Ms

theorem kS_short (S : List (List UInt8)) : ∀ y ∈ kS S, y.1.length ≤ 10 := by
  intro y hy
  obtain ⟨p, hp, rfl⟩ := List.mem_map.1 hy
  have h := (List.of_mem_zip hp).1
  have : ∀ z ∈ five, z.length ≤ 10 := by decide
  exact this _ h
set_option maxRecDepth 100000 in
set_option maxHeartbeats 400000 in
theorem miss2_any (x : Nd) (a : Option Addr) (n c : Nat) (k : List UInt8) (w : World) :
    Calls Tryz.prog 36 (#[.agg #[.int .i64 x.kind, .string ⟨x.text.toArray⟩, .int .i64 x.off, .slice a n c], .string ⟨k.toArray⟩] ++ #[]) w fun e w' => e = .returned (.tuple #[]) ∧ Below w.heap.size w w' := by
  show Calls _ _ #[_, _] _ _
  go_enter Tryz.func36, Tryz.ntmps36
  go_wp2_with fail
  go_end0
  exact ⟨rfl, blw_alloc _ _⟩
set_option maxRecDepth 100000 in
set_option maxHeartbeats 400000 in
theorem idle1_any (x : Nd) (a : Option Addr) (n c : Nat) (w : World) :
    Calls Tryz.prog 43 (#[.agg #[.int .i64 x.kind, .string ⟨x.text.toArray⟩, .int .i64 x.off, .slice a n c]] ++ #[]) w fun e w' => e = .returned (.tuple #[]) ∧ Below w.heap.size w w' := by
  show Calls _ _ #[_] _ _
  go_enter Tryz.func43, Tryz.ntmps43
  go_wp2_with fail
  go_end0
  exact ⟨rfl, blw_alloc _ _⟩

set_option maxRecDepth 100000 in
set_option maxHeartbeats 4000000 in
theorem miss1_any {f : Nat} (x : Nd) (a : Option Addr) (n c : Nat) (W0 w : World) (p q : Nat) (t0 t1 t2 t3 t4 : List UInt8) (s : List (List UInt8)) (v : Value) (h : OutI W0.heap.size p q #[.string ⟨t0.toArray⟩, .string ⟨t1.toArray⟩, .string ⟨t2.toArray⟩, .string ⟨t3.toArray⟩, .string ⟨t4.toArray⟩] s v w)
    (hb : Below W0.heap.size W0 w) (hc : CassAt f W0 (.slice a n c) x.cases) (hs : s.length ≤ 1000000000) (ht : x.text.length ≤ 2000000) :
    Calls Tryz.prog 32 (#[.agg #[.int .i64 x.kind, .string ⟨x.text.toArray⟩, .int .i64 x.off, .slice a n c]] ++ #[.pointer (some ⟨q, 0, none⟩), .pointer (some ⟨p, 0, none⟩)]) w fun e w' => e = .returned (.tuple #[]) ∧
      ∃ v', OutI W0.heap.size p q #[.string ⟨t0.toArray⟩, .string ⟨t1.toArray⟩, .string ⟨t2.toArray⟩, .string ⟨t3.toArray⟩, .string ⟨t4.toArray⟩] (s ++ missN [t0, t1, t2, t3, t4] x) v' w' ∧ Turn p v w v' w' := by
  obtain ⟨i0, hi, hz0, hz1, hz2⟩ := info_parts infoStrM
  have HKS := Lib.hid (kS_short [t0, t1, t2, t3, t4])
  have CK := Lib.hid fun w => ckinds_any t0 t1 t2 t3 t4 w
  have u0 := h.set.cell 0 _ rfl
  have u1 := h.set.cell 1 _ rfl
  have u2 := h.set.cell 2 _ rfl
  have u3 := h.set.cell 3 _ rfl
  have u4 := h.set.cell 4 _ rfl
  have hql := h.set.lt
  have hpl := h.box.lt
  have HV := Lib.hid fun k (e : v.ownBlock = some k) => (h.row.lt k e).2
  have H0 := Lib.hid h
  have HB0 := Lib.hid hb
  have HC := Lib.hid hc
  clear h hb hc
  obtain ⟨RES, hRES⟩ : ∃ RES, RES = s ++ missN [t0, t1, t2, t3, t4] x := ⟨_, rfl⟩
  rw [← hRES]
  have hL5 : (kS [t0, t1, t2, t3, t4]).length = 5 := rfl
  unfold missN at hRES
  generalize kS [t0, t1, t2, t3, t4] = L at *
  have HRES := Lib.hid (show s ++ missK x (L.drop 0) = RES by rw [List.drop_zero, hRES])
  clear hRES
  generalize hT : x.text = T at *
  generalize x.kind = K at *
  generalize x.off = O at *
  show Calls _ _ #[_, _, _] _ _
  have BX := Lib.hid (Boxed.made w #[.int .i64 K, .string ⟨T.toArray⟩, .int .i64 O, .slice a n c] 60)
  have W1 := Lib.hid (blw_alloc w (.cells #[.int .i64 K, .string ⟨T.toArray⟩, .int .i64 O, .slice a n c] 60))
  go_enter Tryz.func32, Tryz.ntmps32
  go_wp2_with fail
  refine (CK.out _).mono ?_
  rintro e w2 ⟨b, rfl, hk, hbb, hb2⟩
  have W2 := Lib.hid (blw_trans W1.out hb2)
  have BX2 := Lib.hid (BX.out.below hb2)
  have KB2 := Lib.hid hk
  have O2 := Lib.hid (H0.out.below W2.out)
  have hbb : w.heap.size + 1 ≤ b := by simpa using hbb
  have TW := Lib.hid (Turn.below (p := p) (v := v) W2.out)
  have W02 := Lib.hid (HB0.out.trans (W2.out.mono HB0.out.size))
  clear hk hb2 BX W1 CK HB0 u0 u1 u2 u3 u4 H0
  generalize hkk : w.heap.size = k0 at *
  go_wp2_with fail
  go_loopw [9] (fun vi wr => ∃ (i : Nat) (s' : List (List UInt8)) (v' : Value), vi = .int .i64 (i : Int) ∧ i ≤ 5 ∧ s'.length ≤ s.length + i ∧ Hid (OutI W0.heap.size p q #[.string ⟨t0.toArray⟩, .string ⟨t1.toArray⟩, .string ⟨t2.toArray⟩, .string ⟨t3.toArray⟩, .string ⟨t4.toArray⟩] s' v' wr) ∧ Hid (s' ++ missK x (L.drop i) = RES) ∧ Hid (Turn p v w2 v' wr)) (fun vi _ => 5 - (RowKit.intOf vi).toNat)
  case atStart => exact ⟨0, s, v, rfl, by omega, by omega, O2, HRES, Lib.hid (Turn.below (Below.refl _ _))⟩
  case round =>
    obtain ⟨i, s', v', rfl, hi5, hsl, HO, HS, HT⟩ := hrel
    clear HRES
    obtain ⟨va', vc', rfl⟩ := HO.out.isSlice
    by_cases hlt : i < 5
    · have hi' : (i : Int) < 5 := by omega
      obtain ⟨y, hy⟩ : ∃ y, L[i]? = some y := ⟨L[i]'(by omega), List.getElem?_eq_getElem (by omega)⟩
      have hnm := HKS.out y (List.mem_of_getElem? hy)
      have BK := Lib.hid (HT.out.boxed KB2.out (by omega) (fun e => by have := HV.out _ e; omega))
      have BXr := Lib.hid (HT.out.boxed BX2.out (by omega) (fun e => by have := HV.out _ e; omega))
      have WBr := Lib.hid (O2.out.base HT.out W02.out)
      have CC := Lib.hid (cass_below HC.out WBr.out)
      have g0 := BK.out.cell (i * 2) _ (kC_at hy).1
      have g1 := BK.out.cell (i * 2 + 1) _ (kC_at hy).2
      have gl := BK.out.lt
      have x1 := BXr.out.cell 1 _ rfl
      have x3 := BXr.out.cell 3 _ rfl
      have xl := BXr.out.lt
      have hst := HS.out
      rw [filt_step hy] at hst
      obtain ⟨nm, is⟩ := y
      unfold stV txtV at g0
      have wi : IntKind.i64.wrap ((i : Int) + 1) = (i : Int) + 1 := IntWalk.i64_in _ (by omega)
      have BJ := Lib.hid (Boxed.made wr #[.string ⟨nm.toArray⟩, .bool is] 76)
      have Oa := Lib.hid (HO.out.below (blw_alloc wr (.cells #[.string ⟨nm.toArray⟩, .bool is] 76)))
      have Ta := Lib.hid (HT.out.trans (Turn.below (blw_alloc wr (.cells #[.string ⟨nm.toArray⟩, .bool is] 76))))
      have Ca := Lib.hid (cass_below CC.out (blw_alloc wr (.cells #[.string ⟨nm.toArray⟩, .bool is] 76)))
      have Xa := Lib.hid (BXr.out.alloc (.cells #[.string ⟨nm.toArray⟩, .bool is] 76))
      have hnl : nm.length ≤ 10 := hnm
      clear HO HS HT BK BXr WBr CC hy hnm
      cases is with
      | false =>
        have HS2 := Lib.hid (show s' ++ missK x (L.drop (i + 1)) = RES by simpa using hst)
        clear hst
        go_wp2_with fail
        go_roundw
        case rel => exact ⟨i + 1, s', _, by go_num, by omega, by omega, Oa, HS2, Ta⟩
        case measure => simp [RowKit.intOf]; omega
      | true =>
        have CH := Lib.hid (has_case x.cases (fun z => z.1 == nm) 35 #[.pointer (some ⟨wr.heap.size, 0, none⟩)] miss11_at (.slice a n c) _ Ca.out (Lib.hid fun z _ a9 n9 c9 wx hb => miss11_any z a9 n9 c9 wr.heap.size nm wx (cell_keep (BJ.out.cell 0 _ rfl) hb)))
        generalize (x.cases.any fun z => z.1 == nm) = Z at *
        have HST := Lib.hid hst
        clear hst
        go_wp2_with fail
        refine CH.out.mono ?_
        rintro e w3 ⟨rfl, hb⟩
        have O3 := Lib.hid (Oa.out.below hb)
        have T3 := Lib.hid (Ta.out.trans (Turn.below hb))
        have BJ3 := Lib.hid (BJ.out.below hb)
        have X3 := Lib.hid (Xa.out.below hb)
        clear hb CH Oa Ta Ca BJ Xa g0 g1 gl x1 x3 xl
        generalize wr.heap.size = j at *
        cases Z with
        | true =>
          have HS2 := Lib.hid (show s' ++ missK x (L.drop (i + 1)) = RES by simpa using HST.out)
          clear HST
          go_wp2_with fail
          go_roundw
          case rel => exact ⟨i + 1, s', _, by go_num, by omega, by omega, O3, HS2, T3⟩
          case measure => simp [RowKit.intOf]; omega
        | false =>
          obtain ⟨X1, hX1⟩ : ∃ X1, X1 = T ++ [46] := ⟨_, rfl⟩
          obtain ⟨X2, hX2⟩ : ∃ X2, X2 = X1 ++ nm := ⟨_, rfl⟩
          have HS2 := Lib.hid (show (s' ++ [X2]) ++ missK x (L.drop (i + 1)) = RES by
            have := HST.out
            rw [hX2, hX1, List.append_assoc]
            unfold dot at this
            rw [hT] at this
            exact this)
          have l1 : X1.length ≤ 3000000 := by rw [hX1]; simp; omega
          have A1 : ∀ w, (Op.stringOp .add ⟨T.toArray⟩ ⟨#[46]⟩).run Tryz.prog w = .ok (.string ⟨X1.toArray⟩) w := fun w => by rw [hX1]; exact add_str (P := Tryz.prog) T [46] (by simp; omega) w
          have A2 : ∀ w, (Op.stringOp .add ⟨X1.toArray⟩ ⟨nm.toArray⟩).run Tryz.prog w = .ok (.string ⟨X2.toArray⟩) w := fun w => by rw [hX2]; exact add_str (P := Tryz.prog) X1 nm (by omega) w
          have o0 := O3.out.box.cell 0 _ rfl
          have ol := O3.out.box.lt
          have x1 := X3.out.cell 1 _ rfl
          have j0 := BJ3.out.cell 0 _ rfl
          clear HST hX1 hX2 X3 BJ3
          go_wp2_with (at_builtin; refine wpList_append_own_at _ rfl _ _ 45 rfl W0.heap.size 9 i0 (.string ByteArray.empty) 1 16 Tryz.underlying45 hi hz0 hz1 hz2 rfl (by decide) _ s'.length (s'.map stV) rfl (O3.out.row.alloc _) ⟨w3.heap.size, 0, none⟩ 1 1 [stV X2] rfl rfl (cell_one_new _ _ _) (fun u hu => by simp at hu; subst hu; rfl) (by unfold maxLen; omega) (by omega) (by simp; have := O3.out.ge; have := O3.out.box.lt; omega) ?_; intro v5 w5 hown hgrow _ hat; have PP := Lib.hid (O3.out.pushed (t := X2) (blw_alloc w3 _) hown hgrow hat); have hbx := nboxed_grown (O3.out.box.alloc _) hgrow (fun e => O3.out.ne e.symm); have c5 := hbx.cell 0 _ rfl; have f5 := hbx.free 0 (by simp); have l5 := hbx.lt; obtain ⟨va5, vc5, rfl⟩ := mrow_slice hown; clear hown hgrow hat hbx)
          go_roundw
          case rel => exact ⟨i + 1, s' ++ [X2], _, by go_num, by omega, by simp; omega, Lib.hid PP.out.1, HS2, Lib.hid (T3.out.trans PP.out.2)⟩
          case measure => simp [RowKit.intOf]; omega
    · have hi' : ¬ (i : Int) < 5 := by omega
      have hst := HS.out
      rw [List.drop_of_length_le (by omega)] at hst
      have e0 : missK x [] = [] := rfl
      rw [e0, List.append_nil] at hst
      subst hst
      go_wp2_with fail
      go_end0
      exact ⟨rfl, _, HO.out, TW.out.trans HT.out⟩
set_option maxRecDepth 100000 in
set_option maxHeartbeats 4000000 in
theorem idle2_any (x : Nd) (a : Option Addr) (n c : Nat) (key : List UInt8) (W0 w : World) (p q : Nat) (t0 t1 t2 t3 t4 : List UInt8) (s : List (List UInt8)) (v : Value) (h : OutI W0.heap.size p q #[.string ⟨t0.toArray⟩, .string ⟨t1.toArray⟩, .string ⟨t2.toArray⟩, .string ⟨t3.toArray⟩, .string ⟨t4.toArray⟩] s v w)
    (hs : s.length ≤ 1000000000) (ht : x.text.length ≤ 2000000) (hk : key.length ≤ 2000000) :
    Calls Tryz.prog 44 (#[.agg #[.int .i64 x.kind, .string ⟨x.text.toArray⟩, .int .i64 x.off, .slice a n c], .string ⟨key.toArray⟩] ++ #[.pointer (some ⟨q, 0, none⟩), .pointer (some ⟨p, 0, none⟩)]) w fun e w' => e = .returned (.tuple #[]) ∧
      ∃ v', OutI W0.heap.size p q #[.string ⟨t0.toArray⟩, .string ⟨t1.toArray⟩, .string ⟨t2.toArray⟩, .string ⟨t3.toArray⟩, .string ⟨t4.toArray⟩] (s ++ idleN [t0, t1, t2, t3, t4] x key) v' w' ∧ Turn p v w v' w' := by
  obtain ⟨i0, hi, hz0, hz1, hz2⟩ := info_parts infoStrM
  have CK := Lib.hid fun w => ckinds_any t0 t1 t2 t3 t4 w
  have CH := Lib.hid fun b w (h : Boxed w b (kC (kS [t0, t1, t2, t3, t4]))) => khas_any (kS [t0, t1, t2, t3, t4]) key false b w h (by show 5 ≤ _; omega)
  have u0 := h.set.cell 0 _ rfl
  have u1 := h.set.cell 1 _ rfl
  have u2 := h.set.cell 2 _ rfl
  have u3 := h.set.cell 3 _ rfl
  have u4 := h.set.cell 4 _ rfl
  have hql := h.set.lt
  have hpl := h.box.lt
  have H0 := Lib.hid h
  clear h
  obtain ⟨va', vc', rfl⟩ := H0.out.isSlice
  have HE := Lib.hid (show idleN [t0, t1, t2, t3, t4] x key = if (kS [t0, t1, t2, t3, t4]).contains (key, false) then [dot x.text key] else [] from rfl)
  generalize idleN [t0, t1, t2, t3, t4] x key = RES at *
  have hL5 : (kS [t0, t1, t2, t3, t4]).length = 5 := rfl
  rw [hL5] at CH
  generalize kS [t0, t1, t2, t3, t4] = L at *
  generalize hZ : L.contains (key, false) = Z at *
  clear hZ
  generalize hT : x.text = T at *
  generalize x.kind = K at *
  generalize x.off = O at *
  show Calls _ _ #[_, _, _, _] _ _
  have BX := Lib.hid (Boxed.made w #[.int .i64 K, .string ⟨T.toArray⟩, .int .i64 O, .slice a n c] 60)
  have W1 := Lib.hid (blw_alloc w (.cells #[.int .i64 K, .string ⟨T.toArray⟩, .int .i64 O, .slice a n c] 60))
  go_enter Tryz.func44, Tryz.ntmps44
  go_wp2_with fail
  refine (CK.out _).mono ?_
  rintro e w2 ⟨b, rfl, hkb, _, hb2⟩
  have W2 := Lib.hid (blw_trans W1.out hb2)
  have BX2 := Lib.hid (BX.out.below hb2)
  have CHb := Lib.hid (CH.out b w2 hkb)
  clear hkb hb2 BX W1 CK CH u0 u1 u2 u3 u4
  go_wp2_with fail
  refine CHb.out.mono ?_
  rintro e w3 ⟨rfl, hb⟩
  have W3 := Lib.hid (blw_trans W2.out hb)
  have X3 := Lib.hid (BX2.out.below hb)
  have O3 := Lib.hid (H0.out.below W3.out)
  have T3 := Lib.hid (Turn.below (p := p) (v := .slice va' s.length vc') W3.out)
  clear hb CHb BX2 W2 H0
  generalize w.heap.size = k0 at *
  cases Z with
  | false =>
    obtain rfl : RES = [] := HE.out
    have O4 := Lib.hid (show OutI W0.heap.size p q #[.string ⟨t0.toArray⟩, .string ⟨t1.toArray⟩, .string ⟨t2.toArray⟩, .string ⟨t3.toArray⟩, .string ⟨t4.toArray⟩] (s ++ []) (.slice va' s.length vc') w3 by rw [List.append_nil]; exact O3.out)
    go_wp2_with fail
    go_end0
    exact ⟨rfl, _, O4.out, T3.out⟩
  | true =>
    obtain ⟨X1, hX1⟩ : ∃ X1, X1 = T ++ [46] := ⟨_, rfl⟩
    obtain ⟨X2, hX2⟩ : ∃ X2, X2 = X1 ++ key := ⟨_, rfl⟩
    obtain rfl : RES = [X2] := by rw [HE.out, hX2, hX1]; rfl
    have l1 : X1.length ≤ 3000000 := by rw [hX1]; simp; omega
    have A1 : ∀ w, (Op.stringOp .add ⟨T.toArray⟩ ⟨#[46]⟩).run Tryz.prog w = .ok (.string ⟨X1.toArray⟩) w := fun w => by rw [hX1]; exact add_str (P := Tryz.prog) T [46] (by simp; omega) w
    have A2 : ∀ w, (Op.stringOp .add ⟨X1.toArray⟩ ⟨key.toArray⟩).run Tryz.prog w = .ok (.string ⟨X2.toArray⟩) w := fun w => by rw [hX2]; exact add_str (P := Tryz.prog) X1 key (by omega) w
    have o0 := O3.out.box.cell 0 _ rfl
    have ol := O3.out.box.lt
    have x1 := X3.out.cell 1 _ rfl
    clear HE hX1 hX2 X3
    go_wp2_with (at_builtin; refine wpList_append_own_at _ rfl _ _ 45 rfl W0.heap.size 9 i0 (.string ByteArray.empty) 1 16 Tryz.underlying45 hi hz0 hz1 hz2 rfl (by decide) _ s.length (s.map stV) rfl (O3.out.row.alloc _) ⟨w3.heap.size, 0, none⟩ 1 1 [stV X2] rfl rfl (cell_one_new _ _ _) (fun u hu => by simp at hu; subst hu; rfl) (by unfold maxLen; omega) (by omega) (by simp; have := O3.out.ge; have := O3.out.box.lt; omega) ?_; intro v5 w5 hown hgrow _ hat; have PP := Lib.hid (O3.out.pushed (t := X2) (blw_alloc w3 _) hown hgrow hat); have hbx := nboxed_grown (O3.out.box.alloc _) hgrow (fun e => O3.out.ne e.symm); have c5 := hbx.cell 0 _ rfl; have f5 := hbx.free 0 (by simp); have l5 := hbx.lt; obtain ⟨va5, vc5, rfl⟩ := mrow_slice hown; clear hown hgrow hat hbx)
    go_end0
    exact ⟨rfl, _, PP.out.1, T3.out.trans PP.out.2⟩
end Go.Proofs.YtainindkndjkbaaGreatDoor
namespace Go.Proofs.YtainindkndjkbaaGreatDoor
open Go.RowKit Ms

theorem infoNeed : (Tryz.prog.info? 57).map (fun i => (i.zero, i.size, i.bytes)) = some (some (.agg #[.string ByteArray.empty, .bool false, .bool false]), 3, 24) := by kernel_rfl
section
variable {P : Program} {md : Region.Mode} {l : List Oper} {Q : Exit → Act → World → Prop} {S : World → Prop}
theorem takeN_two {oi oj : Oper} {fuel : Nat} {listed : Array Bool} {a : Act} {w : World} (i j : Nat) (hi : l[i]? = some oi) (hj : l[j]? = some oj) (hr : Region.ready md l.toArray listed = [i, j])
    (hwi : Region.wanted oi (yielded l.toArray a.tmps) = true) (hwj : Region.wanted oj (yielded l.toArray a.tmps) = true)
    (h1 : ∀ K' : Act → World → Prop, Shut (∀ a w, S w → (S w → wpAnyH P md l.toArray Q S fuel (listed.setIfInBounds i true) a w) → K' a w) → Oper.wp P oi a w K' Q)
    (h2 : ∀ K' : Act → World → Prop, Shut (∀ a w, S w → (S w → wpAnyH P md l.toArray Q S fuel (listed.setIfInBounds j true) a w) → K' a w) → Oper.wp P oj a w K' Q) : wpAnyH P md l.toArray Q S (fuel + 1) listed a w :=
  wpAnyH_ready hr (by simp) (AllReadyH.cons (by simpa using hi) (fun K' hK => by rw [if_pos hwi]; exact h1 K' hK) (AllReadyH.cons (by simpa using hj) (fun K' hK => by rw [if_pos hwj]; exact h2 K' hK) AllReadyH.nil))
end

/-- two blocks -/
structure Bx2 (k : Nat) (us : Array Value) (w : World) (q : Nat) (vs : Array Value) : Prop where
  a : Boxed w q vs
  b : Boxed w k us
section
variable {k q : Nat} {us vs : Array Value} {w : World}
theorem Bx2.below {C : World} (h : Bx2 k us w q vs) (hb : Below w.heap.size w C) : Bx2 k us C q vs := ⟨h.a.below hb, h.b.below hb⟩
theorem Bx2.alloc (h : Bx2 k us w q vs) (o : Obj) : Bx2 k us (w.alloc o) q vs := ⟨h.a.alloc o, h.b.alloc o⟩
theorem Bx2.drew (h : Bx2 k us w q vs) : Bx2 k us w.drew q vs := ⟨h.a.drew, h.b.drew⟩
theorem Bx2.grown {C : World} {r : Option Nat} (h : Bx2 k us w q vs) (g : w.grownBy C r) (h1 : some q ≠ r) (h2 : some k ≠ r) : Bx2 k us C q vs := ⟨nboxed_grown h.a g h1, nboxed_grown h.b g h2⟩
theorem Bx2.far {p' : Nat} (h : Bx2 k us w q vs) (h1 : p' ≠ q) (h2 : p' ≠ k) (j : Nat) (v : Value) : Bx2 k us (w.setCell ⟨p', j, none⟩ v) q vs := ⟨h.a.far h1 j v, h.b.far h2 j v⟩
end

set_option maxRecDepth 100000 in
set_option maxHeartbeats 4000000 in
theorem nadd_any (x : Nd) (a : Option Addr) (n c : Nat) (W0 w : World) (p : Nat) (v : Value) (xs : List Need) (k : Nat) (us : Array Value) (h : NI W0.heap.size p v xs w) (hb : Below W0.heap.size W0 w) (hl : xs.length ≤ 1000000) (hk : Boxed w k us) (hkp : k ≠ p) (hkv : v.ownBlock ≠ some k) :
    Calls Tryz.prog 66 #[.pointer (some ⟨p, 0, none⟩), .agg #[.int .i64 x.kind, .string ⟨x.text.toArray⟩, .int .i64 x.off, .slice a n c]] w fun e w' => e = .returned (.tuple #[]) ∧ (∃ v', NI W0.heap.size p v' (addN xs x) w') ∧ Below W0.heap.size W0 w' ∧ Boxed w' k us := by
  have HK0 := Lib.hid hk
  have HKP := Lib.hid hkp
  obtain ⟨iN, hiN, hN0, hN1, hN2⟩ := info_parts infoNeed
  obtain ⟨K0, T, O0, cs⟩ := x
  obtain ⟨RES, hRES⟩ : ∃ RES, RES = addN xs (.mk K0 T O0 cs) := ⟨_, rfl⟩
  rw [← hRES]
  have HRES := Lib.hid (show RES = if K0 = 1 ∨ K0 = 6 then xs else (grownN xs T).modify (xs.findIdx (fun n => n.1 == T)) (orN (decide (K0 = 3) || decide (K0 = 4)) (decide (K0 = 5))) from hRES)
  clear hRES
  simp only [Nd.kind, Nd.text, Nd.off]
  have hB := hb.size
  have HW := Lib.hid hb
  have HP := Lib.hid h
  have hpB := h.ge
  have hpw := h.box.lt
  obtain ⟨av, cv, rfl⟩ := h.isSlice
  have hvq : (Value.slice av xs.length cv).ownBlock ≠ some w.heap.size := fun e => by have := (h.row.lt _ e).2; omega
  have HKV := Lib.hid hkv
  clear h hb hk hkp hkv
  generalize W0.heap.size = B at *
  obtain ⟨q, hq⟩ : ∃ q, w.heap.size = q := ⟨_, rfl⟩
  obtain ⟨w1, hw1⟩ : ∃ w1, w.alloc (.cells #[.int .i64 K0, .string ⟨T.toArray⟩, .int .i64 O0, .slice a n c] 60) = w1 := ⟨_, rfl⟩
  have P1 := Lib.hid (show NI B p (.slice av xs.length cv) xs w1 by rw [← hw1]; exact HP.out.below (blw_alloc _ _))
  have W1 := Lib.hid (show Below B W0 w1 by rw [← hw1]; exact HW.out.alloc hB _)
  have Q1 := Lib.hid (show Bx2 k us w1 q #[.int .i64 K0, .string ⟨T.toArray⟩, .int .i64 O0, .slice a n c] by rw [← hw1, ← hq]; exact ⟨Boxed.made _ _ _, HK0.out.alloc _⟩)
  rw [hq] at hvq hB hpw
  have HQ := Lib.hid hvq
  have hqp : q ≠ p := by omega
  have hB1 : B ≤ w1.heap.size := by have := Q1.out.a.lt; omega
  clear HP HW hvq HK0
  have q0 : w1.cell? ⟨q, 0, none⟩ = some (.int .i64 K0) := Q1.out.a.cell 0 _ rfl
  have q1 : w1.cell? ⟨q, 1, none⟩ = some (.string ⟨T.toArray⟩) := Q1.out.a.cell 1 _ rfl
  have p0 : w1.cell? ⟨p, 0, none⟩ = some (.slice av xs.length cv) := P1.out.box.cell 0 _ rfl
  by_cases k1 : K0 = 1
  · have b1 : (K0 == 1) = true := beq_yes k1
    obtain rfl : RES = xs := by rw [HRES.out, if_pos (.inl k1)]
    clear k1
    go_enter Tryz.func66, Tryz.ntmps66
    go_upto_region 1 with fail
    try rw [hq, hw1]
    clear hw1 hq
    go_wp2_with fail
    refine bodyPost_ret (results_none rfl _ _ _) rfl ?_
    exact ⟨rfl, ⟨_, P1.out⟩, W1.out, Q1.out.b⟩
  by_cases k6 : K0 = 6
  · have b1 : (K0 == 1) = false := beq_no k1
    have b6 : (K0 == 6) = true := beq_yes k6
    obtain rfl : RES = xs := by rw [HRES.out, if_pos (.inr k6)]
    clear k1 k6
    go_enter Tryz.func66, Tryz.ntmps66
    go_upto_region 1 with fail
    try rw [hq, hw1]
    clear hw1 hq
    go_wp2_with fail
    refine bodyPost_ret (results_none rfl _ _ _) rfl ?_
    exact ⟨rfl, ⟨_, P1.out⟩, W1.out, Q1.out.b⟩
  have b1 : (K0 == 1) = false := beq_no k1
  have b6 : (K0 == 6) = false := beq_no k6
  replace HRES := Lib.hid (show RES = _ by rw [HRES.out, if_neg (by rintro (h | h); exact k1 h; exact k6 h)])
  clear k1 k6
  have CI := Lib.hid (idx_need xs (fun n => n.1 == T) 89 #[.pointer (some ⟨q, 0, none⟩)] add1_at (.slice av xs.length cv) w1 (needs_of_row P1.out.row) (Lib.hid fun y _ wx hbx => add1_any y q T wx (cell_keep q1 hbx)))
  have HI := Lib.hid (show fstV xs (fun n => n.1 == T) = if xs.findIdx (fun n => n.1 == T) < xs.length then (xs.findIdx (fun n => n.1 == T) : Int) else -1 from rfl)
  have HG := Lib.hid (show grownN xs T = if xs.findIdx (fun n => n.1 == T) < xs.length then xs else xs ++ [(T, false, false)] from rfl)
  have HGI := Lib.hid (grownN_idx xs T)
  have HLE := Lib.hid (List.findIdx_le_length (xs := xs) (p := fun n => n.1 == T))
  generalize fstV xs (fun n => n.1 == T) = IV at *
  generalize xs.findIdx (fun n => n.1 == T) = IX at *
  go_enter Tryz.func66, Tryz.ntmps66
  go_upto_region 1 with fail
  try rw [hq, hw1]
  clear hw1 hq
  go_wp2_with fail
  refine CI.out.mono ?_
  rintro e w2 ⟨rfl, hb⟩
  have P2 := Lib.hid (P1.out.below hb)
  have Q2 := Lib.hid (Q1.out.below hb)
  have W2 := Lib.hid (W1.out.trans (hb.mono hB1))
  have hB2 : B ≤ w2.heap.size := Nat.le_trans hB1 hb.size
  clear hb CI P1 Q1 W1 q0 q1 p0 hB1
  go_upto_if 20 with fail
  go_cut [4] from 20 to 34 (fun s4 wx => ∃ g cap ys, s4 = .int .i64 (IX : Int) ∧ ys = grownN xs T ∧ g ≠ q ∧ g ≠ k ∧ Hid (NI B p (.slice (some ⟨g, 0, none⟩) ys.length cap) ys wx) ∧ Hid (Bx2 k us wx q #[.int .i64 K0, .string ⟨T.toArray⟩, .int .i64 O0, .slice a n c]) ∧ Hid (Below B W0 wx))
  case first =>
    by_cases hlt : IX < xs.length
    · obtain rfl : IV = (IX : Int) := by rw [HI.out, if_pos hlt]
      have d1 : decide ((IX : Int) < 0) = false := dec_no (by omega)
      rw [d1]
      obtain ⟨g, cap, e⟩ := nrow_some P2.out.row (by omega)
      injection e with e1 _ e3
      subst e1 e3
      have HGG := Lib.hid (show xs = grownN xs T by rw [HG.out, if_pos hlt])
      clear hlt
      go_wp2_with fail
      go_meet
      exact ⟨g, cv, xs, rfl, HGG.out, fun e => HQ.out (by rw [← e]; rfl), fun e => HKV.out (by rw [← e]; rfl), P2, Q2, W2⟩
    · obtain rfl : IV = -1 := by rw [HI.out, if_neg hlt]
      have HGN := Lib.hid (show grownN xs T = xs ++ [(T, false, false)] by rw [HG.out, if_neg hlt])
      have HIX := Lib.hid (show (IX : Int) = (xs.length : Int) by have := HLE.out; omega)
      have p0 : w2.cell? ⟨p, 0, none⟩ = some (.slice av xs.length cv) := P2.out.box.cell 0 _ rfl
      clear hlt
      rw [show decide ((-1 : Int) < 0) = true from rfl]
      go_wp2_with fail
      have P := Lib.hid (show NI B p (.slice av xs.length cv) xs w2 ∧ Below B W0 w2 ∧ B ≤ w2.heap.size ∧ Bx2 k us w2 q #[.int .i64 K0, .string ⟨T.toArray⟩, .int .i64 O0, .slice a n c] from ⟨P2.out, W2.out, hB2, Q2.out⟩)
      refine wp_region_held_drew (S := fun w' => w'.cell? ⟨q, 1, none⟩ = some (.string ⟨T.toArray⟩)) (by kernel_rfl) (by exact Q2.out.a.cell 1 _ rfl) (fun hHeld => ?_)
      replace P := Lib.hid (show NI B p (.slice av xs.length cv) xs (World.drew w2) ∧ Below B W0 (World.drew w2) ∧ B ≤ (World.drew w2).heap.size ∧ Bx2 k us (World.drew w2) q #[.int .i64 K0, .string ⟨T.toArray⟩, .int .i64 O0, .slice a n c] from ⟨P.out.1.below (Below.drew (Below.refl _ _)), Below.drew P.out.2.1, P.out.2.2.1, P.out.2.2.2.drew⟩)
      clear P2 W2 Q2
      generalize World.drew w2 = w3 at *
      refine take_run (d := some 25) (v := ?v1) 0 rfl rfl (by kernel_rfl) (by kernel_rfl) (by kernel_rfl) (fun _ _ _ h => h) (by rfl) hHeld ?hy1 ?rs1
      case hy1 => (intro w hSw; (try dsimp only at hSw); go_simp) <;> (try with_reducible rfl)
      (try simp only [Act.put, List.setIfInBounds_toArray, List.set_cons_zero, List.set_cons_succ])
      refine take_run (d := some 26) (v := ?v2) 1 rfl rfl (by kernel_rfl) (by kernel_rfl) (by kernel_rfl) (fun _ _ _ h => h) (by rfl) hHeld ?hy2 ?rs2
      case hy2 => (intro w hSw; (try dsimp only at hSw); go_simp) <;> (try with_reducible rfl)
      (try simp only [Act.put, List.setIfInBounds_toArray, List.set_cons_zero, List.set_cons_succ])
      refine take_run (d := some 27) (v := ?v3) 2 rfl rfl (by kernel_rfl) (by kernel_rfl) (by kernel_rfl) (fun _ _ _ h => h) (by rfl) hHeld ?hy3 ?rs3
      case hy3 => (intro w hSw; (try dsimp only at hSw); go_simp) <;> (try with_reducible rfl)
      (try simp only [Act.put, List.setIfInBounds_toArray, List.set_cons_zero, List.set_cons_succ])
      refine take_run (d := some 29) (v := ?v4) 4 rfl rfl (by kernel_rfl) (by kernel_rfl) (by kernel_rfl) (fun _ _ _ h => h) (by rfl) hHeld ?hy4 ?rs4
      case hy4 => (intro w hSw; (try dsimp only at hSw); go_simp) <;> (try with_reducible rfl)
      (try simp only [Act.put, List.setIfInBounds_toArray, List.set_cons_zero, List.set_cons_succ])
      refine take_run (d := some 30) (v := ?v5) 5 rfl rfl (by kernel_rfl) (by kernel_rfl) (by kernel_rfl) (fun _ _ _ h => h) (by rfl) hHeld ?hy5 ?rs5
      case hy5 => (intro w hSw; (try dsimp only at hSw); go_simp) <;> (try with_reducible rfl)
      (try simp only [Act.put, List.setIfInBounds_toArray, List.set_cons_zero, List.set_cons_succ])
      refine take_run (d := some 31) (v := ?v6) 6 rfl rfl (by kernel_rfl) (by kernel_rfl) (by kernel_rfl) (fun _ _ _ h => h) (by rfl) hHeld ?hy6 ?rs6
      case hy6 => (intro w hSw; (try dsimp only at hSw); go_simp) <;> (try with_reducible rfl)
      (try simp only [Act.put, List.setIfInBounds_toArray, List.set_cons_zero, List.set_cons_succ])
      refine takeN_two 3 7 rfl rfl (by kernel_rfl) (by rfl) (by rfl) (fun K hK => ?_) (fun K hK => ?_)
      · have k3 : World.cell? _ ⟨p, 0, none⟩ = some (.slice av xs.length cv) := P.out.1.box.cell 0 _ rfl
        go_simp
        clear k3
        refine hK.out _ _ (hHeld) (fun hHeld => ?_)
        clear hK K
        (try simp only [Act.put, List.setIfInBounds_toArray, List.set_cons_zero, List.set_cons_succ])
        refine take_call 7 rfl (by kernel_rfl) (by rfl) (fun K hK => ?_)
        go_simp
        refine hK.out _ _ (cell_keep hHeld (blw_alloc _ _)) (fun hHeld => ?_)
        clear hK K
        (try simp only [Act.put, List.setIfInBounds_toArray, List.set_cons_zero, List.set_cons_succ])
        have BN := Lib.hid (Boxed.made w3 #[.string ⟨T.toArray⟩, .bool false, .bool false] 57)
        replace P := Lib.hid (show NI B p (.slice av xs.length cv) xs (w3.alloc (.cells #[.string ⟨T.toArray⟩, .bool false, .bool false] 57)) ∧ Below B W0 (w3.alloc (.cells #[.string ⟨T.toArray⟩, .bool false, .bool false] 57)) ∧ B ≤ (w3.alloc (.cells #[.string ⟨T.toArray⟩, .bool false, .bool false] 57)).heap.size ∧ Bx2 k us (w3.alloc (.cells #[.string ⟨T.toArray⟩, .bool false, .bool false] 57)) q #[.int .i64 K0, .string ⟨T.toArray⟩, .int .i64 O0, .slice a n c] from ⟨P.out.1.below (blw_alloc _ _), P.out.2.1.alloc P.out.2.2.1 _, by have := P.out.2.2.1; simp; omega, P.out.2.2.2.alloc _⟩)
        generalize w3.heap.size = qn at *
        generalize World.alloc w3 (.cells #[.string ⟨T.toArray⟩, .bool false, .bool false] 57) = w5 at *
        refine take_call 8 rfl (by kernel_rfl) (by rfl) (fun K hK => ?_)
        refine wp_nappend _ _ _ 53 rfl B 57 iN _ 3 24 Tryz.underlying53 hiN hN0 hN1 hN2 rfl (by decide) (.slice av xs.length cv) xs.length (nflat xs) (by simp [go_sem]) P.out.1.row ⟨qn, 0, none⟩ 1 1 [.string ⟨T.toArray⟩, .bool false, .bool false] (by simp [go_sem]) rfl (nboxed_add BN.out) (fun u hu => by simp at hu; rcases hu with rfl | rfl | rfl <;> rfl) (by unfold maxLen; omega) (by omega) P.out.2.2.1 ?_
        intro v' w6 hown hgrow hat
        obtain ⟨g', cap', rfl⟩ := nrow_some hown (by omega)
        have hgq' : g' ≠ q := fun e' => hat.elim (fun e => HQ.out (by rw [← e, ← e']; rfl)) (fun e => by have hlq := P.out.2.2.2.a.lt; have e2 : some g' = some _ := e; injection e2 with e2; omega)
        have hgk' : g' ≠ k := fun e' => hat.elim (fun e => HKV.out (by rw [← e, ← e']; rfl)) (fun e => by have hlq := P.out.2.2.2.b.lt; have e2 : some g' = some _ := e; injection e2 with e2; omega)
        have hbq := P.out.1.row.lt
        have hqr : ∀ j, (Value.slice av xs.length cv).ownBlock = some j → B ≤ j ∧ j ≠ q ∧ j ≠ k := fun j hj => ⟨(hbq j hj).1, fun e => HQ.out (by rw [hj, e]), fun e => HKV.out (by rw [hj, e])⟩
        have QS := Lib.hid (P.out.1.stored (ys := xs ++ [(T, false, false)]) hgrow hat (by rw [List.length_append, nflat_add]; exact hown))
        have W6 := Lib.hid (P.out.2.1.grown hgrow P.out.2.2.1 (fun j hj => (hqr j hj).1))
        have Q6 := Lib.hid (P.out.2.2.2.grown hgrow (fun e => (hqr q e.symm).2.1 rfl) (fun e => (hqr k e.symm).2.2 rfl))
        have hHeld2 := Q6.out.a.cell 1 _ rfl
        clear hown hgrow hat hbq hqr P BN
        refine hK.out _ _ (hHeld2) (fun hHeld => ?_)
        clear hK K
        (try simp only [Act.put, List.setIfInBounds_toArray, List.set_cons_zero, List.set_cons_succ])
        clear hHeld2
        refine take_run (d := some 34) (v := ?v7) 9 rfl rfl (by kernel_rfl) (by kernel_rfl) (by kernel_rfl) (fun _ _ _ h => h) (by rfl) hHeld ?hy7 ?rs7
        case hy7 => (intro w hSw; (try dsimp only at hSw); go_simp) <;> (try with_reducible rfl)
        (try simp only [Act.put, List.setIfInBounds_toArray, List.set_cons_zero, List.set_cons_succ])
        refine take_call 10 rfl (by kernel_rfl) (by rfl) (fun K hK => ?_)
        have k3 := QS.out.2.cell 0 _ rfl
        have z3 := QS.out.2.free 0 (by show 0 < 1; omega)
        have hlt := QS.out.2.lt
        go_simp
        clear k3 z3 hlt
        refine hK.out _ _ ((Q6.out.far (p' := p) hqp.symm HKP.out.symm 0 _).a.cell 1 _ rfl) (fun hHeld => ?_)
        clear hK K
        (try simp only [Act.put, List.setIfInBounds_toArray, List.set_cons_zero, List.set_cons_succ])
        refine wpAnyH_done (by kernel_rfl) ?_ _
        clear hHeld
        have FIN := Lib.hid (show NI B p (.slice (some ⟨g', 0, none⟩) (xs.length + 1) cap') (xs ++ [(T, false, false)]) (w6.setCell ⟨p, 0, none⟩ (.slice (some ⟨g', 0, none⟩) (xs.length + 1) cap')) ∧ Below B W0 (w6.setCell ⟨p, 0, none⟩ (.slice (some ⟨g', 0, none⟩) (xs.length + 1) cap')) ∧ Bx2 k us (w6.setCell ⟨p, 0, none⟩ (.slice (some ⟨g', 0, none⟩) (xs.length + 1) cap')) q #[.int .i64 K0, .string ⟨T.toArray⟩, .int .i64 O0, .slice a n c] from ⟨QS.out.1, W6.out.setCell (p := ⟨p, 0, none⟩) hpB _, Q6.out.far (p' := p) hqp.symm HKP.out.symm 0 _⟩)
        clear QS W6 Q6
        generalize World.setCell w6 _ _ = w7 at *
        go_wp2_with fail
        go_meet
        exact ⟨g', cap', xs ++ [(T, false, false)], by rw [HIX.out], by rw [HGN.out], hgq', hgk', Lib.hid (by rw [List.length_append]; exact FIN.out.1), Lib.hid FIN.out.2.2, Lib.hid FIN.out.2.1⟩
      · go_simp
        refine hK.out _ _ (cell_keep hHeld (blw_alloc _ _)) (fun hHeld => ?_)
        clear hK K
        (try simp only [Act.put, List.setIfInBounds_toArray, List.set_cons_zero, List.set_cons_succ])
        have BN := Lib.hid (Boxed.made w3 #[.string ⟨T.toArray⟩, .bool false, .bool false] 57)
        replace P := Lib.hid (show NI B p (.slice av xs.length cv) xs (w3.alloc (.cells #[.string ⟨T.toArray⟩, .bool false, .bool false] 57)) ∧ Below B W0 (w3.alloc (.cells #[.string ⟨T.toArray⟩, .bool false, .bool false] 57)) ∧ B ≤ (w3.alloc (.cells #[.string ⟨T.toArray⟩, .bool false, .bool false] 57)).heap.size ∧ Bx2 k us (w3.alloc (.cells #[.string ⟨T.toArray⟩, .bool false, .bool false] 57)) q #[.int .i64 K0, .string ⟨T.toArray⟩, .int .i64 O0, .slice a n c] from ⟨P.out.1.below (blw_alloc _ _), P.out.2.1.alloc P.out.2.2.1 _, by have := P.out.2.2.1; simp; omega, P.out.2.2.2.alloc _⟩)
        generalize w3.heap.size = qn at *
        generalize World.alloc w3 (.cells #[.string ⟨T.toArray⟩, .bool false, .bool false] 57) = w5 at *
        refine take_call 3 rfl (by kernel_rfl) (by rfl) (fun K hK => ?_)
        have k3 : World.cell? _ ⟨p, 0, none⟩ = some (.slice av xs.length cv) := P.out.1.box.cell 0 _ rfl
        go_simp
        clear k3
        refine hK.out _ _ (hHeld) (fun hHeld => ?_)
        clear hK K
        (try simp only [Act.put, List.setIfInBounds_toArray, List.set_cons_zero, List.set_cons_succ])
        refine take_call 8 rfl (by kernel_rfl) (by rfl) (fun K hK => ?_)
        refine wp_nappend _ _ _ 53 rfl B 57 iN _ 3 24 Tryz.underlying53 hiN hN0 hN1 hN2 rfl (by decide) (.slice av xs.length cv) xs.length (nflat xs) (by simp [go_sem]) P.out.1.row ⟨qn, 0, none⟩ 1 1 [.string ⟨T.toArray⟩, .bool false, .bool false] (by simp [go_sem]) rfl (nboxed_add BN.out) (fun u hu => by simp at hu; rcases hu with rfl | rfl | rfl <;> rfl) (by unfold maxLen; omega) (by omega) P.out.2.2.1 ?_
        intro v' w6 hown hgrow hat
        obtain ⟨g', cap', rfl⟩ := nrow_some hown (by omega)
        have hgq' : g' ≠ q := fun e' => hat.elim (fun e => HQ.out (by rw [← e, ← e']; rfl)) (fun e => by have hlq := P.out.2.2.2.a.lt; have e2 : some g' = some _ := e; injection e2 with e2; omega)
        have hgk' : g' ≠ k := fun e' => hat.elim (fun e => HKV.out (by rw [← e, ← e']; rfl)) (fun e => by have hlq := P.out.2.2.2.b.lt; have e2 : some g' = some _ := e; injection e2 with e2; omega)
        have hbq := P.out.1.row.lt
        have hqr : ∀ j, (Value.slice av xs.length cv).ownBlock = some j → B ≤ j ∧ j ≠ q ∧ j ≠ k := fun j hj => ⟨(hbq j hj).1, fun e => HQ.out (by rw [hj, e]), fun e => HKV.out (by rw [hj, e])⟩
        have QS := Lib.hid (P.out.1.stored (ys := xs ++ [(T, false, false)]) hgrow hat (by rw [List.length_append, nflat_add]; exact hown))
        have W6 := Lib.hid (P.out.2.1.grown hgrow P.out.2.2.1 (fun j hj => (hqr j hj).1))
        have Q6 := Lib.hid (P.out.2.2.2.grown hgrow (fun e => (hqr q e.symm).2.1 rfl) (fun e => (hqr k e.symm).2.2 rfl))
        have hHeld2 := Q6.out.a.cell 1 _ rfl
        clear hown hgrow hat hbq hqr P BN
        refine hK.out _ _ (hHeld2) (fun hHeld => ?_)
        clear hK K
        (try simp only [Act.put, List.setIfInBounds_toArray, List.set_cons_zero, List.set_cons_succ])
        clear hHeld2
        refine take_run (d := some 34) (v := ?v8) 9 rfl rfl (by kernel_rfl) (by kernel_rfl) (by kernel_rfl) (fun _ _ _ h => h) (by rfl) hHeld ?hy8 ?rs8
        case hy8 => (intro w hSw; (try dsimp only at hSw); go_simp) <;> (try with_reducible rfl)
        (try simp only [Act.put, List.setIfInBounds_toArray, List.set_cons_zero, List.set_cons_succ])
        refine take_call 10 rfl (by kernel_rfl) (by rfl) (fun K hK => ?_)
        have k3 := QS.out.2.cell 0 _ rfl
        have z3 := QS.out.2.free 0 (by show 0 < 1; omega)
        have hlt := QS.out.2.lt
        go_simp
        clear k3 z3 hlt
        refine hK.out _ _ ((Q6.out.far (p' := p) hqp.symm HKP.out.symm 0 _).a.cell 1 _ rfl) (fun hHeld => ?_)
        clear hK K
        (try simp only [Act.put, List.setIfInBounds_toArray, List.set_cons_zero, List.set_cons_succ])
        refine wpAnyH_done (by kernel_rfl) ?_ _
        clear hHeld
        have FIN := Lib.hid (show NI B p (.slice (some ⟨g', 0, none⟩) (xs.length + 1) cap') (xs ++ [(T, false, false)]) (w6.setCell ⟨p, 0, none⟩ (.slice (some ⟨g', 0, none⟩) (xs.length + 1) cap')) ∧ Below B W0 (w6.setCell ⟨p, 0, none⟩ (.slice (some ⟨g', 0, none⟩) (xs.length + 1) cap')) ∧ Bx2 k us (w6.setCell ⟨p, 0, none⟩ (.slice (some ⟨g', 0, none⟩) (xs.length + 1) cap')) q #[.int .i64 K0, .string ⟨T.toArray⟩, .int .i64 O0, .slice a n c] from ⟨QS.out.1, W6.out.setCell (p := ⟨p, 0, none⟩) hpB _, Q6.out.far (p' := p) hqp.symm HKP.out.symm 0 _⟩)
        clear QS W6 Q6
        generalize World.setCell w6 _ _ = w7 at *
        go_wp2_with fail
        go_meet
        exact ⟨g', cap', xs ++ [(T, false, false)], by rw [HIX.out], by rw [HGN.out], hgq', hgk', Lib.hid (by rw [List.length_append]; exact FIN.out.1), Lib.hid FIN.out.2.2, Lib.hid FIN.out.2.1⟩
  case rest =>
    obtain ⟨g, cap, ys, rfl, hys, hgq, hgk, P3, Q3, W3⟩ := hcut
    have HYS := Lib.hid hys
    obtain ⟨hix, _, nd, hnd⟩ := HGI.out
    rw [← hys] at hix hnd
    replace HRES := Lib.hid (show RES = ys.modify IX (orN (decide (K0 = 3) || decide (K0 = 4)) (decide (K0 = 5))) by rw [HRES.out, hys])
    have hq3 := nflat_at hnd
    obtain ⟨t0, nb, tb⟩ := nd
    have c1 : wc.cell? ⟨g, IX * 3 + 1, none⟩ = some (.bool nb) := nrow_cells P3.out.row hq3.2.1
    have c2 : wc.cell? ⟨g, IX * 3 + 2, none⟩ = some (.bool tb) := nrow_cells P3.out.row hq3.2.2
    have f1 := P3.out.row.frozenAt (IX * 3 + 1)
    have f2 := P3.out.row.frozenAt (IX * 3 + 2)
    have hcap : ys.length ≤ cap := by
      rcases P3.out.row.2 with ⟨e, _⟩ | ⟨_, _, _, e, _, _, h, _⟩
      · cases e
      · injection e with _ _ e; omega
    have g0 : wc.cell? ⟨q, 0, none⟩ = some (.int .i64 K0) := Q3.out.a.cell 0 _ rfl
    have p0 : wc.cell? ⟨p, 0, none⟩ = some (.slice (some ⟨g, 0, none⟩) ys.length cap) := P3.out.box.cell 0 _ rfl
    have hgB := (P3.out.row.lt g rfl).1
    have HND := Lib.hid hnd
    have hi0 : (0 : Int) ≤ (IX : Int) := by omega
    have hi1 : (IX : Int) < (ys.length : Int) := by omega
    clear hys hq3 HYS HGI HG HI HLE hnd HQ P2 Q2 W2
    have FO := Lib.hid fun a b => P3.out.ored HND.out a b
    generalize ys.length = N at *
    by_cases k3 : K0 = 3
    · subst k3
      replace HRES := Lib.hid (show RES = ys.modify IX (orN true false) from HRES.out)
      cases nb <;> cases tb <;> (go_wp2_with fail) <;> go_end0 <;> exact ⟨rfl, ⟨_, by rw [HRES.out]; exact FO.out true false⟩, (W3.out.setCell (p := ⟨g, IX * 3 + 1, none⟩) hgB _).setCell (p := ⟨g, IX * 3 + 2, none⟩) hgB _, (Q3.out.b.far hgk _ _).far hgk _ _⟩
    by_cases k4 : K0 = 4
    · subst k4
      replace HRES := Lib.hid (show RES = ys.modify IX (orN true false) from HRES.out)
      cases nb <;> cases tb <;> (go_wp2_with fail) <;> go_end0 <;> exact ⟨rfl, ⟨_, by rw [HRES.out]; exact FO.out true false⟩, (W3.out.setCell (p := ⟨g, IX * 3 + 1, none⟩) hgB _).setCell (p := ⟨g, IX * 3 + 2, none⟩) hgB _, (Q3.out.b.far hgk _ _).far hgk _ _⟩
    by_cases k5 : K0 = 5
    · subst k5
      replace HRES := Lib.hid (show RES = ys.modify IX (orN false true) from HRES.out)
      cases nb <;> cases tb <;> (go_wp2_with fail) <;> go_end0 <;> exact ⟨rfl, ⟨_, by rw [HRES.out]; exact FO.out false true⟩, (W3.out.setCell (p := ⟨g, IX * 3 + 1, none⟩) hgB _).setCell (p := ⟨g, IX * 3 + 2, none⟩) hgB _, (Q3.out.b.far hgk _ _).far hgk _ _⟩
    replace HRES := Lib.hid (show RES = ys.modify IX (orN false false) by rw [HRES.out, dec_no k3, dec_no k4, dec_no k5]; rfl)
    have b3 : (K0 == 3) = false := beq_no k3
    have b4 : (K0 == 4) = false := beq_no k4
    have b5 : (K0 == 5) = false := beq_no k5
    clear k3 k4 k5
    cases nb <;> cases tb <;> (go_wp2_with fail) <;> go_end0 <;> exact ⟨rfl, ⟨_, by rw [HRES.out]; exact FO.out false false⟩, (W3.out.setCell (p := ⟨g, IX * 3 + 1, none⟩) hgB _).setCell (p := ⟨g, IX * 3 + 2, none⟩) hgB _, (Q3.out.b.far hgk _ _).far hgk _ _⟩
end Go.Proofs.YtainindkndjkbaaGreatDoor
namespace Go.Proofs.YtainindkndjkbaaGreatDoor
open Go.RowKit Ms

theorem allN_step (f : Nat) {m : List Nd} {i : Nat} {x : Nd} (h : m[i]? = some x) (l : List Need) : allN (f + 1) l (m.drop i) = allN (f + 1) (goN (allN f) (addN l x) ((casesOf x).map (·.2))) (m.drop (i + 1)) := by
  obtain ⟨hi, e⟩ := List.getElem?_eq_some_iff.1 h
  rw [List.drop_eq_getElem_cons hi, e]
  rfl
theorem cnt_step (f : Nat) {m : List Nd} {i : Nat} {x : Nd} (h : m[i]? = some x) : cnt (f + 1) (m.drop i) = 1 + (((casesOf x).map (·.2)).map (cnt f)).sum + cnt (f + 1) (m.drop (i + 1)) := by
  obtain ⟨hi, e⟩ := List.getElem?_eq_some_iff.1 h
  rw [List.drop_eq_getElem_cons hi, e, List.map_map]
  simp [cnt, Function.comp_def]

set_option maxRecDepth 100000 in
set_option maxHeartbeats 4000000 in
theorem nall_any (f : Nat) : ∀ (v : Value) (m : List Nd) (W0 w : World) (p : Nat) (u : Value) (xs : List Need), MsgAt f W0 v m → m.length ≤ 2000000 → NI W0.heap.size p u xs w → Below W0.heap.size W0 w → xs.length + cnt f m ≤ 1000000 →
    Calls Tryz.prog 47 #[.pointer (some ⟨p, 0, none⟩), v] w fun e w' => e = .returned (.tuple #[]) ∧ (∃ u', NI W0.heap.size p u' (allN f xs m) w') ∧ Below W0.heap.size W0 w' := by
  induction f with
  | zero =>
    intro v m W0 w p u xs h hl hP hb hc
    rcases h with ⟨rfl, A, cap, rfl⟩ | ⟨b, off, cap, _, hpos, _, _, hx⟩
    · rw [show allN 0 xs [] = xs from rfl]
      go_enter Tryz.func47, Tryz.ntmps47
      go_wp2_with fail
      go_loopw [10] (fun vi wr => vi = .int .i64 0 ∧ w = wr) (fun _ _ => 0)
      case atStart => exact ⟨rfl, rfl⟩
      case round =>
        obtain ⟨rfl, rfl⟩ := hrel
        go_wp2_with fail
        go_end0
        exact ⟨rfl, ⟨_, hP⟩, hb⟩
    · exact absurd (hx 0 _ (List.getElem?_eq_getElem hpos)) (by simp [NdC])
  | succ f ih =>
    intro v m W0 w p u xs h hl hP hb hc
    have IH := Lib.hid ih
    have AL := Lib.hid (allN_len f)
    obtain ⟨RES, hRES⟩ : ∃ RES, RES = allN (f + 1) xs m := ⟨_, rfl⟩
    rw [← hRES]
    have HRES := Lib.hid (show allN (f + 1) xs (m.drop 0) = RES by rw [List.drop_zero, hRES])
    have HCN := Lib.hid (show xs.length + cnt (f + 1) (m.drop 0) ≤ 1000000 by rw [List.drop_zero]; exact hc)
    clear hRES ih hc
    obtain ⟨A, cap, rfl, _, hel⟩ := h.spread
    have hcap : m.length ≤ cap ∨ m.length = 0 := by
      rcases h with ⟨e, _⟩ | ⟨_, _, _, e, _, q, _, _⟩
      · exact .inr (by rw [e]; rfl)
      · injection e with _ _ e; exact .inl (by omega)
    have HX := Lib.hid hel
    clear hel h
    have HP0 := Lib.hid (show ∃ u, NI W0.heap.size p u xs w from ⟨u, hP⟩)
    have HB0 := Lib.hid hb
    clear hP hb
    generalize hlm : m.length = L at *
    go_enter Tryz.func47, Tryz.ntmps47
    go_wp2_with fail
    go_loopw [10] (fun vi wr => ∃ (i : Nat) (ys : List Need), vi = .int .i64 (i : Int) ∧ i ≤ L ∧ Hid (∃ u, NI W0.heap.size p u ys wr) ∧ Hid (allN (f + 1) ys (m.drop i) = RES) ∧ Hid (ys.length + cnt (f + 1) (m.drop i) ≤ 1000000) ∧ Hid (Below W0.heap.size W0 wr)) (fun vi _ => L - (RowKit.intOf vi).toNat)
    case atStart => exact ⟨0, xs, rfl, Nat.zero_le _, HP0, HRES, HCN, HB0⟩
    case round =>
      obtain ⟨i, ys, rfl, hi, HP, HL, HC, HB⟩ := hrel
      clear HP0 HRES HCN HB0
      by_cases hlt : i < L
      · have hi' : (i : Int) < (L : Int) := by omega
        have hcc : L ≤ cap := by omega
        obtain ⟨x, hxi⟩ : ∃ x, m[i]? = some x := ⟨m[i]'(by omega), List.getElem?_eq_getElem (by omega)⟩
        obtain ⟨b, off, rfl, hnd⟩ := HX.out i x hxi
        obtain ⟨a0, n0, c0, p0, p1, p2, p3, p4, p5, p6⟩ := hnd
        have g0 := cell_keep p0 HB.out
        have g1 := cell_keep p1 HB.out
        have g2 := cell_keep p2 HB.out
        have g3 := cell_keep p3 HB.out
        have lb := World.block_lt_of_cell? _ _ g0
        have HL2 := Lib.hid ((allN_step f hxi ys).symm.trans HL.out)
        have HC2 := Lib.hid (show ys.length + (1 + (((casesOf x).map (·.2)).map (cnt f)).sum + cnt (f + 1) (m.drop (i + 1))) ≤ 1000000 by have := HC.out; rw [cnt_step f hxi] at this; exact this)
        have wi : IntKind.i64.wrap ((i : Int) + 1) = (i : Int) + 1 := IntWalk.i64_in _ (by omega)
        have HB1 := Lib.hid (HB.out.alloc (HB.out.size) (.cells #[.int .i64 x.kind, .string ⟨x.text.toArray⟩, .int .i64 x.off, .slice a0 n0 c0] 60))
        have XB := Lib.hid (Boxed.made wr #[.int .i64 x.kind, .string ⟨x.text.toArray⟩, .int .i64 x.off, .slice a0 n0 c0] 60)
        obtain ⟨u, hu⟩ := HP.out
        have CA := Lib.hid (nadd_any x a0 n0 c0 W0 _ p u ys wr.heap.size _ (hu.below (blw_alloc wr _)) HB1.out (by have := HC.out; omega) XB.out (fun e => by have := hu.box.lt; omega) (fun e => by have := (hu.row.lt _ e).2; omega))
        have HAL := Lib.hid (show (addN ys x).length ≤ ys.length + 1 from addN_len ys x)
        have h4 : CassAt f W0 (.slice a0 n0 c0) x.cases := p4
        have CC := Lib.hid fun (wx : World) (hb : Below W0.heap.size W0 wx) => mcases_to (f := f) x wx (cass_below h4 hb)
        have H4 := Lib.hid h4
        have lcs : (casesOf x).length ≤ 2000000 := by
          unfold casesOf; split
          · exact p6
          · simp
        generalize addN ys x = zs at *
        clear HL HC p0 p1 p2 p3 p4 p5 p6 h4 hxi hu HP XB
        go_wp2_with fail
        refine CA.out.mono ?_
        rintro e w1 ⟨rfl, hni, hb, hbx⟩
        have P1 := Lib.hid hni
        have W1 := Lib.hid hb
        have x0 : w1.cell? ⟨wr.heap.size, 0, none⟩ = some (.int .i64 x.kind) := hbx.cell 0 _ rfl
        have x1 : w1.cell? ⟨wr.heap.size, 1, none⟩ = some (.string ⟨x.text.toArray⟩) := hbx.cell 1 _ rfl
        have x2 : w1.cell? ⟨wr.heap.size, 2, none⟩ = some (.int .i64 x.off) := hbx.cell 2 _ rfl
        have x3 : w1.cell? ⟨wr.heap.size, 3, none⟩ = some (.slice a0 n0 c0) := hbx.cell 3 _ rfl
        have xl := hbx.lt
        clear hni hb hbx CA g0 g1 g2 g3 lb HB1 HB
        go_wp2_with fail
        refine (CC.out w1 W1.out).mono ?_
        rintro e w2 ⟨A1, C1, rfl, hto, hb⟩
        have P2 := Lib.hid (P1.out.elim fun u h => (show ∃ u, NI W0.heap.size p u zs w2 from ⟨u, h.below hb⟩))
        have W2 := Lib.hid (W1.out.trans (hb.mono W1.out.size))
        have HCS := hto W0 H4.out
        clear hto hb CC P1 W1 H4 x0 x1 x2 x3 xl
        generalize casesOf x = cs at *
        obtain ⟨A2, C2, e2, _, hel⟩ := HCS.spread
        injection e2 with e3 e4 e5
        subst e3 e5
        have hcapc : cs.length ≤ C1 ∨ cs.length = 0 := by
          rcases HCS with ⟨e, _⟩ | ⟨_, _, _, e, _, q, _, _⟩
          · exact .inr (by rw [e]; rfl)
          · injection e with _ _ e; exact .inl (by omega)
        have HEL := Lib.hid hel
        clear hel HCS
        have HL3 := Lib.hid (show allN (f + 1) (goN (allN f) zs ((cs.drop 0).map (·.2))) (m.drop (i + 1)) = RES by rw [List.drop_zero]; exact HL2.out)
        have HC3 := Lib.hid (show zs.length + ((((cs.drop 0).map (·.2)).map (cnt f)).sum + cnt (f + 1) (m.drop (i + 1))) ≤ 1000000 by rw [List.drop_zero]; have := HC2.out; have := HAL.out; omega)
        have HCSL := Lib.hid (rfl : cs.length = cs.length)
        clear HL2 HC2 HAL
        generalize hlc : cs.length = LC at *
        go_wp2_with fail
        go_loopw [20] (fun vk wx => ∃ (k : Nat) (ts : List Need), vk = .int .i64 (k : Int) ∧ k ≤ LC ∧ Hid (∃ u, NI W0.heap.size p u ts wx) ∧ Hid (allN (f + 1) (goN (allN f) ts ((cs.drop k).map (·.2))) (m.drop (i + 1)) = RES) ∧ Hid (ts.length + ((((cs.drop k).map (·.2)).map (cnt f)).sum + cnt (f + 1) (m.drop (i + 1))) ≤ 1000000) ∧ Hid (Below W0.heap.size W0 wx)) (fun vk _ => LC - (RowKit.intOf vk).toNat)
        case atStart => exact ⟨0, zs, rfl, Nat.zero_le _, P2, HL3, HC3, W2⟩
        case round =>
          obtain ⟨k, ts, rfl, hk, HP, HL, HC, HB⟩ := hrel
          clear P2 HL3 HC3 W2
          by_cases hltk : k < LC
          · have hk' : (k : Int) < (LC : Int) := by omega
            have hccc : LC ≤ C1 := by omega
            obtain ⟨y, hyk⟩ : ∃ y, cs[k]? = some y := ⟨cs[k]'(by omega), List.getElem?_eq_getElem (by omega)⟩
            obtain ⟨bb, oo, rfl, a9, n9, c9, q0, q1, q2, q3, q4⟩ := HEL.out k y hyk
            have j0 := cell_keep q0 HB.out
            have j1 := cell_keep q1 HB.out
            have lb := World.block_lt_of_cell? _ _ j0
            have hst := HL.out
            have hct := HC.out
            rw [cases_step hyk] at hst hct
            rw [List.map_cons, List.sum_cons] at hct
            have wk : IntKind.i64.wrap ((k : Int) + 1) = (k : Int) + 1 := IntWalk.i64_in _ (by omega)
            obtain ⟨u, hu⟩ := HP.out
            have CR := Lib.hid (IH.out (.slice a9 n9 c9) y.2 W0 _ p u ts q2 q4 (hu.below (blw_alloc wr (.cells #[.string ⟨y.1.toArray⟩, .slice a9 n9 c9] 62))) (HB.out.alloc HB.out.size _) (by omega))
            have HAL := AL.out ts y.2
            have HL4 := Lib.hid (show allN (f + 1) (goN (allN f) (allN f ts y.2) ((cs.drop (k + 1)).map (·.2))) (m.drop (i + 1)) = RES from hst)
            have HC4 := Lib.hid (show (allN f ts y.2).length + ((((cs.drop (k + 1)).map (·.2)).map (cnt f)).sum + cnt (f + 1) (m.drop (i + 1))) ≤ 1000000 by omega)
            generalize allN f ts y.2 = ts' at *
            clear HL HC HAL hst hct q0 q1 q2 q3 q4 hyk hu HP HB
            go_wp2_with fail
            refine CR.out.mono ?_
            rintro e w3 ⟨rfl, hni, hb⟩
            have P3 := Lib.hid hni
            have W3 := Lib.hid hb
            clear hni hb CR j0 j1 lb
            go_wp2_with fail
            go_roundw
            case rel => exact ⟨k + 1, ts', by go_num, by omega, P3, HL4, HC4, W3⟩
            case measure => simp [RowKit.intOf]; omega
          · have hk' : ¬ (k : Int) < (LC : Int) := by omega
            have hst := HL.out
            have hct := HC.out
            rw [List.drop_of_length_le (by omega)] at hst hct
            have HL4 := Lib.hid (show allN (f + 1) ts (m.drop (i + 1)) = RES from hst)
            have HC4 := Lib.hid (show ts.length + cnt (f + 1) (m.drop (i + 1)) ≤ 1000000 by simpa using hct)
            clear hst hct HL HC
            go_wp2_with fail
            go_roundw
            case rel => exact ⟨i + 1, ts, by go_num, by omega, HP, HL4, HC4, HB⟩
            case measure => simp [RowKit.intOf]; omega
      · have hi' : ¬ (i : Int) < (L : Int) := by omega
        have hst := HL.out
        rw [List.drop_of_length_le (by omega)] at hst
        have hst' : ys = RES := hst
        subst hst'
        clear hst HL
        go_wp2_with fail
        go_end0
        exact ⟨rfl, HP.out, HB.out⟩
end Go.Proofs.YtainindkndjkbaaGreatDoor
namespace Go.Proofs.YtainindkndjkbaaGreatDoor
open Go.RowKit Ms
/-- what is done at a Plural -/
def VisN (W0 : World) (p q : Nat) (us : Array Value) (N : Nd → List (List UInt8)) (g : Nat) (lb : Array Value) : Prop :=
  ∀ (f : Nat) (x : Nd) (a : Option Addr) (n c : Nat) (w : World) (s : List (List UInt8)) (v : Value), OutI W0.heap.size p q us s v w → Below W0.heap.size W0 w → CassAt f W0 (.slice a n c) x.cases → s.length ≤ 1000000000 → x.text.length ≤ 2000000 →
    Calls Tryz.prog g (#[.agg #[.int .i64 x.kind, .string ⟨x.text.toArray⟩, .int .i64 x.off, .slice a n c]] ++ lb) w fun e w' => e = .returned (.tuple #[]) ∧ ∃ v', OutI W0.heap.size p q us (s ++ N x) v' w' ∧ Turn p v w v' w'
/-- what is done at a case of it -/
def VisO (W0 : World) (p q : Nat) (us : Array Value) (O : Nd → List UInt8 → List (List UInt8)) (g : Nat) (lb : Array Value) : Prop :=
  ∀ (x : Nd) (a : Option Addr) (n c : Nat) (k : List UInt8) (w : World) (s : List (List UInt8)) (v : Value), OutI W0.heap.size p q us s v w → s.length ≤ 1000000000 → x.text.length ≤ 2000000 → k.length ≤ 2000000 →
    Calls Tryz.prog g (#[.agg #[.int .i64 x.kind, .string ⟨x.text.toArray⟩, .int .i64 x.off, .slice a n c], .string ⟨k.toArray⟩] ++ lb) w fun e w' => e = .returned (.tuple #[]) ∧ ∃ v', OutI W0.heap.size p q us (s ++ O x k) v' w' ∧ Turn p v w v' w'

set_option maxRecDepth 100000 in
set_option maxHeartbeats 4000000 in
theorem each_any {N : Nd → List (List UInt8)} {O : Nd → List UInt8 → List (List UInt8)} {gN gO : Nat} {lN lO : Array Value} (eN : ∀ args w, (callFunc gN args).run Tryz.prog w = .ok (.enter gN args) w) (eO : ∀ args w, (callFunc gO args).run Tryz.prog w = .ok (.enter gO args) w)
    (hNl : ∀ x, (N x).length ≤ 5) (hOl : ∀ x k, (O x k).length ≤ 1) (W0 : World) (p q : Nat) (us : Array Value) (VN : VisN W0 p q us N gN lN) (VO : VisO W0 p q us O gO lO) (f : Nat) :
    ∀ (v : Value) (m : List Nd) (w : World) (s : List (List UInt8)) (u : Value), MsgAt f W0 v m → m.length ≤ 2000000 → OutI W0.heap.size p q us s u w → Below W0.heap.size W0 w → s.length + cnt f m * 2000005 ≤ 1000000000 →
    Calls Tryz.prog 31 #[v, .func (.func gN) #[] lN, .func (.func gO) #[] lO] w fun e w' => e = .returned (.tuple #[]) ∧ ∃ u', OutI W0.heap.size p q us (s ++ eachM N O f m) u' w' ∧ Turn p u w u' w' ∧ (s ++ eachM N O f m).length ≤ s.length + cnt f m * 2000005 := by
  induction f with
  | zero =>
    intro v m w s u h hl hO hb hc
    rcases h with ⟨rfl, A, cap, rfl⟩ | ⟨b, off, cap, _, hpos, _, _, hx⟩
    · rw [show s ++ eachM N O 0 [] = s from List.append_nil s]
      go_enter Tryz.func31, Tryz.ntmps31
      go_wp2_with fail
      go_loopw [12] (fun vi wr => vi = .int .i64 0 ∧ w = wr) (fun _ _ => 0)
      case atStart => exact ⟨rfl, rfl⟩
      case round =>
        obtain ⟨rfl, rfl⟩ := hrel
        go_wp2_with fail
        go_end0
        exact ⟨rfl, _, hO, Turn.below (Below.refl _ _), Nat.le_add_right _ _⟩
    · exact absurd (hx 0 _ (List.getElem?_eq_getElem hpos)) (by simp [NdC])
  | succ f ih =>
    intro v m w s u h hl hO hb hc
    have IH := Lib.hid ih
    have HN := Lib.hid VN
    have HOO := Lib.hid VO
    obtain ⟨RES, hRES⟩ : ∃ RES, RES = s ++ eachM N O (f + 1) m := ⟨_, rfl⟩
    obtain ⟨TT, hTT⟩ : ∃ TT, TT = s.length + cnt (f + 1) m * 2000005 := ⟨_, rfl⟩
    rw [← hRES, ← hTT]
    have hT9 : TT ≤ 1000000000 := by omega
    have HRES := Lib.hid (show s ++ eachM N O (f + 1) (m.drop 0) = RES by rw [List.drop_zero, hRES])
    have HCN := Lib.hid (show s.length + cnt (f + 1) (m.drop 0) * 2000005 ≤ TT by rw [List.drop_zero, hTT]; exact Nat.le_refl _)
    clear hRES ih hc hTT VN VO
    obtain ⟨A, cap, rfl, _, hel⟩ := h.spread
    have hcap : m.length ≤ cap ∨ m.length = 0 := by
      rcases h with ⟨e, _⟩ | ⟨_, _, _, e, _, q, _, _⟩
      · exact .inr (by rw [e]; rfl)
      · injection e with _ _ e; exact .inl (by omega)
    have HX := Lib.hid hel
    clear hel h
    have HO0 := Lib.hid hO
    have HB0 := Lib.hid hb
    clear hO hb
    generalize hlm : m.length = L at *
    go_enter Tryz.func31, Tryz.ntmps31
    go_wp2_with fail
    go_loopw [12] (fun vi wr => ∃ (i : Nat) (s1 : List (List UInt8)) (u1 : Value), vi = .int .i64 (i : Int) ∧ i ≤ L ∧ Hid (OutI W0.heap.size p q us s1 u1 wr) ∧ Hid (s1 ++ eachM N O (f + 1) (m.drop i) = RES) ∧ Hid (s1.length + cnt (f + 1) (m.drop i) * 2000005 ≤ TT) ∧ Hid (Turn p u w u1 wr)) (fun vi _ => L - (RowKit.intOf vi).toNat)
    case atStart => exact ⟨0, s, u, rfl, Nat.zero_le _, HO0, HRES, HCN, Lib.hid (Turn.below (Below.refl _ _))⟩
    case round =>
      obtain ⟨i, s1, u1, rfl, hi, HP, HL, HC, HT⟩ := hrel
      clear HRES HCN
      by_cases hlt : i < L
      · have hi' : (i : Int) < (L : Int) := by omega
        have hcc : L ≤ cap := by omega
        have HBr := Lib.hid (HO0.out.base HT.out HB0.out)
        obtain ⟨x, hxi⟩ : ∃ x, m[i]? = some x := ⟨m[i]'(by omega), List.getElem?_eq_getElem (by omega)⟩
        obtain ⟨b, off, rfl, hnd⟩ := HX.out i x hxi
        obtain ⟨a0, n0, c0, p0, p1, p2, p3, p4, p5, p6⟩ := hnd
        have g0 := cell_keep p0 HBr.out
        have g1 := cell_keep p1 HBr.out
        have g2 := cell_keep p2 HBr.out
        have g3 := cell_keep p3 HBr.out
        have lb := World.block_lt_of_cell? _ _ g0
        have wi : IntKind.i64.wrap ((i : Int) + 1) = (i : Int) + 1 := IntWalk.i64_in _ (by omega)
        have h4 : CassAt f W0 (.slice a0 n0 c0) x.cases := p4
        have H4 := Lib.hid h4
        have lcs : (casesOf x).length ≤ 2000000 := by
          unfold casesOf; split
          · exact p6
          · simp
        have hst := HL.out
        rw [each_step f hxi] at hst
        have hct := HC.out
        rw [cnt_step f hxi] at hct
        have hNx := hNl x
        obtain ⟨Z, hZ⟩ : ∃ Z, Z = (x.kind == 4) := ⟨_, rfl⟩
        have HZ := Lib.hid hZ
        have XBX := Lib.hid (Boxed.made wr #[.int .i64 x.kind, .string ⟨x.text.toArray⟩, .int .i64 x.off, .slice a0 n0 c0] 60)
        have XO := Lib.hid (HP.out.below (blw_alloc wr (.cells #[.int .i64 x.kind, .string ⟨x.text.toArray⟩, .int .i64 x.off, .slice a0 n0 c0] 60)))
        have XT := Lib.hid (HT.out.trans (Turn.below (blw_alloc wr (.cells #[.int .i64 x.kind, .string ⟨x.text.toArray⟩, .int .i64 x.off, .slice a0 n0 c0] 60))))
        have XQ := Lib.hid (show wr.heap.size ≠ p ∧ ∀ k, u1.ownBlock = some k → k < wr.heap.size from ⟨fun e => by have := HP.out.box.lt; omega, fun k e => (HP.out.row.lt k e).2⟩)
        have CNh := Lib.hid fun w1 (hb : Below W0.heap.size W0 w1) (ho : OutI W0.heap.size p q us s1 u1 w1) => HN.out f x a0 n0 c0 w1 s1 u1 ho hb h4 (by omega) p5
        have HBa := Lib.hid (HBr.out.alloc HBr.out.size (.cells #[.int .i64 x.kind, .string ⟨x.text.toArray⟩, .int .i64 x.off, .slice a0 n0 c0] 60))
        clear HL HC HP HT HBr p0 p1 p2 p3 p4 h4 hxi hZ
        go_upto_if 18 with fail
        have hz18 : (x.kind == 4) = Z := HZ.out.symm
        rw [hz18]
        clear hz18
        generalize World.alloc wr (.cells #[.int .i64 x.kind, .string ⟨x.text.toArray⟩, .int .i64 x.off, .slice a0 n0 c0] 60) = w1 at *
        generalize wr.heap.size = q0 at *
        have hq0 : q0 ≠ p := XQ.out.1
        have XK := Lib.hid (show Boxed w1 q0 #[.int .i64 x.kind, .string ⟨x.text.toArray⟩, .int .i64 x.off, .slice a0 n0 c0] ∧ u1.ownBlock ≠ some q0 from ⟨XBX.out, fun e => by have := XQ.out.2 _ e; omega⟩)
        clear XBX XQ g0 g1 g2 g3 lb
        go_cut [12] from 18 to 21 (fun s12 wx => s12 = .int .i64 (i : Int) ∧ ∃ s2 u2, Hid (OutI W0.heap.size p q us s2 u2 wx) ∧ Hid (s2 = s1 ++ (if x.kind = 4 then N x else [])) ∧ Hid (Boxed wx q0 #[.int .i64 x.kind, .string ⟨x.text.toArray⟩, .int .i64 x.off, .slice a0 n0 c0] ∧ u2.ownBlock ≠ some q0) ∧ Hid (Below W0.heap.size W0 wx) ∧ Hid (Turn p u w u2 wx))
        case first =>
          have x0 := XK.out.1.cell 0 _ rfl
          have x1 := XK.out.1.cell 1 _ rfl
          have x2 := XK.out.1.cell 2 _ rfl
          have x3 := XK.out.1.cell 3 _ rfl
          have xl := XK.out.1.lt
          cases Z with
          | true =>
            have k4 : x.kind = 4 := by have := HZ.out; simpa using this.symm
            have CNi := Lib.hid (CNh.out w1 HBa.out XO.out)
            have HI := Lib.hid (show (if x.kind = 4 then N x else []) = N x from if_pos k4)
            clear k4 CNh HZ
            go_wp2_with (go_at_fn gN; refine CNi.out.mono ?_; rintro e w2 ⟨rfl, u2, ho, ht⟩; have PO := Lib.hid ho; have PT := Lib.hid ht; have PK := Lib.hid (ht.keep XK.out hq0); have PB := Lib.hid (XO.out.base ht HBa.out); clear ho ht)
            go_meet
            exact ⟨rfl, _, _, PO, by rw [HI.out]; exact Lib.hid rfl, PK, PB, Lib.hid (XT.out.trans PT.out)⟩
          | false =>
            have k4 : ¬ x.kind = 4 := by have := HZ.out; simpa using this.symm
            have HI := Lib.hid (show (if x.kind = 4 then N x else []) = [] from if_neg k4)
            clear k4 CNh HZ
            go_wp2_with fail
            go_meet
            exact ⟨rfl, _, _, XO, by rw [HI.out, List.append_nil]; exact Lib.hid rfl, XK, HBa, XT⟩
        case rest =>
        obtain ⟨rfl, s2, u2, PO, HE, PK, PB, PT⟩ := hcut
        have hs2 : s2.length ≤ s1.length + 5 := by
          rw [HE.out]
          split <;> simp <;> omega
        have HL2 := Lib.hid (show s2 ++ (((casesOf x).flatMap fun y => (if x.kind = 4 then O x y.1 else []) ++ eachM N O f y.2) ++ eachM N O (f + 1) (m.drop (i + 1))) = RES by rw [HE.out, List.append_assoc]; exact hst)
        clear HE hst CNh XK XO XT HBa hNx
        have x0 := PK.out.1.cell 0 _ rfl
        have x1 := PK.out.1.cell 1 _ rfl
        have x2 := PK.out.1.cell 2 _ rfl
        have x3 := PK.out.1.cell 3 _ rfl
        have xl := PK.out.1.lt
        have CC := Lib.hid (mcases_to (f := f) x wc (cass_below H4.out PB.out))
        go_wp2_with fail
        refine CC.out.mono ?_
        rintro e w3 ⟨A1, C1, rfl, hto, hb⟩
        have O3 := Lib.hid (PO.out.below hb)
        have K3 := Lib.hid ((Turn.below (p := p) (v := u2) hb).keep PK.out hq0)
        have T3 := Lib.hid (PT.out.trans (Turn.below hb))
        have B3 := Lib.hid (PO.out.base (Turn.below hb) PB.out)
        have HCS := hto W0 H4.out
        clear hto hb CC PO PK PT PB H4 x0 x1 x2 x3 xl
        have HGF := Lib.hid (rfl : (fun y : List UInt8 × List Nd => (if x.kind = 4 then O x y.1 else []) ++ eachM N O f y.2) = fun y => (if x.kind = 4 then O x y.1 else []) ++ eachM N O f y.2)
        generalize casesOf x = cs at *
        obtain ⟨A2, C2, e2, _, hel⟩ := HCS.spread
        injection e2 with e3 e4 e5
        subst e3 e5
        have hcapc : cs.length ≤ C1 ∨ cs.length = 0 := by
          rcases HCS with ⟨e, _⟩ | ⟨_, _, _, e, _, q, _, _⟩
          · exact .inr (by rw [e]; rfl)
          · injection e with _ _ e; exact .inl (by omega)
        have HEL := Lib.hid hel
        clear hel HCS HGF
        have HL3 := Lib.hid (show s2 ++ (((cs.drop 0).flatMap fun y => (if x.kind = 4 then O x y.1 else []) ++ eachM N O f y.2) ++ eachM N O (f + 1) (m.drop (i + 1))) = RES by rw [List.drop_zero]; exact HL2.out)
        have HC3 := Lib.hid (show s2.length + (cs.length - 0) + ((((cs.drop 0).map (·.2)).map (cnt f)).sum + cnt (f + 1) (m.drop (i + 1))) * 2000005 ≤ TT by rw [List.drop_zero]; omega)
        clear HL2 hct hs2
        generalize hlc : cs.length = LC at *
        go_wp2_with fail
        go_loopw [25] (fun vk wx => ∃ (k : Nat) (s4 : List (List UInt8)) (u4 : Value), vk = .int .i64 (k : Int) ∧ k ≤ LC ∧ Hid (OutI W0.heap.size p q us s4 u4 wx) ∧ Hid (s4 ++ (((cs.drop k).flatMap fun y => (if x.kind = 4 then O x y.1 else []) ++ eachM N O f y.2) ++ eachM N O (f + 1) (m.drop (i + 1))) = RES) ∧ Hid (s4.length + (LC - k) + ((((cs.drop k).map (·.2)).map (cnt f)).sum + cnt (f + 1) (m.drop (i + 1))) * 2000005 ≤ TT) ∧ Hid (Boxed wx q0 #[.int .i64 x.kind, .string ⟨x.text.toArray⟩, .int .i64 x.off, .slice a0 n0 c0] ∧ u4.ownBlock ≠ some q0) ∧ Hid (Below W0.heap.size W0 wx) ∧ Hid (Turn p u w u4 wx)) (fun vk _ => LC - (RowKit.intOf vk).toNat)
        case atStart => exact ⟨0, s2, u2, rfl, Nat.zero_le _, O3, HL3, HC3, K3, B3, T3⟩
        case round =>
          obtain ⟨k, s4, u4, rfl, hk, HP, HL, HC, HK, HB, HT⟩ := hrel
          clear HL3 HC3 O3 K3 B3 T3
          by_cases hltk : k < LC
          · have hk' : (k : Int) < (LC : Int) := by omega
            have hccc : LC ≤ C1 := by omega
            obtain ⟨y, hyk⟩ : ∃ y, cs[k]? = some y := ⟨cs[k]'(by omega), List.getElem?_eq_getElem (by omega)⟩
            obtain ⟨bb, oo, rfl, a9, n9, c9, q0', q1, q2, q3, q4⟩ := HEL.out k y hyk
            have j0 := cell_keep q0' HB.out
            have j1 := cell_keep q1 HB.out
            have lb := World.block_lt_of_cell? _ _ j0
            have hst := HL.out
            have hct := HC.out
            rw [flat_step hyk] at hst
            rw [cases_step hyk, List.map_cons, List.sum_cons] at hct
            have wk : IntKind.i64.wrap ((k : Int) + 1) = (k : Int) + 1 := IntWalk.i64_in _ (by omega)
            have x0 := HK.out.1.cell 0 _ rfl
            have x1 := HK.out.1.cell 1 _ rfl
            have x2 := HK.out.1.cell 2 _ rfl
            have x3 := HK.out.1.cell 3 _ rfl
            have xl := HK.out.1.lt
            have XBX := Lib.hid (Boxed.made wr #[.string ⟨y.1.toArray⟩, .slice a9 n9 c9] 62)
            have XO := Lib.hid (HP.out.below (blw_alloc wr (.cells #[.string ⟨y.1.toArray⟩, .slice a9 n9 c9] 62)))
            have XT := Lib.hid (HT.out.trans (Turn.below (blw_alloc wr (.cells #[.string ⟨y.1.toArray⟩, .slice a9 n9 c9] 62))))
            have XK := Lib.hid ((Turn.below (p := p) (v := u4) (blw_alloc wr (.cells #[.string ⟨y.1.toArray⟩, .slice a9 n9 c9] 62))).keep HK.out hq0)
            have XB := Lib.hid (HB.out.alloc HB.out.size (.cells #[.string ⟨y.1.toArray⟩, .slice a9 n9 c9] 62))
            have XQ := Lib.hid (show wr.heap.size ≠ p ∧ u4.ownBlock ≠ some wr.heap.size from ⟨fun e => by have := HP.out.box.lt; omega, fun e => by have := (HP.out.row.lt _ e).2; omega⟩)
            have COh := Lib.hid fun w1 (ho : OutI W0.heap.size p q us s4 u4 w1) => HOO.out x a0 n0 c0 y.1 w1 s4 u4 ho (by omega) p5 q3
            have hOx := hOl x y.1
            have Q2 := Lib.hid q2
            clear HL HC HP HT HK HB q0' q1 q2 hyk
            go_upto_if 31 with fail
            have hz31 : (x.kind == 4) = Z := HZ.out.symm
            rw [hz31]
            clear hz31
            generalize World.alloc wr (.cells #[.string ⟨y.1.toArray⟩, .slice a9 n9 c9] 62) = w1 at *
            generalize wr.heap.size = r0 at *
            have hr0 : r0 ≠ p := XQ.out.1
            have YK := Lib.hid (show Boxed w1 r0 #[.string ⟨y.1.toArray⟩, .slice a9 n9 c9] ∧ u4.ownBlock ≠ some r0 from ⟨XBX.out, XQ.out.2⟩)
            clear XBX XQ j0 j1 lb x0 x1 x2 x3 xl
            go_cut [25] from 31 to 36 (fun s25 wx => s25 = .int .i64 (k : Int) ∧ ∃ s5 u5, Hid (OutI W0.heap.size p q us s5 u5 wx) ∧ Hid (s5 = s4 ++ (if x.kind = 4 then O x y.1 else [])) ∧ Hid (Boxed wx q0 #[.int .i64 x.kind, .string ⟨x.text.toArray⟩, .int .i64 x.off, .slice a0 n0 c0] ∧ u5.ownBlock ≠ some q0) ∧ Hid (Boxed wx r0 #[.string ⟨y.1.toArray⟩, .slice a9 n9 c9] ∧ u5.ownBlock ≠ some r0) ∧ Hid (Below W0.heap.size W0 wx) ∧ Hid (Turn p u w u5 wx))
            case first =>
              have x0 := XK.out.1.cell 0 _ rfl
              have x1 := XK.out.1.cell 1 _ rfl
              have x2 := XK.out.1.cell 2 _ rfl
              have x3 := XK.out.1.cell 3 _ rfl
              have xl := XK.out.1.lt
              have j0 := YK.out.1.cell 0 _ rfl
              cases Z with
              | true =>
                have k4 : x.kind = 4 := by have := HZ.out; simpa using this.symm
                have COi := Lib.hid (COh.out w1 XO.out)
                have HI := Lib.hid (show (if x.kind = 4 then O x y.1 else []) = O x y.1 from if_pos k4)
                clear k4 COh HZ
                go_wp2_with (go_at_fn gO; refine COi.out.mono ?_; rintro e w2 ⟨rfl, u5, ho, ht⟩; have PO := Lib.hid ho; have PT := Lib.hid ht; have PK := Lib.hid (ht.keep XK.out hq0); have PY := Lib.hid (ht.keep YK.out hr0); have PB := Lib.hid (XO.out.base ht XB.out); clear ho ht)
                go_meet
                exact ⟨rfl, _, _, PO, by rw [HI.out]; exact Lib.hid rfl, PK, PY, PB, Lib.hid (XT.out.trans PT.out)⟩
              | false =>
                have k4 : ¬ x.kind = 4 := by have := HZ.out; simpa using this.symm
                have HI := Lib.hid (show (if x.kind = 4 then O x y.1 else []) = [] from if_neg k4)
                clear k4 COh HZ
                go_wp2_with fail
                go_meet
                exact ⟨rfl, _, _, XO, by rw [HI.out, List.append_nil]; exact Lib.hid rfl, XK, YK, XB, XT⟩
            case rest =>
            obtain ⟨rfl, s5, u5, PO, HE, PK, PY, PB, PT⟩ := hcut
            have hs5 : s5.length ≤ s4.length + 1 := by
              rw [HE.out]
              split <;> simp <;> omega
            have HL5 := Lib.hid (show s5 ++ eachM N O f y.2 ++ (((cs.drop (k + 1)).flatMap fun y => (if x.kind = 4 then O x y.1 else []) ++ eachM N O f y.2) ++ eachM N O (f + 1) (m.drop (i + 1))) = RES by rw [← hst, HE.out]; simp only [List.append_assoc])
            clear HE hst COh XK YK XO XT XB hOx
            have j1 := PY.out.1.cell 1 _ rfl
            have jl := PY.out.1.lt
            have CR := Lib.hid (IH.out (.slice a9 n9 c9) y.2 wc s5 u5 Q2.out q4 PO.out PB.out (by omega))
            generalize hR : s5 ++ eachM N O f y.2 = s6 at *
            go_wp2_with fail
            refine CR.out.mono ?_
            rintro e w4 ⟨rfl, u6, ho, ht, hln⟩
            have O4 := Lib.hid ho
            have K4 := Lib.hid (ht.keep PK.out hq0)
            have T4 := Lib.hid (PT.out.trans ht)
            have B4 := Lib.hid (PO.out.base ht PB.out)
            have HC5 := Lib.hid (show s6.length + (LC - (k + 1)) + ((((cs.drop (k + 1)).map (·.2)).map (cnt f)).sum + cnt (f + 1) (m.drop (i + 1))) * 2000005 ≤ TT by omega)
            clear ho ht hln CR PO PK PT PB PY j1 jl hR hct hs5 Q2
            go_wp2_with fail
            go_roundw
            case rel => exact ⟨k + 1, s6, u6, by go_num, by omega, O4, HL5, HC5, K4, B4, T4⟩
            case measure => simp [RowKit.intOf]; omega
          · have hk' : ¬ (k : Int) < (LC : Int) := by omega
            have hst := HL.out
            have hct := HC.out
            rw [List.drop_of_length_le (by omega)] at hst hct
            have HL4 := Lib.hid (show s4 ++ eachM N O (f + 1) (m.drop (i + 1)) = RES from hst)
            have HC4 := Lib.hid (show s4.length + cnt (f + 1) (m.drop (i + 1)) * 2000005 ≤ TT by
              have e : (([] : List (List UInt8 × List Nd)).map (·.2)).map (cnt f) = [] := rfl
              rw [e, List.sum_nil] at hct
              omega)
            clear hst hct HL HC
            go_wp2_with fail
            go_roundw
            case rel => exact ⟨i + 1, s4, u4, by go_num, by omega, HP, HL4, HC4, HT⟩
            case measure => simp [RowKit.intOf]; omega
      · have hi' : ¬ (i : Int) < (L : Int) := by omega
        have hst := HL.out
        have hct := HC.out
        rw [List.drop_of_length_le (by omega)] at hst hct
        have hst' : s1 = RES := by rw [← hst]; exact (List.append_nil s1).symm
        subst hst'
        clear hst
        go_wp2_with fail
        go_end0
        exact ⟨rfl, _, HP.out, HT.out, by omega⟩
end Go.Proofs.YtainindkndjkbaaGreatDoor
namespace Go.Proofs.YtainindkndjkbaaGreatDoor
open Go.RowKit
namespace Ms
/-- an arg -/
structure Ag where
  name : List UInt8
  num : Bool
  co : Int
  sc : Int
  txt : List UInt8
def acells (a : Ag) : List Value := [.string ⟨a.name.toArray⟩, .bool a.num, .int .i64 a.co, .int .i64 a.sc, .string ⟨a.txt.toArray⟩]
def afl (l : List Ag) : List Value := l.flatMap acells
/-- the arg of a name -/
def ofN (n : Need) : Ag := ⟨n.1, n.2.1, 0, 0, []⟩
def nafl (l : List Need) : List Value := afl (l.map ofN)
theorem afl_add (l : List Ag) (a : Ag) : afl (l ++ [a]) = afl l ++ acells a := by unfold afl; rw [List.flatMap_append]; simp
theorem nafl_add (l : List Need) (n : Need) : nafl (l ++ [n]) = nafl l ++ acells (ofN n) := by unfold nafl; rw [List.map_append]; exact afl_add _ _
theorem afl_at : ∀ {l : List Ag} {j : Nat} {n : Ag}, l[j]? = some n → (afl l)[j * 5]? = some (.string ⟨n.name.toArray⟩) ∧ (afl l)[j * 5 + 1]? = some (.bool n.num) ∧ (afl l)[j * 5 + 2]? = some (.int .i64 n.co) ∧ (afl l)[j * 5 + 3]? = some (.int .i64 n.sc) ∧ (afl l)[j * 5 + 4]? = some (.string ⟨n.txt.toArray⟩) := by
  intro l
  induction l with
  | nil => intro j n h; simp at h
  | cons a l ih =>
    intro j n h
    cases j with
    | zero => simp at h; subst h; exact ⟨rfl, rfl, rfl, rfl, rfl⟩
    | succ j =>
      have h' := ih (j := j) (n := n) (by simpa using h)
      have e : (j + 1) * 5 = j * 5 + 1 + 1 + 1 + 1 + 1 := by omega
      rw [e]
      exact h'
theorem nafl_yes : ∀ {l : List Need} {j : Nat} {n : Need} (b : Bool), l[j]? = some n → (nafl l).set (j * 5 + 1) (.bool true) = nafl (l.modify j (orN true b)) := by
  intro l
  induction l with
  | nil => intro j n b h; simp at h
  | cons x l ih =>
    intro j n b h
    cases j with
    | zero => simp at h; subst h; show _ = acells (ofN (orN true b x)) ++ nafl l; unfold orN ofN; rw [Bool.or_true]; rfl
    | succ j =>
      have h' := ih (j := j) (n := n) b (by simpa using h)
      have e : (j + 1) * 5 = j * 5 + 1 + 1 + 1 + 1 + 1 := by omega
      rw [e, List.modify_succ_cons]
      show _ = acells (ofN x) ++ nafl (l.modify j (orN true b))
      rw [← h']
      rfl
theorem nafl_no : ∀ (l : List Need) (j : Nat) (b : Bool), nafl (l.modify j (orN false b)) = nafl l := by
  intro l
  induction l with
  | nil => intro j b; simp
  | cons x l ih =>
    intro j b
    cases j with
    | zero => show acells (ofN (orN false b x)) ++ nafl l = acells (ofN x) ++ nafl l; unfold orN ofN; rw [Bool.or_false]
    | succ j =>
      rw [List.modify_succ_cons]
      show acells (ofN x) ++ nafl (l.modify j (orN false b)) = _
      rw [ih]; rfl
end Ms
open Ms
def ArgC (w : World) (b k : Nat) (a : Ag) : Prop := w.cell? ⟨b, k, none⟩ = some (.string ⟨a.name.toArray⟩) ∧ w.cell? ⟨b, k + 1, none⟩ = some (.bool a.num) ∧ w.cell? ⟨b, k + 2, none⟩ = some (.int .i64 a.co) ∧ w.cell? ⟨b, k + 3, none⟩ = some (.int .i64 a.sc) ∧ w.cell? ⟨b, k + 4, none⟩ = some (.string ⟨a.txt.toArray⟩)
abbrev ArgsAt := SlAt 5 ArgC
theorem ArgC.below {w w' : World} {b k : Nat} {n : Ag} (h : ArgC w b k n) (hb : Below w.heap.size w w') : ArgC w' b k n := ⟨cell_keep h.1 hb, cell_keep h.2.1 hb, cell_keep h.2.2.1 hb, cell_keep h.2.2.2.1 hb, cell_keep h.2.2.2.2 hb⟩
theorem args_below {w w' : World} {v : Value} {l : List Ag} (h : ArgsAt w v l) (hb : Below w.heap.size w w') : ArgsAt w' v l := h.imp fun _ _ _ _ q => q.below hb
theorem args_of_row {w : World} {base : Nat} {e : TypeId} {v : Value} {l : List Ag} (h : w.ownsRow base e 5 v l.length (afl l)) : ArgsAt w v l := by
  have h' := h.2
  rcases h' with ⟨rfl, h0⟩ | ⟨g, cap, cur, rfl, _, _, h1, h2, _, _⟩
  · exact .inl ⟨List.length_eq_zero_iff.1 h0, none, 0, rfl⟩
  · by_cases h0 : l.length = 0
    · exact .inl ⟨List.length_eq_zero_iff.1 h0, _, _, by rw [h0]⟩
    · refine .inr ⟨g, 0, cap, rfl, by omega, h1, h2, fun j x hx => ?_⟩
      rw [Nat.zero_add]
      have q := afl_at hx
      exact ⟨nrow_cells h q.1, nrow_cells h q.2.1, nrow_cells h q.2.2.1, nrow_cells h q.2.2.2.1, nrow_cells h q.2.2.2.2⟩
/-- the row of names' args that grows, beside a block -/
structure AI (B q : Nat) (bx : Array Value) (u : Value) (xs : List Need) (W : World) : Prop where
  row : W.ownsRow B 39 5 u xs.length (nafl xs)
  box : Boxed W q bx
  ne : u.ownBlock ≠ some q
section
variable {B q : Nat} {bx : Array Value} {u : Value} {xs : List Need} {A C : World}
theorem AI.below (h : AI B q bx u xs A) (hb : Below A.heap.size A C) : AI B q bx u xs C :=
  ⟨h.row.kept (row := none) ⟨hb.os, hb.tape, hb.output, hb.size, fun k hk _ => hb.block k hk⟩ (by cases u.ownBlock <;> simp), h.box.below hb, h.ne⟩
theorem AI.app (h : AI B q bx u xs A) {v' : Value} {t : List UInt8} (ho : C.ownsRow B 39 5 v' (xs.length + 1) (nafl xs ++ acells ⟨t, false, 0, 0, []⟩)) (hg : A.grownBy C u.ownBlock) (hat : v'.ownBlock = u.ownBlock ∨ v'.ownBlock = some A.heap.size) : AI B q bx v' (xs ++ [(t, false, false)]) C := by
  refine ⟨by rw [List.length_append, nafl_add]; exact ho, nboxed_grown h.box hg (fun e => h.ne e.symm), ?_⟩
  rcases hat with e | e
  · rw [e]; exact h.ne
  · rw [e]; intro g; injection g with g; have := h.box.lt; omega
theorem AI.yes {g cap : Nat} (h : AI B q bx (.slice (some ⟨g, 0, none⟩) xs.length cap) xs A) {j : Nat} {n : Need} (hj : xs[j]? = some n) (b : Bool) : AI B q bx (.slice (some ⟨g, 0, none⟩) xs.length cap) (xs.modify j (orN true b)) (A.setCell ⟨g, j * 5 + 1, none⟩ (.bool true)) := by
  have hgq : g ≠ q := fun e => h.ne (by rw [e]; rfl)
  have h1 := (h.row.stored (j * 5 + 1) (.bool true)).1
  rw [nafl_yes b hj] at h1
  exact ⟨by rw [modify_len]; exact h1, h.box.far hgq _ _, h.ne⟩
theorem AI.no (h : AI B q bx u xs A) (j : Nat) (b : Bool) : AI B q bx u (xs.modify j (orN false b)) A := ⟨by rw [modify_len, nafl_no]; exact h.row, h.box, h.ne⟩
theorem AI.isSlice (h : AI B q bx u xs A) : ∃ a c, u = .slice a xs.length c := by
  rcases h.row.2 with ⟨rfl, h0⟩ | ⟨g, cap, cur, rfl, _⟩
  · exact ⟨none, 0, by rw [h0]⟩
  · exact ⟨_, _, rfl⟩
end
theorem ncells_at (W : World) (xs : List Value) (t : TypeId) (q : Nat) (hq : W.heap.size = q) : ∀ j u, xs[j]? = some u → (W.alloc (.cells xs.toArray t)).cell? ((⟨q, 0, none⟩ : Addr).add j) = some u := by
  subst hq; exact nboxed_add (Boxed.made W xs.toArray t)
theorem acells_one (a : Ag) : ∀ u ∈ acells a, u.oneCell' = true := by
  intro u hu
  simp [acells] at hu
  rcases hu with rfl | rfl | rfl | rfl | rfl <;> rfl
theorem nrow_mono {w : World} {base base' n k : Nat} {e : TypeId} {v : Value} {xs : List Value} (h : w.ownsRow base e k v n xs) (hb : base' ≤ base) : w.ownsRow base' e k v n xs := by
  refine ⟨h.1, ?_⟩
  rcases h.2 with h | ⟨g, cap, cur, e1, e2, e3⟩
  · exact .inl h
  · exact .inr ⟨g, cap, cur, e1, Nat.le_trans hb e2, e3⟩
theorem infoArg : (Tryz.prog.info? 39).map (fun i => (i.zero, i.size, i.bytes)) = some (some (.agg #[.string ByteArray.empty, .bool false, .int .i64 0, .int .i64 0, .string ByteArray.empty]), 5, 56) := by kernel_rfl
end Go.Proofs.YtainindkndjkbaaGreatDoor
namespace Go.Proofs.YtainindkndjkbaaGreatDoor
open Go.RowKit Ms
namespace Ms
/-- what is wrong with a message, or with rules -/
def covE (f : Nat) (m : List Nd) (S : List (List UInt8)) : Int := if msgE f m ≠ 0 then msgE f m else if Rul.setOk S = true then 0 else 3
def missL (f : Nat) (m : List Nd) (S : List (List UInt8)) : List (List UInt8) := if covE f m S = 0 then eachM (missN S) (fun _ _ => []) f m else []
def idleL (f : Nat) (m : List Nd) (S : List (List UInt8)) : List (List UInt8) := if covE f m S = 0 then eachM (fun _ => []) (idleN S) f m else []
theorem covE_zero {f : Nat} {m : List Nd} {S : List (List UInt8)} (h : covE f m S = 0) : msgE f m = 0 := by
  unfold covE at h
  split at h
  · rename_i h1; exact absurd h h1
  · rename_i h1; exact Decidable.not_not.1 h1
end Ms
set_option maxRecDepth 100000 in
set_option maxHeartbeats 1000000 in
theorem ccheck_any {f : Nat} {v : Value} {m : List Nd} (t0 t1 t2 t3 t4 : List UInt8) (w : World) (hw : MW w) (hT : TR w) (h : MsgAt f w v m) (hl : m.length ≤ 2000000) (ht : ∀ t ∈ [t0, t1, t2, t3, t4], t.length ≤ 100000000) :
    Calls Tryz.prog 30 #[v, .agg #[.string ⟨t0.toArray⟩, .string ⟨t1.toArray⟩, .string ⟨t2.toArray⟩, .string ⟨t3.toArray⟩, .string ⟨t4.toArray⟩]] w fun e w' => e = .returned (errN (covE f m [t0, t1, t2, t3, t4])) ∧ Below w.heap.size w w' := by
  have CM := Lib.hid fun wx (hb : Below w.heap.size w wx) => mwhole_any wx (hw.below hb) (msg_below h hb) hl
  have CP := Lib.hid fun wx (hb : Below w.heap.size w wx) => pcheck_any t0 t1 t2 t3 t4 wx (hT.below hb) ht
  have HE := Lib.hid (show covE f m [t0, t1, t2, t3, t4] = if msgE f m ≠ 0 then msgE f m else if Rul.setOk [t0, t1, t2, t3, t4] = true then 0 else 3 from rfl)
  obtain ⟨a, n, c, rfl⟩ := h.isSlice
  clear h hl hw hT ht
  generalize covE f m [t0, t1, t2, t3, t4] = R at *
  generalize msgE f m = ME at *
  generalize Rul.setOk [t0, t1, t2, t3, t4] = Z at *
  have B0 := Lib.hid (Boxed.made w #[.string ⟨t0.toArray⟩, .string ⟨t1.toArray⟩, .string ⟨t2.toArray⟩, .string ⟨t3.toArray⟩, .string ⟨t4.toArray⟩] 44)
  have W0 := Lib.hid (blw_alloc w (.cells #[.string ⟨t0.toArray⟩, .string ⟨t1.toArray⟩, .string ⟨t2.toArray⟩, .string ⟨t3.toArray⟩, .string ⟨t4.toArray⟩] 44))
  go_enter Tryz.func30, Tryz.ntmps30
  go_wp2_with fail
  refine (CM.out _ W0.out).mono ?_
  rintro e w1 ⟨rfl, hb⟩
  have W1 := Lib.hid (blw_trans W0.out hb)
  have B1 := Lib.hid (B0.out.below hb)
  clear hb CM W0 B0
  by_cases h0 : ME = 0
  case neg =>
    obtain rfl : R = ME := by rw [HE.out, if_pos h0]
    have HV := Lib.hid (show errN R = errV R from if_neg h0)
    rw [HV.out]
    clear h0 HE CP
    go_wp2_with fail
    go_ret
    exact ⟨by first | (rw [HV.out]; done) | (rw [HV.out]; rfl) | rfl, W1.out⟩
  subst h0
  rw [show errN 0 = .nilIface from rfl]
  have u0 := B1.out.cell 0 _ rfl
  have u1 := B1.out.cell 1 _ rfl
  have u2 := B1.out.cell 2 _ rfl
  have u3 := B1.out.cell 3 _ rfl
  have u4 := B1.out.cell 4 _ rfl
  have ul := B1.out.lt
  go_wp2_with fail
  refine (CP.out _ W1.out).mono ?_
  rintro e w2 ⟨rfl, hb⟩
  have W2 := Lib.hid (blw_trans W1.out hb)
  clear hb CP
  cases Z with
  | true =>
    obtain rfl : R = 0 := HE.out
    go_wp2_with fail
    go_ret
    exact ⟨rfl, W2.out⟩
  | false =>
    obtain rfl : R = 3 := HE.out
    go_wp2_with fail
    go_ret
    exact ⟨rfl, W2.out⟩

theorem miss1_at (args : Array Value) (w : World) : (callFunc 32 args).run Tryz.prog w = .ok (.enter 32 args) w := enters_of Tryz.func32 (by kernel_rfl) rfl args w
theorem miss2_at (args : Array Value) (w : World) : (callFunc 36 args).run Tryz.prog w = .ok (.enter 36 args) w := enters_of Tryz.func36 (by kernel_rfl) rfl args w
theorem idle1_at (args : Array Value) (w : World) : (callFunc 43 args).run Tryz.prog w = .ok (.enter 43 args) w := enters_of Tryz.func43 (by kernel_rfl) rfl args w
theorem idle2_at (args : Array Value) (w : World) : (callFunc 44 args).run Tryz.prog w = .ok (.enter 44 args) w := enters_of Tryz.func44 (by kernel_rfl) rfl args w
theorem missN_len (S : List (List UInt8)) (x : Nd) (hS : S.length ≤ 5) : (missN S x).length ≤ 5 := by
  refine Nat.le_trans (missK_len x (kS S)) ?_
  unfold kS
  rw [List.length_map, List.length_zip]
  omega

set_option maxRecDepth 100000 in
set_option maxHeartbeats 2000000 in
theorem miss_any {f : Nat} {v : Value} {m : List Nd} (t0 t1 t2 t3 t4 : List UInt8) (w : World) (hw : MW w) (hT : TR w) (h : MsgAt f w v m) (hl : m.length ≤ 2000000) (ht : ∀ t ∈ [t0, t1, t2, t3, t4], t.length ≤ 100000000) :
    Calls Tryz.prog 15 #[v, .agg #[.string ⟨t0.toArray⟩, .string ⟨t1.toArray⟩, .string ⟨t2.toArray⟩, .string ⟨t3.toArray⟩, .string ⟨t4.toArray⟩]] w fun e w' => ∃ u, e = .returned (.tuple #[u, errN (covE f m [t0, t1, t2, t3, t4])]) ∧ w'.ownsRow w.heap.size 9 1 u (missL f m [t0, t1, t2, t3, t4]).length ((missL f m [t0, t1, t2, t3, t4]).map stV) ∧ Below w.heap.size w w' := by
  have CK := Lib.hid (ccheck_any t0 t1 t2 t3 t4 (w.alloc (.cells #[.string ⟨t0.toArray⟩, .string ⟨t1.toArray⟩, .string ⟨t2.toArray⟩, .string ⟨t3.toArray⟩, .string ⟨t4.toArray⟩] 44)) (hw.below (blw_alloc _ _)) (hT.below (blw_alloc _ _)) (msg_below h (blw_alloc _ _)) hl ht)
  have HL := Lib.hid (show missL f m [t0, t1, t2, t3, t4] = if covE f m [t0, t1, t2, t3, t4] = 0 then eachM (missN [t0, t1, t2, t3, t4]) (fun _ _ => []) f m else [] from rfl)
  have HC := Lib.hid fun (h0 : covE f m [t0, t1, t2, t3, t4] = 0) => cnt_small (covE_zero h0)
  have CE := Lib.hid fun (W0 : World) (p q : Nat) (w1 : World) (u : Value) (hm : MsgAt f W0 v m) (ho : OutI W0.heap.size p q #[.string ⟨t0.toArray⟩, .string ⟨t1.toArray⟩, .string ⟨t2.toArray⟩, .string ⟨t3.toArray⟩, .string ⟨t4.toArray⟩] [] u w1) (hb : Below W0.heap.size W0 w1) (hc : cnt f m ≤ 60) => each_any (N := (missN [t0, t1, t2, t3, t4])) (O := (fun _ _ => [])) (gN := 32) (gO := 36) (lN := #[.pointer (some ⟨q, 0, none⟩), .pointer (some ⟨p, 0, none⟩)]) (lO := #[]) miss1_at miss2_at (fun x => missN_len _ x (by show 5 ≤ 5; omega)) (fun _ _ => by simp) W0 p q #[.string ⟨t0.toArray⟩, .string ⟨t1.toArray⟩, .string ⟨t2.toArray⟩, .string ⟨t3.toArray⟩, .string ⟨t4.toArray⟩] (fun f x a n c w s v ho hb hc hs ht => miss1_any x a n c W0 w p q t0 t1 t2 t3 t4 s v ho hb hc hs ht) (fun x a n c k w s v ho hs ht hk => (miss2_any x a n c k w).mono fun e w' h => ⟨h.1, v, by rw [List.append_nil]; exact ho.below h.2, Turn.below h.2⟩) f v m w1 [] u hm hl ho hb (by show 0 + _ ≤ _; omega)
  have HM := Lib.hid fun wx (hb : Below w.heap.size w wx) => msg_below h hb
  obtain ⟨a, n, c, rfl⟩ := h.isSlice
  clear h hl hw hT ht
  generalize missL f m [t0, t1, t2, t3, t4] = LS at *
  generalize covE f m [t0, t1, t2, t3, t4] = NE at *
  generalize eachM (missN [t0, t1, t2, t3, t4]) (fun _ _ => []) f m = AL at *
  have B0 := Lib.hid (Boxed.made w #[.string ⟨t0.toArray⟩, .string ⟨t1.toArray⟩, .string ⟨t2.toArray⟩, .string ⟨t3.toArray⟩, .string ⟨t4.toArray⟩] 44)
  have W0 := Lib.hid (blw_alloc w (.cells #[.string ⟨t0.toArray⟩, .string ⟨t1.toArray⟩, .string ⟨t2.toArray⟩, .string ⟨t3.toArray⟩, .string ⟨t4.toArray⟩] 44))
  go_enter Tryz.func15, Tryz.ntmps15
  go_wp2_with fail
  refine CK.out.mono ?_
  rintro e w1 ⟨rfl, hb⟩
  have W1 := Lib.hid (blw_trans W0.out hb)
  have B1 := Lib.hid (B0.out.below hb)
  have hsz := W1.out.size
  clear hb CK W0 B0
  by_cases h0 : NE = 0
  case neg =>
    obtain rfl : LS = [] := by rw [HL.out, if_neg h0]
    have HV := Lib.hid (show errN NE = errV NE from if_neg h0)
    rw [HV.out]
    clear h0 HL HC CE
    go_wp2_with fail
    go_ret2
    exact ⟨_, by first | rfl | (rw [HV.out]; rfl), ⟨rfl, .inl ⟨rfl, rfl⟩⟩, W1.out⟩
  subst h0
  obtain rfl : LS = AL := HL.out
  rw [show errN 0 = .nilIface from rfl]
  have hcn := HC.out (by trivial)
  have P1 := Lib.hid (show OutI w1.heap.size w1.heap.size w.heap.size #[.string ⟨t0.toArray⟩, .string ⟨t1.toArray⟩, .string ⟨t2.toArray⟩, .string ⟨t3.toArray⟩, .string ⟨t4.toArray⟩] [] (.slice none 0 0) (w1.alloc (.cells #[.slice none 0 0] 45)) from ⟨Boxed.made _ _ _, World.ownsRow_nil _ _ _ _, by simp [Value.ownBlock], Nat.le_refl _, B1.out.alloc _, fun e => by have := B1.out.lt; omega, by simp [Value.ownBlock]⟩)
  have CEh := Lib.hid (CE.out w1 w1.heap.size w.heap.size _ _ (HM.out w1 W1.out) P1.out (blw_alloc _ _) hcn)
  clear CE HM HC HL
  go_wp2_with fail
  refine CEh.out.mono ?_
  rintro e w2 ⟨rfl, u2, ho, ht, _⟩
  have W2 := Lib.hid (blw_trans W1.out (P1.out.base ht (blw_alloc _ _)))
  rw [List.nil_append] at ho
  obtain ⟨ua, uc, rfl⟩ := ho.isSlice
  have c0 := ho.box.cell 0 _ rfl
  have HR := Lib.hid ho.row
  clear ho ht CEh P1 B1
  generalize w1.heap.size = p at *
  go_wp2_with fail
  go_ret2
  exact ⟨_, rfl, nrow_mono HR.out hsz, W2.out⟩

set_option maxRecDepth 100000 in
set_option maxHeartbeats 2000000 in
theorem idle_any {f : Nat} {v : Value} {m : List Nd} (t0 t1 t2 t3 t4 : List UInt8) (w : World) (hw : MW w) (hT : TR w) (h : MsgAt f w v m) (hl : m.length ≤ 2000000) (ht : ∀ t ∈ [t0, t1, t2, t3, t4], t.length ≤ 100000000) :
    Calls Tryz.prog 21 #[v, .agg #[.string ⟨t0.toArray⟩, .string ⟨t1.toArray⟩, .string ⟨t2.toArray⟩, .string ⟨t3.toArray⟩, .string ⟨t4.toArray⟩]] w fun e w' => ∃ u, e = .returned (.tuple #[u, errN (covE f m [t0, t1, t2, t3, t4])]) ∧ w'.ownsRow w.heap.size 9 1 u (idleL f m [t0, t1, t2, t3, t4]).length ((idleL f m [t0, t1, t2, t3, t4]).map stV) ∧ Below w.heap.size w w' := by
  have CK := Lib.hid (ccheck_any t0 t1 t2 t3 t4 (w.alloc (.cells #[.string ⟨t0.toArray⟩, .string ⟨t1.toArray⟩, .string ⟨t2.toArray⟩, .string ⟨t3.toArray⟩, .string ⟨t4.toArray⟩] 44)) (hw.below (blw_alloc _ _)) (hT.below (blw_alloc _ _)) (msg_below h (blw_alloc _ _)) hl ht)
  have HL := Lib.hid (show idleL f m [t0, t1, t2, t3, t4] = if covE f m [t0, t1, t2, t3, t4] = 0 then eachM (fun _ => []) (idleN [t0, t1, t2, t3, t4]) f m else [] from rfl)
  have HC := Lib.hid fun (h0 : covE f m [t0, t1, t2, t3, t4] = 0) => cnt_small (covE_zero h0)
  have CE := Lib.hid fun (W0 : World) (p q : Nat) (w1 : World) (u : Value) (hm : MsgAt f W0 v m) (ho : OutI W0.heap.size p q #[.string ⟨t0.toArray⟩, .string ⟨t1.toArray⟩, .string ⟨t2.toArray⟩, .string ⟨t3.toArray⟩, .string ⟨t4.toArray⟩] [] u w1) (hb : Below W0.heap.size W0 w1) (hc : cnt f m ≤ 60) => each_any (N := (fun _ => [])) (O := (idleN [t0, t1, t2, t3, t4])) (gN := 43) (gO := 44) (lN := #[]) (lO := #[.pointer (some ⟨q, 0, none⟩), .pointer (some ⟨p, 0, none⟩)]) idle1_at idle2_at (fun _ => by simp) (fun x k => idleN_len _ x k) W0 p q #[.string ⟨t0.toArray⟩, .string ⟨t1.toArray⟩, .string ⟨t2.toArray⟩, .string ⟨t3.toArray⟩, .string ⟨t4.toArray⟩] (fun f x a n c w s v ho hb hc hs ht => (idle1_any x a n c w).mono fun e w' h => ⟨h.1, v, by rw [List.append_nil]; exact ho.below h.2, Turn.below h.2⟩) (fun x a n c k w s v ho hs ht hk => idle2_any x a n c k W0 w p q t0 t1 t2 t3 t4 s v ho hs ht hk) f v m w1 [] u hm hl ho hb (by show 0 + _ ≤ _; omega)
  have HM := Lib.hid fun wx (hb : Below w.heap.size w wx) => msg_below h hb
  obtain ⟨a, n, c, rfl⟩ := h.isSlice
  clear h hl hw hT ht
  generalize idleL f m [t0, t1, t2, t3, t4] = LS at *
  generalize covE f m [t0, t1, t2, t3, t4] = NE at *
  generalize eachM (fun _ => []) (idleN [t0, t1, t2, t3, t4]) f m = AL at *
  have B0 := Lib.hid (Boxed.made w #[.string ⟨t0.toArray⟩, .string ⟨t1.toArray⟩, .string ⟨t2.toArray⟩, .string ⟨t3.toArray⟩, .string ⟨t4.toArray⟩] 44)
  have W0 := Lib.hid (blw_alloc w (.cells #[.string ⟨t0.toArray⟩, .string ⟨t1.toArray⟩, .string ⟨t2.toArray⟩, .string ⟨t3.toArray⟩, .string ⟨t4.toArray⟩] 44))
  go_enter Tryz.func21, Tryz.ntmps21
  go_wp2_with fail
  refine CK.out.mono ?_
  rintro e w1 ⟨rfl, hb⟩
  have W1 := Lib.hid (blw_trans W0.out hb)
  have B1 := Lib.hid (B0.out.below hb)
  have hsz := W1.out.size
  clear hb CK W0 B0
  by_cases h0 : NE = 0
  case neg =>
    obtain rfl : LS = [] := by rw [HL.out, if_neg h0]
    have HV := Lib.hid (show errN NE = errV NE from if_neg h0)
    rw [HV.out]
    clear h0 HL HC CE
    go_wp2_with fail
    go_ret2
    exact ⟨_, by first | rfl | (rw [HV.out]; rfl), ⟨rfl, .inl ⟨rfl, rfl⟩⟩, W1.out⟩
  subst h0
  obtain rfl : LS = AL := HL.out
  rw [show errN 0 = .nilIface from rfl]
  have hcn := HC.out (by trivial)
  have P1 := Lib.hid (show OutI w1.heap.size w1.heap.size w.heap.size #[.string ⟨t0.toArray⟩, .string ⟨t1.toArray⟩, .string ⟨t2.toArray⟩, .string ⟨t3.toArray⟩, .string ⟨t4.toArray⟩] [] (.slice none 0 0) (w1.alloc (.cells #[.slice none 0 0] 45)) from ⟨Boxed.made _ _ _, World.ownsRow_nil _ _ _ _, by simp [Value.ownBlock], Nat.le_refl _, B1.out.alloc _, fun e => by have := B1.out.lt; omega, by simp [Value.ownBlock]⟩)
  have CEh := Lib.hid (CE.out w1 w1.heap.size w.heap.size _ _ (HM.out w1 W1.out) P1.out (blw_alloc _ _) hcn)
  clear CE HM HC HL
  go_wp2_with fail
  refine CEh.out.mono ?_
  rintro e w2 ⟨rfl, u2, ho, ht, _⟩
  have W2 := Lib.hid (blw_trans W1.out (P1.out.base ht (blw_alloc _ _)))
  rw [List.nil_append] at ho
  obtain ⟨ua, uc, rfl⟩ := ho.isSlice
  have c0 := ho.box.cell 0 _ rfl
  have HR := Lib.hid ho.row
  clear ho ht CEh P1 B1
  generalize w1.heap.size = p at *
  go_wp2_with fail
  go_ret2
  exact ⟨_, rfl, nrow_mono HR.out hsz, W2.out⟩
end Go.Proofs.YtainindkndjkbaaGreatDoor
namespace Go.Proofs.YtainindkndjkbaaGreatDoor
open Go.RowKit Ms

set_option maxRecDepth 100000 in
set_option maxHeartbeats 1000000 in
theorem qcaseof_any {f : Nat} (x : Nd) (a : Option Addr) (n c : Nat) (key : List UInt8) (w : World) (h : CassAt f w (.slice a n c) x.cases) (hl : x.cases.length ≤ 2000000) :
    Calls Tryz.prog 41 #[.agg #[.int .i64 x.kind, .string ⟨x.text.toArray⟩, .int .i64 x.off, .slice a n c], .string ⟨key.toArray⟩] w fun e w' => ∃ i : Int, e = .returned (.int .i64 i) ∧ decide (i < 0) = !(x.cases.any fun y => y.1 == key) ∧ Below w.heap.size w w' := by
  obtain ⟨A, cap, e0, _, hel⟩ := h.spread
  injection e0 with e1 e2 e3
  subst e1 e2 e3
  have hcap : x.cases.length ≤ c ∨ x.cases.length = 0 := by
    rcases h with ⟨e, _⟩ | ⟨_, _, _, e, _, q, _, _⟩
    · exact .inr (by rw [e]; rfl)
    · injection e with _ _ e; exact .inl (by omega)
  have HX := Lib.hid hel
  have BX := Lib.hid (Boxed.made w #[.int .i64 x.kind, .string ⟨x.text.toArray⟩, .int .i64 x.off, .slice a x.cases.length c] 60)
  have W0 := Lib.hid (blw_alloc w (.cells #[.int .i64 x.kind, .string ⟨x.text.toArray⟩, .int .i64 x.off, .slice a x.cases.length c] 60))
  clear h hel
  generalize x.kind = K at *
  generalize x.text = T at *
  generalize x.off = O at *
  generalize x.cases = cs at *
  generalize hN : cs.length = N at *
  go_enter Tryz.func41, Tryz.ntmps41
  go_wp2_with fail
  generalize w.alloc (.cells #[.int .i64 K, .string ⟨T.toArray⟩, .int .i64 O, .slice a N c] 60) = w1 at *
  have x3 := BX.out.cell 3 _ rfl
  have xl := BX.out.lt
  clear BX
  go_loopw [5] (fun vi wr => ∃ k : Nat, vi = .int .i64 (k : Int) ∧ k ≤ N ∧ Hid ((cs.take k).any (fun y => y.1 == key) = false) ∧ w1 = wr) (fun vi _ => N - (RowKit.intOf vi).toNat)
  case atStart => exact ⟨0, rfl, Nat.zero_le _, Lib.hid rfl, rfl⟩
  case round =>
    obtain ⟨k, rfl, hk, HA, rfl⟩ := hrel
    by_cases hlt : k < N
    · have hk' : (k : Int) < (N : Int) := by omega
      have hcc : N ≤ c := by omega
      obtain ⟨y, hyk⟩ : ∃ y, cs[k]? = some y := ⟨cs[k]'(by omega), List.getElem?_eq_getElem (by omega)⟩
      obtain ⟨b, off, rfl, a9, n9, c9, p0, _⟩ := HX.out k y hyk
      have g0 := cell_keep p0 W0.out
      have HY := Lib.hid fun (h : (y.1 == key) = true) => (show (cs.any fun y => y.1 == key) = true from List.any_eq_true.2 ⟨y, List.mem_of_getElem? hyk, h⟩)
      have HAN := Lib.hid fun (h : (y.1 == key) = false) => (show (cs.take (k + 1)).any (fun y => y.1 == key) = false by rw [any_take' hyk, HA.out, h]; rfl)
      have wk : IntKind.i64.wrap ((k : Int) + 1) = (k : Int) + 1 := IntWalk.i64_in _ (by omega)
      obtain ⟨ky, bd⟩ := y
      dsimp only at g0 HY HAN
      clear p0 hyk HX
      cases ht : ky == key with
      | true =>
        have hY := HY.out ht
        go_wp2_with fail
        go_ret
        exact ⟨_, rfl, by first | omega | (rw [hY]; exact decide_eq_false (by omega)), W0.out⟩
      | false =>
        have HA2 := Lib.hid (HAN.out ht)
        clear HAN HA HY
        go_wp2_with fail
        go_roundw
        case rel => exact ⟨k + 1, by go_num, by omega, HA2, trivial⟩
        case measure => simp [RowKit.intOf]; omega
    · have hk' : ¬ (k : Int) < (N : Int) := by omega
      have hA := HA.out
      rw [List.take_of_length_le (by omega)] at hA
      go_wp2_with fail
      go_ret
      exact ⟨_, rfl, by first | omega | (rw [hA]; rfl), W0.out⟩
/-- a row of texts that grows beside two blocks -/
structure RefI (B k b : Nat) (us ss : Array Value) (s : List (List UInt8)) (v : Value) (w : World) : Prop where
  row : w.ownsRow B 9 1 v s.length (s.map stV)
  set : Boxed w k us
  txt : Boxed w b ss
  nk : v.ownBlock ≠ some k
  nb : v.ownBlock ≠ some b
section
variable {B k b : Nat} {us ss : Array Value} {s : List (List UInt8)} {v : Value} {w w' : World}
theorem RefI.below (h : RefI B k b us ss s v w) (hb : Below w.heap.size w w') : RefI B k b us ss s v w' := ⟨mrow_below h.row hb, h.set.below hb, h.txt.below hb, h.nk, h.nb⟩
theorem RefI.app {t : List (List UInt8)} {v' : Value} {m : Nat} (h : RefI B k b us ss s v w) (hm : t.length = m) (ho : w'.ownsRow B 9 1 v' (s.length + m) (s.map stV ++ t.map stV)) (hg : w.grownBy w' v.ownBlock) (hat : v'.ownBlock = v.ownBlock ∨ v'.ownBlock = some w.heap.size) : RefI B k b us ss (s ++ t) v' w' := by
  refine ⟨by rw [List.length_append, List.map_append, hm]; exact ho, nboxed_grown h.set hg (fun e => h.nk e.symm), nboxed_grown h.txt hg (fun e => h.nb e.symm), ?_, ?_⟩
  · rcases hat with e | e
    · rw [e]; exact h.nk
    · rw [e]; intro g; injection g with g; have := h.set.lt; omega
  · rcases hat with e | e
    · rw [e]; exact h.nb
    · rw [e]; intro g; injection g with g; have := h.txt.lt; omega
theorem RefI.isSlice (h : RefI B k b us ss s v w) : ∃ a c, v = .slice a s.length c := mrow_slice h.row
theorem RefI.grown {W0 : World} (h : RefI B k b us ss s v w) (hb : Below B W0 w) (hB : B ≤ w.heap.size) (hg : w.grownBy w' v.ownBlock) : Below B W0 w' := hb.grown hg hB (fun k hk => (h.row.lt k hk).1)
end
end Go.Proofs.YtainindkndjkbaaGreatDoor
namespace Go.Proofs.YtainindkndjkbaaGreatDoor
open Go.RowKit Ms
section
variable {P : Program} (w : World)
theorem wp_append_row {o : Oper} {a : Act} {K : Act → World → Prop} {Q : Exit → Act → World → Prop} (s x : Operand) (t : TypeId)
    (ho : o.op = .call { callee := .builtin .append, args := #[s, x], argTypes := #[t, t] })
    (base : Nat) (e : TypeId) (i : TypeInfo) (z : Value) (size bytes : Nat) (ht : P.underlying t = some (.slice e)) (hi : P.info? e = some i) (hz : i.zero = some z)
    (hsize : i.size = size) (hby : i.bytes = bytes) (hzs : z.cells.size = size) (hsz : 0 < size)
    (v : Value) (n : Nat) (xs : List Value) (hs : a.eval s = v) (hown : w.ownsRow base e size v n xs)
    (base2 : Nat) (sv : Value) (m : Nat) (news : List Value) (hx : a.eval x = sv) (hsrc : w.ownsRow base2 e size sv m news) (h1 : ∀ u ∈ news, u.oneCell' = true)
    (h63 : n + m ≤ maxLen) (hbytes : (n + m) * bytes ≤ 140737488355328) (hbase : base ≤ w.heap.size)
    (h : ∀ v' w', w'.ownsRow base e size v' (n + m) (xs ++ news) → w.grownBy w' v.ownBlock → (v'.ownBlock = v.ownBlock ∨ v'.ownBlock = some w.heap.size) → K (a.put o.dst v') w') : o.wp P a w K Q := by
  obtain ⟨v', w', hr, h2, h3, h5⟩ : ∃ v' w', (Builtin.append_ #[t, t] o.type #[v, sv]).run P w = .ok v' w' ∧ w'.ownsRow base e size v' (n + m) (xs ++ news) ∧ w.grownBy w' v.ownBlock ∧ (v'.ownBlock = v.ownBlock ∨ v'.ownBlock = some w.heap.size) := by
    rcases hsrc.2 with ⟨rfl, rfl⟩ | ⟨g, cap, cur, rfl, _⟩
    · have e0 : news = [] := by
        have := hsrc.1
        rw [Nat.zero_mul] at this
        exact List.length_eq_zero_iff.1 this
      subst e0
      refine ⟨v, w, run_append_owned_none (w := w) base t o.type e i size ht hi v n xs hown, by rw [List.append_nil]; exact hown, ⟨rfl, rfl, rfl, Nat.le_refl _, fun _ _ _ => rfl⟩, .inl rfl⟩
    · obtain ⟨v', w', hr, h2, h3, _, h5⟩ := run_append_own_at (P := P) w base t o.type e i z size bytes ht hi hz hsize hby hzs hsz v n xs hown ⟨g, 0, none⟩ m cap news hsrc.1 (hsrc.cells (g := g) rfl) h1 h63 hbytes hbase
      exact ⟨v', w', hr, h2, h3, h5⟩
  unfold Oper.wp execOp
  simp only [ho, resolve, invoke, builtin, Sem.run_bind, Sem.run_pure, Result.andThen_ok, List.map_toArray, List.map_cons, List.map_nil, hs, hx, hr]
  exact h v' w' h2 h3 h5
end
theorem stV_one (l : List (List UInt8)) : ∀ u ∈ l.map stV, u.oneCell' = true := by
  intro u hu
  obtain ⟨x, _, rfl⟩ := List.mem_map.1 hu
  rfl
theorem kL_at {S : List (List UInt8)} {k : Nat} {y : List UInt8 × Bool} (h : (kS S)[k]? = some y) : ∃ t, S[k]? = some t ∧ Rul.kindL[k]? = some y.1 ∧ y.2 = !t.isEmpty ∧ y.1.length ≤ 10 := by
  unfold kS at h
  rw [List.getElem?_map] at h
  obtain ⟨p, hp, rfl⟩ := Option.map_eq_some_iff.1 h
  rw [List.getElem?_zip_eq_some] at hp
  refine ⟨p.2, hp.2, hp.1, rfl, ?_⟩
  have : ∀ z ∈ five, z.length ≤ 10 := by decide
  exact this _ (List.mem_of_getElem? hp.1)
end Go.Proofs.YtainindkndjkbaaGreatDoor
