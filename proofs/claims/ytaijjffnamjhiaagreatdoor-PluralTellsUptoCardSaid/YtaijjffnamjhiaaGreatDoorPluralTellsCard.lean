/- The law PluralTells, proved where what it reads is of bulk at most 1048576: the call returns true of every input, and turns nothing that was there. Conditions: the row's own (the listed variables hold what the program's text lays; the card ties them). -/
import Derived.Test.YtaijjffnamjhiaaGreatDoorRparse
import Derived.Test.YtaijjffnamjhiaaGreatDoorRulQ
import Derived.Test.YtaijjffnamjhiaaGreatDoorRofM
import Derived.Test.YtaijjffnamjhiaaGreatDoorErrs
import Derived.Test.YtaijjffnamjhiaaGreatDoorProg
import Derived.Test.YtaijjffnamjhiaaGreatDoorBox
import Derived.Shelf.Strings.Builder1
import Derived.Shelf.Small.Strs
import Derived.Shelf.Utf8.RuneCount
import Derived.Shelf.Strings.Search1
import Derived.Shelf.Strings.Search2
import Derived.Shelf.Strings.Search3
import Derived.Shelf.Strings.Count
import Derived.Shelf.LaysM
import Derived.Shelf.Strings.Shaped
import Derived.Shelf.Bits.Mul64
import Derived.Test.YtaijjffnamjhiaaGreatDoorBoxS
import Derived.Test.YtaijjffnamjhiaaGreatDoorHeld
import Derived.Deep.LoopGhost
import Derived.Test.YtaijjffnamjhiaaGreatDoorRltM
import Derived.Maps.AppendAt
import Derived.StillTailTactics
import Derived.Deep.DeepCutAuto
import Derived.Deep.CutRange
import Derived.Test.YtaijjffnamjhiaaGreatDoorAs
import Derived.Test.YtaijjffnamjhiaaGreatDoorRows
import Derived.Test.YtaijjffnamjhiaaGreatDoorItoa
import Derived.LaidSub
import Derived.MakeChecks
import Derived.OpenShut
import Derived.Stop.Joined
import Derived.Lib.SmallJoins
import Derived.Lay
import Derived.LaidMore
import Derived.Test.YtaijjffnamjhiaaGreatDoorFrame
import Derived.LaidLaws
import Derived.LaidHandle
import Derived.Test.YtaijjffnamjhiaaGreatDoorCards
import Derived.Test.YtaijjffnamjhiaaGreatDoorTie
import Derived.Deep.DeepHandedRow
import Derived.Deep.DeepWitnessRowRef
namespace Go.Proofs.YtaijjffnamjhiaaGreatDoor
open Go.RowKit

/-- what the rules' functions want of the start -/
structure TR (w : World) : Prop where
  p : PowW w
  n : NumW w
  m : MaxW w
theorem TR.below {w w' : World} (h : TR w) (hb : Below w.heap.size w w') : TR w' := ⟨h.p.below hb, h.n.below hb, h.m.below hb⟩

set_option maxRecDepth 100000 in
set_option maxHeartbeats 1000000 in
theorem ruled_any (w : World) (hM : MaxW w) (hN : NumW w) (hp : PowW w) : Calls Tryz.prog 18 #[] w fun e w' => e = .returned (.bool true) ∧ Below w.heap.size w w' := by
  have CP := Lib.hid (rparse_any Rul.firstS w hM hN hp (by decide))
  have e1 : Rul.firstS = [105, 32, 61, 32, 49, 32, 97, 110, 100, 32, 118, 32, 61, 32, 48] := rfl
  have HF := Lib.hid Rul.first_parse
  rw [e1] at CP HF
  clear hM hN hp e1
  go_enter Tryz.func18, Tryz.ntmps18
  go_wp2_with fail
  refine CP.out.mono ?_
  rintro e w2 ⟨v, f, rfl, hP, hb⟩
  rcases hP with ⟨_, rfl, a, n, c, rfl, hs⟩ | ⟨h, _⟩
  · rw [HF.out.2] at hs
    rcases hs with ⟨e, _⟩ | ⟨b, off, cap, e1, _, _, _, hc⟩
    · cases e
    injection e1 with e1 e2 e3
    subst e1 e2 e3
    obtain ⟨pa, pn, pc, p0, ps⟩ := hc 0 _ rfl
    rw [Nat.zero_mul, Nat.add_zero] at p0
    obtain ⟨A1, cap1, e1, _⟩ := ps.spread
    injection e1 with e1 e2 e3
    subst e1 e2 e3
    have W2 := Lib.hid hb
    clear hb hc ps CP
    simp only [Rul.firstR, List.length_cons, List.length_nil, Nat.reduceAdd] at *
    go_wp2_with fail
    go_ret
    exact ⟨rfl, W2.out⟩
  · rw [HF.out.1] at h; cases h
end Go.Proofs.YtaijjffnamjhiaaGreatDoor
namespace Rul
open Go Go.Lib Go.Proofs.YtaijjffnamjhiaaGreatDoor

/-- the operands of a right number -/
def opsD (c s : Int) : Op5 := ⟨Dcm.mag c / Dcm.P10 s, s, ((Dcm.strip s.toNat (Dcm.mag c % Dcm.P10 s)).1 : Int), Dcm.mag c % Dcm.P10 s, (Dcm.strip s.toNat (Dcm.mag c % Dcm.P10 s)).2⟩
/-- a text that is none, or a rule's -/
def textOk (t : List UInt8) : Bool := t.isEmpty || parseOk t
def setOk (l : List (List UInt8)) : Bool := l.all textOk
/-- a text that is a rule that holds -/
def hits (o : Op5) (t : List UInt8) : Bool := !t.isEmpty && ruleH (ruleP t) o
def kindL : List (List UInt8) := [[122, 101, 114, 111], [111, 110, 101], [116, 119, 111], [102, 101, 119], [109, 97, 110, 121]]
def other : List UInt8 := [111, 116, 104, 101, 114]
def kindAt (i : Nat) : List UInt8 := (kindL[i]?).getD other
/-- the first kind whose text holds -/
def kindS : List (List UInt8) → Op5 → Nat → List UInt8
  | [], _, _ => other
  | t :: r, o, i => if hits o t then kindAt i else kindS r o (i + 1)
theorem kindS_hit {o : Op5} {x : List UInt8} : ∀ {l : List (List UInt8)} {k i : Nat}, l[k]? = some x → (∀ y ∈ l.take k, hits o y = false) → hits o x = true → kindS l o i = kindAt (i + k)
  | [], k, i, h, _, _ => by simp at h
  | t :: r, 0, i, h, _, hx => by
    simp at h
    subst h
    unfold kindS
    rw [hx]
    rfl
  | t :: r, k + 1, i, h, ha, hx => by
    have h0 := ha t (by simp)
    unfold kindS
    rw [h0]
    have := kindS_hit (l := r) (k := k) (i := i + 1) (by simpa using h) (fun y hy => ha y (by simp [hy])) hx
    rw [show i + 1 + k = i + (k + 1) by omega] at this
    simpa using this
theorem kindS_none {o : Op5} : ∀ {l : List (List UInt8)} {i : Nat}, (∀ y ∈ l, hits o y = false) → kindS l o i = other
  | [], _, _ => rfl
  | t :: r, i, h => by
    unfold kindS
    rw [h t (by simp)]
    simpa using kindS_none (l := r) (i := i + 1) (fun y hy => h y (by simp [hy]))
theorem take_hits {o : Op5} {l : List (List UInt8)} {k : Nat} {x : List UInt8} (h : l[k]? = some x) (ha : ∀ y ∈ l.take k, hits o y = false) (hx : hits o x = false) : ∀ y ∈ l.take (k + 1), hits o y = false := by
  intro y hy
  rw [List.take_add_one, h] at hy
  rcases List.mem_append.1 hy with hy | hy
  · exact ha y hy
  · simp at hy; subst hy; exact hx
theorem take_ok {l : List (List UInt8)} {k : Nat} {x : List UInt8} (h : l[k]? = some x) (ha : (l.take k).all textOk = true) (hx : textOk x = true) : (l.take (k + 1)).all textOk = true := by
  rw [List.take_add_one, h, List.all_append, ha]
  simp [hx]
theorem not_ok {l : List (List UInt8)} {x : List UInt8} (h : x ∈ l) (hx : textOk x = false) : setOk l = false := by
  unfold setOk
  rw [List.all_eq_false]
  exact ⟨x, h, by rw [hx]; decide⟩
theorem mem_ok {l : List (List UInt8)} {x : List UInt8} (h : setOk l = true) (hx : x ∈ l) : textOk x = true := List.all_eq_true.1 h x hx
end Rul
namespace Go.Proofs.YtaijjffnamjhiaaGreatDoor
open Go.RowKit

set_option maxRecDepth 100000 in
set_option maxHeartbeats 1000000 in
theorem ptexts_any (t0 t1 t2 t3 t4 : List UInt8) (w : World) :
    Calls Tryz.prog 70 #[.agg #[.string ⟨t0.toArray⟩, .string ⟨t1.toArray⟩, .string ⟨t2.toArray⟩, .string ⟨t3.toArray⟩, .string ⟨t4.toArray⟩]] w fun e w' => e = .returned (.agg #[.string ⟨t0.toArray⟩, .string ⟨t1.toArray⟩, .string ⟨t2.toArray⟩, .string ⟨t3.toArray⟩, .string ⟨t4.toArray⟩]) ∧ Below w.heap.size w w' := by
  go_enter Tryz.func70, Tryz.ntmps70
  go_wp2
  refine bodyPost_ret (v := .agg #[.string ⟨t0.toArray⟩, .string ⟨t1.toArray⟩, .string ⟨t2.toArray⟩, .string ⟨t3.toArray⟩, .string ⟨t4.toArray⟩]) (by simp [results, Tryz.results70, go_sem]) rfl ⟨rfl, ?_⟩
  repeat (first | exact Below.refl _ _ | exact blw_alloc _ _ | refine Below.setCell ?_ (by first | (simp; done) | omega | (simp; omega)) _ | refine Below.alloc ?_ (by first | (simp; done) | omega | (simp; omega)) _)

/-- an element of an array of five texts -/
theorem ix_five (t0 t1 t2 t3 t4 x : List UInt8) (k : Nat) (h : [t0, t1, t2, t3, t4][k]? = some x) (w : World) :
    (Instr.index 126 (.agg #[.string ⟨t0.toArray⟩, .string ⟨t1.toArray⟩, .string ⟨t2.toArray⟩, .string ⟨t3.toArray⟩, .string ⟨t4.toArray⟩]) (.int .i64 (k : Int))).run Tryz.prog w = .ok (.string ⟨x.toArray⟩) w := by
  have u := Tryz.underlying126
  have z := Tryz.sizeOf9
  have a9 := Tryz.isAgg9
  match k, h with
  | 0, h => simp at h; subst h; simp [Instr.index, run_underlying u, go_sem, z, a9, Result.andThen]
  | 1, h => simp at h; subst h; simp [Instr.index, run_underlying u, go_sem, z, a9, Result.andThen]
  | 2, h => simp at h; subst h; simp [Instr.index, run_underlying u, go_sem, z, a9, Result.andThen]
  | 3, h => simp at h; subst h; simp [Instr.index, run_underlying u, go_sem, z, a9, Result.andThen]
  | 4, h => simp at h; subst h; simp [Instr.index, run_underlying u, go_sem, z, a9, Result.andThen]
  | k + 5, h => simp at h

set_option maxRecDepth 100000 in
set_option maxHeartbeats 4000000 in
theorem pcheck_any (t0 t1 t2 t3 t4 : List UInt8) (w : World) (hT : TR w) (hl : ∀ t ∈ [t0, t1, t2, t3, t4], t.length ≤ 100000000) :
    Calls Tryz.prog 29 #[.agg #[.string ⟨t0.toArray⟩, .string ⟨t1.toArray⟩, .string ⟨t2.toArray⟩, .string ⟨t3.toArray⟩, .string ⟨t4.toArray⟩]] w fun e w' => e = .returned (if Rul.setOk [t0, t1, t2, t3, t4] = true then .nilIface else errV 3) ∧ Below w.heap.size w w' := by
  have HT := Lib.hid hT
  have HL := Lib.hid hl
  obtain ⟨E, hE⟩ : ∃ E, (if Rul.setOk [t0, t1, t2, t3, t4] = true then Value.nilIface else errV 3) = E := ⟨_, rfl⟩
  rw [hE]
  have HE := Lib.hid hE
  clear hE hl hT
  have CT := Lib.hid fun w => ptexts_any t0 t1 t2 t3 t4 w
  have IX := fun k x h w => ix_five t0 t1 t2 t3 t4 x k h w
  have HIX := Lib.hid IX
  clear IX
  have W0 := Lib.hid (blw_alloc w (.cells #[.string ⟨t0.toArray⟩, .string ⟨t1.toArray⟩, .string ⟨t2.toArray⟩, .string ⟨t3.toArray⟩, .string ⟨t4.toArray⟩] 61))
  obtain ⟨L, hLL⟩ : ∃ L, [t0, t1, t2, t3, t4] = L := ⟨_, rfl⟩
  have HN := Lib.hid (show L.length = 5 by rw [← hLL]; rfl)
  rw [hLL] at HL HE HIX
  clear hLL
  go_enter Tryz.func29, Tryz.ntmps29
  go_wp2_with fail
  refine (CT.out _).mono ?_
  rintro e v ⟨rfl, hb⟩
  have W1 := Lib.hid (blw_trans W0.out hb)
  clear hb CT W0
  generalize Value.agg #[.string ⟨t0.toArray⟩, .string ⟨t1.toArray⟩, .string ⟨t2.toArray⟩, .string ⟨t3.toArray⟩, .string ⟨t4.toArray⟩] = AG at *
  go_wp2_with fail
  go_loopw [9] (fun i wr => ∃ k : Nat, i = .int .i64 k ∧ k ≤ 5 ∧ Hid ((L.take k).all Rul.textOk = true) ∧ Hid (Below w.heap.size w wr)) (fun i _ => 5 - (RowKit.intOf i).toNat)
  case atStart => exact ⟨0, rfl, by omega, Lib.hid (by simp), W1⟩
  case round =>
    obtain ⟨k, rfl, hk, HA, HB⟩ := hrel
    by_cases hlt : k < 5
    · obtain ⟨x, hx⟩ : ∃ x, L[k]? = some x := ⟨L[k]'(by have := HN.out; omega), List.getElem?_eq_getElem (by have := HN.out; omega)⟩
      have IXk := fun w => HIX.out k x hx w
      have HX := Lib.hid hx
      have hxl := HL.out x (List.mem_of_getElem? hx)
      have CP := Lib.hid (rparse_any x wr (HT.out.below HB.out).m (HT.out.below HB.out).n (HT.out.below HB.out).p hxl)
      have k5 : (k : Int) < 5 := by omega
      clear hx
      by_cases he : x = []
      · subst he
        have HA2 := Lib.hid (Rul.take_ok HX.out HA.out rfl)
        go_wp2_with fail
        go_roundw
        case rel => exact ⟨k + 1, by go_num, by omega, HA2, HB⟩
        case measure => simp [RowKit.intOf]; omega
      · have e0 : (x == []) = false := beq_eq_false_iff_ne.2 he
        have he' : x.isEmpty = false := by cases x <;> simp at he ⊢
        go_wp2_with fail
        refine CP.out.mono ?_
        rintro e w2 ⟨v2, f2, rfl, hP, hb⟩
        have W2 := Lib.hid (blw_trans HB.out hb)
        rcases hP with ⟨hok, rfl, _⟩ | ⟨hno, rfl, rfl⟩
        · have HA2 := Lib.hid (Rul.take_ok HX.out HA.out (show Rul.textOk x = true by unfold Rul.textOk; rw [he', hok]; rfl))
          clear hb hok
          go_wp2_with fail
          go_roundw
          case rel => exact ⟨k + 1, by go_num, by omega, HA2, W2⟩
          case measure => simp [RowKit.intOf]; omega
        · have HF := Lib.hid (Rul.not_ok (List.mem_of_getElem? HX.out) (show Rul.textOk x = false by unfold Rul.textOk; rw [he', hno]; rfl))
          have HEE := HE.out
          rw [HF.out, if_neg (by decide)] at HEE
          subst HEE
          clear hb hno
          go_wp2_with fail
          go_ret
          exact ⟨rfl, W2.out⟩
    · have e : k = 5 := by omega
      subst e
      have HEE := HE.out
      have h5 := HA.out
      rw [List.take_of_length_le (by have := HN.out; omega)] at h5
      rw [if_pos (show Rul.setOk L = true from h5)] at HEE
      subst HEE
      go_wp2_with fail
      go_ret
      exact ⟨rfl, HB.out⟩
end Go.Proofs.YtaijjffnamjhiaaGreatDoor
namespace Go.Proofs.YtaijjffnamjhiaaGreatDoor
open Go.RowKit
open Dcm (P10 okD nrm)


set_option maxHeartbeats 400000 in
theorem dchk_yes (c s : Int) (w : World) (h : okD c s) :
    Calls Tryz.prog 48 #[.agg #[.int .i64 c, .int .i64 s]] w fun e w' => e = .returned .nilIface ∧ Below w.heap.size w w' := by
  obtain ⟨h1, h2, h3, h4⟩ := h
  have d1 : decide (s < 0) = false := dec_no (by omega)
  have d2 : decide (9 < s) = false := dec_no (by omega)
  have d3 : decide (c < -1000000000000000) = false := dec_no (by omega)
  have d4 : decide (1000000000000000 < c) = false := dec_no (by omega)
  go_enter Tryz.func48, Tryz.ntmps48
  go_wp2
  go_ret
  exact ⟨rfl, blw_alloc _ _⟩
set_option maxHeartbeats 1000000 in
theorem dchk_no (c s : Int) (w : World) (h : ¬ okD c s) :
    Calls Tryz.prog 48 #[.agg #[.int .i64 c, .int .i64 s]] w fun e w' => e = .returned (errV 1) ∧ Below w.heap.size w w' := by
  by_cases h1 : s < 0
  · go_enter Tryz.func48, Tryz.ntmps48
    go_wp2
    go_ret
    exact ⟨rfl, blw_alloc _ _⟩
  by_cases h2 : 9 < s
  · go_enter Tryz.func48, Tryz.ntmps48
    go_wp2
    go_ret
    exact ⟨rfl, blw_alloc _ _⟩
  by_cases h3 : c < -1000000000000000
  · go_enter Tryz.func48, Tryz.ntmps48
    go_wp2
    go_ret
    exact ⟨rfl, blw_alloc _ _⟩
  by_cases h4 : 1000000000000000 < c
  · go_enter Tryz.func48, Tryz.ntmps48
    go_wp2
    go_ret
    exact ⟨rfl, blw_alloc _ _⟩
  exact absurd ⟨by omega, by omega, by omega, by omega⟩ h

set_option maxHeartbeats 400000 in
theorem ten_any (n : Int) (w : World) (h0 : 0 ≤ n) (h1 : n ≤ 9) :
    Calls Tryz.prog 121 #[.int .i64 n] w fun e w' => e = .returned (.int .i64 (P10 n)) ∧ w = w' := by
  go_enter Tryz.func121, Tryz.ntmps121
  go_wp2
  go_loop [3, 4] (fun t i => ∃ k : Int, 0 ≤ k ∧ k ≤ n ∧ i = .int .i64 k ∧ t = .int .i64 (P10 k)) (fun _ i => (n - intOf i).toNat)
  case atStart => exact ⟨0, by omega, by omega, rfl, rfl⟩
  case round =>
    obtain ⟨k, k0, k1, rfl, rfl⟩ := hrel
    have hb := Dcm.P10_bd k
    by_cases hlt : k < n
    · have hs := Lib.hid (Dcm.P10_succ k k0 (by omega))
      go_wp2
      go_round
      case rel => exact ⟨k + 1, by omega, by omega, by go_num, by rw [hs.out]⟩
      case measure => simp [intOf]; omega
    · obtain rfl : k = n := by omega
      go_wp2
      go_ret
      exact ⟨rfl, rfl⟩
set_option maxHeartbeats 400000 in
theorem size_any (n : Int) (w : World) (h0 : -9223372036854775807 ≤ n) (h1 : n ≤ 9223372036854775807) :
    Calls Tryz.prog 97 #[.int .i64 n] w fun e w' => e = .returned (.int .i64 (Dcm.mag n)) ∧ w = w' := by
  by_cases h : n < 0
  · have e : Dcm.mag n = -n := by unfold Dcm.mag; rw [if_pos h]
    have E := Lib.hid e
    clear e
    go_enter Tryz.func97, Tryz.ntmps97
    go_wp2
    go_ret
    exact ⟨ret_int (by rw [E.out]), rfl⟩
  · have e : Dcm.mag n = n := by unfold Dcm.mag; rw [if_neg h]
    have E := Lib.hid e
    clear e
    go_enter Tryz.func97, Tryz.ntmps97
    go_wp2
    go_ret
    exact ⟨ret_int (by rw [E.out]), rfl⟩

end Go.Proofs.YtaijjffnamjhiaaGreatDoor
namespace Go.Proofs.YtaijjffnamjhiaaGreatDoor
open Go.RowKit
open Dcm (P10 okD nrm)

set_option maxRecDepth 100000 in
set_option maxHeartbeats 1000000 in
theorem ops_no (c s : Int) (w : World) (h : ¬ okD c s) :
    Calls Tryz.prog 69 #[.agg #[.int .i64 c, .int .i64 s]] w fun e w' => e = .returned (.tuple #[.agg #[.int .i64 0, .int .i64 0, .int .i64 0, .int .i64 0, .int .i64 0], errV 1]) ∧ Below w.heap.size w w' := by
  have C0 := Lib.hid fun w => dchk_no c s w h
  clear h
  go_enter Tryz.func69, Tryz.ntmps69
  go_wp2_with fail
  refine (C0.out _).mono ?_
  rintro e w1 ⟨rfl, hb⟩
  have Z1 := Boxed.at (q := w.heap.size + 1) (Boxed.below (Boxed.made _ #[.int .i64 0, .int .i64 0, .int .i64 0, .int .i64 0, .int .i64 0] 45) hb) (by simp)
  have W1 := Lib.hid (blw_trans (blw_trans (blw_alloc w _) (blw_alloc _ _)) hb)
  have k0 := Z1.cell 0 _ rfl
  have k1 := Z1.cell 1 _ rfl
  have k2 := Z1.cell 2 _ rfl
  have k3 := Z1.cell 3 _ rfl
  have k4 := Z1.cell 4 _ rfl
  have f0 := Z1.free 0 (by simp)
  have f1 := Z1.free 1 (by simp)
  have f2 := Z1.free 2 (by simp)
  have f3 := Z1.free 3 (by simp)
  have f4 := Z1.free 4 (by simp)
  clear hb C0 Z1
  go_wp2
  refine bodyPost_ret (v := .tuple #[.agg #[.int .i64 0, .int .i64 0, .int .i64 0, .int .i64 0, .int .i64 0], errV 1]) (by simp [results, Tryz.results69, go_sem, k0, k1, k2, k3, k4]) rfl ⟨rfl, ?_⟩
  repeat (first | exact W1.out | refine Below.setCell ?_ (by simp) _)

set_option maxRecDepth 100000 in
set_option maxHeartbeats 1000000 in
theorem ops_yes (c s : Int) (w : World) (h : okD c s) :
    Calls Tryz.prog 69 #[.agg #[.int .i64 c, .int .i64 s]] w fun e w' => e = .returned (.tuple #[.agg #[.int .i64 (Dcm.mag c / P10 s), .int .i64 s, .int .i64 ((Dcm.strip s.toNat (Dcm.mag c % P10 s)).1 : Int), .int .i64 (Dcm.mag c % P10 s), .int .i64 (Dcm.strip s.toNat (Dcm.mag c % P10 s)).2], .nilIface]) ∧ Below w.heap.size w w' := by
  have C0 := Lib.hid fun w => dchk_yes c s w h
  obtain ⟨s0, s1, c0, c1⟩ := h
  go_enter Tryz.func69, Tryz.ntmps69
  go_wp2_with fail
  refine (C0.out _).mono ?_
  rintro e w1 ⟨rfl, hb⟩
  have A1 := Boxed.below (Boxed.alloc (Boxed.made _ #[.int .i64 c, .int .i64 s] 37) _) hb
  have A1 := A1.at (q := w.heap.size) rfl
  have Z1 := Boxed.at (q := w.heap.size + 1) (Boxed.below (Boxed.made _ #[.int .i64 0, .int .i64 0, .int .i64 0, .int .i64 0, .int .i64 0] 45) hb) (by simp)
  have W1 := Lib.hid (blw_trans (blw_trans (blw_alloc w _) (blw_alloc _ _)) hb)
  have k0 := A1.cell 0 _ rfl
  have k1 := A1.cell 1 _ rfl
  clear hb C0
  go_wp2_with fail
  go_loop [5, 16] (fun t i => ∃ k : Int, 0 ≤ k ∧ k ≤ s ∧ i = .int .i64 k ∧ t = .int .i64 (P10 k)) (fun _ i => (s - intOf i).toNat)
  case atStart => exact ⟨0, by omega, by omega, rfl, rfl⟩
  case round =>
    obtain ⟨k, q0, q1, rfl, rfl⟩ := hrel
    have hb := Dcm.P10_bd k
    by_cases hlt : k < s
    · have hs := Lib.hid (Dcm.P10_succ k q0 (by omega))
      go_wp2
      go_round
      case rel => exact ⟨k + 1, by omega, by omega, by go_num, by rw [hs.out]⟩
      case measure => simp [intOf]; omega
    · obtain rfl : k = s := by omega
      go_wp2_with fail
      have em : max c (-c) = Dcm.mag c := by unfold Dcm.mag; split <;> omega
      have m0 := Dcm.mag_bd c
      have m1 : Dcm.mag c ≤ 1000000000000000 := by unfold Dcm.mag; split <;> omega
      rw [em]
      clear em q1 s0 hlt
      generalize gm : Dcm.mag c = m at *
      have Gm := Lib.hid gm
      clear gm
      generalize gU : P10 k = U at *
      have GU := Lib.hid gU
      clear gU
      have e0 : (U == 0) = false := beq_no (by omega)
      have e1 : ¬ U = 0 := by omega
      have e2 : IntKind.i64.wrap (m.tdiv U) = m / U := IntWalk.i64_quo m U ⟨m0, by omega, hb.1⟩
      have e3 : m.tmod U = m % U := IntWalk.rem_in m U m0
      have n1 := World.new_ne w1 _ k0
      have n2 := World.new_ne w1 _ k1
      go_region_held3 (fun w' => w'.cell? ⟨w.heap.size, 0, none⟩ = some (.int .i64 c) ∧ w'.cell? ⟨w.heap.size, 1, none⟩ = some (.int .i64 k)) (go_keep) (fail)
      have B2 := Boxed.drew (Boxed.made w1 #[.int .i64 (m / U), .int .i64 k, .int .i64 k, .int .i64 (m % U), .int .i64 (m % U)] 45)
      have Z2 := (Z1.alloc (.cells #[.int .i64 (m / U), .int .i64 k, .int .i64 k, .int .i64 (m % U), .int .i64 (m % U)] 45)).drew
      have W2 := Lib.hid (Below.drew (blw_trans W1.out (blw_alloc w1 (.cells #[.int .i64 (m / U), .int .i64 k, .int .i64 k, .int .i64 (m % U), .int .i64 (m % U)] 45))))
      have HR : Hid (Dcm.strip k.toNat (m % U) = Dcm.strip k.toNat (m % U)) := rfl
      have hne : w1.heap.size ≠ w.heap.size + 1 := Nat.ne_of_gt Z1.lt
      have hge : w.heap.size ≤ w1.heap.size := W1.out.size
      have r0 := Int.emod_nonneg m (by omega : U ≠ 0)
      have r1 := Int.emod_lt_of_pos m (by omega : 0 < U)
      generalize gF : m % U = F at *
      have GF := Lib.hid gF
      clear gF
      generalize gI : m / U = I at *
      have GI := Lib.hid gI
      clear gI
      clear e0 e1 e2 e3 n1 n2 A1 Z1 W1 k0 k1
      rename_i hHeld
      clear hHeld
      generalize hR : Dcm.strip k.toNat F = R at *
      clear HR
      have HR := Lib.hid hR
      clear hR
      generalize (w1.alloc (.cells #[.int .i64 I, .int .i64 k, .int .i64 k, .int .i64 F, .int .i64 F] 45)).drew = w2 at *
      go_wp2_with fail
      go_loopg [41] k.toNat (fun gk _p wr => ∃ wi td : Int, 0 ≤ wi ∧ wi ≤ k ∧ gk = wi.toNat ∧ 0 ≤ td ∧ td ≤ 1000000000000000 ∧ Boxed wr w1.heap.size #[.int .i64 I, .int .i64 k, .int .i64 wi, .int .i64 F, .int .i64 td] ∧ Boxed wr (w.heap.size + 1) #[.int .i64 0, .int .i64 0, .int .i64 0, .int .i64 0, .int .i64 0] ∧ Hid (Below w.heap.size w wr) ∧ Hid (Dcm.strip wi.toNat td = R))
      case atStart => exact ⟨k, F, by omega, by omega, rfl, by omega, by omega, B2, Z2, W2, HR⟩
      case round =>
        obtain ⟨wi, td, i0, i1, rfl, t0, t1, B3, Z3, W3, H3⟩ := hrel
        have q0 := B3.cell 0 _ rfl
        have q1 := B3.cell 1 _ rfl
        have q2 := B3.cell 2 _ rfl
        have q3 := B3.cell 3 _ rfl
        have q4 := B3.cell 4 _ rfl
        have f2 := B3.free 2 (by simp)
        have f4 := B3.free 4 (by simp)
        by_cases hw : 0 < wi
        · by_cases ht : td % 10 = 0
          · have d1 : decide (0 < wi) = true := dec_yes hw
            have d2 : (td % 10 == 0) = true := beq_yes ht
            have HT := Lib.hid ht
            clear ht
            have B4 := (B3.set 2 (.int .i64 (wi - 1)) (by simp)).set 4 (.int .i64 (td / 10)) (by simp)
            have Z4 := (Z3.far (q := w1.heap.size) hne 2 (.int .i64 (wi - 1))).far (q := w1.heap.size) hne 4 (.int .i64 (td / 10))
            have W4 := Lib.hid ((W3.out.setCell (p := ⟨w1.heap.size, 2, none⟩) hge (.int .i64 (wi - 1))).setCell (p := ⟨w1.heap.size, 4, none⟩) hge (.int .i64 (td / 10)))
            have H4 : Hid (Dcm.strip (wi - 1).toNat (td / 10) = R) := by
              have h := H3.out
              have e : wi.toNat = (wi - 1).toNat + 1 := by omega
              rw [e] at h
              unfold Dcm.strip at h
              rw [if_pos HT.out] at h
              exact h
            clear B3 Z3 W3 H3
            go_wp2
            go_roundg (wi - 1).toNat
            case measure => omega
            case rel => exact ⟨wi - 1, td / 10, by omega, by omega, rfl, by omega, by omega, B4, Z4, W4, H4⟩
          · have d1 : decide (0 < wi) = true := dec_yes hw
            have d2 : (td % 10 == 0) = false := beq_no ht
            have e : R = (wi.toNat, td) := by
              rw [← H3.out]
              have e : wi.toNat = (wi - 1).toNat + 1 := by omega
              rw [e]; unfold Dcm.strip; rw [if_neg ht]
            have ew : ((wi.toNat : Nat) : Int) = wi := by omega
            subst e
            have EW := Lib.hid ew
            clear ew H3 B3
            have k0 := Z3.cell 0 _ rfl
            have k1 := Z3.cell 1 _ rfl
            have k2 := Z3.cell 2 _ rfl
            have k3 := Z3.cell 3 _ rfl
            have k4 := Z3.cell 4 _ rfl
            have g0 := Z3.free 0 (by simp)
            have g1 := Z3.free 1 (by simp)
            have g2 := Z3.free 2 (by simp)
            have g3 := Z3.free 3 (by simp)
            have g4 := Z3.free 4 (by simp)
            go_wp2
            refine bodyPost_ret (v := .tuple #[.agg #[.int .i64 I, .int .i64 k, .int .i64 wi, .int .i64 F, .int .i64 td], .nilIface]) (by simp [results, Tryz.results69, go_sem, k0, k1, k2, k3, k4]) rfl ⟨by simp [EW.out, Gm.out, GU.out, GF.out, GI.out, HR.out], ?_⟩
            repeat (first | exact W3.out | refine Below.setCell ?_ (by simp) _)
        · have d1 : decide (0 < wi) = false := dec_no hw
          have e : R = (wi.toNat, td) := by
            rw [← H3.out]
            have e : wi.toNat = 0 := by omega
            rw [e]; rfl
          have ew : ((wi.toNat : Nat) : Int) = wi := by omega
          subst e
          have EW := Lib.hid ew
          clear ew H3 B3
          have k0 := Z3.cell 0 _ rfl
          have k1 := Z3.cell 1 _ rfl
          have k2 := Z3.cell 2 _ rfl
          have k3 := Z3.cell 3 _ rfl
          have k4 := Z3.cell 4 _ rfl
          have g0 := Z3.free 0 (by simp)
          have g1 := Z3.free 1 (by simp)
          have g2 := Z3.free 2 (by simp)
          have g3 := Z3.free 3 (by simp)
          have g4 := Z3.free 4 (by simp)
          go_wp2
          refine bodyPost_ret (v := .tuple #[.agg #[.int .i64 I, .int .i64 k, .int .i64 wi, .int .i64 F, .int .i64 td], .nilIface]) (by simp [results, Tryz.results69, go_sem, k0, k1, k2, k3, k4]) rfl ⟨by simp [EW.out, Gm.out, GU.out, GF.out, GI.out, HR.out], ?_⟩
          repeat (first | exact W3.out | refine Below.setCell ?_ (by simp) _)
end Go.Proofs.YtaijjffnamjhiaaGreatDoor
namespace Go.Proofs.YtaijjffnamjhiaaGreatDoor
open Go.RowKit
open Dcm (P10 okD)

/-- the package's array of kinds -/
def KindsW (w : World) : Prop := ∀ (i : Nat) (s : List UInt8), Rul.kindL[i]? = some s → w.cell? ⟨0, i, none⟩ = some (.string ⟨s.toArray⟩)
theorem KindsW.below {w w' : World} (h : KindsW w) (hb : Below w.heap.size w w') : KindsW w' := fun i s hs => cell_keep (h i s hs) hb

set_option maxRecDepth 100000 in
set_option maxHeartbeats 2000000 in
theorem kind_bad (t0 t1 t2 t3 t4 : List UInt8) (c s : Int) (w : World) (hT : TR w) (hl : ∀ t ∈ [t0, t1, t2, t3, t4], t.length ≤ 100000000) (hs : Rul.setOk [t0, t1, t2, t3, t4] = false) :
    Calls Tryz.prog 27 #[.agg #[.string ⟨t0.toArray⟩, .string ⟨t1.toArray⟩, .string ⟨t2.toArray⟩, .string ⟨t3.toArray⟩, .string ⟨t4.toArray⟩], .agg #[.int .i64 c, .int .i64 s]] w fun e w' => e = .returned (.tuple #[.string ⟨#[]⟩, errV 3]) ∧ Below w.heap.size w w' := by
  have CK := Lib.hid fun (wx : World) (hb : Below w.heap.size w wx) => pcheck_any t0 t1 t2 t3 t4 wx (hT.below hb) hl
  rw [hs, if_neg (by decide)] at CK
  have W0 := Lib.hid ((blw_alloc w (.cells #[.string ⟨t0.toArray⟩, .string ⟨t1.toArray⟩, .string ⟨t2.toArray⟩, .string ⟨t3.toArray⟩, .string ⟨t4.toArray⟩] 61)).alloc (by simp) (.cells #[.int .i64 c, .int .i64 s] 37))
  clear hT hl hs
  go_enter Tryz.func27, Tryz.ntmps27
  go_wp2_with fail
  refine (CK.out _ W0.out).mono ?_
  rintro e w1 ⟨rfl, hb⟩
  have W1 := Lib.hid (blw_trans W0.out hb)
  clear hb CK W0
  go_wp2_with fail
  go_ret2
  exact ⟨rfl, W1.out⟩

set_option maxRecDepth 100000 in
set_option maxHeartbeats 2000000 in
theorem kind_num (t0 t1 t2 t3 t4 : List UInt8) (c s : Int) (w : World) (hT : TR w) (hl : ∀ t ∈ [t0, t1, t2, t3, t4], t.length ≤ 100000000) (hs : Rul.setOk [t0, t1, t2, t3, t4] = true) (hd : ¬ okD c s) :
    Calls Tryz.prog 27 #[.agg #[.string ⟨t0.toArray⟩, .string ⟨t1.toArray⟩, .string ⟨t2.toArray⟩, .string ⟨t3.toArray⟩, .string ⟨t4.toArray⟩], .agg #[.int .i64 c, .int .i64 s]] w fun e w' => e = .returned (.tuple #[.string ⟨#[]⟩, errV 1]) ∧ Below w.heap.size w w' := by
  have CK := Lib.hid fun (wx : World) (hb : Below w.heap.size w wx) => pcheck_any t0 t1 t2 t3 t4 wx (hT.below hb) hl
  rw [hs, if_pos rfl] at CK
  have CO := Lib.hid fun (wx : World) => ops_no c s wx hd
  have W0 := Lib.hid ((blw_alloc w (.cells #[.string ⟨t0.toArray⟩, .string ⟨t1.toArray⟩, .string ⟨t2.toArray⟩, .string ⟨t3.toArray⟩, .string ⟨t4.toArray⟩] 61)).alloc (by simp) (.cells #[.int .i64 c, .int .i64 s] 37))
  have BD := Lib.hid (Boxed.made (w.alloc (.cells #[.string ⟨t0.toArray⟩, .string ⟨t1.toArray⟩, .string ⟨t2.toArray⟩, .string ⟨t3.toArray⟩, .string ⟨t4.toArray⟩] 61)) #[.int .i64 c, .int .i64 s] 37)
  simp only [World.size_alloc] at BD
  clear hT hl hs hd
  go_enter Tryz.func27, Tryz.ntmps27
  go_wp2_with fail
  refine (CK.out _ W0.out).mono ?_
  rintro e w1 ⟨rfl, hb⟩
  have W1 := Lib.hid (blw_trans W0.out hb)
  have B1 := Lib.hid (BD.out.below hb)
  have k0 := B1.out.cell 0 _ rfl
  have k1 := B1.out.cell 1 _ rfl
  have kl := B1.out.lt
  clear hb CK W0 BD
  go_wp2_with fail
  refine (CO.out _).mono ?_
  rintro e w2 ⟨rfl, hb⟩
  have W2 := Lib.hid (blw_trans W1.out hb)
  clear hb CO W1
  go_wp2_with fail
  go_ret2
  exact ⟨rfl, W2.out.trans ((blw_alloc _ _).mono W2.out.size)⟩

set_option maxRecDepth 100000 in
set_option maxHeartbeats 4000000 in
theorem kind_ok (t0 t1 t2 t3 t4 : List UInt8) (c s : Int) (w : World) (hT : TR w) (hK : KindsW w) (hl : ∀ t ∈ [t0, t1, t2, t3, t4], t.length ≤ 100000000) (hs : Rul.setOk [t0, t1, t2, t3, t4] = true) (hd : okD c s) :
    Calls Tryz.prog 27 #[.agg #[.string ⟨t0.toArray⟩, .string ⟨t1.toArray⟩, .string ⟨t2.toArray⟩, .string ⟨t3.toArray⟩, .string ⟨t4.toArray⟩], .agg #[.int .i64 c, .int .i64 s]] w fun e w' => e = .returned (.tuple #[.string ⟨(Rul.kindS [t0, t1, t2, t3, t4] (Rul.opsD c s) 0).toArray⟩, .nilIface]) ∧ Below w.heap.size w w' := by
  have CK := Lib.hid fun (wx : World) (hb : Below w.heap.size w wx) => pcheck_any t0 t1 t2 t3 t4 wx (hT.below hb) hl
  rw [hs, if_pos rfl] at CK
  have CO : Hid (∀ wx : World, Calls Tryz.prog 69 #[.agg #[.int .i64 c, .int .i64 s]] wx fun e w' => e = .returned (.tuple #[.agg #[.int .i64 (Rul.opsD c s).i, .int .i64 (Rul.opsD c s).v, .int .i64 (Rul.opsD c s).w, .int .i64 (Rul.opsD c s).f, .int .i64 (Rul.opsD c s).t], .nilIface]) ∧ Below wx.heap.size wx w') := Lib.hid fun wx => ops_yes c s wx hd
  generalize Rul.opsD c s = O at *
  have CT := Lib.hid fun w => ptexts_any t0 t1 t2 t3 t4 w
  have HIX := Lib.hid fun k x h w => ix_five t0 t1 t2 t3 t4 x k h w
  have W0 := Lib.hid ((blw_alloc w (.cells #[.string ⟨t0.toArray⟩, .string ⟨t1.toArray⟩, .string ⟨t2.toArray⟩, .string ⟨t3.toArray⟩, .string ⟨t4.toArray⟩] 61)).alloc (by simp) (.cells #[.int .i64 c, .int .i64 s] 37))
  have BS := Lib.hid ((Boxed.made w #[.string ⟨t0.toArray⟩, .string ⟨t1.toArray⟩, .string ⟨t2.toArray⟩, .string ⟨t3.toArray⟩, .string ⟨t4.toArray⟩] 61).alloc (.cells #[.int .i64 c, .int .i64 s] 37))
  have BD := Lib.hid (Boxed.made (w.alloc (.cells #[.string ⟨t0.toArray⟩, .string ⟨t1.toArray⟩, .string ⟨t2.toArray⟩, .string ⟨t3.toArray⟩, .string ⟨t4.toArray⟩] 61)) #[.int .i64 c, .int .i64 s] 37)
  simp only [World.size_alloc] at BD
  obtain ⟨L, hLL⟩ : ∃ L, [t0, t1, t2, t3, t4] = L := ⟨_, rfl⟩
  have HN := Lib.hid (show L.length = 5 by rw [← hLL]; rfl)
  rw [hLL] at hl hs HIX ⊢
  have HL := Lib.hid hl
  have HS := Lib.hid hs
  have HT := Lib.hid hT
  have HK := Lib.hid hK
  obtain ⟨KS, hKS⟩ : ∃ KS, Rul.kindS L O 0 = KS := ⟨_, rfl⟩
  rw [hKS]
  have HKS := Lib.hid hKS
  clear hLL hT hK hl hs hd hKS
  go_enter Tryz.func27, Tryz.ntmps27
  go_wp2_with fail
  refine (CK.out _ W0.out).mono ?_
  rintro e w1 ⟨rfl, hb⟩
  have W1 := Lib.hid (blw_trans W0.out hb)
  have B1 := Lib.hid (BD.out.below hb)
  have B2 := Lib.hid (BS.out.below hb)
  have k0 := B1.out.cell 0 _ rfl
  have k1 := B1.out.cell 1 _ rfl
  have kl := B1.out.lt
  clear hb CK W0 BD BS
  go_wp2_with fail
  refine (CO.out _).mono ?_
  rintro e w2 ⟨rfl, hb⟩
  have W2 := Lib.hid (blw_trans W1.out hb)
  have B3 := Lib.hid ((B2.out.below hb).alloc (.cells #[.int .i64 O.i, .int .i64 O.v, .int .i64 O.w, .int .i64 O.f, .int .i64 O.t] 45))
  have B4 := Lib.hid (Boxed.made w2 (opsC O) 45)
  have W3 := Lib.hid (W2.out.trans ((blw_alloc w2 (.cells #[.int .i64 O.i, .int .i64 O.v, .int .i64 O.w, .int .i64 O.f, .int .i64 O.t] 45)).mono W2.out.size))
  have s0 := (B2.out.below hb).cell 0 _ rfl
  have s1 := (B2.out.below hb).cell 1 _ rfl
  have s2 := (B2.out.below hb).cell 2 _ rfl
  have s3 := (B2.out.below hb).cell 3 _ rfl
  have s4 := (B2.out.below hb).cell 4 _ rfl
  have sl := (B2.out.below hb).lt
  clear hb CO W1 B1 B2 k0 k1 kl
  go_wp2_with fail
  refine (CT.out _).mono ?_
  rintro e v ⟨rfl, hb⟩
  have W4 := Lib.hid (W3.out.trans (hb.mono W3.out.size))
  have BO := Lib.hid (B4.out.below hb)
  clear hb CT W3 B3 B4 s0 s1 s2 s3 s4 sl W2
  generalize Value.agg #[.string ⟨t0.toArray⟩, .string ⟨t1.toArray⟩, .string ⟨t2.toArray⟩, .string ⟨t3.toArray⟩, .string ⟨t4.toArray⟩] = AG at *
  go_wp2_with fail
  go_loopw [30] (fun i wr => ∃ k : Nat, i = .int .i64 k ∧ k ≤ 5 ∧ Hid (∀ y ∈ L.take k, Rul.hits O y = false) ∧ Hid (Below v.heap.size v wr)) (fun i _ => 5 - (RowKit.intOf i).toNat)
  case atStart => exact ⟨0, rfl, by omega, Lib.hid (by simp), Lib.hid (Below.refl _ _)⟩
  case round =>
    obtain ⟨k, rfl, hk, HA, HB⟩ := hrel
    have WR := Lib.hid (W4.out.trans (HB.out.mono W4.out.size))
    by_cases hlt : k < 5
    · obtain ⟨x, hx⟩ : ∃ x, L[k]? = some x := ⟨L[k]'(by have := HN.out; omega), List.getElem?_eq_getElem (by have := HN.out; omega)⟩
      have IXk := fun w => HIX.out k x hx w
      have HX := Lib.hid hx
      have hxl := HL.out x (List.mem_of_getElem? hx)
      have CP := Lib.hid (rparse_any x wr (HT.out.below WR.out).m (HT.out.below WR.out).n (HT.out.below WR.out).p hxl)
      have k5 : (k : Int) < 5 := by omega
      have k0 : 0 ≤ (k : Int) := by omega
      clear hx
      by_cases he : x = []
      · subst he
        have HA2 := Lib.hid (Rul.take_hits HX.out HA.out (by unfold Rul.hits; rfl))
        go_wp2_with fail
        go_roundw
        case rel => exact ⟨k + 1, by go_num, by omega, HA2, HB⟩
        case measure => simp [RowKit.intOf]; omega
      · have e0 : (x == []) = false := beq_eq_false_iff_ne.2 he
        have he' : x.isEmpty = false := by cases x <;> simp at he ⊢
        have hok : Rul.parseOk x = true := by
          have := Rul.mem_ok HS.out (List.mem_of_getElem? HX.out)
          unfold Rul.textOk at this
          rwa [he', Bool.false_or] at this
        have HOK := Lib.hid hok
        have HHX := Lib.hid (show Rul.hits O x = Rul.ruleH (Rul.ruleP x) O by unfold Rul.hits; rw [he']; rfl)
        clear hok
        go_wp2_with fail
        refine CP.out.mono ?_
        rintro e w5 ⟨v2, f2, rfl, hP, hb⟩
        have HB5 := Lib.hid (blw_trans HB.out hb)
        rcases hP with ⟨_, rfl, pa, pn, pc, rfl, hs⟩ | ⟨hno, _⟩
        · have hcnt := Rul.count_P x
          have hrs := Rul.rs_P x
          have CH := Lib.hid (rholds_yes (Rul.ruleP x) pa pn pc O w5 hs (by omega) (by omega) (fun l hl y hy => by have := hrs l hl y hy; omega) (Rul.parseOk_iff.1 HOK.out).1)
          have o0 := (BO.out.below HB5.out).cell 0 _ rfl
          have o1 := (BO.out.below HB5.out).cell 1 _ rfl
          have o2 := (BO.out.below HB5.out).cell 2 _ rfl
          have o3 := (BO.out.below HB5.out).cell 3 _ rfl
          have o4 := (BO.out.below HB5.out).cell 4 _ rfl
          have ol := (BO.out.below HB5.out).lt
          clear hb hs hcnt hrs CP
          generalize Rul.ruleH (Rul.ruleP x) O = H at *
          go_wp2_with fail
          refine CH.out.mono ?_
          rintro e w6 ⟨rfl, hb⟩
          have HB6 := Lib.hid (blw_trans HB5.out hb)
          have W6 := Lib.hid (W4.out.trans (HB6.out.mono W4.out.size))
          clear hb CH o0 o1 o2 o3 o4 ol
          cases H with
          | true =>
            obtain ⟨kt, hkt⟩ : ∃ kt, Rul.kindL[k]? = some kt := ⟨Rul.kindL[k]'(by show k < 5; omega), List.getElem?_eq_getElem _⟩
            have kc := HK.out.below W6.out k kt hkt
            have kg := World.block_lt_of_cell? _ _ kc
            have hfin : KS = kt := by
              have := Rul.kindS_hit (i := 0) HX.out HA.out HHX.out
              rw [← HKS.out, this, Nat.zero_add]
              unfold Rul.kindAt
              rw [hkt]; rfl
            subst hfin
            clear hkt
            go_wp2_with fail
            go_ret2
            exact ⟨rfl, W6.out⟩
          | false =>
            have HA2 := Lib.hid (Rul.take_hits HX.out HA.out HHX.out)
            go_wp2_with fail
            go_roundw
            case rel => exact ⟨k + 1, by go_num, by omega, HA2, HB6⟩
            case measure => simp [RowKit.intOf]; omega
        · rw [HOK.out] at hno; cases hno
    · have e : k = 5 := by omega
      subst e
      have h5 := HA.out
      rw [List.take_of_length_le (by have := HN.out; omega)] at h5
      obtain rfl : KS = [111, 116, 104, 101, 114] := by rw [← HKS.out, Rul.kindS_none h5]; rfl
      clear h5
      go_wp2_with fail
      go_ret2
      exact ⟨rfl, WR.out⟩
end Go.Proofs.YtaijjffnamjhiaaGreatDoor
namespace Rul
open Go Go.Lib Go.Proofs.YtaijjffnamjhiaaGreatDoor

def ruOneR : Rule := [[⟨118, 0, false, [(0, 0)]⟩, ⟨105, 10, false, [(1, 1)]⟩, ⟨105, 100, true, [(11, 11)]⟩]]
def ruOneS : List UInt8 := [118, 32, 61, 32, 48, 32, 97, 110, 100, 32, 105, 32, 37, 32, 49, 48, 32, 61, 32, 49, 32, 97, 110, 100, 32, 105, 32, 37, 32, 49, 48, 48, 32, 33, 61, 32, 49, 49]
theorem ruOne_p : parseOk ruOneS = true ∧ ruleP ruOneS = ruOneR := by
  have := parse_text (r := ruOneR) (by decide)
  rwa [show ruleT ruOneR = ruOneS by decide +kernel] at this
def slavR : Rule := [[⟨118, 0, false, [(0, 0)]⟩, ⟨105, 10, false, [(2, 4)]⟩, ⟨105, 100, true, [(12, 14)]⟩]]
def slavS : List UInt8 := [118, 32, 61, 32, 48, 32, 97, 110, 100, 32, 105, 32, 37, 32, 49, 48, 32, 61, 32, 50, 46, 46, 52, 32, 97, 110, 100, 32, 105, 32, 37, 32, 49, 48, 48, 32, 33, 61, 32, 49, 50, 46, 46, 49, 52]
theorem slav_p : parseOk slavS = true ∧ ruleP slavS = slavR := by
  have := parse_text (r := slavR) (by decide)
  rwa [show ruleT slavR = slavS by decide +kernel] at this
def ruManyR : Rule := [[⟨118, 0, false, [(0, 0)]⟩, ⟨105, 10, false, [(0, 0)]⟩], [⟨118, 0, false, [(0, 0)]⟩, ⟨105, 10, false, [(5, 9)]⟩], [⟨118, 0, false, [(0, 0)]⟩, ⟨105, 100, false, [(11, 14)]⟩]]
def ruManyS : List UInt8 := [118, 32, 61, 32, 48, 32, 97, 110, 100, 32, 105, 32, 37, 32, 49, 48, 32, 61, 32, 48, 32, 111, 114, 32, 118, 32, 61, 32, 48, 32, 97, 110, 100, 32, 105, 32, 37, 32, 49, 48, 32, 61, 32, 53, 46, 46, 57, 32, 111, 114, 32, 118, 32, 61, 32, 48, 32, 97, 110, 100, 32, 105, 32, 37, 32, 49, 48, 48, 32, 61, 32, 49, 49, 46, 46, 49, 52]
theorem ruMany_p : parseOk ruManyS = true ∧ ruleP ruManyS = ruManyR := by
  have := parse_text (r := ruManyR) (by decide)
  rwa [show ruleT ruManyR = ruManyS by decide +kernel] at this
def plManyR : Rule := [[⟨118, 0, false, [(0, 0)]⟩, ⟨105, 0, true, [(1, 1)]⟩, ⟨105, 10, false, [(0, 1)]⟩], [⟨118, 0, false, [(0, 0)]⟩, ⟨105, 10, false, [(5, 9)]⟩], [⟨118, 0, false, [(0, 0)]⟩, ⟨105, 100, false, [(12, 14)]⟩]]
def plManyS : List UInt8 := [118, 32, 61, 32, 48, 32, 97, 110, 100, 32, 105, 32, 33, 61, 32, 49, 32, 97, 110, 100, 32, 105, 32, 37, 32, 49, 48, 32, 61, 32, 48, 46, 46, 49, 32, 111, 114, 32, 118, 32, 61, 32, 48, 32, 97, 110, 100, 32, 105, 32, 37, 32, 49, 48, 32, 61, 32, 53, 46, 46, 57, 32, 111, 114, 32, 118, 32, 61, 32, 48, 32, 97, 110, 100, 32, 105, 32, 37, 32, 49, 48, 48, 32, 61, 32, 49, 50, 46, 46, 49, 52]
theorem plMany_p : parseOk plManyS = true ∧ ruleP plManyS = plManyR := by
  have := parse_text (r := plManyR) (by decide)
  rwa [show ruleT plManyR = plManyS by decide +kernel] at this
def enOneR : Rule := [[⟨105, 0, false, [(1, 1)]⟩, ⟨118, 0, false, [(0, 0)]⟩]]
def enOneS : List UInt8 := [105, 32, 61, 32, 49, 32, 97, 110, 100, 32, 118, 32, 61, 32, 48]
theorem enOne_p : parseOk enOneS = true ∧ ruleP enOneS = enOneR := by
  have := parse_text (r := enOneR) (by decide)
  rwa [show ruleT enOneR = enOneS by decide +kernel] at this
def frOneR : Rule := [[⟨105, 0, false, [(0, 0), (1, 1)]⟩]]
def frOneS : List UInt8 := [105, 32, 61, 32, 48, 44, 49]
theorem frOne_p : parseOk frOneS = true ∧ ruleP frOneS = frOneR := by
  have := parse_text (r := frOneR) (by decide)
  rwa [show ruleT frOneR = frOneS by decide +kernel] at this
def arZeroR : Rule := [[⟨110, 0, false, [(0, 0)]⟩]]
def arZeroS : List UInt8 := [110, 32, 61, 32, 48]
theorem arZero_p : parseOk arZeroS = true ∧ ruleP arZeroS = arZeroR := by
  have := parse_text (r := arZeroR) (by decide)
  rwa [show ruleT arZeroR = arZeroS by decide +kernel] at this
def arOneR : Rule := [[⟨110, 0, false, [(1, 1)]⟩]]
def arOneS : List UInt8 := [110, 32, 61, 32, 49]
theorem arOne_p : parseOk arOneS = true ∧ ruleP arOneS = arOneR := by
  have := parse_text (r := arOneR) (by decide)
  rwa [show ruleT arOneR = arOneS by decide +kernel] at this
def arTwoR : Rule := [[⟨110, 0, false, [(2, 2)]⟩]]
def arTwoS : List UInt8 := [110, 32, 61, 32, 50]
theorem arTwo_p : parseOk arTwoS = true ∧ ruleP arTwoS = arTwoR := by
  have := parse_text (r := arTwoR) (by decide)
  rwa [show ruleT arTwoR = arTwoS by decide +kernel] at this
def arFewR : Rule := [[⟨110, 100, false, [(3, 10)]⟩]]
def arFewS : List UInt8 := [110, 32, 37, 32, 49, 48, 48, 32, 61, 32, 51, 46, 46, 49, 48]
theorem arFew_p : parseOk arFewS = true ∧ ruleP arFewS = arFewR := by
  have := parse_text (r := arFewR) (by decide)
  rwa [show ruleT arFewR = arFewS by decide +kernel] at this
def arManyR : Rule := [[⟨110, 100, false, [(11, 99)]⟩]]
def arManyS : List UInt8 := [110, 32, 37, 32, 49, 48, 48, 32, 61, 32, 49, 49, 46, 46, 57, 57]
theorem arMany_p : parseOk arManyS = true ∧ ruleP arManyS = arManyR := by
  have := parse_text (r := arManyR) (by decide)
  rwa [show ruleT arManyR = arManyS by decide +kernel] at this

theorem hits_of {t : List UInt8} {R : Rule} (h : parseOk t = true ∧ ruleP t = R) (hn : t ≠ []) (o : Op5) : hits o t = ruleH R o := by
  unfold hits
  rw [h.2]
  cases t with
  | nil => exact absurd rfl hn
  | cons => rfl
theorem hits_nil (o : Op5) : hits o [] = false := rfl
theorem text_ok {t : List UInt8} {R : Rule} (h : parseOk t = true ∧ ruleP t = R) : textOk t = true := by
  unfold textOk
  rw [h.1, Bool.or_true]
def ruL : List (List UInt8) := [[], ruOneS, [], slavS, ruManyS]
def plL : List (List UInt8) := [[], enOneS, [], slavS, plManyS]
def arL : List (List UInt8) := [arZeroS, arOneS, arTwoS, arFewS, arManyS]
def enL : List (List UInt8) := [[], enOneS, [], [], []]
def frL : List (List UInt8) := [[], frOneS, [], [], []]
def jaL : List (List UInt8) := [[], [], [], [], []]
theorem none_ok : textOk [] = true := rfl
theorem ru_ok : setOk ruL = true := by simp [setOk, ruL, text_ok ruOne_p, text_ok slav_p, text_ok ruMany_p, none_ok]
theorem pl_ok : setOk plL = true := by simp [setOk, plL, text_ok enOne_p, text_ok slav_p, text_ok plMany_p, none_ok]
theorem ar_ok : setOk arL = true := by simp [setOk, arL, text_ok arZero_p, text_ok arOne_p, text_ok arTwo_p, text_ok arFew_p, text_ok arMany_p]
theorem en_ok : setOk enL = true := by simp [setOk, enL, text_ok enOne_p, none_ok]
theorem fr_ok : setOk frL = true := by simp [setOk, frL, text_ok frOne_p, none_ok]
theorem ja_ok : setOk jaL = true := by simp [setOk, jaL, none_ok]
def kOne : List UInt8 := [111, 110, 101]
def kFew : List UInt8 := [102, 101, 119]
def kMany : List UInt8 := [109, 97, 110, 121]
def kZero : List UInt8 := [122, 101, 114, 111]
def kTwo : List UInt8 := [116, 119, 111]
theorem tm (m : Int) (h : 0 ≤ m) (k : Int) : m.tmod k = m % k := Int.tmod_eq_emod_of_nonneg h

theorem ru_kind (o : Op5) (m : Int) (h : 0 ≤ m) (hi : o.i = m) (hv : o.v = 0) :
    kindS ruL o 0 = if 2 ≤ m % 10 ∧ m % 10 ≤ 4 ∧ ¬ (11 ≤ m % 100 ∧ m % 100 ≤ 14) then kFew else if m % 10 = 1 ∧ ¬ (11 ≤ m % 100 ∧ m % 100 ≤ 14) then kOne else kMany := by
  have e1 : ruleH ruOneR o = decide (m % 10 = 1 ∧ m % 100 ≠ 11) := by
    rw [Bool.eq_iff_iff]; simp [ruOneR, ruleH, partH, relH, opx, opv, rngHas, hi, hv, tm m h]; omega
  have e2 : ruleH slavR o = decide (2 ≤ m % 10 ∧ m % 10 ≤ 4 ∧ ¬ (12 ≤ m % 100 ∧ m % 100 ≤ 14)) := by
    rw [Bool.eq_iff_iff]; simp [slavR, ruleH, partH, relH, opx, opv, rngHas, hi, hv, tm m h]; omega
  have e3 : ruleH ruManyR o = decide (m % 10 = 0 ∨ 5 ≤ m % 10 ∨ (11 ≤ m % 100 ∧ m % 100 ≤ 14)) := by
    rw [Bool.eq_iff_iff]; simp [ruManyR, ruleH, partH, relH, opx, opv, rngHas, hi, hv, tm m h]; omega
  simp only [ruL, kindS, hits_nil, hits_of ruOne_p (by decide), hits_of slav_p (by decide), hits_of ruMany_p (by decide), e1, e2, e3, decide_eq_true_eq, kindAt, kindL, other, kFew, kOne, kMany]
  split <;> split <;> (try split) <;> (try split) <;> (try split) <;> first | rfl | (exfalso; omega) | (exfalso; simp_all; omega) | simp_all
theorem pl_kind (o : Op5) (m : Int) (h : 0 ≤ m) (hi : o.i = m) (hv : o.v = 0) :
    kindS plL o 0 = if m = 1 then kOne else if 2 ≤ m % 10 ∧ m % 10 ≤ 4 ∧ ¬ (11 ≤ m % 100 ∧ m % 100 ≤ 14) then kFew else kMany := by
  have e1 : ruleH enOneR o = decide (m = 1) := by
    rw [Bool.eq_iff_iff]; simp [enOneR, ruleH, partH, relH, opx, opv, rngHas, hi, hv]; omega
  have e2 : ruleH slavR o = decide (2 ≤ m % 10 ∧ m % 10 ≤ 4 ∧ ¬ (12 ≤ m % 100 ∧ m % 100 ≤ 14)) := by
    rw [Bool.eq_iff_iff]; simp [slavR, ruleH, partH, relH, opx, opv, rngHas, hi, hv, tm m h]; omega
  have e3 : ruleH plManyR o = decide ((m ≠ 1 ∧ m % 10 ≤ 1) ∨ 5 ≤ m % 10 ∨ (12 ≤ m % 100 ∧ m % 100 ≤ 14)) := by
    rw [Bool.eq_iff_iff]; simp [plManyR, ruleH, partH, relH, opx, opv, rngHas, hi, hv, tm m h]; omega
  simp only [plL, kindS, hits_nil, hits_of enOne_p (by decide), hits_of slav_p (by decide), hits_of plMany_p (by decide), e1, e2, e3, decide_eq_true_eq, kindAt, kindL, other, kFew, kOne, kMany]
  split <;> split <;> (try split) <;> (try split) <;> (try split) <;> first | rfl | (exfalso; omega) | (exfalso; simp_all; omega) | simp_all
theorem ar_kind (o : Op5) (m : Int) (h : 0 ≤ m) (hi : o.i = m) :
    kindS arL o 0 = if o.t = 0 then (if m = 0 then kZero else if m = 1 then kOne else if m = 2 then kTwo else if 3 ≤ m % 100 ∧ m % 100 ≤ 10 then kFew else if 11 ≤ m % 100 then kMany else other) else other := by
  have e0 : ruleH arZeroR o = decide (m = 0 ∧ o.t = 0) := by
    rw [Bool.eq_iff_iff]; simp [arZeroR, ruleH, partH, relH, opx, opv, rngHas, hi]; omega
  have e1 : ruleH arOneR o = decide (m = 1 ∧ o.t = 0) := by
    rw [Bool.eq_iff_iff]; simp [arOneR, ruleH, partH, relH, opx, opv, rngHas, hi]; omega
  have e2 : ruleH arTwoR o = decide (m = 2 ∧ o.t = 0) := by
    rw [Bool.eq_iff_iff]; simp [arTwoR, ruleH, partH, relH, opx, opv, rngHas, hi]; omega
  have e3 : ruleH arFewR o = decide (3 ≤ m % 100 ∧ m % 100 ≤ 10 ∧ o.t = 0) := by
    rw [Bool.eq_iff_iff]; simp [arFewR, ruleH, partH, relH, opx, opv, rngHas, hi, tm m h]; omega
  have e4 : ruleH arManyR o = decide (11 ≤ m % 100 ∧ o.t = 0) := by
    rw [Bool.eq_iff_iff]; simp [arManyR, ruleH, partH, relH, opx, opv, rngHas, hi, tm m h]; omega
  simp only [arL, kindS, hits_of arZero_p (by decide), hits_of arOne_p (by decide), hits_of arTwo_p (by decide), hits_of arFew_p (by decide), hits_of arMany_p (by decide), e0, e1, e2, e3, e4, decide_eq_true_eq, kindAt, kindL, other, kFew, kOne, kMany, kZero, kTwo]
  by_cases ht : o.t = 0
  · simp only [ht, and_true, if_true]
    by_cases h0 : m = 0
    · simp [h0]
    · by_cases h1 : m = 1
      · simp [h1]
      · by_cases h2 : m = 2
        · simp [h2]
        · by_cases h3 : 3 ≤ m % 100 ∧ m % 100 ≤ 10
          · simp [h0, h1, h2, h3]
          · by_cases h4 : 11 ≤ m % 100
            · simp [h0, h1, h2, h3, h4]
            · simp [h0, h1, h2, h3, h4]
  · simp [ht]
theorem en_kind (o : Op5) : kindS enL o 0 = if o.i = 1 ∧ o.v = 0 then kOne else other := by
  have e1 : ruleH enOneR o = decide (o.i = 1 ∧ o.v = 0) := by
    rw [Bool.eq_iff_iff]; simp [enOneR, ruleH, partH, relH, opx, opv, rngHas]; omega
  simp only [enL, kindS, hits_nil, hits_of enOne_p (by decide), e1, decide_eq_true_eq]
  split
  · rename_i hh
    first | rfl | simp_all
  · simp_all [kindAt, kindL, kOne, other]
theorem fr_kind (o : Op5) : kindS frL o 0 = if o.i = 0 ∨ o.i = 1 then kOne else other := by
  have e1 : ruleH frOneR o = decide (o.i = 0 ∨ o.i = 1) := by
    rw [Bool.eq_iff_iff]; simp [frOneR, ruleH, partH, relH, opx, opv, rngHas]; omega
  simp only [frL, kindS, hits_nil, hits_of frOne_p (by decide), e1, decide_eq_true_eq]
  split
  · rename_i hh
    first | rfl | simp_all
  · simp_all [kindAt, kindL, kOne, other]
theorem ja_kind (o : Op5) : kindS jaL o 0 = other := rfl
end Rul
namespace Go.Proofs.YtaijjffnamjhiaaGreatDoor
open Go.RowKit
open Dcm (P10 okD)

/-- texts as cells -/
def strC (l : List (List UInt8)) : Array Value := (l.map fun t => Value.string ⟨t.toArray⟩).toArray
theorem strC_get {l : List (List UInt8)} {k : Nat} {x : List UInt8} (h : l[k]? = some x) : (strC l)[k]? = some (.string ⟨x.toArray⟩) := by
  unfold strC
  simp [h]

set_option maxRecDepth 100000 in
set_option maxHeartbeats 1000000 in
theorem settexts_any (t0 t1 t2 t3 t4 : List UInt8) (w : World) :
    Calls Tryz.prog 71 #[.agg #[.string ⟨t0.toArray⟩, .string ⟨t1.toArray⟩, .string ⟨t2.toArray⟩, .string ⟨t3.toArray⟩, .string ⟨t4.toArray⟩]] w fun e w' => ∃ b, e = .returned (.slice (some ⟨b, 0, none⟩) 5 5) ∧ Boxed w' b (strC [t0, t1, t2, t3, t4]) ∧ Below w.heap.size w w' := by
  have W2 := Lib.hid ((blw_alloc w (.cells #[.string ⟨t0.toArray⟩, .string ⟨t1.toArray⟩, .string ⟨t2.toArray⟩, .string ⟨t3.toArray⟩, .string ⟨t4.toArray⟩] 61)).alloc (by simp) (.cells #[.string ⟨t0.toArray⟩, .string ⟨t1.toArray⟩, .string ⟨t2.toArray⟩, .string ⟨t3.toArray⟩, .string ⟨t4.toArray⟩] 9))
  have B2 := Lib.hid (Boxed.made (w.alloc (.cells #[.string ⟨t0.toArray⟩, .string ⟨t1.toArray⟩, .string ⟨t2.toArray⟩, .string ⟨t3.toArray⟩, .string ⟨t4.toArray⟩] 61)) #[.string ⟨t0.toArray⟩, .string ⟨t1.toArray⟩, .string ⟨t2.toArray⟩, .string ⟨t3.toArray⟩, .string ⟨t4.toArray⟩] 9)
  simp only [World.size_alloc] at B2
  go_enter Tryz.func71, Tryz.ntmps71
  go_wp2
  go_ret
  exact ⟨_, rfl, B2.out, W2.out⟩
set_option maxRecDepth 100000 in
set_option maxHeartbeats 1000000 in
theorem kinds_any (w : World) :
    Calls Tryz.prog 73 #[] w fun e w' => ∃ b, e = .returned (.slice (some ⟨b, 0, none⟩) 5 5) ∧ Boxed w' b (strC Rul.kindL) ∧ Below w.heap.size w w' := by
  have B := Lib.hid (Boxed.made w (strC Rul.kindL) 9)
  go_enter Tryz.func73, Tryz.ntmps73
  go_wp2
  go_ret
  exact ⟨_, rfl, B.out, blw_alloc _ _⟩
theorem opsD_neg (c s : Int) : Rul.opsD (-c) s = Rul.opsD c s := by
  have h : Dcm.mag (-c) = Dcm.mag c := by unfold Dcm.mag; split <;> split <;> omega
  unfold Rul.opsD
  rw [h]
theorem en_set : Rul.setOk [[], Rul.enOneS, [], [], []] = true := Rul.en_ok
theorem first_kind : Rul.kindS [[], Rul.enOneS, [], [], []] (Rul.opsD 1 0) 0 = [111, 110, 101] := by
  have h := Rul.en_kind (Rul.opsD 1 0)
  rw [if_pos (by decide)] at h
  exact h
theorem en_short : ∀ t ∈ [[], Rul.enOneS, [], [], []], t.length ≤ 100000000 := by decide

end Go.Proofs.YtaijjffnamjhiaaGreatDoor
namespace Go.Proofs.YtaijjffnamjhiaaGreatDoor
open Go.RowKit Go.Shelf

/-- what RuleOf hands back -/
def RuleOfPost (s : List UInt8) (w' : World) (v : Value) : Prop :=
  (Rul.okQ s = true ∧ ∃ a n c, v = .slice a n c ∧ SlAt 1 PartC w' (.slice a n c) (Rul.ruleQ s)) ∨ (Rul.okQ s = false ∧ v = .slice none 0 0)

set_option maxRecDepth 100000 in
set_option maxHeartbeats 8000000 in
theorem ruleof_any (s : List UInt8) (w : World) (ht : s.length ≤ 100000000) :
    Calls Tryz.prog 22 #[.string ⟨s.toArray⟩] w fun e w' => ∃ v, e = .returned (.tuple #[v, .bool (Rul.okQ s)]) ∧ RuleOfPost s w' v ∧ Below w.heap.size w w' := by
  obtain ⟨iR, hiR, hR0, hR1, hR2⟩ := info_parts infoRel
  obtain ⟨iP, hiP, hP0, hP1, hP2⟩ := info_parts infoPart
  have CW := Lib.hid fun w => cut_own s [32, 111, 114, 32] w (by simp) (by omega) (by simp)
  have hL0 : 0 < (Lib.split s [32, 111, 114, 32]).length := by rw [Spl.split_len (by simp)]; omega
  have hLm := Rul.split_short (s := s) (sub := [32, 111, 114, 32]) (by simp)
  have HPL := Lib.hid fun x (hx : x ∈ Lib.split s [32, 111, 114, 32]) => piece_le hx
  have hcnt := Rul.count_Q s
  have HCN := Lib.hid hcnt
  have HRS := Lib.hid (Rul.rs_Q s)
  have HOK := Lib.hid (show Rul.okQ s = (decide (Rul.ruleE (Rul.ruleQ s) = 0) && (Rul.ruleT (Rul.ruleQ s) == s)) from rfl)
  have hQ : Rul.ruleQ s = (Lib.split s [32, 111, 114, 32]).map Rul.partQ := rfl
  have HP1 := Lib.hid (show ∀ w' a n c, Rul.okQ s = true → SlAt 1 PartC w' (.slice a n c) (Rul.ruleQ s) → RuleOfPost s w' (.slice a n c) from fun w' a n c h1 h2 => .inl ⟨h1, _, _, _, rfl, h2⟩)
  have HP2 := Lib.hid (show ∀ w', Rul.okQ s = false → RuleOfPost s w' (.slice none 0 0) from fun w' h => .inr ⟨h, rfl⟩)
  generalize RuleOfPost s = RP at *
  generalize Rul.ruleQ s = RQ at *
  generalize Rul.okQ s = OK at *
  generalize Lib.split s [32, 111, 114, 32] = L at *
  have HQ := Lib.hid hQ
  obtain ⟨m, hm⟩ : ∃ m, L.length = m := ⟨_, rfl⟩
  have HM := Lib.hid hm
  clear hQ hcnt
  go_enter Tryz.func22, Tryz.ntmps22
  go_wp2_with fail
  refine (CW.out _).mono ?_
  rintro e w1 ⟨v5, rfl, hown5, hb⟩
  obtain ⟨g5, cap5, rfl, hg5, hg5', hc5, hm5, hcell5⟩ := row_txt hown5 hL0
  have W1 := Lib.hid hb
  have hs1 := hb.size
  have HC5 := Lib.hid hcell5
  rw [hm] at hL0 hLm hc5 ⊢
  have Q0 := Lib.hid (show QO w w1.heap.size (.slice none 0 0) [] (fun _ => False) (L.take 0) w1 from ⟨⟨rfl, .inl ⟨rfl, rfl⟩⟩, rfl, by simp, ⟨by simp, by simp, by simp⟩, hb, Nat.le_refl _⟩)
  clear hb hown5 hcell5 CW hm hm5 hg5
  go_wp2_with fail
  go_loopw [4, 6, 7, 8, 9] (fun o i _ _ _ wr => ∃ (k : Nat) (ps : List (List Rul.Rl × Value)) (S : Nat → Prop), i = .int .i64 k ∧ k ≤ m ∧ Hid (QO w w1.heap.size o ps S (L.take k) wr) ∧ Hid (Below w1.heap.size w1 wr)) (fun _ i _ _ _ _ => m - (RowKit.intOf i).toNat)
  case atStart => exact ⟨0, [], fun _ => False, rfl, Nat.zero_le _, Q0, Lib.hid (Below.refl _ _)⟩
  case round =>
    obtain ⟨k, ps, S, rfl, hk, P, HD⟩ := hrel
    rename World => wo
    clear Q0
    by_cases hlt : k < m
    · obtain ⟨x, hx⟩ : ∃ x, L[k]? = some x := ⟨L[k]'(by have := HM.out; omega), List.getElem?_eq_getElem (by have := HM.out; omega)⟩
      have cz := cell_keep (HC5.out k x hx) HD.out
      have hxl := HPL.out x (List.mem_of_getElem? hx)
      have CX := Lib.hid fun w => cut_own x [32, 97, 110, 100, 32] w (by simp) (by omega) (by simp)
      have hx0 : 0 < (Lib.split x [32, 97, 110, 100, 32]).length := by rw [Spl.split_len (by simp)]; omega
      have hxm := Rul.split_short (s := x) (sub := [32, 97, 110, 100, 32]) (by simp)
      have HXS := Lib.hid fun y (hy : y ∈ Lib.split x [32, 97, 110, 100, 32]) => Nat.le_trans (piece_le hy) hxl
      have HER := Lib.hid (show Rul.partQ x = (Lib.split x [32, 97, 110, 100, 32]).map Rul.relQ from rfl)
      generalize Lib.split x [32, 97, 110, 100, 32] = L2 at *
      have HTK := Lib.hid (show L.take (k + 1) = L.take k ++ [x] by rw [List.take_add_one, hx]; rfl)
      have hpl : ps.length = k := by rw [P.out.len, List.length_take, HM.out]; omega
      have hov := fun b h => (P.out.row.lt b h).2
      have k0 : (0 : Int) ≤ (k : Int) := by omega
      have k1 : (k : Int) < (m : Int) := by omega
      clear hx
      go_wp2_with fail
      refine (CX.out _).mono ?_
      rintro e w2 ⟨v8, rfl, hown8, hb⟩
      obtain ⟨g8, cap8, rfl, hg8, _, hc8, hm8, hcell8⟩ := row_txt hown8 hx0
      have P1 := Lib.hid (P.out.below hb)
      have D1 := Lib.hid (blw_trans HD.out hb)
      have hs2 := hb.size
      have hs3 := HD.out.size
      have HC8 := Lib.hid hcell8
      obtain ⟨n2, hn2⟩ : ∃ n2, L2.length = n2 := ⟨_, rfl⟩
      rw [hn2] at hx0 hxm hc8 ⊢
      have HN2 := Lib.hid hn2
      have I0 := Lib.hid (show QI w2.heap.size (.slice none 0 0) [] (fun _ => False) (L2.take 0) w2 from ⟨⟨rfl, .inl ⟨rfl, rfl⟩⟩, rfl, by simp, ⟨by simp, by simp, by simp⟩, Nat.le_refl _⟩)
      clear hb hown8 hcell8 CX cz P HD hn2 hm8 hg8
      go_wp2_with fail
      go_loopw [7, 9] (fun o2 i wx => ∃ (j : Nat) (qs : List (Rul.Rl × Value)) (S2 : Nat → Prop), i = .int .i64 j ∧ j ≤ n2 ∧ Hid (QI w2.heap.size o2 qs S2 (L2.take j) wx) ∧ Hid (Below w2.heap.size w2 wx)) (fun _ i _ => n2 - (RowKit.intOf i).toNat)
      case atStart => exact ⟨0, [], fun _ => False, rfl, Nat.zero_le _, I0, Lib.hid (Below.refl _ _)⟩
      case round =>
        obtain ⟨j, qs, S2, rfl, hj, PI, HI⟩ := hrel
        rename World => wi
        clear I0
        by_cases hjn : j < n2
        · obtain ⟨y, hy⟩ : ∃ y, L2[j]? = some y := ⟨L2[j]'(by have := HN2.out; omega), List.getElem?_eq_getElem (by have := HN2.out; omega)⟩
          have cz := cell_keep (HC8.out j y hy) HI.out
          have hyl := HXS.out y (List.mem_of_getElem? hy)
          have CR := Lib.hid fun w => relof_any y w (by omega)
          obtain ⟨R, hR⟩ : ∃ R, Rul.relQ y = R := ⟨_, rfl⟩
          rw [hR] at CR
          have HR := Lib.hid hR
          have HTJ := Lib.hid (show L2.take (j + 1) = L2.take j ++ [y] by rw [List.take_add_one, hy]; rfl)
          have hql : qs.length = j := by rw [PI.out.len, List.length_take, HN2.out]; omega
          have hov2 := fun b h => (PI.out.row.lt b h).2
          have j0 : (0 : Int) ≤ (j : Int) := by omega
          have j1 : (j : Int) < (n2 : Int) := by omega
          clear hy hR
          go_wp2_with fail
          refine (CR.out _).mono ?_
          rintro e w3 ⟨a, n, c, rfl, hsl, hfr, hb⟩
          have HB := Lib.hid (show ∀ b, (Value.slice a n c).ownBlock = some b → w2.heap.size ≤ b ∧ _ ≠ some b from fun b hb' => ⟨by have := hfr b hb'; have := HI.out.size; omega, fun e => by have := hfr b hb'; have := hov2 b e; omega⟩)
          have P3 := Lib.hid ((PI.out.below hb).below (blw_alloc w3 (.cells #[.int .u8 (R.op.toNat : Int), .int .i64 R.mod, .bool R.no, .slice a n c] 106)))
          have BN := Lib.hid (Boxed.made w3 #[.int .u8 (R.op.toNat : Int), .int .i64 R.mod, .bool R.no, .slice a n c] 106)
          have HSL := Lib.hid (hsl.rngs_below (blw_alloc w3 (.cells #[.int .u8 (R.op.toNat : Int), .int .i64 R.mod, .bool R.no, .slice a n c] 106)))
          have I3 := Lib.hid (blw_trans (blw_trans HI.out hb) (blw_alloc w3 (.cells #[.int .u8 (R.op.toNat : Int), .int .i64 R.mod, .bool R.no, .slice a n c] 106)))
          clear hb hsl hfr cz CR PI HI hov2
          go_wp2_with (at_builtin; refine wpList_append_own_at _ rfl _ _ 102 rfl w2.heap.size 106 iR _ 4 48 Tryz.underlying102 hiR hR0 hR1 hR2 rfl (by decide) _ qs.length (qflat qs) rfl P3.out.row ⟨w3.heap.size, 0, none⟩ 1 1 [.int .u8 (R.op.toNat : Int), .int .i64 R.mod, .bool R.no, .slice a n c] rfl rfl (boxed_add BN.out) (fun u hu => by simp at hu; rcases hu with rfl | rfl | rfl | rfl <;> rfl) (by unfold maxLen; omega) (by omega) P3.out.sz ?_; intro v' w5 hown hgrow hnil hat)
          have P4 := Lib.hid (P3.out.append (x := y) (by rw [HR.out]; exact hown) hgrow hat (by rw [HR.out]; exact HSL.out) HB.out)
          have I4 := Lib.hid (show Below w2.heap.size w2 w5 from I3.out.grown hgrow I3.out.size (fun k hk => (P3.out.row.lt k hk).1))
          clear hown hgrow hnil hat P3 I3 HSL BN HB
          go_wp2_with fail
          go_roundw
          case rel => exact ⟨j + 1, _, _, by go_num, by omega, by rw [HTJ.out]; exact P4, I4⟩
          case measure => simp [RowKit.intOf]; omega
        · have e : j = n2 := by omega
          subst e
          obtain ⟨a2, c2, rfl⟩ := row_any PI.out.row
          have li := PI.out.lies
          rw [List.take_of_length_le (by have := HN2.out; omega), ← HER.out] at li
          have hql : qs.length = j := by rw [PI.out.len, List.length_take, HN2.out]; omega
          rw [hql] at li ⊢
          have LI := Lib.hid li
          have P3 := Lib.hid ((P1.out.below HI.out).below (blw_alloc wi (.cells #[.slice a2 j c2] 102)))
          have BN := Lib.hid (Boxed.made wi #[.slice a2 j c2] 102)
          have D3 := Lib.hid (blw_trans (blw_trans D1.out HI.out) (blw_alloc wi (.cells #[.slice a2 j c2] 102)))
          have hs4 := HI.out.size
          clear li PI hql
          go_wp2_with (at_builtin; refine wpList_append_own_at _ rfl _ _ 43 rfl w1.heap.size 102 iP _ 1 24 Tryz.underlying43 hiP hP0 hP1 hP2 rfl (by decide) _ ps.length (ps.map (fun q : List Rul.Rl × Value => q.2)) rfl P3.out.row ⟨wi.heap.size, 0, none⟩ 1 1 [.slice a2 j c2] rfl rfl (boxed_add BN.out) (fun u hu => by simp at hu; subst hu; rfl) (by unfold maxLen; omega) (by omega) P3.out.sz ?_; intro v' w5 hown hgrow hnil hat)
          have P4 := Lib.hid (P3.out.append (x := x) hown hgrow hat hs1 (relsI_kept LI.out.1 (fun b hb' => (blw_alloc wi _).block b (LI.out.2 b hb').2.lt) (fun _ h => h)) (fun b hb' => ⟨by have := (LI.out.2 b hb').1; omega, fun e => by have := (LI.out.2 b hb').1; have := hov b e; omega, (LI.out.2 b hb').2.grown (grown_below (blw_alloc wi _)) (fun e => by cases e)⟩))
          have D4 := Lib.hid (show Below w1.heap.size w1 w5 from D3.out.grown hgrow D3.out.size (fun k hk => (P3.out.row.lt k hk).1))
          clear hown hgrow hnil hat P3 D3 BN LI
          go_wp2_with fail
          go_roundw
          case rel => exact ⟨k + 1, _, _, by go_num, by omega, by rw [HTK.out]; exact P4, D4⟩
          case measure => simp [RowKit.intOf]; omega
    · have e : k = m := by omega
      subst e
      obtain ⟨a, c, rfl⟩ := row_any P.out.row
      have hpl : ps.length = k := by rw [P.out.len, List.length_take, HM.out]; omega
      have li := P.out.lies
      rw [List.take_of_length_le (by have := HM.out; omega), ← HQ.out] at li
      rw [hpl] at li ⊢
      have hlow := P.out.low
      have hcn := HCN.out
      have CF := Lib.hid (rulefault_any RQ a k c wo li (by omega) (by omega))
      have LI := Lib.hid li
      have LW := Lib.hid hlow
      clear P HD hpl HPL HC5
      by_cases hE : Rul.ruleE RQ = 0
      · have CT := Lib.hid fun w' (hb : Below wo.heap.size wo w') => ruletext_any RQ a k c w' (li.rule_below hb) hE (fun l hl x hx => by have := HRS.out l hl x hx; omega)
        rw [hE] at CF
        have HO2 := Lib.hid (show OK = (Rul.ruleT RQ == s) by rw [HOK.out, hE]; simp)
        generalize Rul.ruleT RQ = T at *
        clear li hlow hE hcn
        go_wp2_with fail
        refine CF.out.mono ?_
        rintro e w2 ⟨rfl, hb⟩
        have F2 := Lib.hid hb
        clear hb CF
        go_wp2_with fail
        refine (CT.out _ F2.out).mono ?_
        rintro e w3 ⟨rfl, hb⟩
        have F3 := Lib.hid (blw_trans F2.out hb)
        clear hb CT
        by_cases hT : T = s
        · subst hT
          obtain rfl : OK = true := by rw [HO2.out]; simp
          go_wp2_with fail
          go_ret2
          exact ⟨_, rfl, HP1.out _ _ _ _ (by first | trivial | rfl) (LI.out.rule_below F3.out), blw_trans LW.out F3.out⟩
        · have hT' : (T == s) = false := by simpa using hT
          obtain rfl : OK = false := by rw [HO2.out]; exact hT'
          clear hT
          go_wp2_with fail
          go_ret2
          exact ⟨_, rfl, HP2.out _ (by first | trivial | rfl), blw_trans LW.out F3.out⟩
      · obtain rfl : OK = false := by rw [HOK.out, dec_no hE]; rfl
        generalize Rul.ruleE RQ = E at *
        have hE' : (E == 0) = false := beq_no hE
        have hE2 : (E != 0) = true := by simp [hE]
        clear li hlow hcn hE
        go_wp2_with fail
        refine CF.out.mono ?_
        rintro e w2 ⟨rfl, hb⟩
        have F2 := Lib.hid hb
        clear hb CF
        go_wp2_with fail
        go_ret2
        exact ⟨_, rfl, HP2.out _ (by first | trivial | rfl), blw_trans LW.out F2.out⟩
end Go.Proofs.YtaijjffnamjhiaaGreatDoor
namespace Go.Proofs.YtaijjffnamjhiaaGreatDoor
open Go.RowKit
open Dcm (P10 okD)

set_option maxRecDepth 100000 in
set_option maxHeartbeats 1000000 in
theorem dflt_no (c s : Int) (w : World) (h : okD c s) :
    Calls Tryz.prog 30 #[.agg #[.int .i64 c, .int .i64 s]] w fun e w' => e = .returned (.bool false) ∧ Below w.heap.size w w' := by
  obtain ⟨h1, h2, h3, h4⟩ := h
  have d1 : decide (s < 0) = false := dec_no (by omega)
  have d2 : decide (9 < s) = false := dec_no (by omega)
  have d3 : decide (c < -1000000000000000) = false := dec_no (by omega)
  have d4 : decide (1000000000000000 < c) = false := dec_no (by omega)
  go_enter Tryz.func30, Tryz.ntmps30
  go_wp2
  go_ret
  exact ⟨rfl, blw_alloc _ _⟩
set_option maxRecDepth 100000 in
set_option maxHeartbeats 1000000 in
theorem dflt_yes (c s : Int) (w : World) (h : ¬ okD c s) :
    Calls Tryz.prog 30 #[.agg #[.int .i64 c, .int .i64 s]] w fun e w' => e = .returned (.bool true) ∧ Below w.heap.size w w' := by
  by_cases h1 : s < 0
  · go_enter Tryz.func30, Tryz.ntmps30
    go_wp2
    go_ret
    exact ⟨rfl, blw_alloc _ _⟩
  by_cases h2 : 9 < s
  · go_enter Tryz.func30, Tryz.ntmps30
    go_wp2
    go_ret
    exact ⟨rfl, blw_alloc _ _⟩
  by_cases h3 : c < -1000000000000000
  · go_enter Tryz.func30, Tryz.ntmps30
    go_wp2
    go_ret
    exact ⟨rfl, blw_alloc _ _⟩
  by_cases h4 : 1000000000000000 < c
  · go_enter Tryz.func30, Tryz.ntmps30
    go_wp2
    go_ret
    exact ⟨rfl, blw_alloc _ _⟩
  exact absurd ⟨by omega, by omega, by omega, by omega⟩ h

/-- one digit more: what is left over by the next power of ten -/
theorem ten_more (F k : Int) (k0 : 0 ≤ k) (k1 : k ≤ 8) (h : F % P10 k = 0) : (F % P10 (k + 1) = 0 ↔ F / P10 k % 10 = 0) ∧ F / P10 (k + 1) = F / P10 k / 10 := by
  have hb := Dcm.P10_bd k
  have e := Dcm.P10_succ k k0 k1
  obtain ⟨q, rfl⟩ := Int.dvd_of_emod_eq_zero h
  rw [e, Int.mul_emod_mul_of_pos _ _ (by omega), Int.mul_ediv_cancel_left _ (by omega), Int.mul_ediv_mul_of_pos _ _ (by omega)]
  refine ⟨⟨fun g => ?_, fun g => by rw [g, Int.mul_zero]⟩, rfl⟩
  rcases Int.mul_eq_zero.1 g with g | g
  · omega
  · exact g

set_option maxRecDepth 100000 in
set_option maxHeartbeats 1000000 in
theorem opsOf_any (c s : Int) (w : World) (h : okD c s) :
    Calls Tryz.prog 72 #[.agg #[.int .i64 c, .int .i64 s]] w fun e w' => e = .returned (.agg #[.int .i64 (Dcm.mag c / P10 s), .int .i64 s, .int .i64 ((Dcm.strip s.toNat (Dcm.mag c % P10 s)).1 : Int), .int .i64 (Dcm.mag c % P10 s), .int .i64 (Dcm.strip s.toNat (Dcm.mag c % P10 s)).2]) ∧ Below w.heap.size w w' := by
  obtain ⟨s0, s1, c0, c1⟩ := h
  have CS := Lib.hid fun w => size_any c w (by omega) (by omega)
  have CT := Lib.hid fun w => ten_any s w s0 s1
  have U0 := Dcm.P10_bd s
  have m0 := Dcm.mag_bd c
  have m1 : Dcm.mag c ≤ 1000000000000000 := by unfold Dcm.mag; split <;> omega
  have r0 := Int.emod_nonneg (Dcm.mag c) (by omega : P10 s ≠ 0)
  have r1 := Int.emod_lt_of_pos (Dcm.mag c) (by omega : 0 < P10 s)
  have e0 : (P10 s == 0) = false := beq_no (by omega)
  have e1 : ¬ P10 s = 0 := by omega
  have e2 : IntKind.i64.wrap ((Dcm.mag c).tdiv (P10 s)) = Dcm.mag c / P10 s := IntWalk.i64_quo _ _ ⟨m0, by omega, U0.1⟩
  have e3 : (Dcm.mag c).tmod (P10 s) = Dcm.mag c % P10 s := IntWalk.rem_in _ _ m0
  generalize gm : Dcm.mag c = m at *
  generalize gU : P10 s = U at *
  generalize gF : m % U = F at *
  generalize gI : m / U = I at *
  clear gm gF gI c0 c1
  have GU := Lib.hid gU
  clear gU
  generalize hR : Dcm.strip s.toNat F = R at *
  have HR := Lib.hid hR
  clear hR
  go_enter Tryz.func72, Tryz.ntmps72
  go_wp2_with fail
  refine (CS.out _).mono ?_
  rintro e w' ⟨rfl, rfl⟩
  go_wp2_with fail
  refine (CT.out _).mono ?_
  rintro e w' ⟨rfl, rfl⟩
  go_wp2_with fail
  have A1 := Boxed.alloc (Boxed.made w #[.int .i64 c, .int .i64 s] 37) (.cells #[.int .i64 0, .int .i64 0, .int .i64 0, .int .i64 0, .int .i64 0] 45)
  have Z1 := Boxed.at (q := w.heap.size + 1) (Boxed.made (w.alloc (.cells #[.int .i64 c, .int .i64 s] 37)) #[.int .i64 0, .int .i64 0, .int .i64 0, .int .i64 0, .int .i64 0] 45) (by simp)
  have W1 := Lib.hid (blw_trans (blw_alloc w (.cells #[.int .i64 c, .int .i64 s] 37)) (blw_alloc _ (.cells #[.int .i64 0, .int .i64 0, .int .i64 0, .int .i64 0, .int .i64 0] 45)))
  generalize (w.alloc (.cells #[.int .i64 c, .int .i64 s] 37)).alloc (.cells #[.int .i64 0, .int .i64 0, .int .i64 0, .int .i64 0, .int .i64 0] 45) = w1 at *
  have k0 := A1.cell 0 _ rfl
  have k1 := A1.cell 1 _ rfl
  have z0 := Z1.cell 0 _ rfl
  have z1 := Z1.cell 1 _ rfl
  have z2 := Z1.cell 2 _ rfl
  have z3 := Z1.cell 3 _ rfl
  have z4 := Z1.cell 4 _ rfl
  have f0 := Z1.free 0 (by simp)
  have f1 := Z1.free 1 (by simp)
  have f2 := Z1.free 2 (by simp)
  have f3 := Z1.free 3 (by simp)
  have f4 := Z1.free 4 (by simp)
  clear A1 Z1
  have B := Lib.hid (show F % P10 (s - s) = 0 ∧ Dcm.strip s.toNat (F / P10 (s - s)) = R by rw [Int.sub_self]; exact ⟨Int.emod_one _, by rw [show P10 0 = 1 from rfl, Int.ediv_one]; exact HR.out⟩)
  go_loop [5] (fun i => ∃ k : Int, 0 ≤ k ∧ k ≤ s ∧ i = .int .i64 k ∧ Hid (F % P10 (s - k) = 0 ∧ Dcm.strip k.toNat (F / P10 (s - k)) = R)) (fun i => (intOf i).toNat)
  case atStart => exact ⟨s, s0, by omega, rfl, B⟩
  case round =>
    obtain ⟨k, q0, q1, rfl, HK⟩ := hrel
    clear B
    by_cases hw : 0 < k
    · have d1 : decide (0 < k) = true := dec_yes hw
      have CW := Lib.hid fun w => ten_any (s - k + 1) w (by omega) (by omega)
      have V := Dcm.P10_bd (s - k + 1)
      have a1 : IntKind.i64.wrap (s - k) = s - k := IntWalk.i64_in _ (by omega)
      have a2 : IntKind.i64.wrap (s - k + 1) = s - k + 1 := IntWalk.i64_in _ (by omega)
      have a3 : (P10 (s - k + 1) == 0) = false := beq_no (by omega)
      have a4 : ¬ P10 (s - k + 1) = 0 := by omega
      have a5 : F.tmod (P10 (s - k + 1)) = F % P10 (s - k + 1) := IntWalk.rem_in _ _ r0
      have TM := Lib.hid (ten_more F (s - k) (by omega) (by omega) HK.out.1)
      go_wp2_with fail
      refine (CW.out _).mono ?_
      rintro e w' ⟨rfl, rfl⟩
      by_cases ht : F % P10 (s - k + 1) = 0
      · have d2 : (F % P10 (s - k + 1) == 0) = true := beq_yes ht
        have HN : Hid (F % P10 (s - (k - 1)) = 0 ∧ Dcm.strip (k - 1).toNat (F / P10 (s - (k - 1))) = R) := by
          have e : s - (k - 1) = s - k + 1 := by omega
          have h := HK.out.2
          have e' : k.toNat = (k - 1).toNat + 1 := by omega
          rw [e'] at h
          unfold Dcm.strip at h
          rw [if_pos (TM.out.1.1 ht)] at h
          rw [e]
          exact ⟨ht, by rw [TM.out.2]; exact h⟩
        go_wp2
        go_round
        case rel => exact ⟨k - 1, by omega, by omega, by go_num, HN⟩
        case measure => simp [intOf]; omega
      · have d2 : (F % P10 (s - k + 1) == 0) = false := beq_no ht
        have HE : R = (k.toNat, F / P10 (s - k)) := by
          have h := HK.out.2
          have e' : k.toNat = (k - 1).toNat + 1 := by omega
          rw [e'] at h
          unfold Dcm.strip at h
          rw [if_neg (fun g => ht (TM.out.1.2 g))] at h
          rw [← h, ← e']
        have EK := Lib.hid (show max k 0 = k by omega)
        subst HE
        have CU := Lib.hid fun w => ten_any (s - k) w (by omega) (by omega)
        have V2 := Dcm.P10_bd (s - k)
        have b3 : (P10 (s - k) == 0) = false := beq_no (by omega)
        have b4 : ¬ P10 (s - k) = 0 := by omega
        have b5 : IntKind.i64.wrap (F.tdiv (P10 (s - k))) = F / P10 (s - k) := IntWalk.i64_quo _ _ ⟨r0, by omega, V2.1⟩
        go_wp2_with fail
        go_still_tail 17, (by kernel_rfl)
        still_call ((CT.out _).mono fun e w' h => ⟨h.1, h.2.symm⟩)
        repeat still_step
        still_call ((CU.out _).mono fun e w' h => ⟨h.1, h.2.symm⟩)
        repeat still_step
        refine wpStill_nil ?_
        go_wp2
        refine bodyPost_ret (v := .agg #[.int .i64 I, .int .i64 s, .int .i64 k, .int .i64 F, .int .i64 (F / P10 (s - k))]) (by simp [results, Tryz.results72, go_sem, z0, z1, z2, z3, z4]) rfl ⟨by simp [EK.out], ?_⟩
        refine Below.drew ?_
        repeat (first | exact W1.out | refine Below.setCell ?_ (by simp) _)
    · have d1 : decide (0 < k) = false := dec_no hw
      have a1 : IntKind.i64.wrap (s - k) = s - k := IntWalk.i64_in _ (by omega)
      have HE : R = (k.toNat, F / P10 (s - k)) := by
        have h := HK.out.2
        have e' : k.toNat = 0 := by omega
        rw [e'] at h ⊢
        exact h.symm
      have EK := Lib.hid (show max k 0 = k by omega)
      subst HE
      have CU := Lib.hid fun w => ten_any (s - k) w (by omega) (by omega)
      have V2 := Dcm.P10_bd (s - k)
      have b3 : (P10 (s - k) == 0) = false := beq_no (by omega)
      have b4 : ¬ P10 (s - k) = 0 := by omega
      have b5 : IntKind.i64.wrap (F.tdiv (P10 (s - k))) = F / P10 (s - k) := IntWalk.i64_quo _ _ ⟨r0, by omega, V2.1⟩
      go_wp2_with fail
      go_still_tail 17, (by kernel_rfl)
      still_call ((CT.out _).mono fun e w' h => ⟨h.1, h.2.symm⟩)
      repeat still_step
      still_call ((CU.out _).mono fun e w' h => ⟨h.1, h.2.symm⟩)
      repeat still_step
      refine wpStill_nil ?_
      go_wp2
      refine bodyPost_ret (v := .agg #[.int .i64 I, .int .i64 s, .int .i64 k, .int .i64 F, .int .i64 (F / P10 (s - k))]) (by simp [results, Tryz.results72, go_sem, z0, z1, z2, z3, z4]) rfl ⟨by simp [EK.out], ?_⟩
      refine Below.drew ?_
      repeat (first | exact W1.out | refine Below.setCell ?_ (by simp) _)
end Go.Proofs.YtaijjffnamjhiaaGreatDoor
namespace Go.Proofs.YtaijjffnamjhiaaGreatDoor
open Go.RowKit
open Dcm (P10 okD)

set_option maxRecDepth 100000 in
set_option maxHeartbeats 4000000 in
theorem setfault_any (t0 t1 t2 t3 t4 : List UInt8) (w : World) (hl : ∀ t ∈ [t0, t1, t2, t3, t4], t.length ≤ 100000000) :
    Calls Tryz.prog 28 #[.agg #[.string ⟨t0.toArray⟩, .string ⟨t1.toArray⟩, .string ⟨t2.toArray⟩, .string ⟨t3.toArray⟩, .string ⟨t4.toArray⟩]] w fun e w' => e = .returned (.int .i64 (if Rul.setOk [t0, t1, t2, t3, t4] = true then 0 else 3)) ∧ Below w.heap.size w w' := by
  have W0 := Lib.hid (blw_alloc w (.cells #[.string ⟨t0.toArray⟩, .string ⟨t1.toArray⟩, .string ⟨t2.toArray⟩, .string ⟨t3.toArray⟩, .string ⟨t4.toArray⟩] 61))
  have CX := Lib.hid fun w => settexts_any t0 t1 t2 t3 t4 w
  obtain ⟨E, hE⟩ : ∃ E : Int, (if Rul.setOk [t0, t1, t2, t3, t4] = true then (0 : Int) else 3) = E := ⟨_, rfl⟩
  rw [hE]
  obtain ⟨L, hLL⟩ : ∃ L, [t0, t1, t2, t3, t4] = L := ⟨_, rfl⟩
  have HN := Lib.hid (show L.length = 5 by rw [← hLL]; rfl)
  rw [hLL] at hl hE CX
  have HL := Lib.hid hl
  have HE := Lib.hid hE
  clear hLL hl hE
  go_enter Tryz.func28, Tryz.ntmps28
  go_wp2_with fail
  refine (CX.out _).mono ?_
  rintro e v ⟨bx, rfl, hbx, hb⟩
  have W1 := Lib.hid (blw_trans W0.out hb)
  have BX := Lib.hid hbx
  clear hb CX W0 hbx
  go_wp2_with fail
  go_loopw [4, 5, 6] (fun i _ _ wr => ∃ k : Nat, i = .int .i64 k ∧ k ≤ 5 ∧ Hid ((L.take k).all Rul.textOk = true) ∧ Hid (Below v.heap.size v wr)) (fun i _ _ _ => 5 - (RowKit.intOf i).toNat)
  case atStart => exact ⟨0, rfl, by omega, Lib.hid (by simp), Lib.hid (Below.refl _ _)⟩
  case round =>
    obtain ⟨k, rfl, hk, HA, HB⟩ := hrel
    by_cases hlt : k < 5
    · obtain ⟨x, hx⟩ : ∃ x, L[k]? = some x := ⟨L[k]'(by have := HN.out; omega), List.getElem?_eq_getElem (by have := HN.out; omega)⟩
      have HX := Lib.hid hx
      have xc := (BX.out.below HB.out).cell k _ (strC_get hx)
      have xl := (BX.out.below HB.out).lt
      have hxl := HL.out x (List.mem_of_getElem? hx)
      have CP := Lib.hid (ruleof_any x wr hxl)
      have hsame := (Rul.ok_same x).1
      rw [hsame] at CP
      have k5 : (k : Int) < 5 := by omega
      have k0 : 0 ≤ (k : Int) := by omega
      have HTO := Lib.hid (show Rul.textOk x = (x.isEmpty || Rul.parseOk x) from rfl)
      obtain ⟨p, hp⟩ : ∃ p, Rul.parseOk x = p := ⟨_, rfl⟩
      rw [hp] at CP HTO
      clear hx hsame hp
      go_wp2_with fail
      refine CP.out.mono ?_
      rintro e w5 ⟨v2, rfl, _, hb⟩
      have HB5 := Lib.hid (blw_trans HB.out hb)
      have xc5 := (BX.out.below HB5.out).cell k _ (strC_get HX.out)
      have xl5 := (BX.out.below HB5.out).lt
      clear hb CP xc xl
      by_cases he : x = []
      · have HA2 := Lib.hid (Rul.take_ok HX.out HA.out (by rw [HTO.out, he]; rfl))
        subst he
        go_wp2_with fail
        go_roundw
        case rel => exact ⟨k + 1, by go_num, by omega, HA2, HB5⟩
        case measure => simp [RowKit.intOf]; omega
      · have e0 : (x == []) = false := beq_eq_false_iff_ne.2 he
        have he' : x.isEmpty = false := by cases x <;> simp at he ⊢
        rw [he', Bool.false_or] at HTO
        clear he
        cases p with
        | true =>
          have HA2 := Lib.hid (Rul.take_ok HX.out HA.out HTO.out)
          go_wp2_with fail
          go_roundw
          case rel => exact ⟨k + 1, by go_num, by omega, HA2, HB5⟩
          case measure => simp [RowKit.intOf]; omega
        | false =>
          have hno := Rul.not_ok (List.mem_of_getElem? HX.out) HTO.out
          obtain rfl : E = 3 := by rw [← HE.out, hno]; rfl
          clear hno
          go_wp2_with fail
          go_ret
          exact ⟨rfl, blw_trans W1.out HB5.out⟩
    · have e : k = 5 := by omega
      subst e
      have h5 := HA.out
      rw [List.take_of_length_le (by have := HN.out; omega)] at h5
      obtain rfl : E = 0 := by rw [← HE.out, show Rul.setOk L = true from h5]; rfl
      clear h5
      go_wp2_with fail
      go_ret
      exact ⟨rfl, blw_trans W1.out HB.out⟩

set_option maxRecDepth 100000 in
set_option maxHeartbeats 4000000 in
theorem kindof_any (t0 t1 t2 t3 t4 : List UInt8) (c s : Int) (w : World) (hl : ∀ t ∈ [t0, t1, t2, t3, t4], t.length ≤ 100000000) (hs : Rul.setOk [t0, t1, t2, t3, t4] = true) (hd : okD c s) :
    Calls Tryz.prog 31 #[.agg #[.string ⟨t0.toArray⟩, .string ⟨t1.toArray⟩, .string ⟨t2.toArray⟩, .string ⟨t3.toArray⟩, .string ⟨t4.toArray⟩], .agg #[.int .i64 c, .int .i64 s]] w fun e w' => e = .returned (.string ⟨(Rul.kindS [t0, t1, t2, t3, t4] (Rul.opsD c s) 0).toArray⟩) ∧ Below w.heap.size w w' := by
  have W0 := Lib.hid ((blw_alloc w (.cells #[.string ⟨t0.toArray⟩, .string ⟨t1.toArray⟩, .string ⟨t2.toArray⟩, .string ⟨t3.toArray⟩, .string ⟨t4.toArray⟩] 61)).alloc (by simp) (.cells #[.int .i64 c, .int .i64 s] 37))
  have BS := Lib.hid ((Boxed.made w #[.string ⟨t0.toArray⟩, .string ⟨t1.toArray⟩, .string ⟨t2.toArray⟩, .string ⟨t3.toArray⟩, .string ⟨t4.toArray⟩] 61).alloc (.cells #[.int .i64 c, .int .i64 s] 37))
  have BD := Lib.hid (Boxed.made (w.alloc (.cells #[.string ⟨t0.toArray⟩, .string ⟨t1.toArray⟩, .string ⟨t2.toArray⟩, .string ⟨t3.toArray⟩, .string ⟨t4.toArray⟩] 61)) #[.int .i64 c, .int .i64 s] 37)
  simp only [World.size_alloc] at BD
  have CX := Lib.hid fun w => settexts_any t0 t1 t2 t3 t4 w
  have CK := Lib.hid fun w => kinds_any w
  have CO : Hid (∀ wx : World, Calls Tryz.prog 72 #[.agg #[.int .i64 c, .int .i64 s]] wx fun e w' => e = .returned (.agg #[.int .i64 (Rul.opsD c s).i, .int .i64 (Rul.opsD c s).v, .int .i64 (Rul.opsD c s).w, .int .i64 (Rul.opsD c s).f, .int .i64 (Rul.opsD c s).t]) ∧ Below wx.heap.size wx w') := Lib.hid fun wx => opsOf_any c s wx hd
  generalize Rul.opsD c s = O at *
  obtain ⟨KS, hKS⟩ : ∃ KS, Rul.kindS [t0, t1, t2, t3, t4] O 0 = KS := ⟨_, rfl⟩
  rw [hKS]
  obtain ⟨L, hLL⟩ : ∃ L, [t0, t1, t2, t3, t4] = L := ⟨_, rfl⟩
  have HN := Lib.hid (show L.length = 5 by rw [← hLL]; rfl)
  rw [hLL] at hl hs hKS CX
  have HL := Lib.hid hl
  have HS := Lib.hid hs
  have HKS := Lib.hid hKS
  clear hLL hl hs hKS hd
  go_enter Tryz.func31, Tryz.ntmps31
  go_wp2_with fail
  refine (CX.out _).mono ?_
  rintro e v ⟨bx, rfl, hbx, hb⟩
  have W1 := Lib.hid (blw_trans W0.out hb)
  have D1 := Lib.hid (BD.out.below hb)
  have BX := Lib.hid hbx
  clear hb CX W0 hbx BS BD
  go_wp2_with fail
  go_loopw [6, 7, 8] (fun i _ _ wr => ∃ k : Nat, i = .int .i64 k ∧ k ≤ 5 ∧ Hid (∀ y ∈ L.take k, Rul.hits O y = false) ∧ Hid (Below v.heap.size v wr)) (fun i _ _ _ => 5 - (RowKit.intOf i).toNat)
  case atStart => exact ⟨0, rfl, by omega, Lib.hid (by simp), Lib.hid (Below.refl _ _)⟩
  case round =>
    obtain ⟨k, rfl, hk, HA, HB⟩ := hrel
    by_cases hlt : k < 5
    · obtain ⟨x, hx⟩ : ∃ x, L[k]? = some x := ⟨L[k]'(by have := HN.out; omega), List.getElem?_eq_getElem (by have := HN.out; omega)⟩
      have HX := Lib.hid hx
      have xc := (BX.out.below HB.out).cell k _ (strC_get hx)
      have xl := (BX.out.below HB.out).lt
      have hxl := HL.out x (List.mem_of_getElem? hx)
      have CP := Lib.hid (ruleof_any x wr hxl)
      have hsame := Rul.ok_same x
      rw [hsame.1] at CP
      have HSM := Lib.hid hsame
      have k5 : (k : Int) < 5 := by omega
      have k0 : 0 ≤ (k : Int) := by omega
      have HHX := Lib.hid (show Rul.hits O x = (!x.isEmpty && Rul.ruleH (Rul.ruleP x) O) from rfl)
      clear hx hsame
      by_cases he : x = []
      · have HA2 := Lib.hid (Rul.take_hits HX.out HA.out (by rw [HHX.out, he]; rfl))
        generalize Rul.parseOk x = p at CP
        subst he
        go_wp2_with fail
        refine CP.out.mono ?_
        rintro e w5 ⟨v2, rfl, _, hb⟩
        have HB5 := Lib.hid (blw_trans HB.out hb)
        have xc5 := (BX.out.below HB5.out).cell k _ (strC_get HX.out)
        have xl5 := (BX.out.below HB5.out).lt
        clear hb CP xc xl
        go_wp2_with fail
        go_roundw
        case rel => exact ⟨k + 1, by go_num, by omega, HA2, HB5⟩
        case measure => simp [RowKit.intOf]; omega
      · have e0 : (x == []) = false := beq_eq_false_iff_ne.2 he
        have he' : x.isEmpty = false := by cases x <;> simp at he ⊢
        have hok : Rul.parseOk x = true := by
          have := Rul.mem_ok HS.out (List.mem_of_getElem? HX.out)
          unfold Rul.textOk at this
          rwa [he', Bool.false_or] at this
        have HOK := Lib.hid hok
        rw [he'] at HHX
        rw [hok] at CP
        clear hok he
        go_wp2_with fail
        refine CP.out.mono ?_
        rintro e w5 ⟨v2, rfl, hP, hb⟩
        have HB5 := Lib.hid (blw_trans HB.out hb)
        rcases hP with ⟨_, pa, pn, pc, rfl, hs⟩ | ⟨hno, _⟩
        · rw [HSM.out.2 HOK.out] at hs
          have CH := Lib.hid fun (wx : World) (hb : Below w5.heap.size w5 wx) => rhr_any (Rul.ruleP x) pa pn pc O wx (hs.rule_below hb) (Rul.parseOk_iff.1 HOK.out).1
          have xc5 := (BX.out.below HB5.out).cell k _ (strC_get HX.out)
          have xl5 := (BX.out.below HB5.out).lt
          have d0 := (D1.out.below HB5.out).cell 0 _ rfl
          have d1 := (D1.out.below HB5.out).cell 1 _ rfl
          have dl := (D1.out.below HB5.out).lt
          clear hb hs CP xc xl HSM
          generalize Rul.ruleH (Rul.ruleP x) O = H at *
          go_wp2_with fail
          refine (CO.out _).mono ?_
          rintro e w6 ⟨rfl, hb⟩
          have HB6 := Lib.hid (blw_trans HB5.out hb)
          have CH6 := Lib.hid (CH.out _ hb)
          clear hb CH d0 d1 dl xc5 xl5
          go_wp2_with fail
          refine CH6.out.mono ?_
          rintro e w7 ⟨rfl, hb⟩
          have HB7 := Lib.hid (blw_trans HB6.out hb)
          clear hb CH6
          cases H with
          | true =>
            obtain ⟨kt, hkt⟩ : ∃ kt, Rul.kindL[k]? = some kt := ⟨Rul.kindL[k]'(by show k < 5; omega), List.getElem?_eq_getElem _⟩
            have hfin : KS = kt := by
              have := Rul.kindS_hit (i := 0) HX.out HA.out HHX.out
              rw [← HKS.out, this, Nat.zero_add]
              unfold Rul.kindAt
              rw [hkt]; rfl
            subst hfin
            have HKT := Lib.hid hkt
            clear hkt
            go_wp2_with fail
            refine (CK.out _).mono ?_
            rintro e w8 ⟨bk, rfl, hbk, hb⟩
            have kc := hbk.cell k _ (strC_get HKT.out)
            have kl := hbk.lt
            have W8 := Lib.hid (blw_trans W1.out (blw_trans HB7.out hb))
            clear hb hbk CK
            go_wp2_with fail
            go_ret
            exact ⟨rfl, W8.out⟩
          | false =>
            have HA2 := Lib.hid (Rul.take_hits HX.out HA.out HHX.out)
            go_wp2_with fail
            go_roundw
            case rel => exact ⟨k + 1, by go_num, by omega, HA2, HB7⟩
            case measure => simp [RowKit.intOf]; omega
        · have h2 : Rul.okQ x = true := HSM.out.1.trans HOK.out
          rw [h2] at hno; cases hno
    · have e : k = 5 := by omega
      subst e
      have h5 := HA.out
      rw [List.take_of_length_le (by have := HN.out; omega)] at h5
      obtain rfl : KS = [111, 116, 104, 101, 114] := by rw [← HKS.out, Rul.kindS_none h5]; rfl
      clear h5
      go_wp2_with fail
      go_ret
      exact ⟨rfl, blw_trans W1.out HB.out⟩
end Go.Proofs.YtaijjffnamjhiaaGreatDoor
namespace Go.Proofs.YtaijjffnamjhiaaGreatDoor
open Go.RowKit
open Dcm (P10 okD)

set_option maxRecDepth 100000 in
set_option maxHeartbeats 4000000 in
theorem pltells_ok (t0 t1 t2 t3 t4 : List UInt8) (c s : Int) (w : World) (hT : TR w) (hK : KindsW w) (hH : HanW w) (hl : ∀ t ∈ [t0, t1, t2, t3, t4], t.length ≤ 100000000) (hs : Rul.setOk [t0, t1, t2, t3, t4] = true) (hd : okD c s) :
    Calls Tryz.prog 6 #[.agg #[.string ⟨t0.toArray⟩, .string ⟨t1.toArray⟩, .string ⟨t2.toArray⟩, .string ⟨t3.toArray⟩, .string ⟨t4.toArray⟩], .agg #[.int .i64 c, .int .i64 s]] w fun e w' => e = .returned (.bool true) ∧ Below w.heap.size w w' := by
  have C0 : Hid (∀ wx : World, Below w.heap.size w wx → Calls Tryz.prog 27 #[.agg #[.string ⟨#[]⟩, .string ⟨#[105, 32, 61, 32, 49, 32, 97, 110, 100, 32, 118, 32, 61, 32, 48]⟩, .string ⟨#[]⟩, .string ⟨#[]⟩, .string ⟨#[]⟩], .agg #[.int .i64 1, .int .i64 0]] wx fun e w' => e = .returned (.tuple #[.string ⟨#[111, 110, 101]⟩, .nilIface]) ∧ Below wx.heap.size wx w') :=
    Lib.hid fun wx hb => by
      have h := kind_ok [] Rul.enOneS [] [] [] 1 0 wx (hT.below hb) (hK.below hb) en_short en_set (by decide)
      rw [first_kind] at h
      exact h
  have W0 := Lib.hid ((blw_alloc w (.cells #[.string ⟨t0.toArray⟩, .string ⟨t1.toArray⟩, .string ⟨t2.toArray⟩, .string ⟨t3.toArray⟩, .string ⟨t4.toArray⟩] 61)).alloc (by simp) (.cells #[.int .i64 c, .int .i64 s] 37))
  have S0 := Lib.hid ((Boxed.made w #[.string ⟨t0.toArray⟩, .string ⟨t1.toArray⟩, .string ⟨t2.toArray⟩, .string ⟨t3.toArray⟩, .string ⟨t4.toArray⟩] 61).alloc (.cells #[.int .i64 c, .int .i64 s] 37))
  have D0 := Lib.hid (Boxed.made (w.alloc (.cells #[.string ⟨t0.toArray⟩, .string ⟨t1.toArray⟩, .string ⟨t2.toArray⟩, .string ⟨t3.toArray⟩, .string ⟨t4.toArray⟩] 61)) #[.int .i64 c, .int .i64 s] 37)
  simp only [World.size_alloc] at D0
  have CS := Lib.hid fun (wx : World) => setfault_any t0 t1 t2 t3 t4 wx hl
  have CC := Lib.hid fun (wx : World) (hb : Below w.heap.size w wx) => pcheck_any t0 t1 t2 t3 t4 wx (hT.below hb) hl
  rw [hs] at CS CC
  rw [if_pos rfl] at CS CC
  have CE := Lib.hid fun (wx : World) (hb : Below w.heap.size w wx) => sameErr_yes (ErrNo.nil) wx (hH.below hb)
  have CD := Lib.hid fun (wx : World) => dflt_no c s wx hd
  obtain ⟨KS, hKS⟩ : ∃ KS, Rul.kindS [t0, t1, t2, t3, t4] (Rul.opsD c s) 0 = KS := ⟨_, rfl⟩
  have CK := Lib.hid fun (wx : World) => hKS ▸ kindof_any t0 t1 t2 t3 t4 c s wx hl hs hd
  have CG := Lib.hid fun (wx : World) (hb : Below w.heap.size w wx) => hKS ▸ kind_ok t0 t1 t2 t3 t4 c s wx (hT.below hb) (hK.below hb) hl hs hd
  have CF := Lib.hid fun (wx : World) (hb : Below w.heap.size w wx) => sameErr_yes (ErrNo.nil) wx (hH.below hb)
  have eKS : (KS == KS) = true := by simp
  clear hT hK hH hl hs hd hKS
  go_enter Tryz.func6, Tryz.ntmps6
  go_wp2_with fail
  refine (C0.out _ W0.out).mono ?_
  rintro e w1 ⟨rfl, hb⟩
  have W1 := Lib.hid (blw_trans W0.out hb)
  have S1 := Lib.hid (S0.out.below hb)
  have D1 := Lib.hid (D0.out.below hb)
  clear hb W0 S0 D0
  have s0 := S1.out.cell 0 _ rfl
  have s1 := S1.out.cell 1 _ rfl
  have s2 := S1.out.cell 2 _ rfl
  have s3 := S1.out.cell 3 _ rfl
  have s4 := S1.out.cell 4 _ rfl
  have sl := S1.out.lt
  have d0 := D1.out.cell 0 _ rfl
  have d1 := D1.out.cell 1 _ rfl
  have dl := D1.out.lt
  clear C0
  go_wp2_with fail
  refine (CS.out _).mono ?_
  rintro e w2 ⟨rfl, hb⟩
  have W2 := Lib.hid (blw_trans W1.out hb)
  have S2 := Lib.hid (S1.out.below hb)
  have D2 := Lib.hid (D1.out.below hb)
  clear hb W1 S1 D1 s0 s1 s2 s3 s4 sl d0 d1 dl
  have s0 := S2.out.cell 0 _ rfl
  have s1 := S2.out.cell 1 _ rfl
  have s2 := S2.out.cell 2 _ rfl
  have s3 := S2.out.cell 3 _ rfl
  have s4 := S2.out.cell 4 _ rfl
  have sl := S2.out.lt
  have d0 := D2.out.cell 0 _ rfl
  have d1 := D2.out.cell 1 _ rfl
  have dl := D2.out.lt
  clear CS
  go_wp2_with fail
  refine (CC.out _ W2.out).mono ?_
  rintro e w3 ⟨rfl, hb⟩
  have W3 := Lib.hid (blw_trans W2.out hb)
  have S3 := Lib.hid (S2.out.below hb)
  have D3 := Lib.hid (D2.out.below hb)
  clear hb W2 S2 D2 s0 s1 s2 s3 s4 sl d0 d1 dl
  have s0 := S3.out.cell 0 _ rfl
  have s1 := S3.out.cell 1 _ rfl
  have s2 := S3.out.cell 2 _ rfl
  have s3 := S3.out.cell 3 _ rfl
  have s4 := S3.out.cell 4 _ rfl
  have sl := S3.out.lt
  have d0 := D3.out.cell 0 _ rfl
  have d1 := D3.out.cell 1 _ rfl
  have dl := D3.out.lt
  clear CC
  go_wp2_with fail
  refine (CE.out _ W3.out).mono ?_
  rintro e w4 ⟨rfl, hb⟩
  have W4 := Lib.hid (blw_trans W3.out hb)
  have S4 := Lib.hid (S3.out.below hb)
  have D4 := Lib.hid (D3.out.below hb)
  clear hb W3 S3 D3 s0 s1 s2 s3 s4 sl d0 d1 dl
  have s0 := S4.out.cell 0 _ rfl
  have s1 := S4.out.cell 1 _ rfl
  have s2 := S4.out.cell 2 _ rfl
  have s3 := S4.out.cell 3 _ rfl
  have s4 := S4.out.cell 4 _ rfl
  have sl := S4.out.lt
  have d0 := D4.out.cell 0 _ rfl
  have d1 := D4.out.cell 1 _ rfl
  have dl := D4.out.lt
  clear CE
  go_wp2_with fail
  refine (CD.out _).mono ?_
  rintro e w5 ⟨rfl, hb⟩
  have W5 := Lib.hid (blw_trans W4.out hb)
  have S5 := Lib.hid (S4.out.below hb)
  have D5 := Lib.hid (D4.out.below hb)
  clear hb W4 S4 D4 s0 s1 s2 s3 s4 sl d0 d1 dl
  have s0 := S5.out.cell 0 _ rfl
  have s1 := S5.out.cell 1 _ rfl
  have s2 := S5.out.cell 2 _ rfl
  have s3 := S5.out.cell 3 _ rfl
  have s4 := S5.out.cell 4 _ rfl
  have sl := S5.out.lt
  have d0 := D5.out.cell 0 _ rfl
  have d1 := D5.out.cell 1 _ rfl
  have dl := D5.out.lt
  clear CD
  go_wp2_with fail
  refine (CK.out _).mono ?_
  rintro e w6 ⟨rfl, hb⟩
  have W6 := Lib.hid (blw_trans W5.out hb)
  have S6 := Lib.hid (S5.out.below hb)
  have D6 := Lib.hid (D5.out.below hb)
  clear hb W5 S5 D5 s0 s1 s2 s3 s4 sl d0 d1 dl
  have s0 := S6.out.cell 0 _ rfl
  have s1 := S6.out.cell 1 _ rfl
  have s2 := S6.out.cell 2 _ rfl
  have s3 := S6.out.cell 3 _ rfl
  have s4 := S6.out.cell 4 _ rfl
  have sl := S6.out.lt
  have d0 := D6.out.cell 0 _ rfl
  have d1 := D6.out.cell 1 _ rfl
  have dl := D6.out.lt
  clear CK
  go_wp2_with fail
  refine (CG.out _ W6.out).mono ?_
  rintro e w7 ⟨rfl, hb⟩
  have W7 := Lib.hid (blw_trans W6.out hb)
  have S7 := Lib.hid (S6.out.below hb)
  have D7 := Lib.hid (D6.out.below hb)
  clear hb W6 S6 D6 s0 s1 s2 s3 s4 sl d0 d1 dl
  have s0 := S7.out.cell 0 _ rfl
  have s1 := S7.out.cell 1 _ rfl
  have s2 := S7.out.cell 2 _ rfl
  have s3 := S7.out.cell 3 _ rfl
  have s4 := S7.out.cell 4 _ rfl
  have sl := S7.out.lt
  have d0 := D7.out.cell 0 _ rfl
  have d1 := D7.out.cell 1 _ rfl
  have dl := D7.out.lt
  clear CG
  go_wp2_with fail
  refine (CF.out _ W7.out).mono ?_
  rintro e w8 ⟨rfl, hb⟩
  have W8 := Lib.hid (blw_trans W7.out hb)
  have S8 := Lib.hid (S7.out.below hb)
  have D8 := Lib.hid (D7.out.below hb)
  clear hb W7 S7 D7 s0 s1 s2 s3 s4 sl d0 d1 dl
  have s0 := S8.out.cell 0 _ rfl
  have s1 := S8.out.cell 1 _ rfl
  have s2 := S8.out.cell 2 _ rfl
  have s3 := S8.out.cell 3 _ rfl
  have s4 := S8.out.cell 4 _ rfl
  have sl := S8.out.lt
  have d0 := D8.out.cell 0 _ rfl
  have d1 := D8.out.cell 1 _ rfl
  have dl := D8.out.lt
  clear CF
  go_wp2_with fail
  go_ret
  exact ⟨ret_bool (by first | rfl | simp), W8.out⟩
set_option maxRecDepth 100000 in
set_option maxHeartbeats 4000000 in
theorem pltells_num (t0 t1 t2 t3 t4 : List UInt8) (c s : Int) (w : World) (hT : TR w) (hK : KindsW w) (hH : HanW w) (hl : ∀ t ∈ [t0, t1, t2, t3, t4], t.length ≤ 100000000) (hs : Rul.setOk [t0, t1, t2, t3, t4] = true) (hd : ¬ okD c s) :
    Calls Tryz.prog 6 #[.agg #[.string ⟨t0.toArray⟩, .string ⟨t1.toArray⟩, .string ⟨t2.toArray⟩, .string ⟨t3.toArray⟩, .string ⟨t4.toArray⟩], .agg #[.int .i64 c, .int .i64 s]] w fun e w' => e = .returned (.bool true) ∧ Below w.heap.size w w' := by
  have C0 : Hid (∀ wx : World, Below w.heap.size w wx → Calls Tryz.prog 27 #[.agg #[.string ⟨#[]⟩, .string ⟨#[105, 32, 61, 32, 49, 32, 97, 110, 100, 32, 118, 32, 61, 32, 48]⟩, .string ⟨#[]⟩, .string ⟨#[]⟩, .string ⟨#[]⟩], .agg #[.int .i64 1, .int .i64 0]] wx fun e w' => e = .returned (.tuple #[.string ⟨#[111, 110, 101]⟩, .nilIface]) ∧ Below wx.heap.size wx w') :=
    Lib.hid fun wx hb => by
      have h := kind_ok [] Rul.enOneS [] [] [] 1 0 wx (hT.below hb) (hK.below hb) en_short en_set (by decide)
      rw [first_kind] at h
      exact h
  have W0 := Lib.hid ((blw_alloc w (.cells #[.string ⟨t0.toArray⟩, .string ⟨t1.toArray⟩, .string ⟨t2.toArray⟩, .string ⟨t3.toArray⟩, .string ⟨t4.toArray⟩] 61)).alloc (by simp) (.cells #[.int .i64 c, .int .i64 s] 37))
  have S0 := Lib.hid ((Boxed.made w #[.string ⟨t0.toArray⟩, .string ⟨t1.toArray⟩, .string ⟨t2.toArray⟩, .string ⟨t3.toArray⟩, .string ⟨t4.toArray⟩] 61).alloc (.cells #[.int .i64 c, .int .i64 s] 37))
  have D0 := Lib.hid (Boxed.made (w.alloc (.cells #[.string ⟨t0.toArray⟩, .string ⟨t1.toArray⟩, .string ⟨t2.toArray⟩, .string ⟨t3.toArray⟩, .string ⟨t4.toArray⟩] 61)) #[.int .i64 c, .int .i64 s] 37)
  simp only [World.size_alloc] at D0
  have CS := Lib.hid fun (wx : World) => setfault_any t0 t1 t2 t3 t4 wx hl
  have CC := Lib.hid fun (wx : World) (hb : Below w.heap.size w wx) => pcheck_any t0 t1 t2 t3 t4 wx (hT.below hb) hl
  rw [hs] at CS CC
  rw [if_pos rfl] at CS CC
  have CE := Lib.hid fun (wx : World) (hb : Below w.heap.size w wx) => sameErr_yes (ErrNo.nil) wx (hH.below hb)
  have CD := Lib.hid fun (wx : World) => dflt_yes c s wx hd
  have CG := Lib.hid fun (wx : World) (hb : Below w.heap.size w wx) => kind_num t0 t1 t2 t3 t4 c s wx (hT.below hb) hl hs hd
  have CF := Lib.hid fun (wx : World) (hb : Below w.heap.size w wx) => sameErr_yes (ErrNo.no 1) wx (hH.below hb)
  clear hT hK hH hl hs hd
  go_enter Tryz.func6, Tryz.ntmps6
  go_wp2_with fail
  refine (C0.out _ W0.out).mono ?_
  rintro e w1 ⟨rfl, hb⟩
  have W1 := Lib.hid (blw_trans W0.out hb)
  have S1 := Lib.hid (S0.out.below hb)
  have D1 := Lib.hid (D0.out.below hb)
  clear hb W0 S0 D0
  have s0 := S1.out.cell 0 _ rfl
  have s1 := S1.out.cell 1 _ rfl
  have s2 := S1.out.cell 2 _ rfl
  have s3 := S1.out.cell 3 _ rfl
  have s4 := S1.out.cell 4 _ rfl
  have sl := S1.out.lt
  have d0 := D1.out.cell 0 _ rfl
  have d1 := D1.out.cell 1 _ rfl
  have dl := D1.out.lt
  clear C0
  go_wp2_with fail
  refine (CS.out _).mono ?_
  rintro e w2 ⟨rfl, hb⟩
  have W2 := Lib.hid (blw_trans W1.out hb)
  have S2 := Lib.hid (S1.out.below hb)
  have D2 := Lib.hid (D1.out.below hb)
  clear hb W1 S1 D1 s0 s1 s2 s3 s4 sl d0 d1 dl
  have s0 := S2.out.cell 0 _ rfl
  have s1 := S2.out.cell 1 _ rfl
  have s2 := S2.out.cell 2 _ rfl
  have s3 := S2.out.cell 3 _ rfl
  have s4 := S2.out.cell 4 _ rfl
  have sl := S2.out.lt
  have d0 := D2.out.cell 0 _ rfl
  have d1 := D2.out.cell 1 _ rfl
  have dl := D2.out.lt
  clear CS
  go_wp2_with fail
  refine (CC.out _ W2.out).mono ?_
  rintro e w3 ⟨rfl, hb⟩
  have W3 := Lib.hid (blw_trans W2.out hb)
  have S3 := Lib.hid (S2.out.below hb)
  have D3 := Lib.hid (D2.out.below hb)
  clear hb W2 S2 D2 s0 s1 s2 s3 s4 sl d0 d1 dl
  have s0 := S3.out.cell 0 _ rfl
  have s1 := S3.out.cell 1 _ rfl
  have s2 := S3.out.cell 2 _ rfl
  have s3 := S3.out.cell 3 _ rfl
  have s4 := S3.out.cell 4 _ rfl
  have sl := S3.out.lt
  have d0 := D3.out.cell 0 _ rfl
  have d1 := D3.out.cell 1 _ rfl
  have dl := D3.out.lt
  clear CC
  go_wp2_with fail
  refine (CE.out _ W3.out).mono ?_
  rintro e w4 ⟨rfl, hb⟩
  have W4 := Lib.hid (blw_trans W3.out hb)
  have S4 := Lib.hid (S3.out.below hb)
  have D4 := Lib.hid (D3.out.below hb)
  clear hb W3 S3 D3 s0 s1 s2 s3 s4 sl d0 d1 dl
  have s0 := S4.out.cell 0 _ rfl
  have s1 := S4.out.cell 1 _ rfl
  have s2 := S4.out.cell 2 _ rfl
  have s3 := S4.out.cell 3 _ rfl
  have s4 := S4.out.cell 4 _ rfl
  have sl := S4.out.lt
  have d0 := D4.out.cell 0 _ rfl
  have d1 := D4.out.cell 1 _ rfl
  have dl := D4.out.lt
  clear CE
  go_wp2_with fail
  refine (CD.out _).mono ?_
  rintro e w5 ⟨rfl, hb⟩
  have W5 := Lib.hid (blw_trans W4.out hb)
  have S5 := Lib.hid (S4.out.below hb)
  have D5 := Lib.hid (D4.out.below hb)
  clear hb W4 S4 D4 s0 s1 s2 s3 s4 sl d0 d1 dl
  have s0 := S5.out.cell 0 _ rfl
  have s1 := S5.out.cell 1 _ rfl
  have s2 := S5.out.cell 2 _ rfl
  have s3 := S5.out.cell 3 _ rfl
  have s4 := S5.out.cell 4 _ rfl
  have sl := S5.out.lt
  have d0 := D5.out.cell 0 _ rfl
  have d1 := D5.out.cell 1 _ rfl
  have dl := D5.out.lt
  clear CD
  go_wp2_with fail
  refine (CG.out _ W5.out).mono ?_
  rintro e w6 ⟨rfl, hb⟩
  have W6 := Lib.hid (blw_trans W5.out hb)
  have S6 := Lib.hid (S5.out.below hb)
  have D6 := Lib.hid (D5.out.below hb)
  clear hb W5 S5 D5 s0 s1 s2 s3 s4 sl d0 d1 dl
  have s0 := S6.out.cell 0 _ rfl
  have s1 := S6.out.cell 1 _ rfl
  have s2 := S6.out.cell 2 _ rfl
  have s3 := S6.out.cell 3 _ rfl
  have s4 := S6.out.cell 4 _ rfl
  have sl := S6.out.lt
  have d0 := D6.out.cell 0 _ rfl
  have d1 := D6.out.cell 1 _ rfl
  have dl := D6.out.lt
  clear CG
  go_wp2_with fail
  refine (CF.out _ W6.out).mono ?_
  rintro e w7 ⟨rfl, hb⟩
  have W7 := Lib.hid (blw_trans W6.out hb)
  have S7 := Lib.hid (S6.out.below hb)
  have D7 := Lib.hid (D6.out.below hb)
  clear hb W6 S6 D6 s0 s1 s2 s3 s4 sl d0 d1 dl
  have s0 := S7.out.cell 0 _ rfl
  have s1 := S7.out.cell 1 _ rfl
  have s2 := S7.out.cell 2 _ rfl
  have s3 := S7.out.cell 3 _ rfl
  have s4 := S7.out.cell 4 _ rfl
  have sl := S7.out.lt
  have d0 := D7.out.cell 0 _ rfl
  have d1 := D7.out.cell 1 _ rfl
  have dl := D7.out.lt
  clear CF
  go_wp2_with fail
  go_ret
  exact ⟨ret_bool (by first | rfl | simp), W7.out⟩
set_option maxRecDepth 100000 in
set_option maxHeartbeats 4000000 in
theorem pltells_bad (t0 t1 t2 t3 t4 : List UInt8) (c s : Int) (w : World) (hT : TR w) (hK : KindsW w) (hH : HanW w) (hl : ∀ t ∈ [t0, t1, t2, t3, t4], t.length ≤ 100000000) (hs : Rul.setOk [t0, t1, t2, t3, t4] = false) :
    Calls Tryz.prog 6 #[.agg #[.string ⟨t0.toArray⟩, .string ⟨t1.toArray⟩, .string ⟨t2.toArray⟩, .string ⟨t3.toArray⟩, .string ⟨t4.toArray⟩], .agg #[.int .i64 c, .int .i64 s]] w fun e w' => e = .returned (.bool true) ∧ Below w.heap.size w w' := by
  have C0 : Hid (∀ wx : World, Below w.heap.size w wx → Calls Tryz.prog 27 #[.agg #[.string ⟨#[]⟩, .string ⟨#[105, 32, 61, 32, 49, 32, 97, 110, 100, 32, 118, 32, 61, 32, 48]⟩, .string ⟨#[]⟩, .string ⟨#[]⟩, .string ⟨#[]⟩], .agg #[.int .i64 1, .int .i64 0]] wx fun e w' => e = .returned (.tuple #[.string ⟨#[111, 110, 101]⟩, .nilIface]) ∧ Below wx.heap.size wx w') :=
    Lib.hid fun wx hb => by
      have h := kind_ok [] Rul.enOneS [] [] [] 1 0 wx (hT.below hb) (hK.below hb) en_short en_set (by decide)
      rw [first_kind] at h
      exact h
  have W0 := Lib.hid ((blw_alloc w (.cells #[.string ⟨t0.toArray⟩, .string ⟨t1.toArray⟩, .string ⟨t2.toArray⟩, .string ⟨t3.toArray⟩, .string ⟨t4.toArray⟩] 61)).alloc (by simp) (.cells #[.int .i64 c, .int .i64 s] 37))
  have S0 := Lib.hid ((Boxed.made w #[.string ⟨t0.toArray⟩, .string ⟨t1.toArray⟩, .string ⟨t2.toArray⟩, .string ⟨t3.toArray⟩, .string ⟨t4.toArray⟩] 61).alloc (.cells #[.int .i64 c, .int .i64 s] 37))
  have D0 := Lib.hid (Boxed.made (w.alloc (.cells #[.string ⟨t0.toArray⟩, .string ⟨t1.toArray⟩, .string ⟨t2.toArray⟩, .string ⟨t3.toArray⟩, .string ⟨t4.toArray⟩] 61)) #[.int .i64 c, .int .i64 s] 37)
  simp only [World.size_alloc] at D0
  have CS := Lib.hid fun (wx : World) => setfault_any t0 t1 t2 t3 t4 wx hl
  have CC := Lib.hid fun (wx : World) (hb : Below w.heap.size w wx) => pcheck_any t0 t1 t2 t3 t4 wx (hT.below hb) hl
  rw [hs] at CS CC
  rw [if_neg (by decide)] at CS CC
  have CE := Lib.hid fun (wx : World) (hb : Below w.heap.size w wx) => sameErr_yes (ErrNo.no 3) wx (hH.below hb)
  have CG := Lib.hid fun (wx : World) (hb : Below w.heap.size w wx) => kind_bad t0 t1 t2 t3 t4 c s wx (hT.below hb) hl hs
  have CF := Lib.hid fun (wx : World) (hb : Below w.heap.size w wx) => sameErr_yes (ErrNo.no 3) wx (hH.below hb)
  clear hT hK hH hl hs
  go_enter Tryz.func6, Tryz.ntmps6
  go_wp2_with fail
  refine (C0.out _ W0.out).mono ?_
  rintro e w1 ⟨rfl, hb⟩
  have W1 := Lib.hid (blw_trans W0.out hb)
  have S1 := Lib.hid (S0.out.below hb)
  have D1 := Lib.hid (D0.out.below hb)
  clear hb W0 S0 D0
  have s0 := S1.out.cell 0 _ rfl
  have s1 := S1.out.cell 1 _ rfl
  have s2 := S1.out.cell 2 _ rfl
  have s3 := S1.out.cell 3 _ rfl
  have s4 := S1.out.cell 4 _ rfl
  have sl := S1.out.lt
  have d0 := D1.out.cell 0 _ rfl
  have d1 := D1.out.cell 1 _ rfl
  have dl := D1.out.lt
  clear C0
  go_wp2_with fail
  refine (CS.out _).mono ?_
  rintro e w2 ⟨rfl, hb⟩
  have W2 := Lib.hid (blw_trans W1.out hb)
  have S2 := Lib.hid (S1.out.below hb)
  have D2 := Lib.hid (D1.out.below hb)
  clear hb W1 S1 D1 s0 s1 s2 s3 s4 sl d0 d1 dl
  have s0 := S2.out.cell 0 _ rfl
  have s1 := S2.out.cell 1 _ rfl
  have s2 := S2.out.cell 2 _ rfl
  have s3 := S2.out.cell 3 _ rfl
  have s4 := S2.out.cell 4 _ rfl
  have sl := S2.out.lt
  have d0 := D2.out.cell 0 _ rfl
  have d1 := D2.out.cell 1 _ rfl
  have dl := D2.out.lt
  clear CS
  go_wp2_with fail
  refine (CC.out _ W2.out).mono ?_
  rintro e w3 ⟨rfl, hb⟩
  have W3 := Lib.hid (blw_trans W2.out hb)
  have S3 := Lib.hid (S2.out.below hb)
  have D3 := Lib.hid (D2.out.below hb)
  clear hb W2 S2 D2 s0 s1 s2 s3 s4 sl d0 d1 dl
  have s0 := S3.out.cell 0 _ rfl
  have s1 := S3.out.cell 1 _ rfl
  have s2 := S3.out.cell 2 _ rfl
  have s3 := S3.out.cell 3 _ rfl
  have s4 := S3.out.cell 4 _ rfl
  have sl := S3.out.lt
  have d0 := D3.out.cell 0 _ rfl
  have d1 := D3.out.cell 1 _ rfl
  have dl := D3.out.lt
  clear CC
  go_wp2_with fail
  refine (CE.out _ W3.out).mono ?_
  rintro e w4 ⟨rfl, hb⟩
  have W4 := Lib.hid (blw_trans W3.out hb)
  have S4 := Lib.hid (S3.out.below hb)
  have D4 := Lib.hid (D3.out.below hb)
  clear hb W3 S3 D3 s0 s1 s2 s3 s4 sl d0 d1 dl
  have s0 := S4.out.cell 0 _ rfl
  have s1 := S4.out.cell 1 _ rfl
  have s2 := S4.out.cell 2 _ rfl
  have s3 := S4.out.cell 3 _ rfl
  have s4 := S4.out.cell 4 _ rfl
  have sl := S4.out.lt
  have d0 := D4.out.cell 0 _ rfl
  have d1 := D4.out.cell 1 _ rfl
  have dl := D4.out.lt
  clear CE
  go_wp2_with fail
  refine (CG.out _ W4.out).mono ?_
  rintro e w5 ⟨rfl, hb⟩
  have W5 := Lib.hid (blw_trans W4.out hb)
  have S5 := Lib.hid (S4.out.below hb)
  have D5 := Lib.hid (D4.out.below hb)
  clear hb W4 S4 D4 s0 s1 s2 s3 s4 sl d0 d1 dl
  have s0 := S5.out.cell 0 _ rfl
  have s1 := S5.out.cell 1 _ rfl
  have s2 := S5.out.cell 2 _ rfl
  have s3 := S5.out.cell 3 _ rfl
  have s4 := S5.out.cell 4 _ rfl
  have sl := S5.out.lt
  have d0 := D5.out.cell 0 _ rfl
  have d1 := D5.out.cell 1 _ rfl
  have dl := D5.out.lt
  clear CG
  go_wp2_with fail
  refine (CF.out _ W5.out).mono ?_
  rintro e w6 ⟨rfl, hb⟩
  have W6 := Lib.hid (blw_trans W5.out hb)
  have S6 := Lib.hid (S5.out.below hb)
  have D6 := Lib.hid (D5.out.below hb)
  clear hb W5 S5 D5 s0 s1 s2 s3 s4 sl d0 d1 dl
  have s0 := S6.out.cell 0 _ rfl
  have s1 := S6.out.cell 1 _ rfl
  have s2 := S6.out.cell 2 _ rfl
  have s3 := S6.out.cell 3 _ rfl
  have s4 := S6.out.cell 4 _ rfl
  have sl := S6.out.lt
  have d0 := D6.out.cell 0 _ rfl
  have d1 := D6.out.cell 1 _ rfl
  have dl := D6.out.lt
  clear CF
  go_wp2_with fail
  go_ret
  exact ⟨ret_bool (by first | rfl | simp), W6.out⟩
theorem pltells_any (t0 t1 t2 t3 t4 : List UInt8) (c s : Int) (w : World) (hT : TR w) (hK : KindsW w) (hH : HanW w) (hl : ∀ t ∈ [t0, t1, t2, t3, t4], t.length ≤ 100000000) :
    Calls Tryz.prog 6 #[.agg #[.string ⟨t0.toArray⟩, .string ⟨t1.toArray⟩, .string ⟨t2.toArray⟩, .string ⟨t3.toArray⟩, .string ⟨t4.toArray⟩], .agg #[.int .i64 c, .int .i64 s]] w fun e w' => e = .returned (.bool true) ∧ Below w.heap.size w w' := by
  by_cases hs : Rul.setOk [t0, t1, t2, t3, t4] = true
  · by_cases hd : okD c s
    · exact pltells_ok t0 t1 t2 t3 t4 c s w hT hK hH hl hs hd
    · exact pltells_num t0 t1 t2 t3 t4 c s w hT hK hH hl hs hd
  · exact pltells_bad t0 t1 t2 t3 t4 c s w hT hK hH hl (by simpa using hs)
end Go.Proofs.YtaijjffnamjhiaaGreatDoor
namespace Go.Proofs.YtaijjffnamjhiaaGreatDoor
open Go.RowKit

theorem gPowT : (Tryz.prog.globals[8]?).map (·.type) = some 276 := by kernel_rfl
theorem cellsPow : Tryz.prog.cellsOf 276 = 20 := by kernel_rfl
theorem cellsU64 : Tryz.prog.cellsOf 144 = 1 := by kernel_rfl
theorem powW_of {L : List (String × DataW Unit)} {W : World} (h : laidMetH Tryz.prog L W) (hf : L.filter (fun x => x.1 == "internal/strconv.uint64pow10") = [("internal/strconv.uint64pow10", Rows.laid_internal_strconv_uint64pow10)]) : PowW W := by
  have g := laidMetH.filter (fun x => x.1 == "internal/strconv.uint64pow10") h
  rw [hf, MakeChecks.laidMetH_plain _ _ _ (by kernel_rfl)] at g
  exact Lib.tabIs_of_head gPow gPowT Tryz.underlying276 Tryz.underlying144 cellsU64 cellsPow g
end Go.Proofs.YtaijjffnamjhiaaGreatDoor
namespace Go.Proofs.YtaijjffnamjhiaaGreatDoor
open Go.RowKit Go.ChangeShapes Go.WideShapes

theorem gKinds : Tryz.prog.globalNamed "linguister/plural.kinds" = some 0 := by kernel_rfl
theorem gKindsT : (Tryz.prog.globals[0]?).map (·.type) = some 126 := by kernel_rfl
theorem cellsKinds : Tryz.prog.cellsOf 126 = 5 := by kernel_rfl
theorem cellsText : Tryz.prog.cellsOf 9 = 1 := by kernel_rfl
theorem kindsW_of {L : List (String × DataW Unit)} {W : World} (h : laidMetH Tryz.prog L W) (hf : L.filter (fun x => x.1 == "linguister/plural.kinds") = [("linguister/plural.kinds", Rows.laid_linguister_plural_kinds)]) : KindsW W := by
  have g := laidMetH.filter (fun x => x.1 == "linguister/plural.kinds") h
  rw [hf, MakeChecks.laidMetH_plain _ _ _ (by kernel_rfl)] at g
  obtain ⟨ps, ⟨gg, t, cs, fuel, p, q, hg, ht, hvar, hd, _, _⟩, _⟩ := g
  obtain rfl := Option.some.inj (gKinds.symm.trans hg)
  obtain rfl := Option.some.inj (gKindsT.symm.trans ht)
  obtain ⟨xs, m, _, hx, hl, hxl, hel⟩ := DataW.trod_array Tryz.underlying126 hd
  rw [cellsKinds] at hl
  rw [cellsText] at hel
  intro i s hs
  have hi : i < 5 := (List.getElem?_eq_some_iff.1 hs).1
  have h1 := hel i hi
  have hcl : i < cs.toList.length := by omega
  have hone : (cs.toList.drop (i * 1)).take 1 = [cs.toList[i]'hcl] := by
    rw [Nat.mul_one, List.drop_eq_getElem_cons hcl]
    rfl
  rw [hone, List.getElem?_eq_getElem (by omega)] at h1
  obtain ⟨b, e, hb, _⟩ := DataW.trod_string Tryz.underlying9 h1
  have e2 : cs.toList[i]'hcl = .string b := by simpa using e
  have hv := World.var?_cell gKinds hvar i
  rw [hv]
  have hget : cs[i]? = some (cs.toList[i]'hcl) := by
    rw [← Array.getElem?_toList]; exact List.getElem?_eq_getElem hcl
  rw [hget, e2]
  have hx1 : (xs.map (·.1))[i]? = some (.lit (.string b.data.toList)) := by
    rw [List.getElem?_map, List.getElem?_eq_getElem (by omega)]
    simp [hb]
  have hk : xs.map (·.1) = Rul.kindL.map fun s => (.lit (.string s) : DataW Unit) := by
    have := congrArg Prod.fst hx
    simp only [Rows.laid_linguister_plural_kinds] at this
    injection this with this
    rw [← this]
    rfl
  rw [hk, List.getElem?_map, hs] at hx1
  have e3 : s = b.data.toList := by simpa using hx1
  rw [e3]
end Go.Proofs.YtaijjffnamjhiaaGreatDoor
namespace Go.Proofs.YtaijjffnamjhiaaGreatDoor
open Go.ChangeShapes Go.WideShapes Go.RowKit Go.Joins Go.Deep

section
variable {H : Type} {enc : TypeId × Value → H} {P : Program} {w : World} {base : Nat} {spare : Nat → Bool} {held : Bool}
theorem open_agg5 {r : Reach} {b0 : Nat} {t : TypeId} {f0 f1 f2 f3 f4 : Field} {v : Value} {d : DataW H} {p : List MemPlace} (hs : P.underlying t = some (.struct #[f0, f1, f2, f3, f4])) (hone : oneCellFields P #[f0, f1, f2, f3, f4] = true) (hC : P.cellsOf t = 5)
    (hv : Value.okWide P w r b0 t v) (h : DataW.Trod enc P w base spare held t v d p) :
    ∃ (v0 v1 v2 v3 v4 : Value) (y0 y1 y2 y3 y4 : DataW H × List MemPlace) (n : Nat), v = .agg #[v0, v1, v2, v3, v4] ∧ d = .agg [y0.1, y1.1, y2.1, y3.1, y4.1] ∧ p = y0.2 ++ (y1.2 ++ (y2.2 ++ (y3.2 ++ y4.2))) ∧
      DataW.trod enc P w base spare held n f0.type [v0] = some y0 ∧ DataW.trod enc P w base spare held n f1.type [v1] = some y1 ∧ DataW.trod enc P w base spare held n f2.type [v2] = some y2 ∧ DataW.trod enc P w base spare held n f3.type [v3] = some y3 ∧ DataW.trod enc P w base spare held n f4.type [v4] = some y4 := by
  obtain ⟨cs, rfl, hsz⟩ := okWide_struct hs hv
  obtain ⟨c0, c1, c2, c3, c4, rfl⟩ : ∃ c0 c1 c2 c3 c4, cs = #[c0, c1, c2, c3, c4] := by
    obtain ⟨l⟩ := cs
    match l, hsz.trans hC with
    | [c0, c1, c2, c3, c4], _ => exact ⟨c0, c1, c2, c3, c4, rfl⟩
  obtain ⟨fuel, hf⟩ := h
  obtain ⟨xs, n, _, hx, _, hlen, hg⟩ := DataW.trod_struct hs hf
  obtain ⟨y0, y1, y2, y3, y4, rfl⟩ : ∃ y0 y1 y2 y3 y4, xs = [y0, y1, y2, y3, y4] := by
    match xs, hlen with
    | [y0, y1, y2, y3, y4], _ => exact ⟨y0, y1, y2, y3, y4, rfl⟩
  obtain ⟨o0, k0⟩ := hone_of hone 0 f0 rfl
  obtain ⟨o1, k1⟩ := hone_of hone 1 f1 rfl
  obtain ⟨o2, k2⟩ := hone_of hone 2 f2 rfl
  obtain ⟨o3, k3⟩ := hone_of hone 3 f3 rfl
  obtain ⟨o4, k4⟩ := hone_of hone 4 f4 rfl
  have h0 := hg 0 f0 rfl
  have h1 := hg 1 f1 rfl
  have h2 := hg 2 f2 rfl
  have h3 := hg 3 f3 rfl
  have h4 := hg 4 f4 rfl
  simp only [Prod.mk.injEq] at hx
  exact ⟨c0, c1, c2, c3, c4, y0, y1, y2, y3, y4, n, rfl, by simpa using hx.1, by simpa using hx.2, by simpa [Value.cells, o0, k0] using h0, by simpa [Value.cells, o1, k1] using h1, by simpa [Value.cells, o2, k2] using h2, by simpa [Value.cells, o3, k3] using h3, by simpa [Value.cells, o4, k4] using h4⟩
end
end Go.Proofs.YtaijjffnamjhiaaGreatDoor
namespace Go.Proofs.YtaijjffnamjhiaaGreatDoor
theorem laidMet_over {P : Program} {W : World} {L : List (String × DataW Unit)} (args : Array Value) (hf : W.layFits P L [] = true) (hi : W.layIfaces P L (W.layVars P L) = true) :
    laidMet P L ((W.layVars P L).forCall (fun _ _ => 0) ⟨#[], args, []⟩).memory := by
  have e1 : (L.filter fun x => (L.map (·.1)).contains x.1) = L := List.filter_eq_self.2 fun x hx => List.contains_iff_mem.2 (List.mem_map.2 ⟨x, hx, rfl⟩)
  have e2 : (L.filter fun x => !(L.map (·.1)).contains x.1) = [] := List.filter_eq_nil_iff.2 fun x hx => by rw [List.contains_iff_mem.2 (List.mem_map.2 ⟨x, hx, rfl⟩)]; simp
  have h : laidMet P L (W.layVars P L) := laidMet_layVars (w0 := W) (L.map (·.1)) [] (by rw [e1]) (by rw [e1]; exact hf) (by rw [e1]; exact hi) (by rw [e2]; exact LaidIn.none)
  exact h.of_heap (by simp [World.memory, World.forCall, Input.heap])
end Go.Proofs.YtaijjffnamjhiaaGreatDoor
namespace Go.Proofs.YtaijjffnamjhiaaGreatDoor
open Go.RowKit

theorem hanEt : Tryz.prog.globalNamed "errors.errorType" = some 1 := by kernel_rfl
theorem hanRt : (Tryz.prog.cutTypes.find? (·.1 == "internal/reflectlite.rtype")).map (·.2) = some 234 := by kernel_rfl
theorem hanOne : ((List.range 313).filter fun t => Tryz.prog.rowNamed t [101, 114, 114, 111, 114]) = [25] := by kernel_rfl
theorem hanSize : Tryz.prog.types.size = 313 := by kernel_rfl
theorem hanW_of {L : List (String × DataW Unit)} {W : World} (hm : ("errors.errorType", Rows.laid_errors_errorType) ∈ L) (h : laidMetH Tryz.prog L W) : HanW W := by
  have hf : ("errors.errorType", Rows.laid_errors_errorType) ∈ L.filter (fun x => x.snd.handleName?.isSome) := List.mem_filter.2 ⟨hm, rfl⟩
  unfold laidMetH at h
  split at h
  · rename_i hE; rw [hE] at hf; cases hf
  rename_i hE
  rw [hE] at hf
  obtain ⟨name, u, ty, e1, e2, e3, e4, e5⟩ := h.2 _ hf
  have en : name = [101, 114, 114, 111, 114] := (Option.some.inj e1).symm
  subst en
  obtain rfl := Option.some.inj (hanRt.symm.trans e2)
  have hm : ty ∈ (List.range 313).filter fun t => Tryz.prog.rowNamed t [101, 114, 114, 111, 114] := List.mem_filter.2 ⟨List.mem_range.2 (by rw [← hanSize]; exact e3), e4⟩
  rw [hanOne] at hm
  obtain rfl := List.mem_singleton.1 hm
  have hh : typeHandle Tryz.prog 25 = .pointer (some ⟨11, 25, none⟩) := by kernel_rfl
  rw [hh] at e5
  simpa [HanW] using World.var?_cell hanEt e5 0
end Go.Proofs.YtaijjffnamjhiaaGreatDoor
namespace Go.Proofs.YtaijjffnamjhiaaGreatDoor.lawPluralTells
open Go.ChangeShapes Go.WideShapes Go.ChangeAt Go.RowKit Go.Joins

theorem own : ownKnob Tryz.prog.godebug = none := by kernel_rfl
theorem laidOut : laidOutB Tryz.prog = true := by kernel_rfl
theorem cellsSet : Tryz.prog.cellsOf 61 = 5 := by kernel_rfl
theorem cellsDec : Tryz.prog.cellsOf 37 = 2 := by kernel_rfl

set_option maxRecDepth 100000 in
theorem contract (H : Type) (enc : TypeId × Value → H) (W : World) (base : Nat) (args : Array Value) (ds gs : List (DataW H)) (before : List MemPlace)
    (hval : ∀ (j : Nat) t v, Tryz.f6.params[j]? = some t → args[j]? = some v → Value.okWide Tryz.prog W .any base t v)
    (hW : DataW.Whole enc Tryz.prog Tryz.f6.params.toList Rows.pluralTellsSpec.vars false W args.toList ds gs before) (hk : Rows.uptoSmall H (ds ++ gs) = true) (hL : laidMetH Tryz.prog Rows.pluralTellsUptoRow.laid W) (hS : W.ShapedOpen Tryz.prog) :
    Calls Tryz.prog 6 args W fun e W' => ∃ v, e = .returned v ∧ Rows.pluralTellsSpec.post enc Tryz.prog Tryz.f6 false true false false W args v W' := by
  have hpost : ∀ W', Below W.heap.size W W' → Rows.pluralTellsSpec.post enc Tryz.prog Tryz.f6 false true false false W args (.bool true) W' := fun W' hb =>
    law_post (tb := 4) laidOut rfl Tryz.underlying4 rfl (by kernel_rfl) (fun ds h => by match ds, h with | [x0, x1], _ => rfl) hW hb
  obtain ⟨p, q, hA0, hV, _, hfz, hnd⟩ := hW
  have hA : DataW.TrodAll enc Tryz.prog W 0 (fun _ => true) true Tryz.f6.params.toList args.toList ds p := hA0
  obtain ⟨rfl, rfl⟩ := trodVars_none hV
  rw [Tryz.params6] at hA hval
  obtain ⟨v0, vs0, d0, ds0, p0, q0, hargs, rfl, hp0, h0, r0⟩ := trodAll_cons hA
  obtain ⟨v1, vs1, d1, ds1, p1, q1, rfl, rfl, hp1, h1, r1⟩ := trodAll_cons r0
  obtain ⟨rfl, rfl, hp⟩ := trodAll_nil r1
  obtain rfl : args = #[v0, v1] := by cases args; simp_all
  obtain ⟨c0_0, c0_1, c0_2, c0_3, c0_4, y0_0, y0_1, y0_2, y0_3, y0_4, m0, rfl, rfl, rfl, hy0_0, hy0_1, hy0_2, hy0_3, hy0_4⟩ := open_agg5 Tryz.underlying61 (by kernel_rfl) cellsSet (hval 0 61 v0 rfl rfl) h0
  obtain ⟨s_zero, e0_0, _, w_s_zero⟩ := DataW.trod_string Tryz.underlying9 hy0_0
  obtain ⟨s_one, e0_1, _, w_s_one⟩ := DataW.trod_string Tryz.underlying9 hy0_1
  obtain ⟨s_two, e0_2, _, w_s_two⟩ := DataW.trod_string Tryz.underlying9 hy0_2
  obtain ⟨s_few, e0_3, _, w_s_few⟩ := DataW.trod_string Tryz.underlying9 hy0_3
  obtain ⟨s_many, e0_4, _, w_s_many⟩ := DataW.trod_string Tryz.underlying9 hy0_4
  simp at e0_0 e0_1 e0_2 e0_3 e0_4
  subst e0_0 e0_1 e0_2 e0_3 e0_4
  obtain ⟨c1_0, c1_1, y1_0, y1_1, m1, rfl, rfl, rfl, hy1_0, hy1_1⟩ := open_agg2 Tryz.underlying37 (by kernel_rfl) cellsDec (hval 1 37 v1 rfl rfl) h1
  obtain ⟨d_c, e1_0, _, w_d_c⟩ := DataW.trod_int Tryz.underlying3 hy1_0
  obtain ⟨d_s, e1_1, _, w_d_s⟩ := DataW.trod_int Tryz.underlying3 hy1_1
  simp at e1_0 e1_1
  subst e1_0 e1_1
  have b_d_c := bounds_i64 w_d_c
  have b_d_s := bounds_i64 w_d_s
  clear hA0 hfz hnd hval
  have hm : MaxW W := Go.Proofs.cell_of_shapedOpen_int (zero := #[.int .i64 0]) (t := 3) hS (of_decide_eq_true (by kernel_rfl)) (by kernel_rfl) rfl (by kernel_rfl) (by kernel_rfl) Tryz.underlying3
  have hT : TR W := ⟨powW_of hL (by kernel_rfl), numW_of hL (by kernel_rfl) (by kernel_rfl), hm⟩
  have hK : KindsW W := kindsW_of hL (by kernel_rfl)
  have hH : HanW W := hanW_of (by repeat (first | exact List.Mem.head _ | refine List.Mem.tail _ ?_)) hL
  have hq : Rows.uptoBulkAll _ ≤ 1048576 := of_decide_eq_true hk
  simp only [List.append_nil, Rows.uptoBulkAll, Rows.uptoBulk, Array.length_toList, *] at hq
  have hz : ∀ x : ByteArray, x.data.size = x.size := fun _ => rfl
  simp only [hz] at hq
  have hsz : s_zero.size + s_one.size + s_two.size + s_few.size + s_many.size ≤ 1048576 := by omega
  refine Calls.mono (?_ : Calls Tryz.prog 6 #[.agg #[.string s_zero, .string s_one, .string s_two, .string s_few, .string s_many], .agg #[.int .i64 d_c, .int .i64 d_s]] W fun e w' => e = .returned (.bool true) ∧ Below W.heap.size W w') fun e W' ⟨he, hb⟩ => ⟨_, he, hpost W' hb⟩
  obtain ⟨l0, rfl⟩ : ∃ l : List UInt8, s_zero = ⟨l.toArray⟩ := ⟨s_zero.data.toList, rfl⟩
  obtain ⟨l1, rfl⟩ : ∃ l : List UInt8, s_one = ⟨l.toArray⟩ := ⟨s_one.data.toList, rfl⟩
  obtain ⟨l2, rfl⟩ : ∃ l : List UInt8, s_two = ⟨l.toArray⟩ := ⟨s_two.data.toList, rfl⟩
  obtain ⟨l3, rfl⟩ : ∃ l : List UInt8, s_few = ⟨l.toArray⟩ := ⟨s_few.data.toList, rfl⟩
  obtain ⟨l4, rfl⟩ : ∃ l : List UInt8, s_many = ⟨l.toArray⟩ := ⟨s_many.data.toList, rfl⟩
  simp only [size_mkl] at hsz
  exact pltells_any l0 l1 l2 l3 l4 d_c d_s W hT hK hH (by intro t ht; simp at ht; rcases ht with rfl | rfl | rfl | rfl | rfl <;> omega)

theorem start_met (os : Os) : laidMetH Tryz.prog Rows.pluralTellsUptoRow.laid (((World.doorLaid Tryz.prog 89 os).layVars Tryz.prog (Rows.pluralTellsUptoRow.laid.filter fun x => x.2.handleName?.isNone)).forCall (fun _ _ => 0) ⟨#[], #[.agg #[.string ⟨#[]⟩, .string ⟨#[]⟩, .string ⟨#[]⟩, .string ⟨#[]⟩, .string ⟨#[]⟩], .agg #[.int .i64 0, .int .i64 0]], []⟩).memory :=
  laidMetH_of_parts3 (fuel := 8) (laidMet_over _ (by kernel_rfl) (by kernel_rfl)) (by kernel_rfl) (by kernel_rfl)
theorem start_reads (os : Os) {H : Type} (enc : TypeId × Value → H) : ∃ places, DataW.whole enc Tryz.prog (((World.doorLaid Tryz.prog 89 os).layVars Tryz.prog (Rows.pluralTellsUptoRow.laid.filter fun x => x.2.handleName?.isNone)).forCall (fun _ _ => 0) ⟨#[], #[.agg #[.string ⟨#[]⟩, .string ⟨#[]⟩, .string ⟨#[]⟩, .string ⟨#[]⟩, .string ⟨#[]⟩], .agg #[.int .i64 0, .int .i64 0]], []⟩).memory Tryz.f6.params.toList Rows.pluralTellsSpec.vars false (#[.agg #[.string ⟨#[]⟩, .string ⟨#[]⟩, .string ⟨#[]⟩, .string ⟨#[]⟩, .string ⟨#[]⟩], .agg #[.int .i64 0, .int .i64 0]] : Array Value).toList 8 = some ([.agg [.lit (.string []), .lit (.string []), .lit (.string []), .lit (.string []), .lit (.string [])], .agg [.lit (.int .i64 0), .lit (.int .i64 0)]], [], places) :=
  ⟨[], by kernel_rfl⟩

set_option maxRecDepth 100000 in
theorem lifted (os : Os) (started : os.Started) (H : Type) (enc : TypeId × Value → H) (F : Stop.Interp) :
    ReturnsInHanded {} Tryz.checked os 6 .any ((Rows.OpenSpec.upto Rows.pluralTellsSpec).preRow enc Tryz.prog Tryz.f6 Rows.pluralTellsUptoRow.domain false Rows.pluralTellsUptoRow.laid) (((Rows.OpenSpec.upto Rows.pluralTellsSpec).at F).post enc Tryz.prog Tryz.f6 false true false false) := by
  obtain ⟨places, hx⟩ := start_reads os enc
  refine returnsInHanded_of_row (C := Tryz.checked) (s := Rows.OpenSpec.upto Rows.pluralTellsSpec) own started (by kernel_rfl) Tryz.func6
    (witness_row_atRef (enc := enc) (C := Tryz.checked) false ((World.doorLaid Tryz.prog 89 os).layVars Tryz.prog (Rows.pluralTellsUptoRow.laid.filter fun x => x.2.handleName?.isNone)) #[.agg #[.string ⟨#[]⟩, .string ⟨#[]⟩, .string ⟨#[]⟩, .string ⟨#[]⟩, .string ⟨#[]⟩], .agg #[.int .i64 0, .int .i64 0]] (World.layVars_os _ _ _) (by kernel_rfl) (by kernel_rfl) (by kernel_rfl)
      (OpenSpec.preRow_of_cond 8 hx (by kernel_rfl) (fun k hk => by cases hk; kernel_rfl) (by kernel_rfl) (start_met os))) ?_
  intro W base args ds gs before hval hW _ hcond _ hL hS _
  exact contract H enc W base args ds gs before hval hW (hcond _ rfl) hL hS

theorem said : Rows.PluralTellsUptoSaid :=
  OpenClaim.holds_of_cond 6 Tryz.f6 rfl rfl rfl rfl rfl rfl rfl ⟨rfl, rfl, rfl, rfl, rfl⟩ rfl rfl rfl rfl rfl (by kernel_rfl) Tryz.func6 (by kernel_rfl)
    (of_decide_eq_true (by kernel_rfl)) (by unfold Func.isWrapper; first | (rw [if_pos (by decide +kernel)]; kernel_rfl) | (rw [if_neg (by decide +kernel)]; exact ⟨rfl, rfl⟩))
    (fun os started H enc _ F => by rw [OpenClaim.pre_eq_preRow]; exact lifted os started H enc F)

theorem plain (f : FuncId) (fn : Func) (hf : Tryz.pinned.checked.prog.funcNamed "linguister/linguisterlaw1.PluralTells" = some f) (hfn : Tryz.pinned.checked.prog.funcs[f]? = some fn) :
    true = Tryz.pinned.checked.prog.looks [] ∧ ∀ (j : Nat) t, fn.params[j]? = some t → Tryz.pinned.checked.prog.wantsStandIn t = false := by
  obtain rfl : f = 6 := Option.some.inj ((show Tryz.prog.funcNamed "linguister/linguisterlaw1.PluralTells" = some 6 by kernel_rfl).symm.trans hf) |>.symm
  obtain rfl : fn = Tryz.f6 := (Option.some.inj (Tryz.func6.symm.trans hfn)).symm
  refine ⟨by kernel_rfl, fun j t ht => ?_⟩
  rw [Tryz.params6] at ht
  have hm : t ∈ [61, 37] := by simpa using Array.mem_of_getElem? ht
  have hall : ([61, 37].all fun u => !Tryz.prog.wantsStandIn u) = true := by kernel_rfl
  exact (show Tryz.prog.wantsStandIn t = false by simpa using List.all_eq_true.1 hall t hm)

theorem proved : Rows.PluralTellsUptoCardSaid :=
  Claim7.holds_tied_plain_at .later [] _ _ _ _ said (fun _ h => by cases h) (by kernel_rfl) (fun _ h => by cases h) pluralTellsUpto_row_tie rfl ⟨rfl, rfl⟩ (by kernel_rfl) rfl plain (by kernel_rfl)
#print axioms proved
end Go.Proofs.YtaijjffnamjhiaaGreatDoor.lawPluralTells
