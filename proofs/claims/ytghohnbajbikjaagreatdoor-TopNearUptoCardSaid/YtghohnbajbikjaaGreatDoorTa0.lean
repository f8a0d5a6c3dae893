/- strings.Join over StrsAt, by its contract off the shelf. -/
import Derived.WalkKit
import Derived.WalkSpells
import Derived.WalkLawsBesides
import Derived.IntWalk
import Derived.BigQuiet
import Derived.Deep.QuietTactic
import Derived.Outline
import Derived.Lib.Hide
import Derived.Laws.Strings2
import Derived.Laws.Strings3
import Derived.Laws.Concat
import Derived.Laws.IdiomStrings
import Derived.Test.YtghohnbajbikjaaGreatDoorProg
import Derived.OwnWalk
import Derived.LoopTactic
import Derived.Laws.AppendOwn
import Derived.SliceStrings
import Derived.Test.YtghohnbajbikjaaGreatDoorShelfT
import Derived.Deep.DeepCutAuto
import Derived.Lib.Join
import Derived.Lib.Split
import Derived.OpenShut
import Derived.Laws.AppendOwnNone
import Derived.Lib.ConvBytes
import Derived.Lib.AtoiErrMem
import Derived.Lib.SplitLaws
import Derived.Lib.Replace
import Derived.WalkSmall
import Derived.Shelf.Spec.SlicesGrow
import Derived.Shelf.SlicesE.DeleteFunc
import Derived.Lib.OwnBridge
import Derived.Maps.AppendAt
import Derived.Test.YtghohnbajbikjaaGreatDoorShelfG
namespace Go.Proofs.YtghohnbajbikjaaGreatDoor
open Go.RowKit

/-- block p holds the values vs, and may be written -/
structure Boxed (w : World) (p : Nat) (vs : Array Value) : Prop where
  lt : p < w.heap.size
  cell : ∀ (j : Nat) (v : Value), vs[j]? = some v → w.cell? ⟨p, j, none⟩ = some v
  free : ∀ (j : Nat), j < vs.size → w.frozen? ⟨p, j, none⟩ = false
theorem Boxed.below {w w' : World} {p : Nat} {vs : Array Value} (h : Boxed w p vs) (hb : Below w.heap.size w w') : Boxed w' p vs :=
  ⟨Nat.lt_of_lt_of_le h.lt hb.size, fun j v hj => (hb.cell (p := ⟨p, j, none⟩) h.lt).trans (h.cell j v hj), fun j hj => (hb.frozen (p := ⟨p, j, none⟩) h.lt).trans (h.free j hj)⟩
theorem Boxed.made (w : World) (vs : Array Value) (t : TypeId) : Boxed (w.alloc (.cells vs t)) w.heap.size vs := by
  refine ⟨by simp, fun j v hj => ?_, fun j hj => ?_⟩
  · simp [go_sem, hj]
  · simp [go_sem]
theorem blw_alloc (w : World) (o : Obj) : Below w.heap.size w (w.alloc o) := (Below.refl _ _).alloc (Nat.le_refl _) o
theorem blw_trans {a b c : World} (h : Below a.heap.size a b) (k : Below b.heap.size b c) : Below a.heap.size a c := h.trans (k.mono h.size)
theorem blw_drewN {B : Nat} {a w : World} (h : Below B a w) (n : Nat) : Below B a (w.drewN n) := ⟨h.os, h.tape, h.output, h.size, h.block⟩
theorem Boxed.alloc {w : World} {p : Nat} {vs : Array Value} (h : Boxed w p vs) (o : Obj) : Boxed (w.alloc o) p vs := h.below (blw_alloc w o)
theorem Boxed.drew {w : World} {p : Nat} {vs : Array Value} (h : Boxed w p vs) : Boxed w.drew p vs := ⟨h.lt, h.cell, h.free⟩
theorem Boxed.drewN {w : World} {p : Nat} {vs : Array Value} (h : Boxed w p vs) (n : Nat) : Boxed (w.drewN n) p vs := ⟨h.lt, h.cell, h.free⟩
theorem cell_keep {w w' : World} {a : Addr} {v : Value} (h : w.cell? a = some v) (hb : Below w.heap.size w w') : w'.cell? a = some v := (hb.cell (World.block_lt_of_cell? w a h)).trans h
theorem ret_bool {a b : Bool} (h : a = b) : Ending.returned (.bool a) = .returned (.bool b) := by rw [h]
theorem quiet_left {P : Program} {f : FuncId} {args : Array Value} {w : World} {n : Nat} {v : Value}
    (h : Calls P f args (w.drewN n) fun e w' => e = .returned v ∧ w.drewN n = w') : Calls P f args (w.drewN n) fun e w'' => e = .returned v ∧ ∃ m, w'' = w.drewN m :=
  h.mono fun _ _ ⟨he, hm⟩ => ⟨he, n, hm.symm⟩
theorem dec_no {p : Prop} [Decidable p] (h : ¬ p) : decide p = false := decide_eq_false h
theorem dec_yes {p : Prop} [Decidable p] (h : p) : decide p = true := decide_eq_true h
theorem beq_no {a b : Int} (h : a ≠ b) : (a == b) = false := beq_eq_false_iff_ne.2 h
theorem beq_yes {a b : Int} (h : a = b) : (a == b) = true := beq_iff_eq.2 h
end Go.Proofs.YtghohnbajbikjaaGreatDoor
namespace Go.Proofs.YtghohnbajbikjaaGreatDoor
open Go.RowKit

theorem ret_str {a b : List UInt8} (h : a = b) : Ending.returned (.string ⟨a.toArray⟩) = .returned (.string ⟨b.toArray⟩) := by rw [h]
theorem size_mkl (l : List UInt8) : (ByteArray.mk l.toArray).size = l.length := by show l.toArray.size = _; simp
theorem add_str {P : Program} (x y : List UInt8) (h : x.length + y.length ≤ 9223372036854775807) (w : World) :
    (Op.stringOp .add ⟨x.toArray⟩ ⟨y.toArray⟩).run P w = .ok (.string ⟨(x ++ y).toArray⟩) w := by
  rw [run_string_add_sum w _ _ (by rw [size_mkl, size_mkl]; exact h), ByteArray.mk_append_mk]
theorem size_list (l : List UInt8) : (ByteArray.mk l.toArray).size = l.length := by show l.toArray.size = _; simp
theorem index_str {P : Program} (t : TypeId) (h : P.underlying t = some .string) (L : List UInt8) (k : IntKind) (i : Nat) (c : UInt8) (hc : L[i]? = some c) (w : World) :
    (Instr.index t (.string ⟨L.toArray⟩) (.int k i)).run P w = .ok (.int .u8 (c.toNat : Int)) w := by
  have hl : i < L.length := (List.getElem?_eq_some_iff.1 hc).1
  have hv : L[i] = c := (List.getElem?_eq_some_iff.1 hc).2
  have hg : (⟨L.toArray⟩ : ByteArray)[i]'(by rw [size_list]; exact hl) = c := by rw [← hv]; rfl
  rw [run_index_string w t _ k i h, dif_pos ⟨by omega, by rw [size_list]; omega⟩]
  simp only [Int.toNat_natCast, hg]
theorem slice_to {P : Program} (t : TypeId) (h : P.underlying t = some .string) (L : List UInt8) (k : IntKind) (j : Nat) (hj : j ≤ L.length) (w : World) :
    (Instr.slice t (.string ⟨L.toArray⟩) none (some (.int k j)) none).run P w = .ok (.string ⟨(L.take j).toArray⟩) w := by
  rw [run_slice_string_to_if w t _ k j h, if_pos ⟨by omega, by rw [size_list]; omega⟩, ByteArray.extract_mk]
  simp
theorem slice_from {P : Program} (t : TypeId) (h : P.underlying t = some .string) (L : List UInt8) (k : IntKind) (i : Nat) (hi : i ≤ L.length) (w : World) :
    (Instr.slice t (.string ⟨L.toArray⟩) (some (.int k i)) none none).run P w = .ok (.string ⟨(L.drop i).toArray⟩) w := by
  rw [run_slice_string_from_if w t _ k i h, if_pos ⟨by omega, by rw [size_list]; omega⟩, ByteArray.extract_mk, size_list]
  have e : (L.drop i).take (L.length - i) = L.drop i := List.take_of_length_le (by simp)
  simp [e]
end Go.Proofs.YtghohnbajbikjaaGreatDoor
namespace Go.Proofs.YtghohnbajbikjaaGreatDoor
open Go.RowKit

/-- only draws -/
def Drew (w w' : World) : Prop := ∃ n, w' = w.drewN n
theorem Drew.refl (w : World) : Drew w w := ⟨0, rfl⟩
theorem drewN_drewN (w : World) (a b : Nat) : (w.drewN a).drewN b = w.drewN (a + b) := by
  induction b with
  | zero => rfl
  | succ b ih => show ((w.drewN a).drewN b).drew = (w.drewN (a + b)).drew; rw [ih]
theorem Drew.drewN {w w' : World} (h : Drew w w') (n : Nat) : Drew w (w'.drewN n) := by
  obtain ⟨a, rfl⟩ := h
  exact ⟨a + n, drewN_drewN w a n⟩
theorem Drew.drew {w w' : World} (h : Drew w w') : Drew w w'.drew := h.drewN 1
theorem Drew.below {w w' : World} (h : Drew w w') : Below w.heap.size w w' := by
  obtain ⟨a, rfl⟩ := h
  exact blw_drewN (Below.refl _ _) a
end Go.Proofs.YtghohnbajbikjaaGreatDoor
namespace Go.Proofs.YtghohnbajbikjaaGreatDoor
open Go.RowKit

/-- made of these bytes alone, so many -/
def onlyB (s of : List UInt8) (f t : Int) : Bool := s.all (fun c => of.contains c) && (decide (f ≤ (s.length : Int)) && decide ((s.length : Int) ≤ t))
end Go.Proofs.YtghohnbajbikjaaGreatDoor
namespace Go.Proofs.YtghohnbajbikjaaGreatDoor
open Go.RowKit
end Go.Proofs.YtghohnbajbikjaaGreatDoor
namespace Go.Proofs.YtghohnbajbikjaaGreatDoor
open Go.RowKit

abbrev LOW : List UInt8 := [97, 98, 99, 100, 101, 102, 103, 104, 105, 106, 107, 108, 109, 110, 111, 112, 113, 114, 115, 116, 117, 118, 119, 120, 121, 122]
abbrev HIGH : List UInt8 := [65, 66, 67, 68, 69, 70, 71, 72, 73, 74, 75, 76, 77, 78, 79, 80, 81, 82, 83, 84, 85, 86, 87, 88, 89, 90]
abbrev DIG : List UInt8 := [48, 49, 50, 51, 52, 53, 54, 55, 56, 57]
theorem each_byte (P : UInt8 → Prop) (h : ∀ n, n < 256 → P (UInt8.ofNat n)) (c : UInt8) : P c := by
  have := h c.toNat c.toNat_lt
  simpa using this
theorem low_in (c : UInt8) : LOW.contains c = (decide (97 ≤ (c.toNat : Int)) && decide ((c.toNat : Int) ≤ 122)) :=
  each_byte (fun c => LOW.contains c = (decide (97 ≤ (c.toNat : Int)) && decide ((c.toNat : Int) ≤ 122))) (by decide +kernel) c
theorem high_in (c : UInt8) : HIGH.contains c = (decide (65 ≤ (c.toNat : Int)) && decide ((c.toNat : Int) ≤ 90)) :=
  each_byte (fun c => HIGH.contains c = (decide (65 ≤ (c.toNat : Int)) && decide ((c.toNat : Int) ≤ 90))) (by decide +kernel) c
theorem dig_in' (c : UInt8) : DIG.contains c = (decide (48 ≤ (c.toNat : Int)) && decide ((c.toNat : Int) ≤ 57)) :=
  each_byte (fun c => DIG.contains c = (decide (48 ≤ (c.toNat : Int)) && decide ((c.toNat : Int) ≤ 57))) (by decide +kernel) c

set_option maxRecDepth 100000 in
set_option maxHeartbeats 1000000 in
theorem low_any (c : UInt8) (w : World) :
    Calls Tryz.prog 15 #[.int .u8 (c.toNat : Int)] w fun e w' => e = .returned (.bool (LOW.contains c)) ∧ w = w' := by
  have HP := Lib.hid (low_in c)
  generalize LOW.contains c = B at *
  by_cases h1 : 97 ≤ (c.toNat : Int)
  · have d1 : decide (97 ≤ (c.toNat : Int)) = true := dec_yes h1
    by_cases h2 : (c.toNat : Int) ≤ 122
    · have d2 : decide ((c.toNat : Int) ≤ 122) = true := dec_yes h2
      have HB := Lib.hid (show B = true by rw [HP.out, d1, d2]; rfl)
      go_enter Tryz.func15, Tryz.ntmps15
      go_wp2
      go_ret
      exact ⟨ret_bool (by rw [HB.out]), rfl⟩
    · have d2 : decide ((c.toNat : Int) ≤ 122) = false := dec_no h2
      have HB := Lib.hid (show B = false by rw [HP.out, d1, d2]; rfl)
      go_enter Tryz.func15, Tryz.ntmps15
      go_wp2
      go_ret
      exact ⟨ret_bool (by rw [HB.out]), rfl⟩
  · have d1 : decide (97 ≤ (c.toNat : Int)) = false := dec_no h1
    have HB := Lib.hid (show B = false by rw [HP.out, d1]; rfl)
    go_enter Tryz.func15, Tryz.ntmps15
    go_wp2
    go_ret
    exact ⟨ret_bool (by rw [HB.out]), rfl⟩

set_option maxRecDepth 100000 in
set_option maxHeartbeats 1000000 in
theorem high_any (c : UInt8) (w : World) :
    Calls Tryz.prog 33 #[.int .u8 (c.toNat : Int)] w fun e w' => e = .returned (.bool (HIGH.contains c)) ∧ w = w' := by
  have HP := Lib.hid (high_in c)
  generalize HIGH.contains c = B at *
  by_cases h1 : 65 ≤ (c.toNat : Int)
  · have d1 : decide (65 ≤ (c.toNat : Int)) = true := dec_yes h1
    by_cases h2 : (c.toNat : Int) ≤ 90
    · have d2 : decide ((c.toNat : Int) ≤ 90) = true := dec_yes h2
      have HB := Lib.hid (show B = true by rw [HP.out, d1, d2]; rfl)
      go_enter Tryz.func33, Tryz.ntmps33
      go_wp2
      go_ret
      exact ⟨ret_bool (by rw [HB.out]), rfl⟩
    · have d2 : decide ((c.toNat : Int) ≤ 90) = false := dec_no h2
      have HB := Lib.hid (show B = false by rw [HP.out, d1, d2]; rfl)
      go_enter Tryz.func33, Tryz.ntmps33
      go_wp2
      go_ret
      exact ⟨ret_bool (by rw [HB.out]), rfl⟩
  · have d1 : decide (65 ≤ (c.toNat : Int)) = false := dec_no h1
    have HB := Lib.hid (show B = false by rw [HP.out, d1]; rfl)
    go_enter Tryz.func33, Tryz.ntmps33
    go_wp2
    go_ret
    exact ⟨ret_bool (by rw [HB.out]), rfl⟩

set_option maxRecDepth 100000 in
set_option maxHeartbeats 1000000 in
theorem digit_any (c : UInt8) (w : World) :
    Calls Tryz.prog 34 #[.int .u8 (c.toNat : Int)] w fun e w' => e = .returned (.bool (DIG.contains c)) ∧ w = w' := by
  have HP := Lib.hid (dig_in' c)
  generalize DIG.contains c = B at *
  by_cases h1 : 48 ≤ (c.toNat : Int)
  · have d1 : decide (48 ≤ (c.toNat : Int)) = true := dec_yes h1
    by_cases h2 : (c.toNat : Int) ≤ 57
    · have d2 : decide ((c.toNat : Int) ≤ 57) = true := dec_yes h2
      have HB := Lib.hid (show B = true by rw [HP.out, d1, d2]; rfl)
      go_enter Tryz.func34, Tryz.ntmps34
      go_wp2
      go_ret
      exact ⟨ret_bool (by rw [HB.out]), rfl⟩
    · have d2 : decide ((c.toNat : Int) ≤ 57) = false := dec_no h2
      have HB := Lib.hid (show B = false by rw [HP.out, d1, d2]; rfl)
      go_enter Tryz.func34, Tryz.ntmps34
      go_wp2
      go_ret
      exact ⟨ret_bool (by rw [HB.out]), rfl⟩
  · have d1 : decide (48 ≤ (c.toNat : Int)) = false := dec_no h1
    have HB := Lib.hid (show B = false by rw [HP.out, d1]; rfl)
    go_enter Tryz.func34, Tryz.ntmps34
    go_wp2
    go_ret
    exact ⟨ret_bool (by rw [HB.out]), rfl⟩

set_option maxRecDepth 100000 in
set_option maxHeartbeats 1000000 in
theorem both_any (c : UInt8) (w : World) :
    Calls Tryz.prog 36 #[.int .u8 (c.toNat : Int)] w fun e w' => e = .returned (.bool ((LOW ++ DIG).contains c)) ∧ w = w' := by
  have CL := Lib.hid fun w => low_any c w
  have CD := Lib.hid fun w => digit_any c w
  have HP := Lib.hid (show (LOW ++ DIG).contains c = (LOW.contains c || DIG.contains c) by rw [Bool.eq_iff_iff, Bool.or_eq_true]; simp only [List.contains_iff_mem, List.mem_append])
  generalize (LOW ++ DIG).contains c = B at *
  generalize LOW.contains c = x at *
  generalize DIG.contains c = y at *
  cases x
  · go_enter Tryz.func36, Tryz.ntmps36
    go_wp2_with fail
    refine (CL.out _).mono ?_
    rintro e w' ⟨rfl, rfl⟩
    go_wp2_with fail
    refine (CD.out _).mono ?_
    rintro e w' ⟨rfl, rfl⟩
    go_wp2_with fail
    go_ret
    exact ⟨ret_bool (by rw [HP.out]; simp), rfl⟩
  · go_enter Tryz.func36, Tryz.ntmps36
    go_wp2_with fail
    refine (CL.out _).mono ?_
    rintro e w' ⟨rfl, rfl⟩
    go_wp2_with fail
    go_ret
    exact ⟨ret_bool (by rw [HP.out]; simp), rfl⟩

set_option maxRecDepth 100000 in
set_option maxHeartbeats 1000000 in
theorem made_low (s : List UInt8) (f t : Int) (w : World) (hs : s.length ≤ 4000000000) :
    Calls Tryz.prog 16 #[.func (.func 15) #[] #[], .string ⟨s.toArray⟩, .int .i64 f, .int .i64 t] w fun e w' => e = .returned (.bool (onlyB s LOW f t)) ∧ w = w' := by
  generalize HPOST : onlyB s LOW f t = POST
  have HP := Lib.hid HPOST
  clear HPOST
  go_enter Tryz.func16, Tryz.ntmps16
  go_wp2_with fail
  go_loop [9, 12] (fun _ i => ∃ k : Nat, i = .int .i64 k ∧ k ≤ s.length ∧ Hid ((s.take k).all (fun c => LOW.contains c) = true)) (fun _ i => s.length - (RowKit.intOf i).toNat)
  case atStart => exact ⟨0, rfl, Nat.zero_le _, Lib.hid rfl⟩
  case round =>
    obtain ⟨k, rfl, hk, HA⟩ := hrel
    by_cases hlt : k < s.length
    · obtain ⟨c, hc⟩ : ∃ c, s[k]? = some c := ⟨s[k], List.getElem?_eq_getElem hlt⟩
      have IX := fun w => index_str (P := Tryz.prog) 9 Tryz.underlying9 s .i64 k c hc w
      have CC := Lib.hid fun w => low_any c w
      have HT := Lib.hid (show LOW.contains c = true → (s.take (k + 1)).all (fun c => LOW.contains c) = true from fun hin => by
        rw [List.take_add_one, hc, List.all_append, HA.out]; simpa using hin)
      have HF := Lib.hid (show LOW.contains c = false → onlyB s LOW f t = false from fun hin => by
        unfold onlyB
        rw [show s.all (fun c => LOW.contains c) = false from List.all_eq_false.2 ⟨c, List.mem_of_getElem? hc, by rw [hin]; decide⟩]
        rfl)
      clear hc
      generalize LOW.contains c = b at *
      cases b
      · have HN := Lib.hid (HF.out rfl)
        clear HF HT
        go_wp2_with fail
        refine (CC.out _).mono ?_
        rintro e w' ⟨rfl, rfl⟩
        go_wp2_with fail
        go_ret
        exact ⟨ret_bool (by rw [← HP.out, HN.out]), rfl⟩
      · have HN := Lib.hid (HT.out rfl)
        clear HF HT
        go_wp2_with fail
        refine (CC.out _).mono ?_
        rintro e w' ⟨rfl, rfl⟩
        go_wp2_with fail
        first | (go_round; case rel => exact ⟨k + 1, by go_num, by omega, HN⟩; case measure => simp [RowKit.intOf]; omega) | exact ⟨⟨k + 1, by go_num, by omega, HN⟩, by simp [RowKit.intOf]; omega⟩
    · have HN := Lib.hid (show onlyB s LOW f t = (decide (f ≤ (s.length : Int)) && decide ((s.length : Int) ≤ t)) by
        have h := HA.out
        rw [List.take_of_length_le (by omega)] at h
        unfold onlyB; rw [h]; rfl)
      by_cases h1 : f ≤ (s.length : Int)
      · have e1 : decide (f ≤ (s.length : Int)) = true := dec_yes h1
        go_wp2_with fail
        go_ret
        exact ⟨ret_bool (by rw [← HP.out, HN.out, e1]; first | rfl | simp), rfl⟩
      · have e1 : decide (f ≤ (s.length : Int)) = false := dec_no h1
        go_wp2_with fail
        go_ret
        exact ⟨ret_bool (by rw [← HP.out, HN.out, e1]; first | rfl | simp), rfl⟩

set_option maxRecDepth 100000 in
set_option maxHeartbeats 1000000 in
theorem made_high (s : List UInt8) (f t : Int) (w : World) (hs : s.length ≤ 4000000000) :
    Calls Tryz.prog 16 #[.func (.func 33) #[] #[], .string ⟨s.toArray⟩, .int .i64 f, .int .i64 t] w fun e w' => e = .returned (.bool (onlyB s HIGH f t)) ∧ w = w' := by
  generalize HPOST : onlyB s HIGH f t = POST
  have HP := Lib.hid HPOST
  clear HPOST
  go_enter Tryz.func16, Tryz.ntmps16
  go_wp2_with fail
  go_loop [9, 12] (fun _ i => ∃ k : Nat, i = .int .i64 k ∧ k ≤ s.length ∧ Hid ((s.take k).all (fun c => HIGH.contains c) = true)) (fun _ i => s.length - (RowKit.intOf i).toNat)
  case atStart => exact ⟨0, rfl, Nat.zero_le _, Lib.hid rfl⟩
  case round =>
    obtain ⟨k, rfl, hk, HA⟩ := hrel
    by_cases hlt : k < s.length
    · obtain ⟨c, hc⟩ : ∃ c, s[k]? = some c := ⟨s[k], List.getElem?_eq_getElem hlt⟩
      have IX := fun w => index_str (P := Tryz.prog) 9 Tryz.underlying9 s .i64 k c hc w
      have CC := Lib.hid fun w => high_any c w
      have HT := Lib.hid (show HIGH.contains c = true → (s.take (k + 1)).all (fun c => HIGH.contains c) = true from fun hin => by
        rw [List.take_add_one, hc, List.all_append, HA.out]; simpa using hin)
      have HF := Lib.hid (show HIGH.contains c = false → onlyB s HIGH f t = false from fun hin => by
        unfold onlyB
        rw [show s.all (fun c => HIGH.contains c) = false from List.all_eq_false.2 ⟨c, List.mem_of_getElem? hc, by rw [hin]; decide⟩]
        rfl)
      clear hc
      generalize HIGH.contains c = b at *
      cases b
      · have HN := Lib.hid (HF.out rfl)
        clear HF HT
        go_wp2_with fail
        refine (CC.out _).mono ?_
        rintro e w' ⟨rfl, rfl⟩
        go_wp2_with fail
        go_ret
        exact ⟨ret_bool (by rw [← HP.out, HN.out]), rfl⟩
      · have HN := Lib.hid (HT.out rfl)
        clear HF HT
        go_wp2_with fail
        refine (CC.out _).mono ?_
        rintro e w' ⟨rfl, rfl⟩
        go_wp2_with fail
        first | (go_round; case rel => exact ⟨k + 1, by go_num, by omega, HN⟩; case measure => simp [RowKit.intOf]; omega) | exact ⟨⟨k + 1, by go_num, by omega, HN⟩, by simp [RowKit.intOf]; omega⟩
    · have HN := Lib.hid (show onlyB s HIGH f t = (decide (f ≤ (s.length : Int)) && decide ((s.length : Int) ≤ t)) by
        have h := HA.out
        rw [List.take_of_length_le (by omega)] at h
        unfold onlyB; rw [h]; rfl)
      by_cases h1 : f ≤ (s.length : Int)
      · have e1 : decide (f ≤ (s.length : Int)) = true := dec_yes h1
        go_wp2_with fail
        go_ret
        exact ⟨ret_bool (by rw [← HP.out, HN.out, e1]; first | rfl | simp), rfl⟩
      · have e1 : decide (f ≤ (s.length : Int)) = false := dec_no h1
        go_wp2_with fail
        go_ret
        exact ⟨ret_bool (by rw [← HP.out, HN.out, e1]; first | rfl | simp), rfl⟩

set_option maxRecDepth 100000 in
set_option maxHeartbeats 1000000 in
theorem made_digit (s : List UInt8) (f t : Int) (w : World) (hs : s.length ≤ 4000000000) :
    Calls Tryz.prog 16 #[.func (.func 34) #[] #[], .string ⟨s.toArray⟩, .int .i64 f, .int .i64 t] w fun e w' => e = .returned (.bool (onlyB s DIG f t)) ∧ w = w' := by
  generalize HPOST : onlyB s DIG f t = POST
  have HP := Lib.hid HPOST
  clear HPOST
  go_enter Tryz.func16, Tryz.ntmps16
  go_wp2_with fail
  go_loop [9, 12] (fun _ i => ∃ k : Nat, i = .int .i64 k ∧ k ≤ s.length ∧ Hid ((s.take k).all (fun c => DIG.contains c) = true)) (fun _ i => s.length - (RowKit.intOf i).toNat)
  case atStart => exact ⟨0, rfl, Nat.zero_le _, Lib.hid rfl⟩
  case round =>
    obtain ⟨k, rfl, hk, HA⟩ := hrel
    by_cases hlt : k < s.length
    · obtain ⟨c, hc⟩ : ∃ c, s[k]? = some c := ⟨s[k], List.getElem?_eq_getElem hlt⟩
      have IX := fun w => index_str (P := Tryz.prog) 9 Tryz.underlying9 s .i64 k c hc w
      have CC := Lib.hid fun w => digit_any c w
      have HT := Lib.hid (show DIG.contains c = true → (s.take (k + 1)).all (fun c => DIG.contains c) = true from fun hin => by
        rw [List.take_add_one, hc, List.all_append, HA.out]; simpa using hin)
      have HF := Lib.hid (show DIG.contains c = false → onlyB s DIG f t = false from fun hin => by
        unfold onlyB
        rw [show s.all (fun c => DIG.contains c) = false from List.all_eq_false.2 ⟨c, List.mem_of_getElem? hc, by rw [hin]; decide⟩]
        rfl)
      clear hc
      generalize DIG.contains c = b at *
      cases b
      · have HN := Lib.hid (HF.out rfl)
        clear HF HT
        go_wp2_with fail
        refine (CC.out _).mono ?_
        rintro e w' ⟨rfl, rfl⟩
        go_wp2_with fail
        go_ret
        exact ⟨ret_bool (by rw [← HP.out, HN.out]), rfl⟩
      · have HN := Lib.hid (HT.out rfl)
        clear HF HT
        go_wp2_with fail
        refine (CC.out _).mono ?_
        rintro e w' ⟨rfl, rfl⟩
        go_wp2_with fail
        first | (go_round; case rel => exact ⟨k + 1, by go_num, by omega, HN⟩; case measure => simp [RowKit.intOf]; omega) | exact ⟨⟨k + 1, by go_num, by omega, HN⟩, by simp [RowKit.intOf]; omega⟩
    · have HN := Lib.hid (show onlyB s DIG f t = (decide (f ≤ (s.length : Int)) && decide ((s.length : Int) ≤ t)) by
        have h := HA.out
        rw [List.take_of_length_le (by omega)] at h
        unfold onlyB; rw [h]; rfl)
      by_cases h1 : f ≤ (s.length : Int)
      · have e1 : decide (f ≤ (s.length : Int)) = true := dec_yes h1
        go_wp2_with fail
        go_ret
        exact ⟨ret_bool (by rw [← HP.out, HN.out, e1]; first | rfl | simp), rfl⟩
      · have e1 : decide (f ≤ (s.length : Int)) = false := dec_no h1
        go_wp2_with fail
        go_ret
        exact ⟨ret_bool (by rw [← HP.out, HN.out, e1]; first | rfl | simp), rfl⟩

set_option maxRecDepth 100000 in
set_option maxHeartbeats 1000000 in
theorem made_both (s : List UInt8) (f t : Int) (w : World) (hs : s.length ≤ 4000000000) :
    Calls Tryz.prog 16 #[.func (.func 36) #[] #[], .string ⟨s.toArray⟩, .int .i64 f, .int .i64 t] w fun e w' => e = .returned (.bool (onlyB s (LOW ++ DIG) f t)) ∧ w = w' := by
  generalize HPOST : onlyB s (LOW ++ DIG) f t = POST
  have HP := Lib.hid HPOST
  clear HPOST
  go_enter Tryz.func16, Tryz.ntmps16
  go_wp2_with fail
  go_loop [9, 12] (fun _ i => ∃ k : Nat, i = .int .i64 k ∧ k ≤ s.length ∧ Hid ((s.take k).all (fun c => (LOW ++ DIG).contains c) = true)) (fun _ i => s.length - (RowKit.intOf i).toNat)
  case atStart => exact ⟨0, rfl, Nat.zero_le _, Lib.hid rfl⟩
  case round =>
    obtain ⟨k, rfl, hk, HA⟩ := hrel
    by_cases hlt : k < s.length
    · obtain ⟨c, hc⟩ : ∃ c, s[k]? = some c := ⟨s[k], List.getElem?_eq_getElem hlt⟩
      have IX := fun w => index_str (P := Tryz.prog) 9 Tryz.underlying9 s .i64 k c hc w
      have CC := Lib.hid fun w => both_any c w
      have HT := Lib.hid (show (LOW ++ DIG).contains c = true → (s.take (k + 1)).all (fun c => (LOW ++ DIG).contains c) = true from fun hin => by
        rw [List.take_add_one, hc, List.all_append, HA.out]; simpa using hin)
      have HF := Lib.hid (show (LOW ++ DIG).contains c = false → onlyB s (LOW ++ DIG) f t = false from fun hin => by
        unfold onlyB
        rw [show s.all (fun c => (LOW ++ DIG).contains c) = false from List.all_eq_false.2 ⟨c, List.mem_of_getElem? hc, by rw [hin]; decide⟩]
        rfl)
      clear hc
      generalize (LOW ++ DIG).contains c = b at *
      cases b
      · have HN := Lib.hid (HF.out rfl)
        clear HF HT
        go_wp2_with fail
        refine (CC.out _).mono ?_
        rintro e w' ⟨rfl, rfl⟩
        go_wp2_with fail
        go_ret
        exact ⟨ret_bool (by rw [← HP.out, HN.out]), rfl⟩
      · have HN := Lib.hid (HT.out rfl)
        clear HF HT
        go_wp2_with fail
        refine (CC.out _).mono ?_
        rintro e w' ⟨rfl, rfl⟩
        go_wp2_with fail
        first | (go_round; case rel => exact ⟨k + 1, by go_num, by omega, HN⟩; case measure => simp [RowKit.intOf]; omega) | exact ⟨⟨k + 1, by go_num, by omega, HN⟩, by simp [RowKit.intOf]; omega⟩
    · have HN := Lib.hid (show onlyB s (LOW ++ DIG) f t = (decide (f ≤ (s.length : Int)) && decide ((s.length : Int) ≤ t)) by
        have h := HA.out
        rw [List.take_of_length_le (by omega)] at h
        unfold onlyB; rw [h]; rfl)
      by_cases h1 : f ≤ (s.length : Int)
      · have e1 : decide (f ≤ (s.length : Int)) = true := dec_yes h1
        go_wp2_with fail
        go_ret
        exact ⟨ret_bool (by rw [← HP.out, HN.out, e1]; first | rfl | simp), rfl⟩
      · have e1 : decide (f ≤ (s.length : Int)) = false := dec_no h1
        go_wp2_with fail
        go_ret
        exact ⟨ret_bool (by rw [← HP.out, HN.out, e1]; first | rfl | simp), rfl⟩
end Go.Proofs.YtghohnbajbikjaaGreatDoor
namespace Go.Proofs.YtghohnbajbikjaaGreatDoor
open Go.RowKit

/-- an error by its number -/
abbrev errV (n : Int) : Value := .iface 46 (.int .i64 n)
end Go.Proofs.YtghohnbajbikjaaGreatDoor
namespace Go.Proofs.YtghohnbajbikjaaGreatDoor
open Go.RowKit

abbrev txtV (x : List UInt8) : Value := .string ⟨x.toArray⟩
/-- a slice that holds these texts -/
def StrsAt (w : World) (v : Value) (l : List (List UInt8)) : Prop :=
  (l = [] ∧ ∃ a cap, v = .slice a 0 cap) ∨
  ∃ b off cap, v = .slice (some ⟨b, off, none⟩) l.length cap ∧ 0 < l.length ∧ l.length ≤ cap ∧ cap ≤ maxLen ∧ ∀ (j : Nat) x, l[j]? = some x → w.cell? ⟨b, off + j, none⟩ = some (.string ⟨x.toArray⟩)
theorem StrsAt.below {w w' : World} {v : Value} {l : List (List UInt8)} (h : StrsAt w v l) (hb : Below w.heap.size w w') : StrsAt w' v l := by
  rcases h with h | ⟨b, off, cap, h1, h2, h3, h4, h5⟩
  · exact .inl h
  · exact .inr ⟨b, off, cap, h1, h2, h3, h4, fun j x hx => cell_keep (h5 j x hx) hb⟩
theorem StrsAt.alloc {w : World} {v : Value} {l : List (List UInt8)} (h : StrsAt w v l) (o : Obj) : StrsAt (w.alloc o) v l := h.below (blw_alloc w o)
theorem StrsAt.drewN {w : World} {v : Value} {l : List (List UInt8)} (h : StrsAt w v l) (n : Nat) : StrsAt (w.drewN n) v l := h
/-- out of a row that the call owns -/
theorem StrsAt.of_row {w : World} {base : Nat} {e : TypeId} {v : Value} {n : Nat} {l : List (List UInt8)} (h : w.ownsRow base e 1 v n (l.map txtV)) : StrsAt w v l := by
  obtain ⟨hl, h⟩ := h
  rw [List.length_map, Nat.mul_one] at hl
  subst hl
  rcases h with ⟨rfl, h0⟩ | ⟨g, cap, cur, rfl, _, hg, h1, h2, h3, h4⟩
  · exact .inl ⟨List.length_eq_zero_iff.1 h0, none, 0, rfl⟩
  · by_cases h0 : l.length = 0
    · exact .inl ⟨List.length_eq_zero_iff.1 h0, _, _, by rw [h0]⟩
    · refine .inr ⟨g, 0, cap, rfl, by omega, h1, h2, fun j x hx => ?_⟩
      have hj : j < l.length := (List.getElem?_eq_some_iff.1 hx).1
      have hc : cur[j]? = some (txtV x) := by
        have e : (cur.toList.take (l.length * 1))[j]? = some (txtV x) := by rw [h4]; simp [hx]
        rw [Nat.mul_one, List.getElem?_take, if_pos hj] at e
        simpa using e
      simp [World.cell?, hg, hc]
end Go.Proofs.YtghohnbajbikjaaGreatDoor
namespace Go.Proofs.YtghohnbajbikjaaGreatDoor
open Go.RowKit

def scriptB (s : List UInt8) : Bool := decide (s.length = 4) && (onlyB (s.take 1) HIGH 1 1 && onlyB (s.drop 1) LOW 3 3)
def regionB (s : List UInt8) : Bool := onlyB s HIGH 2 2 || onlyB s DIG 3 3
def headB (l s r : List UInt8) : Bool := onlyB l LOW 2 3 && ((s.isEmpty || scriptB s) && (r.isEmpty || regionB r))
/-- what is wrong with the variants behind those that are right -/
def vf : List (List UInt8) → List (List UInt8) → Int
  | pre, [] => if 3 < pre.length then 4 else 0
  | pre, v :: r => if onlyB v (LOW ++ DIG) 5 8 = false then 3 else if pre.contains v then 5 else vf (pre ++ [v]) r
/-- what is wrong with a tag -/
def tagFault (l s r : List UInt8) (vs : List (List UInt8)) : Int := if headB l s r then vf [] vs else 3
/-- the error of a number -/
def errE (n : Int) : Value := if n = 0 then .nilIface else errV n
theorem ret_err {n F : Int} (h : F = n) (hn : n ≠ 0) : Ending.returned (errV n) = .returned (errE F) := by rw [h]; unfold errE; rw [if_neg hn]
theorem ret_noerr {F : Int} (h : F = 0) : Ending.returned Value.nilIface = .returned (errE F) := by rw [h]; rfl

set_option maxRecDepth 100000 in
set_option maxHeartbeats 1000000 in
theorem script_any (s : List UInt8) (w : World) (hs : s.length ≤ 4000000000) :
    Calls Tryz.prog 35 #[.string ⟨s.toArray⟩] w fun e w' => e = .returned (.bool (scriptB s)) ∧ w = w' := by
  by_cases h4 : s.length = 4
  · have q1 : ((s.length : Int) == 4) = true := beq_yes (by omega)
    obtain ⟨c, hc⟩ : ∃ c, s[0]? = some c := ⟨s[0], List.getElem?_eq_getElem (by omega)⟩
    have IX : ∀ w, (Instr.index 9 (.string ⟨s.toArray⟩) (.int .i64 0)).run Tryz.prog w = .ok (.int .u8 (c.toNat : Int)) w := fun w => index_str (P := Tryz.prog) 9 Tryz.underlying9 s .i64 0 c hc w
    have SF : ∀ w, (Instr.slice 9 (.string ⟨s.toArray⟩) (some (.int .i64 1)) none none).run Tryz.prog w = .ok (.string ⟨(s.drop 1).toArray⟩) w := fun w => slice_from (P := Tryz.prog) 9 Tryz.underlying9 s .i64 1 (by omega) w
    have CH := Lib.hid fun w => high_any c w
    have CM := Lib.hid fun w => made_low (s.drop 1) 3 3 w (by simp; omega)
    have e1 : onlyB (s.take 1) HIGH 1 1 = HIGH.contains c := by
      cases s with
      | nil => simp at hc
      | cons b r =>
        obtain rfl : b = c := by simpa using hc
        unfold onlyB; simp
    have HP := Lib.hid (show scriptB s = (HIGH.contains c && onlyB (s.drop 1) LOW 3 3) by unfold scriptB; rw [e1, decide_eq_true h4]; rfl)
    clear e1 hc h4
    generalize scriptB s = B at *
    generalize HIGH.contains c = x at *
    generalize onlyB (s.drop 1) LOW 3 3 = y at *
    generalize s.drop 1 = D at *
    cases x
    · go_enter Tryz.func35, Tryz.ntmps35
      go_wp2_with fail
      refine (CH.out _).mono ?_
      rintro e w' ⟨rfl, rfl⟩
      go_wp2_with fail
      go_ret
      exact ⟨ret_bool (by rw [HP.out]; simp), rfl⟩
    · go_enter Tryz.func35, Tryz.ntmps35
      go_wp2_with fail
      refine (CH.out _).mono ?_
      rintro e w' ⟨rfl, rfl⟩
      go_wp2_with fail
      refine (CM.out _).mono ?_
      rintro e w' ⟨rfl, rfl⟩
      go_wp2_with fail
      go_ret
      exact ⟨ret_bool (by rw [HP.out]; simp), rfl⟩
  · have q1 : ((s.length : Int) == 4) = false := beq_no (by omega)
    have HP := Lib.hid (show scriptB s = false by unfold scriptB; rw [decide_eq_false h4]; rfl)
    clear h4
    go_enter Tryz.func35, Tryz.ntmps35
    go_wp2_with fail
    go_ret
    exact ⟨ret_bool (by rw [HP.out]), rfl⟩
set_option maxRecDepth 100000 in
set_option maxHeartbeats 1000000 in
theorem region_any (s : List UInt8) (w : World) (hs : s.length ≤ 4000000000) :
    Calls Tryz.prog 18 #[.string ⟨s.toArray⟩] w fun e w' => e = .returned (.bool (regionB s)) ∧ w = w' := by
  have CH := Lib.hid fun w => made_high s 2 2 w hs
  have CD := Lib.hid fun w => made_digit s 3 3 w hs
  have HP := Lib.hid (show regionB s = (onlyB s HIGH 2 2 || onlyB s DIG 3 3) from rfl)
  generalize regionB s = B at *
  generalize onlyB s HIGH 2 2 = x at *
  generalize onlyB s DIG 3 3 = y at *
  cases x
  · go_enter Tryz.func18, Tryz.ntmps18
    go_wp2_with fail
    refine (CH.out _).mono ?_
    rintro e w' ⟨rfl, rfl⟩
    go_wp2_with fail
    refine (CD.out _).mono ?_
    rintro e w' ⟨rfl, rfl⟩
    go_wp2_with fail
    go_ret
    exact ⟨ret_bool (by rw [HP.out]; simp), rfl⟩
  · go_enter Tryz.func18, Tryz.ntmps18
    go_wp2_with fail
    refine (CH.out _).mono ?_
    rintro e w' ⟨rfl, rfl⟩
    go_wp2_with fail
    go_ret
    exact ⟨ret_bool (by rw [HP.out]; simp), rfl⟩
theorem contains_any (l : List (List UInt8)) (b off k cap : Nat) (x : List UInt8) (w : World) (hk : k ≤ l.length) (hl : k ≤ 9223372036854775807) (hc : ∀ (j : Nat) x, l[j]? = some x → w.cell? ⟨b, off + j, none⟩ = some (.string ⟨x.toArray⟩)) :
    Calls Tryz.prog 37 #[.slice (some ⟨b, off, none⟩) k cap, .string ⟨x.toArray⟩] w fun e w' => e = .returned (.bool ((l.take k).contains x)) ∧ w = w' := by
  have c := Tryz.slices_Contains_string b off k cap (l.map fun x => ⟨x.toArray⟩) ⟨x.toArray⟩ w (by rw [List.length_map]; exact hk) hl (fun j hj => by
    rw [List.length_map] at hj
    rw [hc j l[j] (List.getElem?_eq_getElem hj), List.getD_eq_getElem?_getD, List.getElem?_map, List.getElem?_eq_getElem hj]; rfl)
  refine c.mono ?_
  rintro e w' ⟨rfl, rfl⟩
  refine ⟨ret_bool ?_, rfl⟩
  rw [Bool.eq_iff_iff, Lib.containsS_iff, List.contains_iff_mem, ← List.map_take, List.mem_map]
  constructor
  · rintro ⟨y, hy, e⟩
    have : y = x := by have := congrArg (fun z : ByteArray => z.data.toList) e; simpa using this
    exact this ▸ hy
  · exact fun h => ⟨x, h, rfl⟩

set_option maxRecDepth 100000 in
set_option maxHeartbeats 1000000 in
theorem check_bad_l (l s r : List UInt8) (V : Value) (w : World) (bl : l.length + s.length + r.length ≤ 1000000000) (hl : onlyB l LOW 2 3 = false) :
    Calls Tryz.prog 20 #[.agg #[.string ⟨l.toArray⟩, .string ⟨s.toArray⟩, .string ⟨r.toArray⟩, V]] w fun e w' => e = .returned (errV 3) ∧ Below w.heap.size w w' := by
  have CL := Lib.hid fun w => made_low l 2 3 w (by omega)
  rw [hl] at CL
  go_enter Tryz.func20, Tryz.ntmps20
  go_wp2_with fail
  refine (CL.out _).mono ?_
  rintro e w' ⟨rfl, rfl⟩
  go_wp2_with fail
  go_ret
  exact ⟨rfl, blw_alloc _ _⟩

set_option maxRecDepth 100000 in
set_option maxHeartbeats 1000000 in
theorem check_bad_s (l s r : List UInt8) (V : Value) (w : World) (bl : l.length + s.length + r.length ≤ 1000000000) (hl : onlyB l LOW 2 3 = true) (hs : s ≠ []) (hS : scriptB s = false) :
    Calls Tryz.prog 20 #[.agg #[.string ⟨l.toArray⟩, .string ⟨s.toArray⟩, .string ⟨r.toArray⟩, V]] w fun e w' => e = .returned (errV 3) ∧ Below w.heap.size w w' := by
  have CL := Lib.hid fun w => made_low l 2 3 w (by omega)
  rw [hl] at CL
  have es1 : (s == []) = false := by cases s with | nil => exact absurd rfl hs | cons => rfl
  have es2 : s.isEmpty = false := by cases s with | nil => exact absurd rfl hs | cons => rfl
  have CS := Lib.hid fun w => script_any s w (by omega)
  rw [hS] at CS
  go_enter Tryz.func20, Tryz.ntmps20
  go_wp2_with fail
  refine (CL.out _).mono ?_
  rintro e w' ⟨rfl, rfl⟩
  go_wp2_with fail
  refine (CS.out _).mono ?_
  rintro e w' ⟨rfl, rfl⟩
  go_wp2_with fail
  go_ret
  exact ⟨rfl, blw_alloc _ _⟩

set_option maxRecDepth 100000 in
set_option maxHeartbeats 1000000 in
theorem check_bad_re (l s r : List UInt8) (V : Value) (w : World) (bl : l.length + s.length + r.length ≤ 1000000000) (hl : onlyB l LOW 2 3 = true) (hs : s = []) (hr : r ≠ []) (hR : regionB r = false) :
    Calls Tryz.prog 20 #[.agg #[.string ⟨l.toArray⟩, .string ⟨s.toArray⟩, .string ⟨r.toArray⟩, V]] w fun e w' => e = .returned (errV 3) ∧ Below w.heap.size w w' := by
  have CL := Lib.hid fun w => made_low l 2 3 w (by omega)
  rw [hl] at CL
  subst hs
  have er1 : (r == []) = false := by cases r with | nil => exact absurd rfl hr | cons => rfl
  have er2 : r.isEmpty = false := by cases r with | nil => exact absurd rfl hr | cons => rfl
  have CR := Lib.hid fun w => region_any r w (by omega)
  rw [hR] at CR
  go_enter Tryz.func20, Tryz.ntmps20
  go_wp2_with fail
  refine (CL.out _).mono ?_
  rintro e w' ⟨rfl, rfl⟩
  go_wp2_with fail
  refine (CR.out _).mono ?_
  rintro e w' ⟨rfl, rfl⟩
  go_wp2_with fail
  go_ret
  exact ⟨rfl, blw_alloc _ _⟩

set_option maxRecDepth 100000 in
set_option maxHeartbeats 1000000 in
theorem check_bad_ry (l s r : List UInt8) (V : Value) (w : World) (bl : l.length + s.length + r.length ≤ 1000000000) (hl : onlyB l LOW 2 3 = true) (hs : s ≠ []) (hS : scriptB s = true) (hr : r ≠ []) (hR : regionB r = false) :
    Calls Tryz.prog 20 #[.agg #[.string ⟨l.toArray⟩, .string ⟨s.toArray⟩, .string ⟨r.toArray⟩, V]] w fun e w' => e = .returned (errV 3) ∧ Below w.heap.size w w' := by
  have CL := Lib.hid fun w => made_low l 2 3 w (by omega)
  rw [hl] at CL
  have es1 : (s == []) = false := by cases s with | nil => exact absurd rfl hs | cons => rfl
  have es2 : s.isEmpty = false := by cases s with | nil => exact absurd rfl hs | cons => rfl
  have CS := Lib.hid fun w => script_any s w (by omega)
  rw [hS] at CS
  have er1 : (r == []) = false := by cases r with | nil => exact absurd rfl hr | cons => rfl
  have er2 : r.isEmpty = false := by cases r with | nil => exact absurd rfl hr | cons => rfl
  have CR := Lib.hid fun w => region_any r w (by omega)
  rw [hR] at CR
  go_enter Tryz.func20, Tryz.ntmps20
  go_wp2_with fail
  refine (CL.out _).mono ?_
  rintro e w' ⟨rfl, rfl⟩
  go_wp2_with fail
  refine (CS.out _).mono ?_
  rintro e w' ⟨rfl, rfl⟩
  go_wp2_with fail
  refine (CR.out _).mono ?_
  rintro e w' ⟨rfl, rfl⟩
  go_wp2_with fail
  go_ret
  exact ⟨rfl, blw_alloc _ _⟩

set_option maxRecDepth 100000 in
set_option maxHeartbeats 1000000 in
theorem check_none_ee (l s r : List UInt8) (a : Option Addr) (cap : Nat) (w : World) (bl : l.length + s.length + r.length ≤ 1000000000) (hl : onlyB l LOW 2 3 = true) (hs : s = []) (hr : r = []) :
    Calls Tryz.prog 20 #[.agg #[.string ⟨l.toArray⟩, .string ⟨s.toArray⟩, .string ⟨r.toArray⟩, .slice a 0 cap]] w fun e w' => e = .returned .nilIface ∧ Below w.heap.size w w' := by
  have CL := Lib.hid fun w => made_low l 2 3 w (by omega)
  rw [hl] at CL
  subst hs
  subst hr
  go_enter Tryz.func20, Tryz.ntmps20
  go_wp2_with fail
  refine (CL.out _).mono ?_
  rintro e w' ⟨rfl, rfl⟩
  go_wp2_with fail
  refine wp_loop_rounds 1 ?_
  rw [rounds_succ]
  go_wp2_with fail
  go_ret
  exact ⟨rfl, blw_alloc _ _⟩

set_option maxRecDepth 100000 in
set_option maxHeartbeats 2000000 in
theorem check_some_ee (l s r : List UInt8) (vs : List (List UInt8)) (b off cap : Nat) (w : World) (bl : l.length + s.length + r.length ≤ 1000000000) (bv : ∀ x ∈ vs, x.length ≤ 1000000000)
    (h0 : 0 < vs.length) (hcap : vs.length ≤ cap) (hcm : cap ≤ maxLen) (hcell : ∀ (j : Nat) x, vs[j]? = some x → w.cell? ⟨b, off + j, none⟩ = some (.string ⟨x.toArray⟩)) (hl : onlyB l LOW 2 3 = true) (hs : s = []) (hr : r = []) :
    Calls Tryz.prog 20 #[.agg #[.string ⟨l.toArray⟩, .string ⟨s.toArray⟩, .string ⟨r.toArray⟩, .slice (some ⟨b, off, none⟩) vs.length cap]] w fun e w' => e = .returned (errE (vf [] vs)) ∧ Below w.heap.size w w' := by
  have CL := Lib.hid fun w => made_low l 2 3 w (by omega)
  rw [hl] at CL
  subst hs
  subst hr
  have HB := Lib.hid bv
  have hbw : b < w.heap.size := World.block_lt_of_cell? w _ (hcell 0 _ (List.getElem?_eq_getElem h0))
  have HC := Lib.hid (show ∀ (j : Nat) x, vs[j]? = some x → (w.alloc (.cells #[.string ⟨l.toArray⟩, .string ⟨#[]⟩, .string ⟨#[]⟩, .slice (some ⟨b, off, none⟩) vs.length cap] 29)).cell? ⟨b, off + j, none⟩ = some (.string ⟨x.toArray⟩) from fun j x hx => cell_keep (hcell j x hx) (blw_alloc w _))
  unfold maxLen at hcm
  clear hcell bv bl hl
  go_enter Tryz.func20, Tryz.ntmps20
  go_wp2_with fail
  refine (CL.out _).mono ?_
  rintro e w' ⟨rfl, rfl⟩
  go_wp2_with fail
  go_loop [3, 4, 35] (fun _ _ i => ∃ k : Nat, i = .int .i64 k ∧ k ≤ vs.length ∧ Hid (vf [] vs = vf (vs.take k) (vs.drop k))) (fun _ _ i => vs.length - (RowKit.intOf i).toNat)
  case atStart => exact ⟨0, rfl, Nat.zero_le _, Lib.hid (by simp)⟩
  case round =>
    obtain ⟨k, rfl, hk, HI⟩ := hrel
    by_cases hlt : k < vs.length
    · obtain ⟨x, hx⟩ : ∃ x, vs[k]? = some x := ⟨vs[k], List.getElem?_eq_getElem hlt⟩
      have xb := HB.out x (List.mem_of_getElem? hx)
      have xc := HC.out k x hx
      have CB := Lib.hid fun w => made_both x 5 8 w (by omega)
      have hd : vs.drop k = x :: vs.drop (k + 1) := by rw [List.drop_eq_getElem_cons hlt]; congr 1; exact (List.getElem?_eq_some_iff.1 hx).2
      have ht : vs.take (k + 1) = vs.take k ++ [x] := by rw [List.take_add_one, hx]; rfl
      have HI2 := Lib.hid (show vf [] vs = if onlyB x (LOW ++ DIG) 5 8 = false then 3 else if (vs.take k).contains x then 5 else vf (vs.take (k + 1)) (vs.drop (k + 1)) by rw [HI.out, hd, ht]; rfl)
      have CC := Lib.hid (contains_any vs b off k cap x _ (by omega) (by omega) HC.out)
      clear hd ht hx HI
      generalize onlyB x (LOW ++ DIG) 5 8 = B at *
      generalize (vs.take k).contains x = D at *
      cases B
      · have HF := Lib.hid (show vf [] vs = 3 by rw [HI2.out]; rfl)
        clear HI2 CC
        go_wp2_with fail
        refine (CB.out _).mono ?_
        rintro e w' ⟨rfl, rfl⟩
        go_wp2_with fail
        go_ret
        exact ⟨ret_err HF.out (by omega), blw_alloc _ _⟩
      · cases D
        · have HF := Lib.hid (show vf [] vs = vf (vs.take (k + 1)) (vs.drop (k + 1)) by rw [HI2.out]; rfl)
          clear HI2
          go_wp2_with fail
          refine (CB.out _).mono ?_
          rintro e w' ⟨rfl, rfl⟩
          go_wp2_with fail
          refine (CC.out).mono ?_
          rintro e w' ⟨rfl, rfl⟩
          go_wp2_with fail
          first | (go_round; case rel => exact ⟨k + 1, by go_num, by omega, HF⟩; case measure => simp [RowKit.intOf]; omega) | exact ⟨⟨k + 1, by go_num, by omega, HF⟩, by simp [RowKit.intOf]; omega⟩
        · have HF := Lib.hid (show vf [] vs = 5 by rw [HI2.out]; rfl)
          clear HI2
          go_wp2_with fail
          refine (CB.out _).mono ?_
          rintro e w' ⟨rfl, rfl⟩
          go_wp2_with fail
          refine (CC.out).mono ?_
          rintro e w' ⟨rfl, rfl⟩
          go_wp2_with fail
          go_ret
          exact ⟨ret_err HF.out (by omega), blw_alloc _ _⟩
    · have HF := Lib.hid (show vf [] vs = if 3 < vs.length then 4 else 0 by rw [HI.out, List.take_of_length_le (by omega), List.drop_of_length_le (by omega)]; rfl)
      clear HI
      by_cases h3 : 3 < vs.length
      · have HG := Lib.hid (show vf [] vs = 4 by rw [HF.out, if_pos h3])
        have q1 : decide ((3 : Int) < (vs.length : Int)) = true := dec_yes (by omega)
        clear HF
        go_wp2_with fail
        go_ret
        exact ⟨ret_err HG.out (by omega), blw_alloc _ _⟩
      · have HG := Lib.hid (show vf [] vs = 0 by rw [HF.out, if_neg h3])
        have q1 : decide ((3 : Int) < (vs.length : Int)) = false := dec_no (by omega)
        clear HF
        go_wp2_with fail
        go_ret
        exact ⟨ret_noerr HG.out, blw_alloc _ _⟩

set_option maxRecDepth 100000 in
set_option maxHeartbeats 1000000 in
theorem check_none_ey (l s r : List UInt8) (a : Option Addr) (cap : Nat) (w : World) (bl : l.length + s.length + r.length ≤ 1000000000) (hl : onlyB l LOW 2 3 = true) (hs : s = []) (hr : r ≠ []) (hR : regionB r = true) :
    Calls Tryz.prog 20 #[.agg #[.string ⟨l.toArray⟩, .string ⟨s.toArray⟩, .string ⟨r.toArray⟩, .slice a 0 cap]] w fun e w' => e = .returned .nilIface ∧ Below w.heap.size w w' := by
  have CL := Lib.hid fun w => made_low l 2 3 w (by omega)
  rw [hl] at CL
  subst hs
  have er1 : (r == []) = false := by cases r with | nil => exact absurd rfl hr | cons => rfl
  have er2 : r.isEmpty = false := by cases r with | nil => exact absurd rfl hr | cons => rfl
  have CR := Lib.hid fun w => region_any r w (by omega)
  rw [hR] at CR
  go_enter Tryz.func20, Tryz.ntmps20
  go_wp2_with fail
  refine (CL.out _).mono ?_
  rintro e w' ⟨rfl, rfl⟩
  go_wp2_with fail
  refine (CR.out _).mono ?_
  rintro e w' ⟨rfl, rfl⟩
  go_wp2_with fail
  refine wp_loop_rounds 1 ?_
  rw [rounds_succ]
  go_wp2_with fail
  go_ret
  exact ⟨rfl, blw_alloc _ _⟩

set_option maxRecDepth 100000 in
set_option maxHeartbeats 2000000 in
theorem check_some_ey (l s r : List UInt8) (vs : List (List UInt8)) (b off cap : Nat) (w : World) (bl : l.length + s.length + r.length ≤ 1000000000) (bv : ∀ x ∈ vs, x.length ≤ 1000000000)
    (h0 : 0 < vs.length) (hcap : vs.length ≤ cap) (hcm : cap ≤ maxLen) (hcell : ∀ (j : Nat) x, vs[j]? = some x → w.cell? ⟨b, off + j, none⟩ = some (.string ⟨x.toArray⟩)) (hl : onlyB l LOW 2 3 = true) (hs : s = []) (hr : r ≠ []) (hR : regionB r = true) :
    Calls Tryz.prog 20 #[.agg #[.string ⟨l.toArray⟩, .string ⟨s.toArray⟩, .string ⟨r.toArray⟩, .slice (some ⟨b, off, none⟩) vs.length cap]] w fun e w' => e = .returned (errE (vf [] vs)) ∧ Below w.heap.size w w' := by
  have CL := Lib.hid fun w => made_low l 2 3 w (by omega)
  rw [hl] at CL
  subst hs
  have er1 : (r == []) = false := by cases r with | nil => exact absurd rfl hr | cons => rfl
  have er2 : r.isEmpty = false := by cases r with | nil => exact absurd rfl hr | cons => rfl
  have CR := Lib.hid fun w => region_any r w (by omega)
  rw [hR] at CR
  have HB := Lib.hid bv
  have hbw : b < w.heap.size := World.block_lt_of_cell? w _ (hcell 0 _ (List.getElem?_eq_getElem h0))
  have HC := Lib.hid (show ∀ (j : Nat) x, vs[j]? = some x → (w.alloc (.cells #[.string ⟨l.toArray⟩, .string ⟨#[]⟩, .string ⟨r.toArray⟩, .slice (some ⟨b, off, none⟩) vs.length cap] 29)).cell? ⟨b, off + j, none⟩ = some (.string ⟨x.toArray⟩) from fun j x hx => cell_keep (hcell j x hx) (blw_alloc w _))
  unfold maxLen at hcm
  clear hcell bv bl hl
  go_enter Tryz.func20, Tryz.ntmps20
  go_wp2_with fail
  refine (CL.out _).mono ?_
  rintro e w' ⟨rfl, rfl⟩
  go_wp2_with fail
  refine (CR.out _).mono ?_
  rintro e w' ⟨rfl, rfl⟩
  go_wp2_with fail
  go_loop [3, 4, 35] (fun _ _ i => ∃ k : Nat, i = .int .i64 k ∧ k ≤ vs.length ∧ Hid (vf [] vs = vf (vs.take k) (vs.drop k))) (fun _ _ i => vs.length - (RowKit.intOf i).toNat)
  case atStart => exact ⟨0, rfl, Nat.zero_le _, Lib.hid (by simp)⟩
  case round =>
    obtain ⟨k, rfl, hk, HI⟩ := hrel
    by_cases hlt : k < vs.length
    · obtain ⟨x, hx⟩ : ∃ x, vs[k]? = some x := ⟨vs[k], List.getElem?_eq_getElem hlt⟩
      have xb := HB.out x (List.mem_of_getElem? hx)
      have xc := HC.out k x hx
      have CB := Lib.hid fun w => made_both x 5 8 w (by omega)
      have hd : vs.drop k = x :: vs.drop (k + 1) := by rw [List.drop_eq_getElem_cons hlt]; congr 1; exact (List.getElem?_eq_some_iff.1 hx).2
      have ht : vs.take (k + 1) = vs.take k ++ [x] := by rw [List.take_add_one, hx]; rfl
      have HI2 := Lib.hid (show vf [] vs = if onlyB x (LOW ++ DIG) 5 8 = false then 3 else if (vs.take k).contains x then 5 else vf (vs.take (k + 1)) (vs.drop (k + 1)) by rw [HI.out, hd, ht]; rfl)
      have CC := Lib.hid (contains_any vs b off k cap x _ (by omega) (by omega) HC.out)
      clear hd ht hx HI
      generalize onlyB x (LOW ++ DIG) 5 8 = B at *
      generalize (vs.take k).contains x = D at *
      cases B
      · have HF := Lib.hid (show vf [] vs = 3 by rw [HI2.out]; rfl)
        clear HI2 CC
        go_wp2_with fail
        refine (CB.out _).mono ?_
        rintro e w' ⟨rfl, rfl⟩
        go_wp2_with fail
        go_ret
        exact ⟨ret_err HF.out (by omega), blw_alloc _ _⟩
      · cases D
        · have HF := Lib.hid (show vf [] vs = vf (vs.take (k + 1)) (vs.drop (k + 1)) by rw [HI2.out]; rfl)
          clear HI2
          go_wp2_with fail
          refine (CB.out _).mono ?_
          rintro e w' ⟨rfl, rfl⟩
          go_wp2_with fail
          refine (CC.out).mono ?_
          rintro e w' ⟨rfl, rfl⟩
          go_wp2_with fail
          first | (go_round; case rel => exact ⟨k + 1, by go_num, by omega, HF⟩; case measure => simp [RowKit.intOf]; omega) | exact ⟨⟨k + 1, by go_num, by omega, HF⟩, by simp [RowKit.intOf]; omega⟩
        · have HF := Lib.hid (show vf [] vs = 5 by rw [HI2.out]; rfl)
          clear HI2
          go_wp2_with fail
          refine (CB.out _).mono ?_
          rintro e w' ⟨rfl, rfl⟩
          go_wp2_with fail
          refine (CC.out).mono ?_
          rintro e w' ⟨rfl, rfl⟩
          go_wp2_with fail
          go_ret
          exact ⟨ret_err HF.out (by omega), blw_alloc _ _⟩
    · have HF := Lib.hid (show vf [] vs = if 3 < vs.length then 4 else 0 by rw [HI.out, List.take_of_length_le (by omega), List.drop_of_length_le (by omega)]; rfl)
      clear HI
      by_cases h3 : 3 < vs.length
      · have HG := Lib.hid (show vf [] vs = 4 by rw [HF.out, if_pos h3])
        have q1 : decide ((3 : Int) < (vs.length : Int)) = true := dec_yes (by omega)
        clear HF
        go_wp2_with fail
        go_ret
        exact ⟨ret_err HG.out (by omega), blw_alloc _ _⟩
      · have HG := Lib.hid (show vf [] vs = 0 by rw [HF.out, if_neg h3])
        have q1 : decide ((3 : Int) < (vs.length : Int)) = false := dec_no (by omega)
        clear HF
        go_wp2_with fail
        go_ret
        exact ⟨ret_noerr HG.out, blw_alloc _ _⟩

set_option maxRecDepth 100000 in
set_option maxHeartbeats 1000000 in
theorem check_none_ye (l s r : List UInt8) (a : Option Addr) (cap : Nat) (w : World) (bl : l.length + s.length + r.length ≤ 1000000000) (hl : onlyB l LOW 2 3 = true) (hs : s ≠ []) (hS : scriptB s = true) (hr : r = []) :
    Calls Tryz.prog 20 #[.agg #[.string ⟨l.toArray⟩, .string ⟨s.toArray⟩, .string ⟨r.toArray⟩, .slice a 0 cap]] w fun e w' => e = .returned .nilIface ∧ Below w.heap.size w w' := by
  have CL := Lib.hid fun w => made_low l 2 3 w (by omega)
  rw [hl] at CL
  have es1 : (s == []) = false := by cases s with | nil => exact absurd rfl hs | cons => rfl
  have es2 : s.isEmpty = false := by cases s with | nil => exact absurd rfl hs | cons => rfl
  have CS := Lib.hid fun w => script_any s w (by omega)
  rw [hS] at CS
  subst hr
  go_enter Tryz.func20, Tryz.ntmps20
  go_wp2_with fail
  refine (CL.out _).mono ?_
  rintro e w' ⟨rfl, rfl⟩
  go_wp2_with fail
  refine (CS.out _).mono ?_
  rintro e w' ⟨rfl, rfl⟩
  go_wp2_with fail
  refine wp_loop_rounds 1 ?_
  rw [rounds_succ]
  go_wp2_with fail
  go_ret
  exact ⟨rfl, blw_alloc _ _⟩

set_option maxRecDepth 100000 in
set_option maxHeartbeats 2000000 in
theorem check_some_ye (l s r : List UInt8) (vs : List (List UInt8)) (b off cap : Nat) (w : World) (bl : l.length + s.length + r.length ≤ 1000000000) (bv : ∀ x ∈ vs, x.length ≤ 1000000000)
    (h0 : 0 < vs.length) (hcap : vs.length ≤ cap) (hcm : cap ≤ maxLen) (hcell : ∀ (j : Nat) x, vs[j]? = some x → w.cell? ⟨b, off + j, none⟩ = some (.string ⟨x.toArray⟩)) (hl : onlyB l LOW 2 3 = true) (hs : s ≠ []) (hS : scriptB s = true) (hr : r = []) :
    Calls Tryz.prog 20 #[.agg #[.string ⟨l.toArray⟩, .string ⟨s.toArray⟩, .string ⟨r.toArray⟩, .slice (some ⟨b, off, none⟩) vs.length cap]] w fun e w' => e = .returned (errE (vf [] vs)) ∧ Below w.heap.size w w' := by
  have CL := Lib.hid fun w => made_low l 2 3 w (by omega)
  rw [hl] at CL
  have es1 : (s == []) = false := by cases s with | nil => exact absurd rfl hs | cons => rfl
  have es2 : s.isEmpty = false := by cases s with | nil => exact absurd rfl hs | cons => rfl
  have CS := Lib.hid fun w => script_any s w (by omega)
  rw [hS] at CS
  subst hr
  have HB := Lib.hid bv
  have hbw : b < w.heap.size := World.block_lt_of_cell? w _ (hcell 0 _ (List.getElem?_eq_getElem h0))
  have HC := Lib.hid (show ∀ (j : Nat) x, vs[j]? = some x → (w.alloc (.cells #[.string ⟨l.toArray⟩, .string ⟨s.toArray⟩, .string ⟨#[]⟩, .slice (some ⟨b, off, none⟩) vs.length cap] 29)).cell? ⟨b, off + j, none⟩ = some (.string ⟨x.toArray⟩) from fun j x hx => cell_keep (hcell j x hx) (blw_alloc w _))
  unfold maxLen at hcm
  clear hcell bv bl hl
  go_enter Tryz.func20, Tryz.ntmps20
  go_wp2_with fail
  refine (CL.out _).mono ?_
  rintro e w' ⟨rfl, rfl⟩
  go_wp2_with fail
  refine (CS.out _).mono ?_
  rintro e w' ⟨rfl, rfl⟩
  go_wp2_with fail
  go_loop [3, 4, 35] (fun _ _ i => ∃ k : Nat, i = .int .i64 k ∧ k ≤ vs.length ∧ Hid (vf [] vs = vf (vs.take k) (vs.drop k))) (fun _ _ i => vs.length - (RowKit.intOf i).toNat)
  case atStart => exact ⟨0, rfl, Nat.zero_le _, Lib.hid (by simp)⟩
  case round =>
    obtain ⟨k, rfl, hk, HI⟩ := hrel
    by_cases hlt : k < vs.length
    · obtain ⟨x, hx⟩ : ∃ x, vs[k]? = some x := ⟨vs[k], List.getElem?_eq_getElem hlt⟩
      have xb := HB.out x (List.mem_of_getElem? hx)
      have xc := HC.out k x hx
      have CB := Lib.hid fun w => made_both x 5 8 w (by omega)
      have hd : vs.drop k = x :: vs.drop (k + 1) := by rw [List.drop_eq_getElem_cons hlt]; congr 1; exact (List.getElem?_eq_some_iff.1 hx).2
      have ht : vs.take (k + 1) = vs.take k ++ [x] := by rw [List.take_add_one, hx]; rfl
      have HI2 := Lib.hid (show vf [] vs = if onlyB x (LOW ++ DIG) 5 8 = false then 3 else if (vs.take k).contains x then 5 else vf (vs.take (k + 1)) (vs.drop (k + 1)) by rw [HI.out, hd, ht]; rfl)
      have CC := Lib.hid (contains_any vs b off k cap x _ (by omega) (by omega) HC.out)
      clear hd ht hx HI
      generalize onlyB x (LOW ++ DIG) 5 8 = B at *
      generalize (vs.take k).contains x = D at *
      cases B
      · have HF := Lib.hid (show vf [] vs = 3 by rw [HI2.out]; rfl)
        clear HI2 CC
        go_wp2_with fail
        refine (CB.out _).mono ?_
        rintro e w' ⟨rfl, rfl⟩
        go_wp2_with fail
        go_ret
        exact ⟨ret_err HF.out (by omega), blw_alloc _ _⟩
      · cases D
        · have HF := Lib.hid (show vf [] vs = vf (vs.take (k + 1)) (vs.drop (k + 1)) by rw [HI2.out]; rfl)
          clear HI2
          go_wp2_with fail
          refine (CB.out _).mono ?_
          rintro e w' ⟨rfl, rfl⟩
          go_wp2_with fail
          refine (CC.out).mono ?_
          rintro e w' ⟨rfl, rfl⟩
          go_wp2_with fail
          first | (go_round; case rel => exact ⟨k + 1, by go_num, by omega, HF⟩; case measure => simp [RowKit.intOf]; omega) | exact ⟨⟨k + 1, by go_num, by omega, HF⟩, by simp [RowKit.intOf]; omega⟩
        · have HF := Lib.hid (show vf [] vs = 5 by rw [HI2.out]; rfl)
          clear HI2
          go_wp2_with fail
          refine (CB.out _).mono ?_
          rintro e w' ⟨rfl, rfl⟩
          go_wp2_with fail
          refine (CC.out).mono ?_
          rintro e w' ⟨rfl, rfl⟩
          go_wp2_with fail
          go_ret
          exact ⟨ret_err HF.out (by omega), blw_alloc _ _⟩
    · have HF := Lib.hid (show vf [] vs = if 3 < vs.length then 4 else 0 by rw [HI.out, List.take_of_length_le (by omega), List.drop_of_length_le (by omega)]; rfl)
      clear HI
      by_cases h3 : 3 < vs.length
      · have HG := Lib.hid (show vf [] vs = 4 by rw [HF.out, if_pos h3])
        have q1 : decide ((3 : Int) < (vs.length : Int)) = true := dec_yes (by omega)
        clear HF
        go_wp2_with fail
        go_ret
        exact ⟨ret_err HG.out (by omega), blw_alloc _ _⟩
      · have HG := Lib.hid (show vf [] vs = 0 by rw [HF.out, if_neg h3])
        have q1 : decide ((3 : Int) < (vs.length : Int)) = false := dec_no (by omega)
        clear HF
        go_wp2_with fail
        go_ret
        exact ⟨ret_noerr HG.out, blw_alloc _ _⟩

set_option maxRecDepth 100000 in
set_option maxHeartbeats 1000000 in
theorem check_none_yy (l s r : List UInt8) (a : Option Addr) (cap : Nat) (w : World) (bl : l.length + s.length + r.length ≤ 1000000000) (hl : onlyB l LOW 2 3 = true) (hs : s ≠ []) (hS : scriptB s = true) (hr : r ≠ []) (hR : regionB r = true) :
    Calls Tryz.prog 20 #[.agg #[.string ⟨l.toArray⟩, .string ⟨s.toArray⟩, .string ⟨r.toArray⟩, .slice a 0 cap]] w fun e w' => e = .returned .nilIface ∧ Below w.heap.size w w' := by
  have CL := Lib.hid fun w => made_low l 2 3 w (by omega)
  rw [hl] at CL
  have es1 : (s == []) = false := by cases s with | nil => exact absurd rfl hs | cons => rfl
  have es2 : s.isEmpty = false := by cases s with | nil => exact absurd rfl hs | cons => rfl
  have CS := Lib.hid fun w => script_any s w (by omega)
  rw [hS] at CS
  have er1 : (r == []) = false := by cases r with | nil => exact absurd rfl hr | cons => rfl
  have er2 : r.isEmpty = false := by cases r with | nil => exact absurd rfl hr | cons => rfl
  have CR := Lib.hid fun w => region_any r w (by omega)
  rw [hR] at CR
  go_enter Tryz.func20, Tryz.ntmps20
  go_wp2_with fail
  refine (CL.out _).mono ?_
  rintro e w' ⟨rfl, rfl⟩
  go_wp2_with fail
  refine (CS.out _).mono ?_
  rintro e w' ⟨rfl, rfl⟩
  go_wp2_with fail
  refine (CR.out _).mono ?_
  rintro e w' ⟨rfl, rfl⟩
  go_wp2_with fail
  refine wp_loop_rounds 1 ?_
  rw [rounds_succ]
  go_wp2_with fail
  go_ret
  exact ⟨rfl, blw_alloc _ _⟩

set_option maxRecDepth 100000 in
set_option maxHeartbeats 2000000 in
theorem check_some_yy (l s r : List UInt8) (vs : List (List UInt8)) (b off cap : Nat) (w : World) (bl : l.length + s.length + r.length ≤ 1000000000) (bv : ∀ x ∈ vs, x.length ≤ 1000000000)
    (h0 : 0 < vs.length) (hcap : vs.length ≤ cap) (hcm : cap ≤ maxLen) (hcell : ∀ (j : Nat) x, vs[j]? = some x → w.cell? ⟨b, off + j, none⟩ = some (.string ⟨x.toArray⟩)) (hl : onlyB l LOW 2 3 = true) (hs : s ≠ []) (hS : scriptB s = true) (hr : r ≠ []) (hR : regionB r = true) :
    Calls Tryz.prog 20 #[.agg #[.string ⟨l.toArray⟩, .string ⟨s.toArray⟩, .string ⟨r.toArray⟩, .slice (some ⟨b, off, none⟩) vs.length cap]] w fun e w' => e = .returned (errE (vf [] vs)) ∧ Below w.heap.size w w' := by
  have CL := Lib.hid fun w => made_low l 2 3 w (by omega)
  rw [hl] at CL
  have es1 : (s == []) = false := by cases s with | nil => exact absurd rfl hs | cons => rfl
  have es2 : s.isEmpty = false := by cases s with | nil => exact absurd rfl hs | cons => rfl
  have CS := Lib.hid fun w => script_any s w (by omega)
  rw [hS] at CS
  have er1 : (r == []) = false := by cases r with | nil => exact absurd rfl hr | cons => rfl
  have er2 : r.isEmpty = false := by cases r with | nil => exact absurd rfl hr | cons => rfl
  have CR := Lib.hid fun w => region_any r w (by omega)
  rw [hR] at CR
  have HB := Lib.hid bv
  have hbw : b < w.heap.size := World.block_lt_of_cell? w _ (hcell 0 _ (List.getElem?_eq_getElem h0))
  have HC := Lib.hid (show ∀ (j : Nat) x, vs[j]? = some x → (w.alloc (.cells #[.string ⟨l.toArray⟩, .string ⟨s.toArray⟩, .string ⟨r.toArray⟩, .slice (some ⟨b, off, none⟩) vs.length cap] 29)).cell? ⟨b, off + j, none⟩ = some (.string ⟨x.toArray⟩) from fun j x hx => cell_keep (hcell j x hx) (blw_alloc w _))
  unfold maxLen at hcm
  clear hcell bv bl hl
  go_enter Tryz.func20, Tryz.ntmps20
  go_wp2_with fail
  refine (CL.out _).mono ?_
  rintro e w' ⟨rfl, rfl⟩
  go_wp2_with fail
  refine (CS.out _).mono ?_
  rintro e w' ⟨rfl, rfl⟩
  go_wp2_with fail
  refine (CR.out _).mono ?_
  rintro e w' ⟨rfl, rfl⟩
  go_wp2_with fail
  go_loop [3, 4, 35] (fun _ _ i => ∃ k : Nat, i = .int .i64 k ∧ k ≤ vs.length ∧ Hid (vf [] vs = vf (vs.take k) (vs.drop k))) (fun _ _ i => vs.length - (RowKit.intOf i).toNat)
  case atStart => exact ⟨0, rfl, Nat.zero_le _, Lib.hid (by simp)⟩
  case round =>
    obtain ⟨k, rfl, hk, HI⟩ := hrel
    by_cases hlt : k < vs.length
    · obtain ⟨x, hx⟩ : ∃ x, vs[k]? = some x := ⟨vs[k], List.getElem?_eq_getElem hlt⟩
      have xb := HB.out x (List.mem_of_getElem? hx)
      have xc := HC.out k x hx
      have CB := Lib.hid fun w => made_both x 5 8 w (by omega)
      have hd : vs.drop k = x :: vs.drop (k + 1) := by rw [List.drop_eq_getElem_cons hlt]; congr 1; exact (List.getElem?_eq_some_iff.1 hx).2
      have ht : vs.take (k + 1) = vs.take k ++ [x] := by rw [List.take_add_one, hx]; rfl
      have HI2 := Lib.hid (show vf [] vs = if onlyB x (LOW ++ DIG) 5 8 = false then 3 else if (vs.take k).contains x then 5 else vf (vs.take (k + 1)) (vs.drop (k + 1)) by rw [HI.out, hd, ht]; rfl)
      have CC := Lib.hid (contains_any vs b off k cap x _ (by omega) (by omega) HC.out)
      clear hd ht hx HI
      generalize onlyB x (LOW ++ DIG) 5 8 = B at *
      generalize (vs.take k).contains x = D at *
      cases B
      · have HF := Lib.hid (show vf [] vs = 3 by rw [HI2.out]; rfl)
        clear HI2 CC
        go_wp2_with fail
        refine (CB.out _).mono ?_
        rintro e w' ⟨rfl, rfl⟩
        go_wp2_with fail
        go_ret
        exact ⟨ret_err HF.out (by omega), blw_alloc _ _⟩
      · cases D
        · have HF := Lib.hid (show vf [] vs = vf (vs.take (k + 1)) (vs.drop (k + 1)) by rw [HI2.out]; rfl)
          clear HI2
          go_wp2_with fail
          refine (CB.out _).mono ?_
          rintro e w' ⟨rfl, rfl⟩
          go_wp2_with fail
          refine (CC.out).mono ?_
          rintro e w' ⟨rfl, rfl⟩
          go_wp2_with fail
          first | (go_round; case rel => exact ⟨k + 1, by go_num, by omega, HF⟩; case measure => simp [RowKit.intOf]; omega) | exact ⟨⟨k + 1, by go_num, by omega, HF⟩, by simp [RowKit.intOf]; omega⟩
        · have HF := Lib.hid (show vf [] vs = 5 by rw [HI2.out]; rfl)
          clear HI2
          go_wp2_with fail
          refine (CB.out _).mono ?_
          rintro e w' ⟨rfl, rfl⟩
          go_wp2_with fail
          refine (CC.out).mono ?_
          rintro e w' ⟨rfl, rfl⟩
          go_wp2_with fail
          go_ret
          exact ⟨ret_err HF.out (by omega), blw_alloc _ _⟩
    · have HF := Lib.hid (show vf [] vs = if 3 < vs.length then 4 else 0 by rw [HI.out, List.take_of_length_le (by omega), List.drop_of_length_le (by omega)]; rfl)
      clear HI
      by_cases h3 : 3 < vs.length
      · have HG := Lib.hid (show vf [] vs = 4 by rw [HF.out, if_pos h3])
        have q1 : decide ((3 : Int) < (vs.length : Int)) = true := dec_yes (by omega)
        clear HF
        go_wp2_with fail
        go_ret
        exact ⟨ret_err HG.out (by omega), blw_alloc _ _⟩
      · have HG := Lib.hid (show vf [] vs = 0 by rw [HF.out, if_neg h3])
        have q1 : decide ((3 : Int) < (vs.length : Int)) = false := dec_no (by omega)
        clear HF
        go_wp2_with fail
        go_ret
        exact ⟨ret_noerr HG.out, blw_alloc _ _⟩
end Go.Proofs.YtghohnbajbikjaaGreatDoor
namespace Go.Proofs.YtghohnbajbikjaaGreatDoor
open Go.RowKit

theorem check_any (l s r : List UInt8) (vs : List (List UInt8)) (V : Value) (w : World) (hV : StrsAt w V vs) (bl : l.length + s.length + r.length ≤ 1000000000) (bv : ∀ x ∈ vs, x.length ≤ 1000000000) :
    Calls Tryz.prog 20 #[.agg #[.string ⟨l.toArray⟩, .string ⟨s.toArray⟩, .string ⟨r.toArray⟩, V]] w fun e w' => e = .returned (errE (tagFault l s r vs)) ∧ Below w.heap.size w w' := by
  have good : headB l s r = true → tagFault l s r vs = vf [] vs := fun h => by unfold tagFault; rw [if_pos h]
  have bad : headB l s r = false → errE (tagFault l s r vs) = errV 3 := fun h => by unfold tagFault; rw [h]; rfl
  cases hl : onlyB l LOW 2 3 with
  | false =>
    rw [bad (by unfold headB; rw [hl]; rfl)]
    exact check_bad_l l s r V w bl hl
  | true =>
    by_cases hs : s = []
    · skip
      by_cases hr : r = []
      · skip
        have hh : headB l s r = true := by unfold headB; rw [hl]; simp [hs, hr]
        rw [good hh]
        rcases hV with ⟨hv, a, cap, rfl⟩ | ⟨b, off, cap, rfl, h0, hc, hm, hcell⟩
        · rw [hv]
          exact check_none_ee l s r a cap w bl hl hs hr
        · exact check_some_ee l s r vs b off cap w bl bv h0 hc hm hcell hl hs hr
      · cases hR : regionB r with
        | true =>
          have hh : headB l s r = true := by unfold headB; rw [hl]; simp [hs, hR]
          rw [good hh]
          rcases hV with ⟨hv, a, cap, rfl⟩ | ⟨b, off, cap, rfl, h0, hc, hm, hcell⟩
          · rw [hv]
            exact check_none_ey l s r a cap w bl hl hs hr hR
          · exact check_some_ey l s r vs b off cap w bl bv h0 hc hm hcell hl hs hr hR
        | false =>
          rw [bad (by unfold headB; rw [hl]; simp [hr, hR])]
          exact check_bad_re l s r V w bl hl hs hr hR
    · cases hS : scriptB s with
      | true =>
        by_cases hr : r = []
        · skip
          have hh : headB l s r = true := by unfold headB; rw [hl]; simp [hS, hr]
          rw [good hh]
          rcases hV with ⟨hv, a, cap, rfl⟩ | ⟨b, off, cap, rfl, h0, hc, hm, hcell⟩
          · rw [hv]
            exact check_none_ye l s r a cap w bl hl hs hS hr
          · exact check_some_ye l s r vs b off cap w bl bv h0 hc hm hcell hl hs hS hr
        · cases hR : regionB r with
          | true =>
            have hh : headB l s r = true := by unfold headB; rw [hl]; simp [hS, hR]
            rw [good hh]
            rcases hV with ⟨hv, a, cap, rfl⟩ | ⟨b, off, cap, rfl, h0, hc, hm, hcell⟩
            · rw [hv]
              exact check_none_yy l s r a cap w bl hl hs hS hr hR
            · exact check_some_yy l s r vs b off cap w bl bv h0 hc hm hcell hl hs hS hr hR
          | false =>
            rw [bad (by unfold headB; rw [hl]; simp [hr, hR])]
            exact check_bad_ry l s r V w bl hl hs hS hr hR
      | false =>
        rw [bad (by unfold headB; rw [hl]; simp [hs, hS])]
        exact check_bad_s l s r V w bl hl hs hS

theorem Drew.trans {a b c : World} (h : Drew a b) (k : Drew b c) : Drew a c := by obtain ⟨n, rfl⟩ := k; exact h.drewN n
end Go.Proofs.YtghohnbajbikjaaGreatDoor
namespace Lst
open Go Go.Lib
def total (l : List (List UInt8)) (sep : List UInt8) : Nat := sep.length * l.length + lens l
theorem join_le (l : List (List UInt8)) (sep : List UInt8) : (join l sep).length ≤ total l sep := by
  cases l with
  | nil => rw [join_nil]; simp [total]
  | cons x r => rw [join_length]; unfold total; simp [Nat.mul_succ]; try omega
end Lst
namespace Go.Proofs.YtghohnbajbikjaaGreatDoor
open Go.RowKit

end Go.Proofs.YtghohnbajbikjaaGreatDoor
namespace Spl
open Go Go.Lib

theorem split_miss {s sub : List UInt8} (h : index s sub = -1) : split s sub = [s] := by
  unfold split
  rw [count_miss h]
  rfl
end Spl
namespace Go.Proofs.YtghohnbajbikjaaGreatDoor
open Go.RowKit

theorem infoStr : (Tryz.prog.info? 9).map (fun i => (i.zero, i.size, i.bytes)) = some (some (.string ByteArray.empty), 1, 16) := by kernel_rfl

end Go.Proofs.YtghohnbajbikjaaGreatDoor
namespace Go.Proofs.YtghohnbajbikjaaGreatDoor
open Go.RowKit

/-- the parts of a tag -/
def parts (l s r : List UInt8) (vs : List (List UInt8)) : List (List UInt8) := (l :: s :: r :: vs).filter (fun x => !x.isEmpty)
theorem StrsAt.open {w : World} {v : Value} {l : List (List UInt8)} (h : StrsAt w v l) : (∃ cap, v = .slice none 0 cap ∧ l = []) ∨ ∃ ad cap, v = .slice (some ad) l.length cap ∧ ∀ (j : Nat) u, (l.map txtV)[j]? = some u → w.cell? (ad.add j) = some u := by
  rcases h with ⟨rfl, a, cap, rfl⟩ | ⟨b, off, cap, rfl, _, _, _, hc⟩
  · cases a with
    | none => exact .inl ⟨cap, rfl, rfl⟩
    | some ad => exact .inr ⟨ad, cap, rfl, fun j u hu => by simp at hu⟩
  · refine .inr ⟨_, cap, rfl, fun j u hu => ?_⟩
    rw [List.getElem?_map] at hu
    obtain ⟨x, hx, rfl⟩ := Option.map_eq_some_iff.1 hu
    rw [show (⟨b, off, none⟩ : Addr).add j = ⟨b, off + j, none⟩ from Go.WideShapes.add_plain ..]
    exact hc j x hx
theorem own_made {w : World} {base q : Nat} (hb : base ≤ q) (hq : w.heap.size = q) (xs : List Value) (t : TypeId) (hm : xs.length ≤ maxLen) : (w.alloc (.cells xs.toArray t)).ownsRow base t 1 (.slice (some ⟨q, 0, none⟩) xs.length xs.length) xs.length xs := by
  subst hq
  exact ⟨by simp, .inr ⟨w.heap.size, xs.length, xs.toArray, rfl, hb, by show (w.heap.push _)[w.heap.size]? = _; simp, Nat.le_refl _, hm, by simp, by simp⟩⟩
/-- a slice of texts whose nil has no room -/
def Nil0 (V : Value) : Prop := ∀ n c, V = .slice none n c → c = 0

end Go.Proofs.YtghohnbajbikjaaGreatDoor
namespace Go.Proofs.YtghohnbajbikjaaGreatDoor
open Go.RowKit

/-- a tag's text -/
def tagText (l s r : List UInt8) (vs : List (List UInt8)) : List UInt8 := Lib.join (parts l s r vs) [45]
theorem lens_filter (p : List UInt8 → Bool) : ∀ l : List (List UInt8), Lib.lens (l.filter p) ≤ Lib.lens l
  | [] => Nat.le_refl _
  | x :: r => by
    have := lens_filter p r
    rw [List.filter_cons]
    split
    · simp only [Lib.lens, List.map_cons, List.sum_cons] at *; omega
    · simp only [Lib.lens, List.map_cons, List.sum_cons] at *; omega
theorem parts_small (l s r : List UInt8) (vs : List (List UInt8)) : Lib.lens (parts l s r vs) ≤ l.length + s.length + r.length + Lib.lens vs ∧ (parts l s r vs).length ≤ 3 + vs.length := by
  have a := lens_filter (fun x => !x.isEmpty) (l :: s :: r :: vs)
  have b := List.length_filter_le (fun x : List UInt8 => !x.isEmpty) (l :: s :: r :: vs)
  unfold parts
  simp only [Lib.lens, List.map_cons, List.sum_cons, List.length_cons] at a b ⊢
  omega

end Go.Proofs.YtghohnbajbikjaaGreatDoor
namespace Go.Proofs.YtghohnbajbikjaaGreatDoor
open Go.RowKit

def lowC (c : UInt8) : UInt8 := if HIGH.contains c then c + 32 else c
def upC (c : UInt8) : UInt8 := if LOW.contains c then c - 32 else c
/-- block p holds these bytes, which may be written -/
structure BytesAt (w : World) (p : Nat) (l : List UInt8) : Prop where
  lt : p < w.heap.size
  cell : ∀ (j : Nat) (x : UInt8), l[j]? = some x → w.cell? ⟨p, j, none⟩ = some (.int .u8 (x.toNat : Int))
  free : ∀ (j : Nat), j < l.length → w.frozen? ⟨p, j, none⟩ = false
theorem BytesAt.set {w : World} {p : Nat} {l : List UInt8} (h : BytesAt w p l) (k : Nat) (hk : k < l.length) (x : UInt8) : BytesAt (w.setCell ⟨p, k, none⟩ (.int .u8 (x.toNat : Int))) p (l.set k x) := by
  refine ⟨by rw [show (w.setCell ⟨p, k, none⟩ (.int .u8 (x.toNat : Int))).heap.size = w.heap.size by simp [World.setCell]]; exact h.lt, fun j y hj => ?_, fun j hj => ?_⟩
  · by_cases e : j = k
    · subst e
      rw [List.getElem?_set_self hk] at hj
      obtain rfl := Option.some.inj hj
      exact World.cell?_setCell_same _ _ _ (h.cell j _ (List.getElem?_eq_getElem hk))
    · rw [List.getElem?_set_ne (fun g => e g.symm)] at hj
      rw [World.cell?_setCell_other _ _ _ _ (fun g => e (congrArg Addr.off g).symm)]
      exact h.cell j y hj
  · rw [World.frozen?_setCell]; exact h.free j (by simpa using hj)
theorem BytesAt.drewN {w : World} {p : Nat} {l : List UInt8} (h : BytesAt w p l) (n : Nat) : BytesAt (w.drewN n) p l := ⟨h.lt, h.cell, h.free⟩
theorem BytesAt.drew {w : World} {p : Nat} {l : List UInt8} (h : BytesAt w p l) : BytesAt w.drew p l := ⟨h.lt, h.cell, h.free⟩
theorem bytes_made (w : World) (s : List UInt8) (hs : s.length ≤ 1000000000) : ∃ cap wb, (convert 9 95 (.string ⟨s.toArray⟩)).run Tryz.prog w = .ok (.slice (some ⟨w.heap.size, 0, none⟩) s.length cap) wb ∧ s.length ≤ cap ∧ cap ≤ maxLen ∧ BytesAt wb w.heap.size s ∧ Below w.heap.size w wb := by
  have c := Lib.run_convert_string_bytes (P := Tryz.prog) w 9 95 5 ⟨s.toArray⟩ Tryz.underlying9 Tryz.underlying95 Tryz.underlying5
  have hz : (⟨s.toArray⟩ : ByteArray).size = s.length := size_mkl s
  have hc : s.length ≤ (Lib.bytesCells w 5 ⟨s.toArray⟩).size := by
    simp [Lib.bytesCells, hz]
  rw [hz] at c
  refine ⟨_, _, c, grownCap_ge _ _ _ _, grownCap_le_maxLen _ _ _ _ (by unfold maxLen; omega), ⟨by rw [Lib.bytesWorld_size]; omega, fun j x hx => ?_, fun j hj => ?_⟩, Lib.bytesWorld_below _ _ _⟩
  · have hj : j < s.length := (List.getElem?_eq_some_iff.1 hx).1
    rw [Lib.bytesWorld_cell w 5 ⟨s.toArray⟩ j (by rw [hz]; exact hj)]
    simp [List.getD_eq_getElem?_getD, hx]
  · simp [World.frozen?, Lib.bytesWorld_at_new]
    omega
theorem map_step (f : UInt8 → UInt8) (s : List UInt8) (k : Nat) (c : UInt8) (h : s[k]? = some c) :
    ((s.take k).map f ++ s.drop k)[k]? = some c ∧ (s.take (k + 1)).map f ++ s.drop (k + 1) = ((s.take k).map f ++ s.drop k).set k (f c) := by
  have hk : k < s.length := (List.getElem?_eq_some_iff.1 h).1
  have hv : s[k] = c := (List.getElem?_eq_some_iff.1 h).2
  have hl : ((s.take k).map f).length = k := by simp; omega
  have hd : s.drop k = c :: s.drop (k + 1) := by rw [List.drop_eq_getElem_cons hk, hv]
  constructor
  · rw [List.getElem?_append_right (by omega), hl, Nat.sub_self, hd]; rfl
  · rw [List.take_add_one, h, List.set_append_right _ _ (by omega), hl, Nat.sub_self, hd]; simp
theorem map_len (f : UInt8 → UInt8) (s : List UInt8) (k : Nat) : ((s.take k).map f ++ s.drop k).length = s.length := by simp; omega
theorem set_same {l : List UInt8} {k : Nat} {c : UInt8} (h : l[k]? = some c) : l.set k c = l := by
  apply List.ext_getElem?
  intro j
  by_cases e : j = k
  · subst e
    rw [List.getElem?_set_self (List.getElem?_eq_some_iff.1 h).1, h]
  · rw [List.getElem?_set_ne (fun g => e g.symm)]
theorem xor_low (c : UInt8) (h : HIGH.contains c = true) : bits BinOp.xor IntKind.u8 (c.toNat : Int) 32 = ((c + 32).toNat : Int) := by
  revert h
  exact each_byte (fun c => HIGH.contains c = true → bits BinOp.xor IntKind.u8 (c.toNat : Int) 32 = ((c + 32).toNat : Int)) (by decide +kernel) c
theorem xor_up (c : UInt8) (h : LOW.contains c = true) : bits BinOp.xor IntKind.u8 (c.toNat : Int) 32 = ((c - 32).toNat : Int) := by
  revert h
  exact each_byte (fun c => LOW.contains c = true → bits BinOp.xor IntKind.u8 (c.toNat : Int) 32 = ((c - 32).toNat : Int)) (by decide +kernel) c

set_option maxRecDepth 100000 in
set_option maxHeartbeats 1000000 in
theorem mapped_up (s : List UInt8) (w : World) (hs : s.length ≤ 1000000000) :
    Calls Tryz.prog 32 #[.string ⟨s.toArray⟩, .func (.func 15) #[] #[], .int .u8 32] w fun e w' => e = .returned (.string ⟨(s.map upC).toArray⟩) ∧ Below w.heap.size w w' := by
  obtain ⟨cap, wb, CV, hc1, hc2, hB, hb⟩ := bytes_made w s hs
  unfold maxLen at hc2
  have HB0 := Lib.hid hB
  have HW0 := Lib.hid hb
  clear hB hb
  go_enter Tryz.func32, Tryz.ntmps32
  go_wp2_with fail
  clear CV
  go_loopw [8, 9, 14] (fun _ _ i wr => ∃ k : Nat, i = .int .i64 k ∧ k ≤ s.length ∧ Hid (BytesAt wr w.heap.size ((s.take k).map upC ++ s.drop k)) ∧ Hid (Below w.heap.size w wr)) (fun _ _ i _ => s.length - (RowKit.intOf i).toNat)
  case atStart => exact ⟨0, rfl, Nat.zero_le _, Lib.hid (by simpa using HB0.out), HW0⟩
  case round =>
    clear HB0 HW0
    obtain ⟨k, rfl, hk, HB, HW⟩ := hrel
    by_cases hlt : k < s.length
    · obtain ⟨c, hc⟩ : ∃ c, s[k]? = some c := ⟨s[k], List.getElem?_eq_getElem hlt⟩
      obtain ⟨m1, m2⟩ := map_step upC s k c hc
      have ml := map_len upC s k
      have bc := HB.out.cell k c m1
      have bf := HB.out.free k (by omega)
      have M1 := Lib.hid m1
      have M2 := Lib.hid m2
      have ML := Lib.hid ml
      have cb := c.toNat_lt
      have CC := Lib.hid fun w => low_any c w
      have HT := Lib.hid (show LOW.contains c = true → upC c = c - 32 from fun h => by unfold upC; rw [if_pos h])
      have HN := Lib.hid (show LOW.contains c = false → upC c = c from fun h => by unfold upC; rw [if_neg (by rw [h]; decide)])
      clear m1 m2 ml hc
      cases hq : LOW.contains c with
      | false =>
        rw [hq] at CC
        have HF := Lib.hid (HN.out hq)
        clear hq
        go_wp2_with fail
        refine (CC.out _).mono ?_
        rintro e w' ⟨rfl, rfl⟩
        go_wp2_with fail
        go_roundw
        case rel => exact ⟨k + 1, by go_num, by omega, Lib.hid (by rw [M2.out, HF.out, set_same M1.out]; exact HB.out), HW⟩
        case measure => simp [RowKit.intOf]; omega
      | true =>
        rw [hq] at CC
        have HF := Lib.hid (HT.out hq)
        have HIN := Lib.hid hq
        clear hq
        go_wp2_with fail
        refine (CC.out _).mono ?_
        rintro e w' ⟨rfl, rfl⟩
        go_wp2_with fail
        have HX := Lib.hid (xor_up c HIN.out)
        exact ⟨⟨k + 1, by go_num, by omega, Lib.hid (by rw [M2.out, HF.out, HX.out]; exact HB.out.set k (by rw [ML.out]; exact hlt) (c - 32)), Lib.hid (HW.out.setCell (by simp) _)⟩, by simp [RowKit.intOf]; omega⟩
    · have HE : Hid (BytesAt wr w.heap.size (s.map upC)) := Lib.hid (by
        have h := HB.out
        rw [List.take_of_length_le (by omega), List.drop_of_length_le (by omega), List.append_nil] at h
        exact h)
      have CB := run_convert_bytes_back (P := Tryz.prog) wr 95 9 5 ⟨w.heap.size, 0, none⟩ cap (s.map upC) Tryz.underlying95 Tryz.underlying5 Tryz.underlying9 (fun j hj => by
        rw [Go.WideShapes.add_plain, Nat.zero_add]
        exact HE.out.cell j _ (List.getElem?_eq_getElem hj))
      rw [List.length_map] at CB
      obtain ⟨R, hR⟩ : ∃ R, R = s.map upC := ⟨_, rfl⟩
      rw [← hR] at CB
      have HR := Lib.hid hR
      clear hR
      go_wp2_with fail
      go_ret
      exact ⟨ret_str HR.out, HW.out⟩

set_option maxRecDepth 100000 in
set_option maxHeartbeats 1000000 in
theorem mapped_low (s : List UInt8) (w : World) (hs : s.length ≤ 1000000000) :
    Calls Tryz.prog 32 #[.string ⟨s.toArray⟩, .func (.func 33) #[] #[], .int .u8 32] w fun e w' => e = .returned (.string ⟨(s.map lowC).toArray⟩) ∧ Below w.heap.size w w' := by
  obtain ⟨cap, wb, CV, hc1, hc2, hB, hb⟩ := bytes_made w s hs
  unfold maxLen at hc2
  have HB0 := Lib.hid hB
  have HW0 := Lib.hid hb
  clear hB hb
  go_enter Tryz.func32, Tryz.ntmps32
  go_wp2_with fail
  clear CV
  go_loopw [8, 9, 14] (fun _ _ i wr => ∃ k : Nat, i = .int .i64 k ∧ k ≤ s.length ∧ Hid (BytesAt wr w.heap.size ((s.take k).map lowC ++ s.drop k)) ∧ Hid (Below w.heap.size w wr)) (fun _ _ i _ => s.length - (RowKit.intOf i).toNat)
  case atStart => exact ⟨0, rfl, Nat.zero_le _, Lib.hid (by simpa using HB0.out), HW0⟩
  case round =>
    clear HB0 HW0
    obtain ⟨k, rfl, hk, HB, HW⟩ := hrel
    by_cases hlt : k < s.length
    · obtain ⟨c, hc⟩ : ∃ c, s[k]? = some c := ⟨s[k], List.getElem?_eq_getElem hlt⟩
      obtain ⟨m1, m2⟩ := map_step lowC s k c hc
      have ml := map_len lowC s k
      have bc := HB.out.cell k c m1
      have bf := HB.out.free k (by omega)
      have M1 := Lib.hid m1
      have M2 := Lib.hid m2
      have ML := Lib.hid ml
      have cb := c.toNat_lt
      have CC := Lib.hid fun w => high_any c w
      have HT := Lib.hid (show HIGH.contains c = true → lowC c = c + 32 from fun h => by unfold lowC; rw [if_pos h])
      have HN := Lib.hid (show HIGH.contains c = false → lowC c = c from fun h => by unfold lowC; rw [if_neg (by rw [h]; decide)])
      clear m1 m2 ml hc
      cases hq : HIGH.contains c with
      | false =>
        rw [hq] at CC
        have HF := Lib.hid (HN.out hq)
        clear hq
        go_wp2_with fail
        refine (CC.out _).mono ?_
        rintro e w' ⟨rfl, rfl⟩
        go_wp2_with fail
        go_roundw
        case rel => exact ⟨k + 1, by go_num, by omega, Lib.hid (by rw [M2.out, HF.out, set_same M1.out]; exact HB.out), HW⟩
        case measure => simp [RowKit.intOf]; omega
      | true =>
        rw [hq] at CC
        have HF := Lib.hid (HT.out hq)
        have HIN := Lib.hid hq
        clear hq
        go_wp2_with fail
        refine (CC.out _).mono ?_
        rintro e w' ⟨rfl, rfl⟩
        go_wp2_with fail
        have HX := Lib.hid (xor_low c HIN.out)
        exact ⟨⟨k + 1, by go_num, by omega, Lib.hid (by rw [M2.out, HF.out, HX.out]; exact HB.out.set k (by rw [ML.out]; exact hlt) (c + 32)), Lib.hid (HW.out.setCell (by simp) _)⟩, by simp [RowKit.intOf]; omega⟩
    · have HE : Hid (BytesAt wr w.heap.size (s.map lowC)) := Lib.hid (by
        have h := HB.out
        rw [List.take_of_length_le (by omega), List.drop_of_length_le (by omega), List.append_nil] at h
        exact h)
      have CB := run_convert_bytes_back (P := Tryz.prog) wr 95 9 5 ⟨w.heap.size, 0, none⟩ cap (s.map lowC) Tryz.underlying95 Tryz.underlying5 Tryz.underlying9 (fun j hj => by
        rw [Go.WideShapes.add_plain, Nat.zero_add]
        exact HE.out.cell j _ (List.getElem?_eq_getElem hj))
      rw [List.length_map] at CB
      obtain ⟨R, hR⟩ : ∃ R, R = s.map lowC := ⟨_, rfl⟩
      rw [← hR] at CB
      have HR := Lib.hid hR
      clear hR
      go_wp2_with fail
      go_ret
      exact ⟨ret_str HR.out, HW.out⟩

set_option maxRecDepth 100000 in
set_option maxHeartbeats 1000000 in
theorem taglower_any (s : List UInt8) (w : World) (hs : s.length ≤ 1000000000) :
    Calls Tryz.prog 14 #[.string ⟨s.toArray⟩] w fun e w' => e = .returned (.string ⟨(s.map lowC).toArray⟩) ∧ Below w.heap.size w w' := by
  have C := Lib.hid fun w => mapped_low s w hs
  obtain ⟨R, hR⟩ : ∃ R, R = s.map lowC := ⟨_, rfl⟩
  rw [← hR] at C ⊢
  clear hR
  go_enter Tryz.func14, Tryz.ntmps14
  go_wp2_with fail
  refine (C.out _).mono ?_
  rintro e w1 ⟨rfl, hb⟩
  have W1 := Lib.hid hb
  clear hb
  go_wp2_with fail
  go_ret
  exact ⟨rfl, W1.out⟩

set_option maxRecDepth 100000 in
set_option maxHeartbeats 1000000 in
theorem tagupper_any (s : List UInt8) (w : World) (hs : s.length ≤ 1000000000) :
    Calls Tryz.prog 17 #[.string ⟨s.toArray⟩] w fun e w' => e = .returned (.string ⟨(s.map upC).toArray⟩) ∧ Below w.heap.size w w' := by
  have C := Lib.hid fun w => mapped_up s w hs
  obtain ⟨R, hR⟩ : ∃ R, R = s.map upC := ⟨_, rfl⟩
  rw [← hR] at C ⊢
  clear hR
  go_enter Tryz.func17, Tryz.ntmps17
  go_wp2_with fail
  refine (C.out _).mono ?_
  rintro e w1 ⟨rfl, hb⟩
  have W1 := Lib.hid hb
  clear hb
  go_wp2_with fail
  go_ret
  exact ⟨rfl, W1.out⟩
end Go.Proofs.YtghohnbajbikjaaGreatDoor
namespace Byt
open Go Go.Lib
theorem idx_hit {c : UInt8} : ∀ {X : List UInt8} (Y : List UInt8), c ∉ X → index (X ++ c :: Y) [c] = X.length
  | [], Y, _ => by simp [index]
  | b :: X, Y, h => by
    have hb : ¬ c = b := fun e => h (by simp [e])
    have hx : c ∉ X := fun e => h (by simp [e])
    have ih := idx_hit (c := c) Y hx
    have e : [c].isPrefixOf (b :: (X ++ c :: Y)) = false := by simp [List.isPrefixOf, hb]
    rw [List.cons_append, index, if_neg (by rw [e]; decide), ih, if_neg (by simp)]
    simp
theorem idx_miss {c : UInt8} : ∀ {X : List UInt8}, c ∉ X → index X [c] = -1
  | [], _ => by simp [index]
  | b :: X, h => by
    have hb : ¬ c = b := fun e => h (by simp [e])
    have hx : c ∉ X := fun e => h (by simp [e])
    have ih := idx_miss (c := c) hx
    have e : [c].isPrefixOf (b :: X) = false := by simp [List.isPrefixOf, hb]
    rw [index, if_neg (by rw [e]; decide), if_pos (by rw [ih]; decide)]
/-- a text that holds the sign: what stands ahead of the first one, and behind it -/
theorem part {c : UInt8} : ∀ {s : List UInt8}, c ∈ s → ∃ X Y, s = X ++ c :: Y ∧ c ∉ X
  | [], h => by simp at h
  | b :: s, h => by
    by_cases e : c = b
    · exact ⟨[], s, by simp [e], by simp⟩
    · obtain ⟨X, Y, e1, e2⟩ := part (s := s) (by simpa [e] using h)
      exact ⟨b :: X, Y, by simp [e1], by simp [e, e2]⟩
theorem splitK_hit {c : UInt8} {X : List UInt8} (k : Nat) (Y : List UInt8) (h : c ∉ X) : splitK [c] 0 (k + 1) (X ++ c :: Y) = X :: splitK [c] 0 k Y := by
  rw [splitK, idx_hit Y h, if_neg (by simp)]
  have e1 : (X ++ c :: Y).take ((X.length : Int).toNat + 0) = X := by simp
  have e2 : (X ++ c :: Y).drop ((X.length : Int).toNat + [c].length) = Y := by
    rw [Int.toNat_natCast, ← List.drop_drop, List.drop_left]; rfl
  rw [e1, e2]
theorem splitK_miss {c : UInt8} {X : List UInt8} (k : Nat) (h : c ∉ X) : splitK [c] 0 k X = [X] := by
  cases k with
  | zero => rfl
  | succ k => rw [splitK, idx_miss h]; rfl
end Byt
namespace Byt
open Go Go.Lib
theorem split_cons {c : UInt8} {X : List UInt8} (Y : List UInt8) (h : c ∉ X) : split (X ++ c :: Y) [c] = X :: split Y [c] := by
  unfold split
  have e : count (X ++ c :: Y) [c] = count Y [c] + 1 := by
    rw [count_one, count_one, List.count_append, List.count_cons_self, List.count_eq_zero.2 h]; omega
  rw [e, splitK_hit _ _ h]
theorem split_none {c : UInt8} {X : List UInt8} (h : c ∉ X) : split X [c] = [X] := splitK_miss _ h
end Byt
namespace Go.Proofs.YtghohnbajbikjaaGreatDoor

/-- the script out of a part -/
def scr (a : List UInt8) : List UInt8 := (a.take 1).map upC ++ a.drop 1
def cutS (P : List UInt8 → Bool) : List (List UInt8) → List UInt8 × List (List UInt8)
  | [] => ([], [])
  | a :: r => if P a then (scr a, r) else ([], a :: r)
def cutR (P : List UInt8 → Bool) : List (List UInt8) → List UInt8 × List (List UInt8)
  | [] => ([], [])
  | a :: r => if P a then (a.map upC, r) else ([], a :: r)
def PS1 (a : List UInt8) : Bool := onlyB a LOW 4 4
def PR1 (a : List UInt8) : Bool := regionB (a.map upC)
/-- right, and of this text -/
def okT (q l s r : List UInt8) (vs : List (List UInt8)) : Bool := decide (tagFault l s r vs = 0) && ((tagText l s r vs).map lowC == q)

theorem onlyB_len {s of : List UInt8} {f t : Int} (h : onlyB s of f t = true) : f ≤ (s.length : Int) ∧ (s.length : Int) ≤ t := by
  unfold onlyB at h
  simp only [Bool.and_eq_true, decide_eq_true_eq] at h
  exact h.2
theorem scr_len (a : List UInt8) : (scr a).length = a.length := by
  cases a <;> simp [scr]
end Go.Proofs.YtghohnbajbikjaaGreatDoor
namespace Go.Proofs.YtghohnbajbikjaaGreatDoor
open Go.Lib

theorem join_more (x y : List UInt8) (r : List (List UInt8)) (sep : List UInt8) : join (x :: y :: r) sep = x ++ (sep ++ join (y :: r) sep) := by
  rw [join_cons, join_cons]; simp [joinTail]
theorem join_split_one (c : UInt8) : ∀ (n : Nat) (s : List UInt8), s.length ≤ n → split s [c] ≠ [] ∧ join (split s [c]) [c] = s ∧ ∀ p ∈ split s [c], (∀ x ∈ p, x ∈ s) ∧ c ∉ p := by
  intro n
  induction n with
  | zero =>
    intro s hs
    obtain rfl : s = [] := List.length_eq_zero_iff.1 (by omega)
    rw [Byt.split_none (by simp)]
    exact ⟨by simp, join_one _ _, fun p hp => by simp at hp; subst hp; simp⟩
  | succ n ih =>
    intro s hs
    by_cases h : c ∈ s
    · obtain ⟨X, Y, rfl, hX⟩ := Byt.part h
      obtain ⟨i1, i2, i3⟩ := ih Y (by simp at hs; omega)
      rw [Byt.split_cons Y hX]
      obtain ⟨y, r, e⟩ := List.exists_cons_of_ne_nil i1
      refine ⟨by simp, ?_, fun p hp => ?_⟩
      · rw [e, join_more, ← e, i2]; simp
      · rcases List.mem_cons.1 hp with rfl | hp
        · exact ⟨fun x hx => by simp [hx], hX⟩
        · exact ⟨fun x hx => by simp [(i3 p hp).1 x hx], (i3 p hp).2⟩
    · rw [Byt.split_none h]
      exact ⟨by simp, join_one _ _, fun p hp => by simp at hp; subst hp; exact ⟨fun x hx => hx, h⟩⟩
theorem join_cons_len (x : List UInt8) (r : List (List UInt8)) : (join (x :: r) [45]).length = r.length + (x.length + lens r) := by
  rw [join_length]; simp [lens]
end Go.Proofs.YtghohnbajbikjaaGreatDoor
namespace Go.Proofs.YtghohnbajbikjaaGreatDoor
open Go.Lib

/-- what a right tag is made of -/
structure Right (l s r : List UInt8) (vs : List (List UInt8)) : Prop where
  l : onlyB l LOW 2 3 = true
  s : s = [] ∨ scriptB s = true
  r : r = [] ∨ regionB r = true
  v : ∀ v ∈ vs, onlyB v (LOW ++ DIG) 5 8 = true
end Go.Proofs.YtghohnbajbikjaaGreatDoor
namespace Go.Proofs.YtghohnbajbikjaaGreatDoor
open Go.Lib

/-- a tag -/
structure Tg where
  l : List UInt8
  s : List UInt8
  r : List UInt8
  vs : List (List UInt8)
def Tg.txt (t : Tg) : List UInt8 := tagText t.l t.s t.r t.vs
def Tg.fault (t : Tg) : Int := tagFault t.l t.s t.r t.vs
/-- without its last part -/
def Tg.less (t : Tg) : Option Tg :=
  if 0 < t.vs.length then some ⟨t.l, t.s, t.r, t.vs.take (t.vs.length - 1)⟩
  else if t.r = [] then (if t.s = [] then none else some ⟨t.l, [], t.r, t.vs⟩) else some ⟨t.l, t.s, [], t.vs⟩
def one (x : List UInt8) : List (List UInt8) := if x.isEmpty then [] else [x]
def Tg.size (t : Tg) : Nat := (one t.s).length + ((one t.r).length + t.vs.length)
theorem one_nil : one [] = [] := rfl
theorem one_some {x : List UInt8} (h : x ≠ []) : one x = [x] := by unfold one; cases x with | nil => exact absurd rfl h | cons _ _ => rfl
theorem less_size {t u : Tg} (h : t.less = some u) : u.size + 1 = t.size := by
  unfold Tg.less at h
  split at h
  · obtain rfl := Option.some.inj h
    simp only [Tg.size, List.length_take]; omega
  · next h0 =>
    have hv : t.vs.length = 0 := by omega
    split at h
    · next h1 =>
      split at h
      · cases h
      · next h2 =>
        obtain rfl := Option.some.inj h
        simp only [Tg.size, h1, one_some h2, one_nil, List.length_cons, List.length_nil, hv]
    · next h1 =>
      obtain rfl := Option.some.inj h
      simp only [Tg.size, one_some h1, one_nil, List.length_cons, List.length_nil, hv]
def chainN : Nat → Tg → List Tg
  | 0, t => [t]
  | n + 1, t => t :: (match t.less with | none => [] | some u => chainN n u)
def Tg.chain (t : Tg) : List Tg := chainN t.size t
theorem chain_none {t : Tg} (h : t.less = none) : t.chain = [t] := by
  unfold Tg.chain
  cases t.size with
  | zero => rfl
  | succ n => simp only [chainN, h]
theorem chain_some {t u : Tg} (h : t.less = some u) : t.chain = t :: u.chain := by
  unfold Tg.chain
  rw [← less_size h]
  simp only [chainN, h]
end Go.Proofs.YtghohnbajbikjaaGreatDoor
namespace Go.Proofs.YtghohnbajbikjaaGreatDoor
open Go.RowKit
def MaxW (w : World) : Prop := ∃ m, w.cell? ⟨2, 0, none⟩ = some (.int .i64 m)
theorem MaxW.below {w w' : World} (h : MaxW w) (hb : Below w.heap.size w w') : MaxW w' := h.imp fun _ g => cell_keep g hb
theorem MaxW.alloc {w : World} (h : MaxW w) (o : Obj) : MaxW (w.alloc o) := h.below (blw_alloc w o)
end Go.Proofs.YtghohnbajbikjaaGreatDoor
namespace Go.Proofs.YtghohnbajbikjaaGreatDoor
open Go.RowKit

/-- strings.Split at one sign: the texts, in a block of the call's own -/
theorem split_any (s : List UInt8) (c : UInt8) (w : World) (hM : MaxW w) (hs : s.length ≤ 4000000000) :
    Calls Tryz.prog 13 #[.string ⟨s.toArray⟩, .string ⟨#[c]⟩] w fun e w' =>
      e = .returned (.slice (some ⟨w.heap.size, 0, none⟩) (Lib.split s [c]).length (Lib.split s [c]).length) ∧ 0 < (Lib.split s [c]).length ∧ (Lib.split s [c]).length ≤ s.length + 1 ∧
      (∀ (j : Nat) x, (Lib.split s [c])[j]? = some x → w'.cell? ⟨w.heap.size, j, none⟩ = some (.string ⟨x.toArray⟩)) ∧ Below w.heap.size w w' := by
  obtain ⟨m, hm⟩ := hM
  have h1 : 1 ≤ (⟨#[c]⟩ : ByteArray).size := Nat.le_refl 1
  have hz : (⟨s.toArray⟩ : ByteArray).size = s.length := size_mkl s
  have hd : (Lib.splitB ⟨#[c]⟩ 0 (Lib.countB ⟨s.toArray⟩ ⟨#[c]⟩) ⟨s.toArray⟩).map (·.data.toList) = Lib.split s [c] := by rw [Lib.splitB_data]; rfl
  have hlen := Lib.splitB_all ⟨#[c]⟩ h1 0 (Lib.countB ⟨s.toArray⟩ ⟨#[c]⟩) ⟨s.toArray⟩ rfl
  have hle := Lib.countB_le ⟨#[c]⟩ h1 s.length ⟨s.toArray⟩ (by rw [hz]; omega)
  rw [hz] at hle
  refine (Tryz.strings_Split ⟨s.toArray⟩ ⟨#[c]⟩ m w (by rw [hz]; omega) hm h1).mono ?_
  generalize Lib.countB ⟨s.toArray⟩ ⟨#[c]⟩ = k at *
  generalize Lib.splitB ⟨#[c]⟩ 0 k ⟨s.toArray⟩ = Q at *
  rw [← hd, List.length_map, hlen]
  rintro e w' ⟨rfl, rfl⟩
  refine ⟨rfl, by omega, by omega, ?_, blw_alloc _ _⟩
  intro j x hx
  rw [List.getElem?_map] at hx
  obtain ⟨q, hq, rfl⟩ := Option.map_eq_some_iff.1 hx
  simp [go_sem, hq]
/-- the texts' block lies behind B -/
def FarV (B : Nat) (V : Value) : Prop := ∀ ad n c, V = .slice (some ad) n c → 0 < n → B ≤ ad.block
theorem FarV.mono {B C : Nat} {V : Value} (h : FarV B V) (hc : C ≤ B) : FarV C V := fun ad n c e h0 => Nat.le_trans hc (h ad n c e h0)
theorem StrsAt.isSlice {w : World} {V : Value} {l : List (List UInt8)} (h : StrsAt w V l) : ∃ x n c, V = .slice x n c := by
  rcases h with ⟨_, a, cap, rfl⟩ | ⟨_, _, cap, rfl, _⟩
  · exact ⟨_, _, _, rfl⟩
  · exact ⟨_, _, _, rfl⟩
theorem FarV.nil (B n c : Nat) : FarV B (.slice none n c) := fun _ _ _ e _ => by injection e with e; cases e
theorem StrsAt.setCell {w : World} {V : Value} {l : List (List UInt8)} {B : Nat} (h : StrsAt w V l) (hf : FarV B V) (a : Addr) (ha : a.block < B) (u : Value) : StrsAt (w.setCell a u) V l := by
  rcases h with h | ⟨b, off, cap, rfl, h2, h3, h4, h5⟩
  · exact .inl h
  · have hb : B ≤ b := hf _ _ _ rfl h2
    exact .inr ⟨b, off, cap, rfl, h2, h3, h4, fun j x hx => (World.cell?_setCell_other _ _ _ _ (fun e => by rw [e] at ha; exact absurd ha (by show ¬ b < B; omega))).trans (h5 j x hx)⟩
theorem FarV.of_row {w : World} {base : Nat} {e : TypeId} {v : Value} {n k : Nat} {l : List Value} (h : w.ownsRow base e k v n l) : FarV base v := by
  obtain ⟨_, ⟨rfl, _⟩ | ⟨g, cap, cur, rfl, hb, _⟩⟩ := h
  · exact FarV.nil _ _ _
  · intro ad n' c e _
    injection e with e _ _
    injection e with e
    subst e; exact hb
/-- slices.Clone of texts -/
theorem clone_any (l : List (List UInt8)) (v : Value) (w : World) (h : StrsAt w v l) (hl : l.length ≤ 1000000000) :
    Calls Tryz.prog 19 #[v] w fun e w' => ∃ v', e = .returned v' ∧ StrsAt w' v' l ∧ FarV w.heap.size v' ∧ Below w.heap.size w w' := by
  rcases h with ⟨rfl, a, cap, rfl⟩ | ⟨b, off, cap, rfl, h0, hc, hm, hcell⟩
  · cases a with
    | none => exact (Tryz.slices_Clone_string_nil 0 cap w).mono fun _ _ ⟨he, hw⟩ => ⟨_, he, .inl ⟨rfl, none, 0, rfl⟩, FarV.nil _ _ _, hw ▸ Below.refl _ _⟩
    | some a => exact (Tryz.slices_Clone_string_zero a cap w).mono fun _ _ ⟨v', he, ho, _, hb⟩ => ⟨v', he, StrsAt.of_row (l := []) ho, FarV.of_row ho, hb⟩
  · refine (Tryz.slices_Clone_string b off l.length cap (l.map fun x => ⟨x.toArray⟩) w (by rw [List.length_map]; omega) (by omega) (fun j hj => ?_)).mono ?_
    · rw [List.length_map] at hj
      rw [hcell j l[j] (List.getElem?_eq_getElem hj)]
      simp [List.getD, List.getElem?_map, List.getElem?_eq_getElem hj]
    · rintro e w' ⟨v', rfl, ho, _, hb⟩
      have hf := FarV.of_row ho
      refine ⟨v', rfl, StrsAt.of_row (e := 9) (base := w.heap.size) (n := l.length) ?_, hf, hb⟩
      rw [List.take_of_length_le (by rw [List.length_map]; omega), List.map_map] at ho
      exact ho
end Go.Proofs.YtghohnbajbikjaaGreatDoor
namespace Go.Proofs.YtghohnbajbikjaaGreatDoor
open Go.Shelf

def growRen : Ren := ⟨fun | 4 => 45 | n => n, fun | 25 => 9 | 9 => 9 | 22 => 27 | 20 => 20 | 3 => 3 | 4 => 4 | 0 => 0 | n => n, fun n => n⟩
theorem laysGrow : Go.Proofs.Lays8.n4 Tryz.prog growRen := {
  mixed := by kernel_rfl
  f4 := ⟨ "slices.Grow[[]string,string]", by decide, Tryz.func45.trans (congrArg some (by kernel_rfl))⟩
  t0 := Tryz.underlying0
  a0 := Tryz.isAgg0
  z0 := Tryz.sizeOf0
  v0 := Tryz.zeroValue0
  t3 := Tryz.underlying3
  a3 := Tryz.isAgg3
  z3 := Tryz.sizeOf3
  v3 := Tryz.zeroValue3
  t4 := Tryz.underlying4
  a4 := Tryz.isAgg4
  z4 := Tryz.sizeOf4
  v4 := Tryz.zeroValue4
  t9 := Tryz.underlying9
  a9 := Tryz.isAgg9
  z9 := Tryz.sizeOf9
  v9 := Tryz.zeroValue9
  t20 := Tryz.underlying20
  a20 := Tryz.isAgg20
  z20 := Tryz.sizeOf20
  v20 := Tryz.zeroValue20
  t22 := Tryz.underlying27
  a22 := Tryz.isAgg27
  z22 := Tryz.sizeOf27
  v22 := Tryz.zeroValue27
}
def delRen : Ren := ⟨fun | 10 => 27 | 6 => 49 | n => n, fun | 23 => 9 | 22 => 27 | 25 => 47 | 3 => 3 | 4 => 4 | 0 => 0 | n => n, fun n => n⟩
theorem laysDel : Go.Proofs.SlLaysH.n10 Tryz.prog delRen := {
  mixed := by kernel_rfl
  f6 := ⟨ "slices.IndexFunc[[]string,string]", by decide, Tryz.func49.trans (congrArg some (by kernel_rfl))⟩
  f10 := ⟨ "slices.DeleteFunc[[]string,string]", by decide, Tryz.func27.trans (congrArg some (by kernel_rfl))⟩
  t0 := Tryz.underlying0
  a0 := Tryz.isAgg0
  z0 := Tryz.sizeOf0
  v0 := Tryz.zeroValue0
  t3 := Tryz.underlying3
  a3 := Tryz.isAgg3
  z3 := Tryz.sizeOf3
  v3 := Tryz.zeroValue3
  t4 := Tryz.underlying4
  a4 := Tryz.isAgg4
  z4 := Tryz.sizeOf4
  v4 := Tryz.zeroValue4
  t22 := Tryz.underlying27
  a22 := Tryz.isAgg27
  z22 := Tryz.sizeOf27
  v22 := Tryz.zeroValue27
  a23 := Tryz.isAgg9
  z23 := Tryz.sizeOf9
  t25 := Tryz.underlying47
  a25 := Tryz.isAgg47
  z25 := Tryz.sizeOf47
  v25 := Tryz.zeroValue47
}
end Go.Proofs.YtghohnbajbikjaaGreatDoor
namespace Go.Proofs.YtghohnbajbikjaaGreatDoor
open Go.RowKit

theorem infoStrD : (Tryz.prog.info? 9).map (fun i => (i.zero, i.size, i.bytes)) = some (some (.string ByteArray.empty), 1, 16) := by kernel_rfl
/-- a slice of none, with room -/
theorem grow_any (n : Nat) (w : World) (h0 : 0 < n) (hn : n ≤ 2000000000) :
    Calls Tryz.prog 45 #[.slice none 0 0, .int .i64 n] w fun e w' => ∃ v, e = .returned v ∧ w'.ownsRow w.heap.size 9 1 v 0 [] ∧ Below w.heap.size w w' := by
  obtain ⟨i0, hi, hz0, hz1, hz2⟩ := info_parts infoStrD
  have c := Any8.slices_Grow_grow laysGrow i0 (.string ByteArray.empty) hi hz0 (by omega) none 0 0 n [] w (Nat.le_refl _) (by omega) (by rw [hz2]; omega) (by omega) (by simp) (fun _ => rfl) (fun a h => by cases h)
  rw [show growRen.t 25 = 9 from rfl] at c
  simp only [Nat.zero_add, Nat.sub_zero] at c
  refine Calls.mono c ?_
  rintro e w' ⟨rfl, rfl⟩
  have g1 := grownCap_ge w n 0 9
  have g2 := grownCap_le_maxLen w n 0 9 (by unfold maxLen; omega)
  have hs : (([] : List Value).toArray ++ Builtin.zeroCells (Value.string ByteArray.empty).cells n ++ Builtin.zeroCells (Value.string ByteArray.empty).cells (grownCap w n 0 9 - n)).size = grownCap w n 0 9 * 1 := by
    simp only [Array.size_append, size_zeroCells, Value.cells]
    simp
    omega
  generalize (([] : List Value).toArray ++ Builtin.zeroCells (Value.string ByteArray.empty).cells n ++ Builtin.zeroCells (Value.string ByteArray.empty).cells (grownCap w n 0 9 - n)) = X at *
  generalize grownCap w n 0 9 = K at *
  exact ⟨_, rfl, ⟨by simp, .inr ⟨w.heap.size, K, X, rfl, Nat.le_refl _, by show (w.heap.push _)[w.heap.size]? = _; simp, Nat.zero_le _, g2, hs, by simp⟩⟩, ((Below.refl _ _).drew).alloc (Nat.le_refl _) _⟩

set_option maxRecDepth 100000 in
set_option maxHeartbeats 1000000 in
theorem none_any (x : List UInt8) (w : World) : Calls Tryz.prog 28 #[.string ⟨x.toArray⟩] w fun e w' => e = .returned (.bool x.isEmpty) ∧ w = w' := by
  cases x with
  | nil =>
    go_enter Tryz.func28, Tryz.ntmps28
    go_wp2
    go_ret
    exact ⟨rfl, rfl⟩
  | cons y z =>
    generalize hx : y :: z = x
    have hne : x ≠ [] := fun e => by rw [e] at hx; cases hx
    have e1 : (x == []) = false := by cases x with | nil => exact absurd rfl hne | cons => rfl
    have e2 : x.isEmpty = false := by cases x with | nil => exact absurd rfl hne | cons => rfl
    rw [e2]
    clear hx hne
    go_enter Tryz.func28, Tryz.ntmps28
    go_wp2
    go_ret
    exact ⟨rfl, rfl⟩
theorem none_gives (W : World) (x : List UInt8) : FnGives Tryz.prog 28 #[] #[encStr x] (.bool x.isEmpty) W := by
  show Calls _ _ (#[encStr x] ++ #[]) W _
  rw [Array.append_empty]
  exact (none_any x W).mono fun e w' ⟨he, hw⟩ => ⟨he, 0, hw.symm⟩
/-- the texts that are not empty, in the same row -/
theorem del_any (l : List (List UInt8)) (v : Value) (base : Nat) (w : World) (h0 : 0 < l.length) (hl : l.length ≤ 1000000000) (hb : w.ownsRow base 9 1 v l.length (l.map txtV)) :
    Calls Tryz.prog 27 #[v, .func (.func 28) #[] #[]] w fun e w' => ∃ v', e = .returned v' ∧ StrsAt w' v' (l.filter (fun x => !x.isEmpty)) ∧ ∀ B w0, B ≤ base → Below B w0 w → Below B w0 w' := by
  obtain ⟨g, cap, rfl, hg, hlt, hn, hm, hzl, hH⟩ := Lib.holds_of_ownsRow (enc := encStr) (zs := l) hb (by
    intro e
    rcases hb.2 with ⟨_, q⟩ | ⟨_, _, _, q, _⟩
    · omega
    · rw [e] at q; cases q)
  have c := AnyE.slices_DeleteFunc laysDel encStr (fun x => rfl) (fun x : List UInt8 => x.isEmpty) 28 #[] (enters_of Tryz.func28 (by kernel_rfl) rfl) [] (fun w => Tryz.zeroValue9 w) g 0 cap l.toArray w
    (fun W x _ => none_gives W x) (fun n os dk x _ => none_gives _ x) hH (by simp; omega) (by simpa using hn)
  have fl := List.length_filter_le (fun x : List UInt8 => !x.isEmpty) l
  simp only [List.size_toArray] at c
  refine Calls.mono c ?_
  rintro e w' ⟨rfl, q, rfl⟩
  refine ⟨_, rfl, ?_, fun B w0 hB hw => Lib.below_putRow hw (Nat.le_trans hB hg)⟩
  have o := Lib.ownsRow_putRow (q := q) (k := (l.filter (fun x => !x.isEmpty)).length) (ys := (l.filter (fun x => !x.isEmpty)) ++ List.replicate (l.length - (l.filter (fun x => !x.isEmpty)).length) []) hb (by simp; omega) fl
  rw [List.take_left] at o
  exact StrsAt.of_row o
end Go.Proofs.YtghohnbajbikjaaGreatDoor
namespace Go.Proofs.YtghohnbajbikjaaGreatDoor
open Go.RowKit

set_option maxRecDepth 100000 in
set_option maxHeartbeats 2000000 in
theorem concat_nil (la : List (List UInt8)) (q : Nat) (aa : Addr) (ca : Nat)  (w : World) (h0 : 0 < la.length) (hl : la.length + 0 ≤ 1000000000)
    (q0 : w.cell? ⟨q, 0, none⟩ = some (.slice (some aa) la.length ca)) (q1 : w.cell? ⟨q, 1, none⟩ = some (.slice none 0 0))
    (ha : ∀ (j : Nat) u, (la.map txtV)[j]? = some u → w.cell? (aa.add j) = some u) :
    Calls Tryz.prog 25 #[.slice (some ⟨q, 0, none⟩) 2 2] w fun e w' => ∃ v, e = .returned v ∧ w'.ownsRow w.heap.size 9 1 v (la ++ ([] : List (List UInt8))).length ((la ++ ([] : List (List UInt8))).map txtV) ∧ Below w.heap.size w w' := by
  obtain ⟨i0, hi, hz0, hz1, hz2⟩ := info_parts infoStr
  have HA := Lib.hid ha
  have HQ0 := Lib.hid q0
  have HQ1 := Lib.hid q1
  clear ha
  obtain ⟨N, hN⟩ : ∃ N, N = la.length + 0 := ⟨_, rfl⟩
  have n1 : la.length + 0 ≤ N := by omega
  have n2 : N ≤ la.length + 0 := by omega
  have CG := Lib.hid fun w => grow_any N w (by omega) (by omega)
  clear hN
  go_enter Tryz.func25, Tryz.ntmps25
  go_wp2_with fail
  go_loop [3, 5, 11] (fun z _ i => (i = .int .i64 0 ∧ z = .int .i64 0) ∨ (i = .int .i64 1 ∧ z = .int .i64 la.length) ∨ (i = .int .i64 2 ∧ z = .int .i64 N)) (fun _ _ i => 2 - (RowKit.intOf i).toNat)
  case atStart => exact .inl ⟨rfl, rfl⟩
  case round =>
    rcases hrel with ⟨rfl, rfl⟩ | ⟨rfl, rfl⟩ | ⟨rfl, rfl⟩
    · go_wp2_with fail
      first | (go_round; case rel => exact .inr (.inl ⟨rfl, congrArg (Value.int .i64) (by omega)⟩); case measure => simp [RowKit.intOf]) | exact ⟨.inr (.inl ⟨rfl, congrArg (Value.int .i64) (by omega)⟩), by simp [RowKit.intOf]⟩
    · go_wp2_with fail
      first | (go_round; case rel => exact .inr (.inr ⟨rfl, congrArg (Value.int .i64) (by omega)⟩); case measure => simp [RowKit.intOf]) | exact ⟨.inr (.inr ⟨rfl, congrArg (Value.int .i64) (by omega)⟩), by simp [RowKit.intOf]⟩
    · go_wp2_with fail
      refine (CG.out _).mono ?_
      rintro e w1 ⟨v, rfl, ho, hb⟩
      have HO := Lib.hid ho
      have HB := Lib.hid hb
      clear ho hb q0 q1 CG
      go_wp2_with fail
      go_loopw [6, 8, 27] (fun v _ i wr => Hid (Below w.heap.size w wr) ∧ ((i = .int .i64 0 ∧ Hid (wr.ownsRow w.heap.size 9 1 v 0 [])) ∨ (i = .int .i64 1 ∧ Hid (wr.ownsRow w.heap.size 9 1 v la.length (la.map txtV))) ∨ (i = .int .i64 2 ∧ Hid (wr.ownsRow w.heap.size 9 1 v (la ++ ([] : List (List UInt8))).length ((la ++ ([] : List (List UInt8))).map txtV))))) (fun _ _ i _ => 2 - (RowKit.intOf i).toNat)
      case atStart => exact ⟨HB, .inl ⟨rfl, HO⟩⟩
      case round =>
        clear HO HB
        obtain ⟨HB, hr⟩ := hrel
        have q0 := cell_keep HQ0.out HB.out
        have q1 := cell_keep HQ1.out HB.out
        have hbs := HB.out.size
        rcases hr with ⟨rfl, HO⟩ | ⟨rfl, HO⟩ | ⟨rfl, HO⟩
        · have hown := HO.out
          have HNEW : ∀ (j : Nat) u, (la.map txtV)[j]? = some u → wr.cell? (aa.add j) = some u := fun j u hu => cell_keep (HA.out j u hu) HB.out
          go_wp2_with (at_builtin; refine wpList_append_own _ rfl _ _ 27 rfl w.heap.size 9 i0 (.string ByteArray.empty) 1 16 Tryz.underlying27 hi hz0 hz1 hz2 rfl (by decide) _ _ _ rfl hown aa la.length ca (la.map txtV) rfl (by simp) HNEW (fun x hx => by simp at hx; obtain ⟨y, _, rfl⟩ := hx; rfl) (by unfold maxLen; omega) (by omega) hbs ?_; intro v' w2 hown' hgrow _)
          have HO' := Lib.hid (show w2.ownsRow w.heap.size 9 1 v' la.length (la.map txtV) by simpa using hown')
          have HB' := Lib.hid (show Below w.heap.size w w2 from HB.out.grown hgrow hbs (fun k hk => (hown.lt k hk).1))
          clear hown hown' hgrow hbs HO HB HNEW
          go_wp2_with fail
          go_roundw
          case rel => exact ⟨HB', .inr (.inl ⟨rfl, HO'⟩)⟩
          case measure => simp [RowKit.intOf]
        · have hown := HO.out
          go_wp2_with (at_builtin; refine wpList_append_own_none rfl _ _ 27 rfl w.heap.size 9 i0 1 Tryz.underlying27 hi _ _ _ rfl hown rfl ?_)
          have HO' := Lib.hid (show wr.ownsRow w.heap.size 9 1 _ (la ++ ([] : List (List UInt8))).length ((la ++ ([] : List (List UInt8))).map txtV) by simpa using hown)
          clear hown hbs HO
          go_wp2_with fail
          go_roundw
          case rel => exact ⟨HB, .inr (.inr ⟨rfl, HO'⟩)⟩
          case measure => simp [RowKit.intOf]
        · go_wp2_with fail
          go_ret
          exact ⟨_, rfl, HO.out, HB.out⟩

set_option maxRecDepth 100000 in
set_option maxHeartbeats 2000000 in
theorem concat_some (la lv : List (List UInt8)) (q : Nat) (aa : Addr) (ca cv : Nat) (ad : Addr) (w : World) (h0 : 0 < la.length) (hl : la.length + lv.length ≤ 1000000000)
    (q0 : w.cell? ⟨q, 0, none⟩ = some (.slice (some aa) la.length ca)) (q1 : w.cell? ⟨q, 1, none⟩ = some (.slice (some ad) lv.length cv))
    (ha : ∀ (j : Nat) u, (la.map txtV)[j]? = some u → w.cell? (aa.add j) = some u)
    (hv : ∀ (j : Nat) u, (lv.map txtV)[j]? = some u → w.cell? (ad.add j) = some u) :
    Calls Tryz.prog 25 #[.slice (some ⟨q, 0, none⟩) 2 2] w fun e w' => ∃ v, e = .returned v ∧ w'.ownsRow w.heap.size 9 1 v (la ++ lv).length ((la ++ lv).map txtV) ∧ Below w.heap.size w w' := by
  obtain ⟨i0, hi, hz0, hz1, hz2⟩ := info_parts infoStr
  have HA := Lib.hid ha
  have HV := Lib.hid hv
  have HQ0 := Lib.hid q0
  have HQ1 := Lib.hid q1
  clear ha hv
  obtain ⟨N, hN⟩ : ∃ N, N = la.length + lv.length := ⟨_, rfl⟩
  have n1 : la.length + lv.length ≤ N := by omega
  have n2 : N ≤ la.length + lv.length := by omega
  have CG := Lib.hid fun w => grow_any N w (by omega) (by omega)
  clear hN
  go_enter Tryz.func25, Tryz.ntmps25
  go_wp2_with fail
  go_loop [3, 5, 11] (fun z _ i => (i = .int .i64 0 ∧ z = .int .i64 0) ∨ (i = .int .i64 1 ∧ z = .int .i64 la.length) ∨ (i = .int .i64 2 ∧ z = .int .i64 N)) (fun _ _ i => 2 - (RowKit.intOf i).toNat)
  case atStart => exact .inl ⟨rfl, rfl⟩
  case round =>
    rcases hrel with ⟨rfl, rfl⟩ | ⟨rfl, rfl⟩ | ⟨rfl, rfl⟩
    · go_wp2_with fail
      first | (go_round; case rel => exact .inr (.inl ⟨rfl, congrArg (Value.int .i64) (by omega)⟩); case measure => simp [RowKit.intOf]) | exact ⟨.inr (.inl ⟨rfl, congrArg (Value.int .i64) (by omega)⟩), by simp [RowKit.intOf]⟩
    · go_wp2_with fail
      first | (go_round; case rel => exact .inr (.inr ⟨rfl, congrArg (Value.int .i64) (by omega)⟩); case measure => simp [RowKit.intOf]) | exact ⟨.inr (.inr ⟨rfl, congrArg (Value.int .i64) (by omega)⟩), by simp [RowKit.intOf]⟩
    · go_wp2_with fail
      refine (CG.out _).mono ?_
      rintro e w1 ⟨v, rfl, ho, hb⟩
      have HO := Lib.hid ho
      have HB := Lib.hid hb
      clear ho hb q0 q1 CG
      go_wp2_with fail
      go_loopw [6, 8, 27] (fun v _ i wr => Hid (Below w.heap.size w wr) ∧ ((i = .int .i64 0 ∧ Hid (wr.ownsRow w.heap.size 9 1 v 0 [])) ∨ (i = .int .i64 1 ∧ Hid (wr.ownsRow w.heap.size 9 1 v la.length (la.map txtV))) ∨ (i = .int .i64 2 ∧ Hid (wr.ownsRow w.heap.size 9 1 v (la ++ lv).length ((la ++ lv).map txtV))))) (fun _ _ i _ => 2 - (RowKit.intOf i).toNat)
      case atStart => exact ⟨HB, .inl ⟨rfl, HO⟩⟩
      case round =>
        clear HO HB
        obtain ⟨HB, hr⟩ := hrel
        have q0 := cell_keep HQ0.out HB.out
        have q1 := cell_keep HQ1.out HB.out
        have hbs := HB.out.size
        rcases hr with ⟨rfl, HO⟩ | ⟨rfl, HO⟩ | ⟨rfl, HO⟩
        · have hown := HO.out
          have HNEW : ∀ (j : Nat) u, (la.map txtV)[j]? = some u → wr.cell? (aa.add j) = some u := fun j u hu => cell_keep (HA.out j u hu) HB.out
          go_wp2_with (at_builtin; refine wpList_append_own _ rfl _ _ 27 rfl w.heap.size 9 i0 (.string ByteArray.empty) 1 16 Tryz.underlying27 hi hz0 hz1 hz2 rfl (by decide) _ _ _ rfl hown aa la.length ca (la.map txtV) rfl (by simp) HNEW (fun x hx => by simp at hx; obtain ⟨y, _, rfl⟩ := hx; rfl) (by unfold maxLen; omega) (by omega) hbs ?_; intro v' w2 hown' hgrow _)
          have HO' := Lib.hid (show w2.ownsRow w.heap.size 9 1 v' la.length (la.map txtV) by simpa using hown')
          have HB' := Lib.hid (show Below w.heap.size w w2 from HB.out.grown hgrow hbs (fun k hk => (hown.lt k hk).1))
          clear hown hown' hgrow hbs HO HB HNEW
          go_wp2_with fail
          go_roundw
          case rel => exact ⟨HB', .inr (.inl ⟨rfl, HO'⟩)⟩
          case measure => simp [RowKit.intOf]
        · have hown := HO.out
          have HNEW : ∀ (j : Nat) u, (lv.map txtV)[j]? = some u → wr.cell? (ad.add j) = some u := fun j u hu => cell_keep (HV.out j u hu) HB.out
          go_wp2_with (at_builtin; refine wpList_append_own _ rfl _ _ 27 rfl w.heap.size 9 i0 (.string ByteArray.empty) 1 16 Tryz.underlying27 hi hz0 hz1 hz2 rfl (by decide) _ _ _ rfl hown ad lv.length cv (lv.map txtV) rfl (by simp) HNEW (fun x hx => by simp at hx; obtain ⟨y, _, rfl⟩ := hx; rfl) (by unfold maxLen; omega) (by omega) hbs ?_; intro v' w2 hown' hgrow _)
          have HO' := Lib.hid (show w2.ownsRow w.heap.size 9 1 v' (la ++ lv).length ((la ++ lv).map txtV) by simpa using hown')
          have HB' := Lib.hid (show Below w.heap.size w w2 from HB.out.grown hgrow hbs (fun k hk => (hown.lt k hk).1))
          clear hown hown' hgrow hbs HO HB HNEW
          go_wp2_with fail
          go_roundw
          case rel => exact ⟨HB', .inr (.inr ⟨rfl, HO'⟩)⟩
          case measure => simp [RowKit.intOf]
        · go_wp2_with fail
          go_ret
          exact ⟨_, rfl, HO.out, HB.out⟩
end Go.Proofs.YtghohnbajbikjaaGreatDoor
namespace Go.Proofs.YtghohnbajbikjaaGreatDoor
open Go.RowKit

/-- strings.Join over StrsAt -/
theorem sjoin_any (l : List (List UInt8)) (v : Value) (sep : List UInt8) (w : World) (h : StrsAt w v l) (hn : l.length ≤ 2000000000000) (ht : Lst.total l sep ≤ 2000000000000) :
    Calls Tryz.prog 26 #[v, .string ⟨sep.toArray⟩] w fun e w' => e = .returned (.string ⟨(Lib.join l sep).toArray⟩) ∧ Below w.heap.size w w' := by
  rcases h with ⟨rfl, a, cap, rfl⟩ | ⟨b, off, cap, rfl, h0, hc, hm, hcell⟩
  · exact (Tryz.strings_Join_none a cap ⟨sep.toArray⟩ w).mono fun _ _ ⟨he, hw⟩ => ⟨he, hw ▸ Below.refl _ _⟩
  · have hl := Lst.join_le l sep
    have e : (l.map fun x => (⟨x.toArray⟩ : ByteArray)).map (·.data.toList) = l := by simp [Function.comp_def]
    have c := Tryz.strings_Join b off cap (l.map fun x => ⟨x.toArray⟩) ⟨sep.toArray⟩ w (fun j x hx => by
      rw [List.getElem?_map] at hx
      obtain ⟨y, hy, rfl⟩ := Option.map_eq_some_iff.1 hx
      exact hcell j y hy) (World.block_lt_of_cell? w _ (hcell 0 _ (List.getElem?_eq_getElem h0))) (by rw [List.length_map]; omega) (by rw [List.length_map]; exact hc) (by rw [e]; show (Lib.join l sep).length ≤ _; omega)
    rw [e, List.length_map] at c
    exact c
end Go.Proofs.YtghohnbajbikjaaGreatDoor
