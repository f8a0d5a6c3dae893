/- The walks of linguisterref1.Lower and Upper, of tag.lower and upper. -/
import Derived.Test.YtlhleojigcnjeaaDoorTagK
import Derived.Lib.ConvBytes
import Derived.Laws.IdiomStrings
import Derived.OwnWalk
import Derived.Lib.AtoiErrMem
import Derived.Laws.AppendOwn
import Derived.OpenShut
import Derived.Laws.IdiomStrings
namespace Go.Proofs.YtlhleojigcnjeaaDoor
open Go.RowKit

def lowC (c : UInt8) : UInt8 := if HIGH.contains c then c + 32 else c
def upC (c : UInt8) : UInt8 := if LOW.contains c then c - 32 else c
/-- block p holds these bytes, which may be written -/
structure BytesAt (w : World) (p : Nat) (l : List UInt8) : Prop where
  lt : p < w.heap.size
  cell : ∀ (j : Nat) (x : UInt8), l[j]? = some x → w.cell? ⟨p, j, none⟩ = some (.int .u8 (x.toNat : Int))
  free : ∀ (j : Nat), j < l.length → w.frozen? ⟨p, j, none⟩ = false
theorem BytesAt.set {w : World} {p : Nat} {l : List UInt8} (h : BytesAt w p l) (k : Nat) (hk : k < l.length) (x : UInt8) : BytesAt (w.setCell ⟨p, k, none⟩ (.int .u8 (x.toNat : Int))) p (l.set k x) := by
  refine ⟨by rw [show (w.setCell ⟨p, k, none⟩ (.int .u8 (x.toNat : Int))).heap.size = w.heap.size by simp [World.setCell]]; exact h.lt, fun j y hj => ?_, fun j hj => ?_⟩
  · by_cases e : j = k
    · subst e
      rw [List.getElem?_set_self hk] at hj
      obtain rfl := Option.some.inj hj
      exact World.cell?_setCell_same _ _ _ (h.cell j _ (List.getElem?_eq_getElem hk))
    · rw [List.getElem?_set_ne (fun g => e g.symm)] at hj
      rw [World.cell?_setCell_other _ _ _ _ (fun g => e (congrArg Addr.off g).symm)]
      exact h.cell j y hj
  · rw [World.frozen?_setCell]; exact h.free j (by simpa using hj)
theorem BytesAt.drewN {w : World} {p : Nat} {l : List UInt8} (h : BytesAt w p l) (n : Nat) : BytesAt (w.drewN n) p l := ⟨h.lt, h.cell, h.free⟩
theorem BytesAt.drew {w : World} {p : Nat} {l : List UInt8} (h : BytesAt w p l) : BytesAt w.drew p l := ⟨h.lt, h.cell, h.free⟩
theorem bytes_made (w : World) (s : List UInt8) (hs : s.length ≤ 1000000000) : ∃ cap wb, (convert 9 74 (.string ⟨s.toArray⟩)).run Tryd.prog w = .ok (.slice (some ⟨w.heap.size, 0, none⟩) s.length cap) wb ∧ s.length ≤ cap ∧ cap ≤ maxLen ∧ BytesAt wb w.heap.size s ∧ Below w.heap.size w wb := by
  have c := Lib.run_convert_string_bytes (P := Tryd.prog) w 9 74 5 ⟨s.toArray⟩ Tryd.underlying9 Tryd.underlying74 Tryd.underlying5
  have hz : (⟨s.toArray⟩ : ByteArray).size = s.length := size_mkl s
  have hc : s.length ≤ (Lib.bytesCells w 5 ⟨s.toArray⟩).size := by
    simp [Lib.bytesCells, hz]
  rw [hz] at c
  refine ⟨_, _, c, grownCap_ge _ _ _ _, grownCap_le_maxLen _ _ _ _ (by unfold maxLen; omega), ⟨by rw [Lib.bytesWorld_size]; omega, fun j x hx => ?_, fun j hj => ?_⟩, Lib.bytesWorld_below _ _ _⟩
  · have hj : j < s.length := (List.getElem?_eq_some_iff.1 hx).1
    rw [Lib.bytesWorld_cell w 5 ⟨s.toArray⟩ j (by rw [hz]; exact hj)]
    simp [List.getD_eq_getElem?_getD, hx]
  · simp [World.frozen?, Lib.bytesWorld_at_new]
    omega
theorem map_step (f : UInt8 → UInt8) (s : List UInt8) (k : Nat) (c : UInt8) (h : s[k]? = some c) :
    ((s.take k).map f ++ s.drop k)[k]? = some c ∧ (s.take (k + 1)).map f ++ s.drop (k + 1) = ((s.take k).map f ++ s.drop k).set k (f c) := by
  have hk : k < s.length := (List.getElem?_eq_some_iff.1 h).1
  have hv : s[k] = c := (List.getElem?_eq_some_iff.1 h).2
  have hl : ((s.take k).map f).length = k := by simp; omega
  have hd : s.drop k = c :: s.drop (k + 1) := by rw [List.drop_eq_getElem_cons hk, hv]
  constructor
  · rw [List.getElem?_append_right (by omega), hl, Nat.sub_self, hd]; rfl
  · rw [List.take_add_one, h, List.set_append_right _ _ (by omega), hl, Nat.sub_self, hd]; simp
theorem map_len (f : UInt8 → UInt8) (s : List UInt8) (k : Nat) : ((s.take k).map f ++ s.drop k).length = s.length := by simp; omega
theorem set_same {l : List UInt8} {k : Nat} {c : UInt8} (h : l[k]? = some c) : l.set k c = l := by
  apply List.ext_getElem?
  intro j
  by_cases e : j = k
  · subst e
    rw [List.getElem?_set_self (List.getElem?_eq_some_iff.1 h).1, h]
  · rw [List.getElem?_set_ne (fun g => e g.symm)]
theorem u8_in (x : Int) (h0 : 0 ≤ x) (h1 : x ≤ 255) : IntKind.u8.wrap x = x := by
  have h : ∀ n : Nat, n < 256 → IntKind.u8.wrap (n : Int) = n := by decide +kernel
  have e := h x.toNat (by omega)
  rw [show ((x.toNat : Nat) : Int) = x by omega] at e
  exact e

set_option maxRecDepth 100000 in
set_option maxHeartbeats 1000000 in
theorem rlower_any (s : List UInt8) (w : World) (hs : s.length ≤ 1000000000) :
    Calls Tryd.prog 14 #[.string ⟨s.toArray⟩] w fun e w' => e = .returned (.string ⟨(s.map lowC).toArray⟩) ∧ Below w.heap.size w w' := by
  obtain ⟨cap, wb, CV, hc1, hc2, hB, hb⟩ := bytes_made w s hs
  unfold maxLen at hc2
  have HB0 := Lib.hid hB
  have HW0 := Lib.hid hb
  clear hB hb
  go_enter Tryd.func14, Tryd.ntmps14
  go_wp2_with fail
  clear CV
  go_loopw [4] (fun i wr => ∃ k : Nat, i = .int .i64 k ∧ k ≤ s.length ∧ Hid (BytesAt wr w.heap.size ((s.take k).map lowC ++ s.drop k)) ∧ Hid (Below w.heap.size w wr)) (fun i _ => s.length - (RowKit.intOf i).toNat)
  case atStart => exact ⟨0, rfl, Nat.zero_le _, Lib.hid (by simpa using HB0.out), HW0⟩
  case round =>
    clear HB0 HW0
    obtain ⟨k, rfl, hk, HB, HW⟩ := hrel
    by_cases hlt : k < s.length
    · obtain ⟨c, hc⟩ : ∃ c, s[k]? = some c := ⟨s[k], List.getElem?_eq_getElem hlt⟩
      obtain ⟨m1, m2⟩ := map_step lowC s k c hc
      have ml := map_len lowC s k
      have bc := HB.out.cell k c m1
      have bf := HB.out.free k (by omega)
      have M1 := Lib.hid m1
      have M2 := Lib.hid m2
      have ML := Lib.hid ml
      have cb := c.toNat_lt
      have HLC := Lib.hid (high_in c)
      clear m1 m2 ml hc
      by_cases h1 : 65 ≤ (c.toNat : Int)
      · have d1 : decide (65 ≤ (c.toNat : Int)) = true := dec_yes h1
        by_cases h2 : (c.toNat : Int) ≤ 90
        · have d2 : decide ((c.toNat : Int) ≤ 90) = true := dec_yes h2
          have hv : ((c + 32).toNat : Int) = (c.toNat : Int) + 32 := by
            rw [UInt8.toNat_add]; show (((c.toNat + 32) % 256 : Nat) : Int) = _; omega
          have hw : IntKind.u8.wrap ((c.toNat : Int) + 32) = (c.toNat : Int) + 32 := u8_in _ (by omega) (by omega)
          have HF := Lib.hid (show lowC c = c + 32 by unfold lowC; rw [if_pos (by rw [HLC.out, d1, d2]; rfl)])
          have HV := Lib.hid hv
          clear hv
          go_wp2_with fail
          go_roundw
          case rel => exact ⟨k + 1, by go_num, by omega, Lib.hid (by rw [M2.out, HF.out, ← HV.out]; exact HB.out.set k (by rw [ML.out]; exact hlt) (c + 32)), Lib.hid (HW.out.setCell (by simp) _)⟩
          case measure => simp [RowKit.intOf]; omega
        · have d2 : decide ((c.toNat : Int) ≤ 90) = false := dec_no h2
          have HF := Lib.hid (show lowC c = c by unfold lowC; rw [if_neg (by rw [HLC.out, d1, d2]; decide)])
          go_wp2_with fail
          go_roundw
          case rel => exact ⟨k + 1, by go_num, by omega, Lib.hid (by rw [M2.out, HF.out, set_same M1.out]; exact HB.out), HW⟩
          case measure => simp [RowKit.intOf]; omega
      · have d1 : decide (65 ≤ (c.toNat : Int)) = false := dec_no h1
        have HF := Lib.hid (show lowC c = c by unfold lowC; rw [if_neg (by rw [HLC.out, d1]; simp)])
        go_wp2_with fail
        go_roundw
        case rel => exact ⟨k + 1, by go_num, by omega, Lib.hid (by rw [M2.out, HF.out, set_same M1.out]; exact HB.out), HW⟩
        case measure => simp [RowKit.intOf]; omega
    · have HE : Hid (BytesAt wr w.heap.size (s.map lowC)) := Lib.hid (by
        have h := HB.out
        rw [List.take_of_length_le (by omega), List.drop_of_length_le (by omega), List.append_nil] at h
        exact h)
      have CB := run_convert_bytes_back (P := Tryd.prog) wr 74 9 5 ⟨w.heap.size, 0, none⟩ cap (s.map lowC) Tryd.underlying74 Tryd.underlying5 Tryd.underlying9 (fun j hj => by
        rw [Go.WideShapes.add_plain, Nat.zero_add]
        exact HE.out.cell j _ (List.getElem?_eq_getElem hj))
      rw [List.length_map] at CB
      obtain ⟨R, hR⟩ : ∃ R, R = s.map lowC := ⟨_, rfl⟩
      rw [← hR] at CB
      have HR := Lib.hid hR
      clear hR
      go_wp2_with fail
      go_ret
      exact ⟨ret_str HR.out, HW.out⟩

set_option maxRecDepth 100000 in
set_option maxHeartbeats 1000000 in
theorem rupper_any (s : List UInt8) (w : World) (hs : s.length ≤ 1000000000) :
    Calls Tryd.prog 17 #[.string ⟨s.toArray⟩] w fun e w' => e = .returned (.string ⟨(s.map upC).toArray⟩) ∧ Below w.heap.size w w' := by
  obtain ⟨cap, wb, CV, hc1, hc2, hB, hb⟩ := bytes_made w s hs
  unfold maxLen at hc2
  have HB0 := Lib.hid hB
  have HW0 := Lib.hid hb
  clear hB hb
  go_enter Tryd.func17, Tryd.ntmps17
  go_wp2_with fail
  clear CV
  go_loopw [4] (fun i wr => ∃ k : Nat, i = .int .i64 k ∧ k ≤ s.length ∧ Hid (BytesAt wr w.heap.size ((s.take k).map upC ++ s.drop k)) ∧ Hid (Below w.heap.size w wr)) (fun i _ => s.length - (RowKit.intOf i).toNat)
  case atStart => exact ⟨0, rfl, Nat.zero_le _, Lib.hid (by simpa using HB0.out), HW0⟩
  case round =>
    clear HB0 HW0
    obtain ⟨k, rfl, hk, HB, HW⟩ := hrel
    by_cases hlt : k < s.length
    · obtain ⟨c, hc⟩ : ∃ c, s[k]? = some c := ⟨s[k], List.getElem?_eq_getElem hlt⟩
      obtain ⟨m1, m2⟩ := map_step upC s k c hc
      have ml := map_len upC s k
      have bc := HB.out.cell k c m1
      have bf := HB.out.free k (by omega)
      have M1 := Lib.hid m1
      have M2 := Lib.hid m2
      have ML := Lib.hid ml
      have cb := c.toNat_lt
      have HLC := Lib.hid (low_in c)
      clear m1 m2 ml hc
      by_cases h1 : 97 ≤ (c.toNat : Int)
      · have d1 : decide (97 ≤ (c.toNat : Int)) = true := dec_yes h1
        by_cases h2 : (c.toNat : Int) ≤ 122
        · have d2 : decide ((c.toNat : Int) ≤ 122) = true := dec_yes h2
          have hv : ((c - 32).toNat : Int) = (c.toNat : Int) - 32 := by
            have := UInt8.toNat_sub_of_le c 32 (by rw [UInt8.le_iff_toNat_le]; simp; omega); simp at this; omega
          have hw : IntKind.u8.wrap ((c.toNat : Int) - 32) = (c.toNat : Int) - 32 := u8_in _ (by omega) (by omega)
          have HF := Lib.hid (show upC c = c - 32 by unfold upC; rw [if_pos (by rw [HLC.out, d1, d2]; rfl)])
          have HV := Lib.hid hv
          clear hv
          go_wp2_with fail
          go_roundw
          case rel => exact ⟨k + 1, by go_num, by omega, Lib.hid (by rw [M2.out, HF.out, ← HV.out]; exact HB.out.set k (by rw [ML.out]; exact hlt) (c - 32)), Lib.hid (HW.out.setCell (by simp) _)⟩
          case measure => simp [RowKit.intOf]; omega
        · have d2 : decide ((c.toNat : Int) ≤ 122) = false := dec_no h2
          have HF := Lib.hid (show upC c = c by unfold upC; rw [if_neg (by rw [HLC.out, d1, d2]; decide)])
          go_wp2_with fail
          go_roundw
          case rel => exact ⟨k + 1, by go_num, by omega, Lib.hid (by rw [M2.out, HF.out, set_same M1.out]; exact HB.out), HW⟩
          case measure => simp [RowKit.intOf]; omega
      · have d1 : decide (97 ≤ (c.toNat : Int)) = false := dec_no h1
        have HF := Lib.hid (show upC c = c by unfold upC; rw [if_neg (by rw [HLC.out, d1]; simp)])
        go_wp2_with fail
        go_roundw
        case rel => exact ⟨k + 1, by go_num, by omega, Lib.hid (by rw [M2.out, HF.out, set_same M1.out]; exact HB.out), HW⟩
        case measure => simp [RowKit.intOf]; omega
    · have HE : Hid (BytesAt wr w.heap.size (s.map upC)) := Lib.hid (by
        have h := HB.out
        rw [List.take_of_length_le (by omega), List.drop_of_length_le (by omega), List.append_nil] at h
        exact h)
      have CB := run_convert_bytes_back (P := Tryd.prog) wr 74 9 5 ⟨w.heap.size, 0, none⟩ cap (s.map upC) Tryd.underlying74 Tryd.underlying5 Tryd.underlying9 (fun j hj => by
        rw [Go.WideShapes.add_plain, Nat.zero_add]
        exact HE.out.cell j _ (List.getElem?_eq_getElem hj))
      rw [List.length_map] at CB
      obtain ⟨R, hR⟩ : ∃ R, R = s.map upC := ⟨_, rfl⟩
      rw [← hR] at CB
      have HR := Lib.hid hR
      clear hR
      go_wp2_with fail
      go_ret
      exact ⟨ret_str HR.out, HW.out⟩
theorem xor_low (c : UInt8) (h : HIGH.contains c = true) : bits BinOp.xor IntKind.u8 (c.toNat : Int) 32 = ((c + 32).toNat : Int) := by
  revert h
  exact each_byte (fun c => HIGH.contains c = true → bits BinOp.xor IntKind.u8 (c.toNat : Int) 32 = ((c + 32).toNat : Int)) (by decide +kernel) c
theorem xor_up (c : UInt8) (h : LOW.contains c = true) : bits BinOp.xor IntKind.u8 (c.toNat : Int) 32 = ((c - 32).toNat : Int) := by
  revert h
  exact each_byte (fun c => LOW.contains c = true → bits BinOp.xor IntKind.u8 (c.toNat : Int) 32 = ((c - 32).toNat : Int)) (by decide +kernel) c

set_option maxRecDepth 100000 in
set_option maxHeartbeats 1000000 in
theorem mapped_up (s : List UInt8) (w : World) (hs : s.length ≤ 1000000000) :
    Calls Tryd.prog 68 #[.string ⟨s.toArray⟩, .func (.func 41) #[] #[], .int .u8 32] w fun e w' => e = .returned (.string ⟨(s.map upC).toArray⟩) ∧ Below w.heap.size w w' := by
  obtain ⟨cap, wb, CV, hc1, hc2, hB, hb⟩ := bytes_made w s hs
  unfold maxLen at hc2
  have HB0 := Lib.hid hB
  have HW0 := Lib.hid hb
  clear hB hb
  go_enter Tryd.func68, Tryd.ntmps68
  go_wp2_with fail
  clear CV
  go_loopw [8, 9, 14] (fun _ _ i wr => ∃ k : Nat, i = .int .i64 k ∧ k ≤ s.length ∧ Hid (BytesAt wr w.heap.size ((s.take k).map upC ++ s.drop k)) ∧ Hid (Below w.heap.size w wr)) (fun _ _ i _ => s.length - (RowKit.intOf i).toNat)
  case atStart => exact ⟨0, rfl, Nat.zero_le _, Lib.hid (by simpa using HB0.out), HW0⟩
  case round =>
    clear HB0 HW0
    obtain ⟨k, rfl, hk, HB, HW⟩ := hrel
    by_cases hlt : k < s.length
    · obtain ⟨c, hc⟩ : ∃ c, s[k]? = some c := ⟨s[k], List.getElem?_eq_getElem hlt⟩
      obtain ⟨m1, m2⟩ := map_step upC s k c hc
      have ml := map_len upC s k
      have bc := HB.out.cell k c m1
      have bf := HB.out.free k (by omega)
      have M1 := Lib.hid m1
      have M2 := Lib.hid m2
      have ML := Lib.hid ml
      have cb := c.toNat_lt
      have CC := Lib.hid fun w => low_any c w
      have HT := Lib.hid (show LOW.contains c = true → upC c = c - 32 from fun h => by unfold upC; rw [if_pos h])
      have HN := Lib.hid (show LOW.contains c = false → upC c = c from fun h => by unfold upC; rw [if_neg (by rw [h]; decide)])
      clear m1 m2 ml hc
      cases hq : LOW.contains c with
      | false =>
        rw [hq] at CC
        have HF := Lib.hid (HN.out hq)
        clear hq
        go_wp2_with fail
        refine (CC.out _).mono ?_
        rintro e w' ⟨rfl, rfl⟩
        go_wp2_with fail
        go_roundw
        case rel => exact ⟨k + 1, by go_num, by omega, Lib.hid (by rw [M2.out, HF.out, set_same M1.out]; exact HB.out), HW⟩
        case measure => simp [RowKit.intOf]; omega
      | true =>
        rw [hq] at CC
        have HF := Lib.hid (HT.out hq)
        have HIN := Lib.hid hq
        clear hq
        go_wp2_with fail
        refine (CC.out _).mono ?_
        rintro e w' ⟨rfl, rfl⟩
        go_wp2_with fail
        have HX := Lib.hid (xor_up c HIN.out)
        exact ⟨⟨k + 1, by go_num, by omega, Lib.hid (by rw [M2.out, HF.out, HX.out]; exact HB.out.set k (by rw [ML.out]; exact hlt) (c - 32)), Lib.hid (HW.out.setCell (by simp) _)⟩, by simp [RowKit.intOf]; omega⟩
    · have HE : Hid (BytesAt wr w.heap.size (s.map upC)) := Lib.hid (by
        have h := HB.out
        rw [List.take_of_length_le (by omega), List.drop_of_length_le (by omega), List.append_nil] at h
        exact h)
      have CB := run_convert_bytes_back (P := Tryd.prog) wr 74 9 5 ⟨w.heap.size, 0, none⟩ cap (s.map upC) Tryd.underlying74 Tryd.underlying5 Tryd.underlying9 (fun j hj => by
        rw [Go.WideShapes.add_plain, Nat.zero_add]
        exact HE.out.cell j _ (List.getElem?_eq_getElem hj))
      rw [List.length_map] at CB
      obtain ⟨R, hR⟩ : ∃ R, R = s.map upC := ⟨_, rfl⟩
      rw [← hR] at CB
      have HR := Lib.hid hR
      clear hR
      go_wp2_with fail
      go_ret
      exact ⟨ret_str HR.out, HW.out⟩

set_option maxRecDepth 100000 in
set_option maxHeartbeats 1000000 in
theorem mapped_low (s : List UInt8) (w : World) (hs : s.length ≤ 1000000000) :
    Calls Tryd.prog 68 #[.string ⟨s.toArray⟩, .func (.func 69) #[] #[], .int .u8 32] w fun e w' => e = .returned (.string ⟨(s.map lowC).toArray⟩) ∧ Below w.heap.size w w' := by
  obtain ⟨cap, wb, CV, hc1, hc2, hB, hb⟩ := bytes_made w s hs
  unfold maxLen at hc2
  have HB0 := Lib.hid hB
  have HW0 := Lib.hid hb
  clear hB hb
  go_enter Tryd.func68, Tryd.ntmps68
  go_wp2_with fail
  clear CV
  go_loopw [8, 9, 14] (fun _ _ i wr => ∃ k : Nat, i = .int .i64 k ∧ k ≤ s.length ∧ Hid (BytesAt wr w.heap.size ((s.take k).map lowC ++ s.drop k)) ∧ Hid (Below w.heap.size w wr)) (fun _ _ i _ => s.length - (RowKit.intOf i).toNat)
  case atStart => exact ⟨0, rfl, Nat.zero_le _, Lib.hid (by simpa using HB0.out), HW0⟩
  case round =>
    clear HB0 HW0
    obtain ⟨k, rfl, hk, HB, HW⟩ := hrel
    by_cases hlt : k < s.length
    · obtain ⟨c, hc⟩ : ∃ c, s[k]? = some c := ⟨s[k], List.getElem?_eq_getElem hlt⟩
      obtain ⟨m1, m2⟩ := map_step lowC s k c hc
      have ml := map_len lowC s k
      have bc := HB.out.cell k c m1
      have bf := HB.out.free k (by omega)
      have M1 := Lib.hid m1
      have M2 := Lib.hid m2
      have ML := Lib.hid ml
      have cb := c.toNat_lt
      have CC := Lib.hid fun w => high_any c w
      have HT := Lib.hid (show HIGH.contains c = true → lowC c = c + 32 from fun h => by unfold lowC; rw [if_pos h])
      have HN := Lib.hid (show HIGH.contains c = false → lowC c = c from fun h => by unfold lowC; rw [if_neg (by rw [h]; decide)])
      clear m1 m2 ml hc
      cases hq : HIGH.contains c with
      | false =>
        rw [hq] at CC
        have HF := Lib.hid (HN.out hq)
        clear hq
        go_wp2_with fail
        refine (CC.out _).mono ?_
        rintro e w' ⟨rfl, rfl⟩
        go_wp2_with fail
        go_roundw
        case rel => exact ⟨k + 1, by go_num, by omega, Lib.hid (by rw [M2.out, HF.out, set_same M1.out]; exact HB.out), HW⟩
        case measure => simp [RowKit.intOf]; omega
      | true =>
        rw [hq] at CC
        have HF := Lib.hid (HT.out hq)
        have HIN := Lib.hid hq
        clear hq
        go_wp2_with fail
        refine (CC.out _).mono ?_
        rintro e w' ⟨rfl, rfl⟩
        go_wp2_with fail
        have HX := Lib.hid (xor_low c HIN.out)
        exact ⟨⟨k + 1, by go_num, by omega, Lib.hid (by rw [M2.out, HF.out, HX.out]; exact HB.out.set k (by rw [ML.out]; exact hlt) (c + 32)), Lib.hid (HW.out.setCell (by simp) _)⟩, by simp [RowKit.intOf]; omega⟩
    · have HE : Hid (BytesAt wr w.heap.size (s.map lowC)) := Lib.hid (by
        have h := HB.out
        rw [List.take_of_length_le (by omega), List.drop_of_length_le (by omega), List.append_nil] at h
        exact h)
      have CB := run_convert_bytes_back (P := Tryd.prog) wr 74 9 5 ⟨w.heap.size, 0, none⟩ cap (s.map lowC) Tryd.underlying74 Tryd.underlying5 Tryd.underlying9 (fun j hj => by
        rw [Go.WideShapes.add_plain, Nat.zero_add]
        exact HE.out.cell j _ (List.getElem?_eq_getElem hj))
      rw [List.length_map] at CB
      obtain ⟨R, hR⟩ : ∃ R, R = s.map lowC := ⟨_, rfl⟩
      rw [← hR] at CB
      have HR := Lib.hid hR
      clear hR
      go_wp2_with fail
      go_ret
      exact ⟨ret_str HR.out, HW.out⟩

set_option maxRecDepth 100000 in
set_option maxHeartbeats 1000000 in
theorem taglower_any (s : List UInt8) (w : World) (hs : s.length ≤ 1000000000) :
    Calls Tryd.prog 40 #[.string ⟨s.toArray⟩] w fun e w' => e = .returned (.string ⟨(s.map lowC).toArray⟩) ∧ Below w.heap.size w w' := by
  have C := Lib.hid fun w => mapped_low s w hs
  obtain ⟨R, hR⟩ : ∃ R, R = s.map lowC := ⟨_, rfl⟩
  rw [← hR] at C ⊢
  clear hR
  go_enter Tryd.func40, Tryd.ntmps40
  go_wp2_with fail
  refine (C.out _).mono ?_
  rintro e w1 ⟨rfl, hb⟩
  have W1 := Lib.hid hb
  clear hb
  go_wp2_with fail
  go_ret
  exact ⟨rfl, W1.out⟩

set_option maxRecDepth 100000 in
set_option maxHeartbeats 1000000 in
theorem tagupper_any (s : List UInt8) (w : World) (hs : s.length ≤ 1000000000) :
    Calls Tryd.prog 43 #[.string ⟨s.toArray⟩] w fun e w' => e = .returned (.string ⟨(s.map upC).toArray⟩) ∧ Below w.heap.size w w' := by
  have C := Lib.hid fun w => mapped_up s w hs
  obtain ⟨R, hR⟩ : ∃ R, R = s.map upC := ⟨_, rfl⟩
  rw [← hR] at C ⊢
  clear hR
  go_enter Tryd.func43, Tryd.ntmps43
  go_wp2_with fail
  refine (C.out _).mono ?_
  rintro e w1 ⟨rfl, hb⟩
  have W1 := Lib.hid hb
  clear hb
  go_wp2_with fail
  go_ret
  exact ⟨rfl, W1.out⟩
end Go.Proofs.YtlhleojigcnjeaaDoor
