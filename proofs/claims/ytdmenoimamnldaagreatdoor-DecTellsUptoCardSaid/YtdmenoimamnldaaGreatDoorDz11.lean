/- The walk of linguisterref1.Digits: a number's decimal numeral, so long at least. -/
import Derived.WalkKit
import Derived.Laws.Strings2
import Derived.Laws.Strings3
import Derived.Laws.Concat
import Derived.Laws.IdiomStrings
import Derived.Test.YtdmenoimamnldaaGreatDoorProg
import Derived.Test.YtdmenoimamnldaaGreatDoorDz0
import Derived.Test.YtdmenoimamnldaaGreatDoorDz8
import Derived.Lib.ItoaLen
namespace Go.Proofs.YtdmenoimamnldaaGreatDoor
open Go.RowKit

/-- how long a text is -/
def strLen : Value → Nat | .string s => s.size | _ => 0

theorem ret_str {a b : List UInt8} (h : a = b) : Ending.returned (.string ⟨a.toArray⟩) = .returned (.string ⟨b.toArray⟩) := by rw [h]
theorem size_mkl (l : List UInt8) : (ByteArray.mk l.toArray).size = l.length := by show l.toArray.size = _; simp
theorem strLen_mk (l : List UInt8) : strLen (.string ⟨l.toArray⟩) = l.length := size_mkl l
theorem add_str {P : Program} (x y : List UInt8) (h : x.length + y.length ≤ 9223372036854775807) (w : World) :
    (Op.stringOp .add ⟨x.toArray⟩ ⟨y.toArray⟩).run P w = .ok (.string ⟨(x ++ y).toArray⟩) w := by
  rw [run_string_add_sum w _ _ (by rw [size_mkl, size_mkl]; exact h), ByteArray.mk_append_mk]
/-- a slice of one new byte, as a text -/
theorem conv_one {P : Program} (src dst e : TypeId) (hs : P.underlying src = some (.slice e)) (he : P.underlying e = some (.int .u8)) (hd : P.underlying dst = some .string) (c : Int) (w : World) (h0 : 0 ≤ c) (h1 : c < 256) :
    (convert src dst (.slice (some ⟨w.heap.size, 0, none⟩) 1 1)).run P (w.alloc (.cells #[.int .u8 c] e)) = .ok (.string ⟨[UInt8.ofNat c.toNat].toArray⟩) (w.alloc (.cells #[.int .u8 c] e)) := by
  refine run_convert_bytes_back (w.alloc (.cells #[.int .u8 c] e)) src dst e ⟨w.heap.size, 0, none⟩ 1 [UInt8.ofNat c.toNat] hs he hd fun j hj => ?_
  obtain rfl : j = 0 := by simpa using hj
  have hc : (UInt8.ofNat c.toNat).toNat = c.toNat := by rw [UInt8.toNat_ofNat']; omega
  have e1 : ((UInt8.ofNat c.toNat).toNat : Int) = c := by rw [hc]; omega
  simp only [List.getElem_cons_zero, e1]
  simp [Addr.add]
theorem size_list (l : List UInt8) : (ByteArray.mk l.toArray).size = l.length := by show l.toArray.size = _; simp
theorem index_str {P : Program} (t : TypeId) (h : P.underlying t = some .string) (L : List UInt8) (k : IntKind) (i : Nat) (c : UInt8) (hc : L[i]? = some c) (w : World) :
    (Instr.index t (.string ⟨L.toArray⟩) (.int k i)).run P w = .ok (.int .u8 (c.toNat : Int)) w := by
  have hl : i < L.length := (List.getElem?_eq_some_iff.1 hc).1
  have hv : L[i] = c := (List.getElem?_eq_some_iff.1 hc).2
  have hg : (⟨L.toArray⟩ : ByteArray)[i]'(by rw [size_list]; exact hl) = c := by rw [← hv]; rfl
  rw [run_index_string w t _ k i h, dif_pos ⟨by omega, by rw [size_list]; omega⟩]
  simp only [Int.toNat_natCast, hg]
theorem slice_to {P : Program} (t : TypeId) (h : P.underlying t = some .string) (L : List UInt8) (k : IntKind) (j : Nat) (hj : j ≤ L.length) (w : World) :
    (Instr.slice t (.string ⟨L.toArray⟩) none (some (.int k j)) none).run P w = .ok (.string ⟨(L.take j).toArray⟩) w := by
  rw [run_slice_string_to_if w t _ k j h, if_pos ⟨by omega, by rw [size_list]; omega⟩, ByteArray.extract_mk]
  simp
theorem slice_from {P : Program} (t : TypeId) (h : P.underlying t = some .string) (L : List UInt8) (k : IntKind) (i : Nat) (hi : i ≤ L.length) (w : World) :
    (Instr.slice t (.string ⟨L.toArray⟩) (some (.int k i)) none none).run P w = .ok (.string ⟨(L.drop i).toArray⟩) w := by
  rw [run_slice_string_from_if w t _ k i h, if_pos ⟨by omega, by rw [size_list]; omega⟩, ByteArray.extract_mk, size_list]
  have e : (L.drop i).take (L.length - i) = L.drop i := List.take_of_length_le (by simp)
  simp [e]
theorem slice_mid {P : Program} (t : TypeId) (h : P.underlying t = some .string) (L : List UInt8) (k k' : IntKind) (i j : Nat) (hi : i ≤ j) (hj : j ≤ L.length) (w : World) :
    (Instr.slice t (.string ⟨L.toArray⟩) (some (.int k i)) (some (.int k' j)) none).run P w = .ok (.string ⟨((L.drop i).take (j - i)).toArray⟩) w := by
  rw [run_slice_string w t _ k k' i j h (by omega) (by omega) (by rw [size_list]; omega), ByteArray.extract_mk]
  simp
end Go.Proofs.YtdmenoimamnldaaGreatDoor
namespace Go.Proofs.YtdmenoimamnldaaGreatDoor
open Go.RowKit Go.Lib

set_option maxRecDepth 100000 in
set_option maxHeartbeats 1000000 in
theorem digits_lead (l : Int) (D : List UInt8) (l0 : 0 ≤ l) (l1 : l ≤ 1000) (hD : D.length ≤ 1000) (k : Nat) (hk : k ≤ l.toNat - D.length) (h : ¬ ((k : Int) + D.length < l)) : List.replicate k 48 ++ D = List.replicate (l.toNat - D.length) 48 ++ D := by
  rw [show k = l.toNat - D.length by omega]

set_option maxRecDepth 100000 in
set_option maxHeartbeats 1000000 in
theorem digits_by (k : Nat) : ∀ (n l : Int) (w : World), n.toNat < k → 0 ≤ n → n ≤ 9223372036854775807 → 0 ≤ l → l ≤ 1000 →
    Calls Tryz.prog 34 #[.int .i64 n, .int .i64 l] w fun e w' => e = .returned (.string ⟨(Dtx.pad l.toNat n.toNat).toArray⟩) ∧ Below w.heap.size w w' := by
  induction k with
  | zero => intro n l w hk; omega
  | succ k ih =>
    intro n l w hk n0 n1 l0 l1
    have hd20 : (decDigits n.toNat).length ≤ 20 := by rw [decDigits_length]; exact nDigits_le20 _ (by omega)
    have CV := conv_one (P := Tryz.prog) 70 9 5 Tryz.underlying70 Tryz.underlying5 Tryz.underlying9 (48 + n % 10) w (by omega) (by omega)
    have G := Lib.hid (show Dtx.pad l.toNat n.toNat = List.replicate (l.toNat - (decDigits n.toNat).length) 48 ++ decDigits n.toNat from rfl)
    generalize hg : Dtx.pad l.toNat n.toNat = R at *
    clear hg
    by_cases h10 : n < 10
    · have e : [UInt8.ofNat (48 + n % 10).toNat] = decDigits n.toNat := by rw [decDigits_one (by omega)]; congr 2; omega
      rw [e] at CV
      clear e
      generalize decDigits n.toNat = D at *
      go_enter Tryz.func34, Tryz.ntmps34
      go_wp2_with fail
      clear CV
      have B := Lib.hid (blw_alloc w (.cells #[.int .u8 (48 + n % 10)] 5))
      generalize w.alloc (.cells #[.int .u8 (48 + n % 10)] 5) = w1 at *
      go_loop [5] (fun s => ∃ k : Nat, k ≤ l.toNat - D.length ∧ s = .string ⟨(List.replicate k 48 ++ D).toArray⟩) (fun s => l.toNat - strLen s)
      case atStart => exact ⟨0, Nat.zero_le _, by simp⟩
      case round =>
        obtain ⟨k, hk, rfl⟩ := hrel
        by_cases hlt : (k : Int) + D.length < l
        · have AD := fun w => add_str (P := Tryz.prog) [48] (List.replicate k 48 ++ D) (by simp; omega) w
          have K1 := Lib.hid (show k + 1 ≤ l.toNat - D.length ∧ l.toNat - (k + 1 + D.length) < l.toNat - (k + D.length) by omega)
          go_wp2_with fail
          go_round
          case rel => exact ⟨k + 1, K1.out.1, by simp [List.replicate_succ]⟩
          case measure => rw [strLen_mk, strLen_mk]; have := K1.out.2; simp; omega
        · have E := Lib.hid (digits_lead l D l0 l1 (by omega) k hk hlt)
          go_wp2_with fail
          go_ret
          exact ⟨ret_str (by rw [G.out, E.out]), B.out⟩
    · have e : decDigits n.toNat = decDigits (n / 10).toNat ++ [UInt8.ofNat (48 + n % 10).toNat] := by
        rw [Dtx.dd2 (by omega)]
        congr 2
        · congr 1; omega
        · congr 2; omega
      have C : Hid (∀ w, Calls Tryz.prog 34 #[.int .i64 (n / 10), .int .i64 0] w fun e w' => e = .returned (.string ⟨(decDigits (n / 10).toNat).toArray⟩) ∧ Below w.heap.size w w') := by
        refine Lib.hid fun w => ?_
        have c := ih (n / 10) 0 w (by omega) (by omega) (by omega) (by omega) (by omega)
        have z : Dtx.pad (0 : Int).toNat (n / 10).toNat = decDigits (n / 10).toNat := by unfold Dtx.pad; simp
        rw [z] at c
        exact c
      have hl : (decDigits (n / 10).toNat).length + 1 = (decDigits n.toNat).length := by rw [e]; simp
      have AD := fun w => add_str (P := Tryz.prog) (decDigits (n / 10).toNat) [UInt8.ofNat (48 + n % 10).toNat] (by simp; omega) w
      rw [← e] at AD
      clear e ih
      generalize decDigits n.toNat = D at *
      generalize decDigits (n / 10).toNat = D0 at *
      go_enter Tryz.func34, Tryz.ntmps34
      go_wp2_with fail
      clear CV
      have B := Lib.hid (blw_alloc w (.cells #[.int .u8 (48 + n % 10)] 5))
      refine (C.out _).mono ?_
      rintro e w1 ⟨rfl, hb⟩
      have B1 := Lib.hid (blw_trans B.out hb)
      clear hb B
      go_wp2_with fail
      clear AD
      go_loop [5] (fun s => ∃ k : Nat, k ≤ l.toNat - D.length ∧ s = .string ⟨(List.replicate k 48 ++ D).toArray⟩) (fun s => l.toNat - strLen s)
      case atStart => exact ⟨0, Nat.zero_le _, by simp⟩
      case round =>
        obtain ⟨k, hk, rfl⟩ := hrel
        by_cases hlt : (k : Int) + D.length < l
        · have AD := fun w => add_str (P := Tryz.prog) [48] (List.replicate k 48 ++ D) (by simp; omega) w
          have K1 := Lib.hid (show k + 1 ≤ l.toNat - D.length ∧ l.toNat - (k + 1 + D.length) < l.toNat - (k + D.length) by omega)
          go_wp2_with fail
          go_round
          case rel => exact ⟨k + 1, K1.out.1, by simp [List.replicate_succ]⟩
          case measure => rw [strLen_mk, strLen_mk]; have := K1.out.2; simp; omega
        · have E := Lib.hid (digits_lead l D l0 l1 (by omega) k hk hlt)
          go_wp2_with fail
          go_ret
          exact ⟨ret_str (by rw [G.out, E.out]), B1.out⟩
theorem digits_any (n l : Int) (w : World) (n0 : 0 ≤ n) (n1 : n ≤ 9223372036854775807) (l0 : 0 ≤ l) (l1 : l ≤ 1000) :
    Calls Tryz.prog 34 #[.int .i64 n, .int .i64 l] w fun e w' => e = .returned (.string ⟨(Dtx.pad l.toNat n.toNat).toArray⟩) ∧ Below w.heap.size w w' :=
  digits_by (n.toNat + 1) n l w (by omega) n0 n1 l0 l1
theorem digits_none (n : Int) (w : World) (n0 : 0 ≤ n) (n1 : n ≤ 9223372036854775807) :
    Calls Tryz.prog 34 #[.int .i64 n, .int .i64 0] w fun e w' => e = .returned (.string ⟨(decDigits n.toNat).toArray⟩) ∧ Below w.heap.size w w' := by
  have c := digits_any n 0 w n0 n1 (by omega) (by omega)
  have z : Dtx.pad (0 : Int).toNat n.toNat = decDigits n.toNat := by unfold Dtx.pad; simp
  rw [z] at c
  exact c
end Go.Proofs.YtdmenoimamnldaaGreatDoor
