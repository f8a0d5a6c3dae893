/- Texts as lists of bytes: an index, a piece, as whole equations to lay ahead of a walk. -/
import Derived.WalkKit
import Derived.Laws.Strings2
import Derived.Laws.Strings3
import Derived.Laws.Concat
import Derived.Laws.IdiomStrings
namespace Go.Proofs.YtjakpdfonnpchaaDoor
open Go.RowKit

/-- how long a text is -/
def strLen : Value → Nat | .string s => s.size | _ => 0

theorem ret_str {a b : List UInt8} (h : a = b) : Ending.returned (.string ⟨a.toArray⟩) = .returned (.string ⟨b.toArray⟩) := by rw [h]
theorem size_mkl (l : List UInt8) : (ByteArray.mk l.toArray).size = l.length := by show l.toArray.size = _; simp
theorem strLen_mk (l : List UInt8) : strLen (.string ⟨l.toArray⟩) = l.length := size_mkl l
theorem add_str {P : Program} (x y : List UInt8) (h : x.length + y.length ≤ 9223372036854775807) (w : World) :
    (Op.stringOp .add ⟨x.toArray⟩ ⟨y.toArray⟩).run P w = .ok (.string ⟨(x ++ y).toArray⟩) w := by
  rw [run_string_add_sum w _ _ (by rw [size_mkl, size_mkl]; exact h), ByteArray.mk_append_mk]
/-- a slice of one new byte, as a text -/
theorem conv_one {P : Program} (src dst e : TypeId) (hs : P.underlying src = some (.slice e)) (he : P.underlying e = some (.int .u8)) (hd : P.underlying dst = some .string) (c : Int) (w : World) (h0 : 0 ≤ c) (h1 : c < 256) :
    (convert src dst (.slice (some ⟨w.heap.size, 0, none⟩) 1 1)).run P (w.alloc (.cells #[.int .u8 c] e)) = .ok (.string ⟨[UInt8.ofNat c.toNat].toArray⟩) (w.alloc (.cells #[.int .u8 c] e)) := by
  refine run_convert_bytes_back (w.alloc (.cells #[.int .u8 c] e)) src dst e ⟨w.heap.size, 0, none⟩ 1 [UInt8.ofNat c.toNat] hs he hd fun j hj => ?_
  obtain rfl : j = 0 := by simpa using hj
  have hc : (UInt8.ofNat c.toNat).toNat = c.toNat := by rw [UInt8.toNat_ofNat']; omega
  have e1 : ((UInt8.ofNat c.toNat).toNat : Int) = c := by rw [hc]; omega
  simp only [List.getElem_cons_zero, e1]
  simp [Addr.add]
theorem size_list (l : List UInt8) : (ByteArray.mk l.toArray).size = l.length := by show l.toArray.size = _; simp
theorem index_str {P : Program} (t : TypeId) (h : P.underlying t = some .string) (L : List UInt8) (k : IntKind) (i : Nat) (c : UInt8) (hc : L[i]? = some c) (w : World) :
    (Instr.index t (.string ⟨L.toArray⟩) (.int k i)).run P w = .ok (.int .u8 (c.toNat : Int)) w := by
  have hl : i < L.length := (List.getElem?_eq_some_iff.1 hc).1
  have hv : L[i] = c := (List.getElem?_eq_some_iff.1 hc).2
  have hg : (⟨L.toArray⟩ : ByteArray)[i]'(by rw [size_list]; exact hl) = c := by rw [← hv]; rfl
  rw [run_index_string w t _ k i h, dif_pos ⟨by omega, by rw [size_list]; omega⟩]
  simp only [Int.toNat_natCast, hg]
theorem slice_to {P : Program} (t : TypeId) (h : P.underlying t = some .string) (L : List UInt8) (k : IntKind) (j : Nat) (hj : j ≤ L.length) (w : World) :
    (Instr.slice t (.string ⟨L.toArray⟩) none (some (.int k j)) none).run P w = .ok (.string ⟨(L.take j).toArray⟩) w := by
  rw [run_slice_string_to_if w t _ k j h, if_pos ⟨by omega, by rw [size_list]; omega⟩, ByteArray.extract_mk]
  simp
theorem slice_from {P : Program} (t : TypeId) (h : P.underlying t = some .string) (L : List UInt8) (k : IntKind) (i : Nat) (hi : i ≤ L.length) (w : World) :
    (Instr.slice t (.string ⟨L.toArray⟩) (some (.int k i)) none none).run P w = .ok (.string ⟨(L.drop i).toArray⟩) w := by
  rw [run_slice_string_from_if w t _ k i h, if_pos ⟨by omega, by rw [size_list]; omega⟩, ByteArray.extract_mk, size_list]
  have e : (L.drop i).take (L.length - i) = L.drop i := List.take_of_length_le (by simp)
  simp [e]
theorem slice_mid {P : Program} (t : TypeId) (h : P.underlying t = some .string) (L : List UInt8) (k k' : IntKind) (i j : Nat) (hi : i ≤ j) (hj : j ≤ L.length) (w : World) :
    (Instr.slice t (.string ⟨L.toArray⟩) (some (.int k i)) (some (.int k' j)) none).run P w = .ok (.string ⟨((L.drop i).take (j - i)).toArray⟩) w := by
  rw [run_slice_string w t _ k k' i j h (by omega) (by omega) (by rw [size_list]; omega), ByteArray.extract_mk]
  simp
end Go.Proofs.YtjakpdfonnpchaaDoor
