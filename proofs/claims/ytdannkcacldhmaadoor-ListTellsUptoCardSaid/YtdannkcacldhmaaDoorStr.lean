/- Texts as lists of bytes: an index, a piece, as whole equations to lay ahead of a walk. -/
import Derived.WalkKit
import Derived.Laws.Strings2
import Derived.Laws.Strings3
namespace Go.Proofs.YtdannkcacldhmaaDoor
open Go.RowKit

theorem size_list (l : List UInt8) : (ByteArray.mk l.toArray).size = l.length := by show l.toArray.size = _; simp
theorem index_str {P : Program} (t : TypeId) (h : P.underlying t = some .string) (L : List UInt8) (k : IntKind) (i : Nat) (c : UInt8) (hc : L[i]? = some c) (w : World) :
    (Instr.index t (.string ⟨L.toArray⟩) (.int k i)).run P w = .ok (.int .u8 (c.toNat : Int)) w := by
  have hl : i < L.length := (List.getElem?_eq_some_iff.1 hc).1
  have hv : L[i] = c := (List.getElem?_eq_some_iff.1 hc).2
  have hg : (⟨L.toArray⟩ : ByteArray)[i]'(by rw [size_list]; exact hl) = c := by rw [← hv]; rfl
  rw [run_index_string w t _ k i h, dif_pos ⟨by omega, by rw [size_list]; omega⟩]
  simp only [Int.toNat_natCast, hg]
theorem slice_to {P : Program} (t : TypeId) (h : P.underlying t = some .string) (L : List UInt8) (k : IntKind) (j : Nat) (hj : j ≤ L.length) (w : World) :
    (Instr.slice t (.string ⟨L.toArray⟩) none (some (.int k j)) none).run P w = .ok (.string ⟨(L.take j).toArray⟩) w := by
  rw [run_slice_string_to_if w t _ k j h, if_pos ⟨by omega, by rw [size_list]; omega⟩, ByteArray.extract_mk]
  simp
theorem slice_from {P : Program} (t : TypeId) (h : P.underlying t = some .string) (L : List UInt8) (k : IntKind) (i : Nat) (hi : i ≤ L.length) (w : World) :
    (Instr.slice t (.string ⟨L.toArray⟩) (some (.int k i)) none none).run P w = .ok (.string ⟨(L.drop i).toArray⟩) w := by
  rw [run_slice_string_from_if w t _ k i h, if_pos ⟨by omega, by rw [size_list]; omega⟩, ByteArray.extract_mk, size_list]
  have e : (L.drop i).take (L.length - i) = L.drop i := List.take_of_length_le (by simp)
  simp [e]
theorem slice_mid {P : Program} (t : TypeId) (h : P.underlying t = some .string) (L : List UInt8) (k k' : IntKind) (i j : Nat) (hi : i ≤ j) (hj : j ≤ L.length) (w : World) :
    (Instr.slice t (.string ⟨L.toArray⟩) (some (.int k i)) (some (.int k' j)) none).run P w = .ok (.string ⟨((L.drop i).take (j - i)).toArray⟩) w := by
  rw [run_slice_string w t _ k k' i j h (by omega) (by omega) (by rw [size_list]; omega), ByteArray.extract_mk]
  simp
end Go.Proofs.YtdannkcacldhmaaDoor
