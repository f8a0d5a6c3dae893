/- strings.Split at one sign, strings.Cut at a point, off the shelf. -/
import Derived.Test.YtjakpdfonnpchaaDoorShelfS
import Derived.Test.YtjakpdfonnpchaaDoorShelfC
import Derived.Test.YtjakpdfonnpchaaDoorMax
import Derived.Test.YtjakpdfonnpchaaDoorStr
namespace Go.Proofs.YtjakpdfonnpchaaDoor
open Go.RowKit
/-- strings.Split at one sign: the texts, in a block of the call's own -/
theorem split_any (s : List UInt8) (c : UInt8) (w : World) (hM : MaxW w) (hs : s.length ≤ 4000000000) :
    Calls Tryd.prog 17 #[.string ⟨s.toArray⟩, .string ⟨#[c]⟩] w fun e w' =>
      e = .returned (.slice (some ⟨w.heap.size, 0, none⟩) (Lib.split s [c]).length (Lib.split s [c]).length) ∧ 0 < (Lib.split s [c]).length ∧ (Lib.split s [c]).length ≤ s.length + 1 ∧
      (∀ (j : Nat) x, (Lib.split s [c])[j]? = some x → w'.cell? ⟨w.heap.size, j, none⟩ = some (.string ⟨x.toArray⟩)) ∧ Below w.heap.size w w' := by
  obtain ⟨m, hm⟩ := hM
  have h1 : 1 ≤ (⟨#[c]⟩ : ByteArray).size := Nat.le_refl 1
  have hz : (⟨s.toArray⟩ : ByteArray).size = s.length := size_mkl s
  have hd : (Lib.splitB ⟨#[c]⟩ 0 (Lib.countB ⟨s.toArray⟩ ⟨#[c]⟩) ⟨s.toArray⟩).map (·.data.toList) = Lib.split s [c] := by rw [Lib.splitB_data]; rfl
  have hlen := Lib.splitB_all ⟨#[c]⟩ h1 0 (Lib.countB ⟨s.toArray⟩ ⟨#[c]⟩) ⟨s.toArray⟩ rfl
  have hle := Lib.countB_le ⟨#[c]⟩ h1 s.length ⟨s.toArray⟩ (by rw [hz]; omega)
  rw [hz] at hle
  refine (Tryd.strings_Split ⟨s.toArray⟩ ⟨#[c]⟩ m w (by rw [hz]; omega) hm h1).mono ?_
  generalize Lib.countB ⟨s.toArray⟩ ⟨#[c]⟩ = k at *
  generalize Lib.splitB ⟨#[c]⟩ 0 k ⟨s.toArray⟩ = Q at *
  rw [← hd, List.length_map, hlen]
  rintro e w' ⟨rfl, rfl⟩
  refine ⟨rfl, by omega, by omega, ?_, blw_alloc _ _⟩
  intro j x hx
  rw [List.getElem?_map] at hx
  obtain ⟨q, hq, rfl⟩ := Option.map_eq_some_iff.1 hx
  simp [go_sem, hq]
theorem cutp_any (t : List UInt8) (w : World) (hM : MaxW w) (ht : t.length ≤ 4000000000) :
    Calls Tryd.prog 15 #[.string ⟨t.toArray⟩, .string ⟨#[46]⟩] w fun e w' => e = .returned (.tuple #[.string ⟨(Lib.cut t [46]).1.toArray⟩, .string ⟨(Lib.cut t [46]).2.1.toArray⟩, .bool (Lib.cut t [46]).2.2]) ∧ Below w.heap.size w w' := by
  obtain ⟨m, hm⟩ := hM
  refine (Tryd.strings_Cut ⟨t.toArray⟩ ⟨#[46]⟩ m w (by rw [size_mkl]; omega) hm).mono ?_
  rintro e w' ⟨rfl, n, rfl⟩
  exact ⟨rfl, blw_drewN (Below.refl _ _) n⟩
end Go.Proofs.YtjakpdfonnpchaaDoor
