/- strings.Join over StrsAt, by its contract off the shelf. -/
import Derived.Test.YtaijjffnamjhiaaGreatDoorShelfG
import Derived.Test.YtaijjffnamjhiaaGreatDoorRead
import Derived.Test.YtaijjffnamjhiaaGreatDoorListP
namespace Go.Proofs.YtaijjffnamjhiaaGreatDoor
open Go.RowKit

/-- strings.Join over StrsAt -/
theorem sjoin_any (l : List (List UInt8)) (v : Value) (sep : List UInt8) (w : World) (h : StrsAt w v l) (hn : l.length ≤ 2000000000000) (ht : Lst.total l sep ≤ 2000000000000) :
    Calls Tryz.prog 110 #[v, .string ⟨sep.toArray⟩] w fun e w' => e = .returned (.string ⟨(Lib.join l sep).toArray⟩) ∧ Below w.heap.size w w' := by
  rcases h with ⟨rfl, a, cap, rfl⟩ | ⟨b, off, cap, rfl, h0, hc, hm, hcell⟩
  · exact (Tryz.strings_Join_none a cap ⟨sep.toArray⟩ w).mono fun _ _ ⟨he, hw⟩ => ⟨he, hw ▸ Below.refl _ _⟩
  · have hl := Lst.join_le l sep
    have e : (l.map fun x => (⟨x.toArray⟩ : ByteArray)).map (·.data.toList) = l := by simp [Function.comp_def]
    have c := Tryz.strings_Join b off cap (l.map fun x => ⟨x.toArray⟩) ⟨sep.toArray⟩ w (fun j x hx => by
      rw [List.getElem?_map] at hx
      obtain ⟨y, hy, rfl⟩ := Option.map_eq_some_iff.1 hx
      exact hcell j y hy) (World.block_lt_of_cell? w _ (hcell 0 _ (List.getElem?_eq_getElem h0))) (by rw [List.length_map]; omega) (by rw [List.length_map]; exact hc) (by rw [e]; show (Lib.join l sep).length ≤ _; omega)
    rw [e, List.length_map] at c
    exact c
theorem lens_le_join (l : List (List UInt8)) (sep : List UInt8) : Lib.lens l ≤ (Lib.join l sep).length := by
  cases l with
  | nil => simp [Lib.lens]
  | cons x r => rw [Lib.join_length]; omega
end Go.Proofs.YtaijjffnamjhiaaGreatDoor
