/- strings.Split at one sign, and slices.Clone at texts, off the shelf, over StrsAt. -/
import Derived.Test.YtlhleojigcnjeaaDoorShelfT
import Derived.Test.YtlhleojigcnjeaaDoorRead
import Derived.Test.YtlhleojigcnjeaaDoorMax
import Derived.Test.YtlhleojigcnjeaaDoorStr
namespace Go.Proofs.YtlhleojigcnjeaaDoor
open Go.RowKit

/-- strings.Split at one sign: the texts, in a block of the call's own -/
theorem split_any (s : List UInt8) (c : UInt8) (w : World) (hM : MaxW w) (hs : s.length ≤ 4000000000) :
    Calls Tryd.prog 39 #[.string ⟨s.toArray⟩, .string ⟨#[c]⟩] w fun e w' =>
      e = .returned (.slice (some ⟨w.heap.size, 0, none⟩) (Lib.split s [c]).length (Lib.split s [c]).length) ∧ 0 < (Lib.split s [c]).length ∧ (Lib.split s [c]).length ≤ s.length + 1 ∧
      (∀ (j : Nat) x, (Lib.split s [c])[j]? = some x → w'.cell? ⟨w.heap.size, j, none⟩ = some (.string ⟨x.toArray⟩)) ∧ Below w.heap.size w w' := by
  obtain ⟨m, hm⟩ := hM
  have h1 : 1 ≤ (⟨#[c]⟩ : ByteArray).size := Nat.le_refl 1
  have hz : (⟨s.toArray⟩ : ByteArray).size = s.length := size_mkl s
  have hd : (Lib.splitB ⟨#[c]⟩ 0 (Lib.countB ⟨s.toArray⟩ ⟨#[c]⟩) ⟨s.toArray⟩).map (·.data.toList) = Lib.split s [c] := by rw [Lib.splitB_data]; rfl
  have hlen := Lib.splitB_all ⟨#[c]⟩ h1 0 (Lib.countB ⟨s.toArray⟩ ⟨#[c]⟩) ⟨s.toArray⟩ rfl
  have hle := Lib.countB_le ⟨#[c]⟩ h1 s.length ⟨s.toArray⟩ (by rw [hz]; omega)
  rw [hz] at hle
  refine (Tryd.strings_Split ⟨s.toArray⟩ ⟨#[c]⟩ m w (by rw [hz]; omega) hm h1).mono ?_
  generalize Lib.countB ⟨s.toArray⟩ ⟨#[c]⟩ = k at *
  generalize Lib.splitB ⟨#[c]⟩ 0 k ⟨s.toArray⟩ = Q at *
  rw [← hd, List.length_map, hlen]
  rintro e w' ⟨rfl, rfl⟩
  refine ⟨rfl, by omega, by omega, ?_, blw_alloc _ _⟩
  intro j x hx
  rw [List.getElem?_map] at hx
  obtain ⟨q, hq, rfl⟩ := Option.map_eq_some_iff.1 hx
  simp [go_sem, hq]
/-- the texts' block lies behind B -/
def FarV (B : Nat) (V : Value) : Prop := ∀ ad n c, V = .slice (some ad) n c → 0 < n → B ≤ ad.block
theorem FarV.mono {B C : Nat} {V : Value} (h : FarV B V) (hc : C ≤ B) : FarV C V := fun ad n c e h0 => Nat.le_trans hc (h ad n c e h0)
theorem StrsAt.isSlice {w : World} {V : Value} {l : List (List UInt8)} (h : StrsAt w V l) : ∃ x n c, V = .slice x n c := by
  rcases h with ⟨_, a, cap, rfl⟩ | ⟨_, _, cap, rfl, _⟩
  · exact ⟨_, _, _, rfl⟩
  · exact ⟨_, _, _, rfl⟩
theorem FarV.nil (B n c : Nat) : FarV B (.slice none n c) := fun _ _ _ e _ => by injection e with e; cases e
theorem StrsAt.setCell {w : World} {V : Value} {l : List (List UInt8)} {B : Nat} (h : StrsAt w V l) (hf : FarV B V) (a : Addr) (ha : a.block < B) (u : Value) : StrsAt (w.setCell a u) V l := by
  rcases h with h | ⟨b, off, cap, rfl, h2, h3, h4, h5⟩
  · exact .inl h
  · have hb : B ≤ b := hf _ _ _ rfl h2
    exact .inr ⟨b, off, cap, rfl, h2, h3, h4, fun j x hx => (World.cell?_setCell_other _ _ _ _ (fun e => by rw [e] at ha; exact absurd ha (by show ¬ b < B; omega))).trans (h5 j x hx)⟩
theorem FarV.of_row {w : World} {base : Nat} {e : TypeId} {v : Value} {n k : Nat} {l : List Value} (h : w.ownsRow base e k v n l) : FarV base v := by
  obtain ⟨_, ⟨rfl, _⟩ | ⟨g, cap, cur, rfl, hb, _⟩⟩ := h
  · exact FarV.nil _ _ _
  · intro ad n' c e _
    injection e with e _ _
    injection e with e
    subst e; exact hb
/-- slices.Clone of texts -/
theorem clone_any (l : List (List UInt8)) (v : Value) (w : World) (h : StrsAt w v l) (hl : l.length ≤ 1000000000) :
    Calls Tryd.prog 45 #[v] w fun e w' => ∃ v', e = .returned v' ∧ StrsAt w' v' l ∧ FarV w.heap.size v' ∧ Below w.heap.size w w' := by
  rcases h with ⟨rfl, a, cap, rfl⟩ | ⟨b, off, cap, rfl, h0, hc, hm, hcell⟩
  · cases a with
    | none => exact (Tryd.slices_Clone_string_nil 0 cap w).mono fun _ _ ⟨he, hw⟩ => ⟨_, he, .inl ⟨rfl, none, 0, rfl⟩, FarV.nil _ _ _, hw ▸ Below.refl _ _⟩
    | some a => exact (Tryd.slices_Clone_string_zero a cap w).mono fun _ _ ⟨v', he, ho, _, hb⟩ => ⟨v', he, StrsAt.of_row (l := []) ho, FarV.of_row ho, hb⟩
  · refine (Tryd.slices_Clone_string b off l.length cap (l.map fun x => ⟨x.toArray⟩) w (by rw [List.length_map]; omega) (by omega) (fun j hj => ?_)).mono ?_
    · rw [List.length_map] at hj
      rw [hcell j l[j] (List.getElem?_eq_getElem hj)]
      simp [List.getD, List.getElem?_map, List.getElem?_eq_getElem hj]
    · rintro e w' ⟨v', rfl, ho, _, hb⟩
      have hf := FarV.of_row ho
      refine ⟨v', rfl, StrsAt.of_row (e := 9) (base := w.heap.size) (n := l.length) ?_, hf, hb⟩
      rw [List.take_of_length_le (by rw [List.length_map]; omega), List.map_map] at ho
      exact ho
end Go.Proofs.YtlhleojigcnjeaaDoor
