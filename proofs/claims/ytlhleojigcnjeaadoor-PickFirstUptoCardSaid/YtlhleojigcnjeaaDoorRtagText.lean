/- The walk of linguisterref1.TagText. -/
import Derived.Test.YtlhleojigcnjeaaDoorRparts
namespace Go.Proofs.YtlhleojigcnjeaaDoor
open Go.RowKit

theorem rparts_any (l s r : List UInt8) (vs : List (List UInt8)) (V : Value) (w : World) (hV : StrsAt w V vs) (h0 : Nil0 V) (hn : vs.length ≤ 1000000000) :
    Calls Tryd.prog 20 #[.agg #[.string ⟨l.toArray⟩, .string ⟨s.toArray⟩, .string ⟨r.toArray⟩, V]] w (GivesStrs w (parts l s r vs)) := by
  rcases hV.open with ⟨cap, rfl, rfl⟩ | ⟨ad, cap, rfl, hc⟩
  · obtain rfl := h0 _ _ rfl
    exact rparts_nil l s r w
  · exact rparts_some l s r vs ad cap w hn hc
/-- a tag's text -/
def tagText (l s r : List UInt8) (vs : List (List UInt8)) : List UInt8 := Lib.join (parts l s r vs) [45]
theorem lens_filter (p : List UInt8 → Bool) : ∀ l : List (List UInt8), Lib.lens (l.filter p) ≤ Lib.lens l
  | [] => Nat.le_refl _
  | x :: r => by
    have := lens_filter p r
    rw [List.filter_cons]
    split
    · simp only [Lib.lens, List.map_cons, List.sum_cons] at *; omega
    · simp only [Lib.lens, List.map_cons, List.sum_cons] at *; omega
theorem parts_small (l s r : List UInt8) (vs : List (List UInt8)) : Lib.lens (parts l s r vs) ≤ l.length + s.length + r.length + Lib.lens vs ∧ (parts l s r vs).length ≤ 3 + vs.length := by
  have a := lens_filter (fun x => !x.isEmpty) (l :: s :: r :: vs)
  have b := List.length_filter_le (fun x : List UInt8 => !x.isEmpty) (l :: s :: r :: vs)
  unfold parts
  simp only [Lib.lens, List.map_cons, List.sum_cons, List.length_cons] at a b ⊢
  omega

set_option maxRecDepth 100000 in
set_option maxHeartbeats 1000000 in
theorem rtext_any (l s r : List UInt8) (vs : List (List UInt8)) (V : Value) (w : World) (hV : StrsAt w V vs) (h0 : Nil0 V) (bt : l.length + s.length + r.length + Lib.lens vs + vs.length ≤ 100000000) :
    Calls Tryd.prog 28 #[.agg #[.string ⟨l.toArray⟩, .string ⟨s.toArray⟩, .string ⟨r.toArray⟩, V]] w fun e w' => e = .returned (.string ⟨(tagText l s r vs).toArray⟩) ∧ Below w.heap.size w w' := by
  have ps := parts_small l s r vs
  have CP := Lib.hid fun w hV => rparts_any l s r vs V w hV h0 (by omega)
  have CJ := Lib.hid fun v w h => joined_any (parts l s r vs) v [45] w h (by omega) (by unfold Lst.total; simp only [List.length_cons, List.length_nil]; omega) (by simp)
  have HT := Lib.hid (show tagText l s r vs = Lib.join (parts l s r vs) [45] from rfl)
  have HV := Lib.hid hV
  clear hV
  generalize tagText l s r vs = X at *
  generalize parts l s r vs = P at *
  go_enter Tryd.func28, Tryd.ntmps28
  go_wp2_with fail
  refine (CP.out _ (HV.out.alloc _)).mono ?_
  rintro e w1 ⟨v, rfl, hs, hb⟩
  have W1 := Lib.hid (blw_trans (blw_alloc w _) hb)
  have C2 := Lib.hid (CJ.out v w1 hs)
  clear hb hs CJ CP
  go_wp2_with fail
  refine (C2.out).mono ?_
  rintro e w' ⟨rfl, rfl⟩
  go_wp2_with fail
  go_ret
  exact ⟨ret_str HT.out.symm, W1.out⟩
end Go.Proofs.YtlhleojigcnjeaaDoor
