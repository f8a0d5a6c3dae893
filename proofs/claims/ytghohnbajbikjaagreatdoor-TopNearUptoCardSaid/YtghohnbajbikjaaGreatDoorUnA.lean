/- The list of a tag, and English behind it. -/
import Derived.Test.YtghohnbajbikjaaGreatDoorUnO
import Derived.Test.YtghohnbajbikjaaGreatDoorUnP
namespace Go.Proofs.YtghohnbajbikjaaGreatDoor
open Go.RowKit
theorem OwnT.app {base : Nat} {w w2 : World} {v v' : Value} {A : List (Tg × Value)} {ob : Obj} (h : OwnT base w v A)
    (hown : w2.ownsRow base 29 4 v' (A.length + 1) (flat A ++ tcells Tn.enT (.slice none 0 0))) (hg : (w.alloc ob).grownBy w2 v.ownBlock) : TagsAt w2 v' (A.map (·.1) ++ [Tn.enT]) := by
  have r := TagsAt.of_row (A := A ++ [(Tn.enT, Value.slice none 0 0)]) (n := A.length + 1) (by rw [flat_snoc]; exact hown) (fun x hx => by
    rcases List.mem_append.1 hx with hx | hx
    · obtain ⟨a1, a2, a3⟩ := h.2 x hx
      exact ⟨(a1.alloc ob).grown hg a3, a2⟩
    · obtain rfl := List.mem_singleton.1 hx
      exact ⟨.inl ⟨rfl, none, 0, rfl⟩, fun n c e => by injection e with _ _ e; exact e.symm⟩)
  rw [List.map_append] at r
  exact r
theorem OwnT.bel {W w w2 : World} {base : Nat} {v : Value} {A : List (Tg × Value)} {ob : Obj} (h : OwnT base w v A) (hB : W.heap.size ≤ base) (hb : Below W.heap.size W w) (hg : (w.alloc ob).grownBy w2 v.ownBlock) : Below W.heap.size W w2 :=
  (hb.alloc hb.size _).grown hg (by have := hb.size; simp; omega) (fun k hk => by have := (h.1.lt k hk).1; omega)
theorem tags_len {w : World} {v : Value} {L : List Tg} (h : TagsAt w v L) : L.length ≤ maxLen := by
  rcases h with ⟨rfl, _⟩ | ⟨_, _, _, _, _, h1, h2, _⟩
  · exact Nat.zero_le _
  · omega
namespace Tn
theorem ask_bulk (name : List UInt8) (hs : name.length ≤ 10000000) (hb : (readT name).bulk ≤ name.length) : (askL name).length ≤ 100000000 ∧ ∀ x ∈ askL name, x.bulk ≤ 100000000 := by
  have h1 := chain_small _ (readT name) rfl
  have a1 : (one (readT name).s).length ≤ 1 := by unfold one; split <;> simp
  have a2 : (one (readT name).r).length ≤ 1 := by unfold one; split <;> simp
  have a3 : (readT name).vs.length ≤ (readT name).bulk := by unfold Tg.bulk; omega
  have e : (readT name).size = (one (readT name).s).length + ((one (readT name).r).length + (readT name).vs.length) := rfl
  unfold askL
  refine ⟨by rw [List.length_append, List.length_singleton]; omega, fun x hx => ?_⟩
  rcases List.mem_append.1 hx with hx | hx
  · have := chain_bulk _ (readT name) rfl x hx; omega
  · rw [List.mem_singleton.1 hx]; decide
end Tn
end Go.Proofs.YtghohnbajbikjaaGreatDoor
