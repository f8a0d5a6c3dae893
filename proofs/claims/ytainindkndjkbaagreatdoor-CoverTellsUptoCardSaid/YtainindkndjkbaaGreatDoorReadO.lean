/- From what a slice of texts reads as to StrsAt; how great such a reading is. -/
import Derived.Test.YtainindkndjkbaaGreatDoorRows
import Derived.Test.YtainindkndjkbaaGreatDoorRead
import Derived.OpenShut
namespace Go.Proofs.YtainindkndjkbaaGreatDoor
open Go.RowKit Go.WideShapes Go.ChangeShapes

/-- the reading of these texts -/
def strsD {H : Type} (l : List (List UInt8)) (d : DataW H) : Prop := (d = .nil ∧ l = []) ∨ ∃ sp, d = .slice (l.map fun x => .lit (.string x)) sp
theorem strs_open {H : Type} {enc : TypeId × Value → H} {P : Program} {w : World} {base : Nat} {sp : Nat → Bool} {held : Bool} {fuel : Nat} {t e : TypeId} {a : Option Addr} {n c : Nat} {d : DataW H} {p : List MemPlace}
    (ht : P.underlying t = some (.slice e)) (he : P.underlying e = some .string) (hc : P.cellsOf e = 1) (h : DataW.trod enc P w base sp held fuel t (Value.slice a n c).cells.toList = some (d, p)) :
    ∃ l : List (List UInt8), StrsAt w (.slice a n c) l ∧ strsD l d := by
  rcases open_strings ht he hc h with ⟨hcs, hx⟩ | ⟨a', len', cap', ss, hcs, _, hl, hm, hz, hx, hcell, _⟩
  · have e1 : Value.slice a n c = .slice none 0 0 := by simpa [Value.cells] using hcs
    rw [e1]
    exact ⟨[], .inl ⟨rfl, none, 0, rfl⟩, .inl ⟨(congrArg Prod.fst hx), rfl⟩⟩
  · have e1 : Value.slice a n c = .slice (some a') len' cap' := by simpa [Value.cells] using hcs
    rw [e1]
    have hlen : (ss.take len').length = len' := by
      rw [List.length_take]
      split at hz <;> omega
    refine ⟨(ss.take len').map (·.data.toList), ?_, .inr ⟨strs (ss.drop len'), ?_⟩⟩
    · by_cases h0 : len' = 0
      · subst h0
        exact .inl ⟨by simp, _, _, rfl⟩
      · obtain ⟨b, off, spot⟩ := a'
        have hsp : spot = none := by simpa [Addr.add] using World.cell?_spot (hcell 0 (by split at hz <;> omega))
        subst hsp
        refine .inr ⟨b, off, cap', by rw [List.length_map, hlen], by rw [List.length_map, hlen]; omega, by rw [List.length_map, hlen]; exact hl, hm, fun j x hj => ?_⟩
        rw [List.getElem?_map] at hj
        obtain ⟨y, hy, rfl⟩ := Option.map_eq_some_iff.1 hj
        have hj' : j < (ss.take len').length := (List.getElem?_eq_some_iff.1 hy).1
        rw [List.getElem?_take, if_pos (by omega)] at hy
        have g := hcell j (List.getElem?_eq_some_iff.1 hy).1
        rw [Go.WideShapes.add_plain] at g
        rw [g, List.getD, hy]
        rfl
    · have e2 : (d : DataW H) = .slice (strs (ss.take len')) (strs (ss.drop len')) := congrArg Prod.fst hx
      rw [e2, List.map_map]
      rfl

theorem bulk_strs {H : Type} {l : List (List UInt8)} {d : DataW H} (h : strsD l d) : (l.map (·.length)).sum + l.length + 1 ≤ Rows.uptoBulk d := by
  rcases h with ⟨rfl, rfl⟩ | ⟨sp, rfl⟩
  · simp [Rows.uptoBulk]
  · have g : ∀ m : List (List UInt8), (m.map (·.length)).sum + m.length ≤ Rows.uptoBulkAll (m.map fun x => (.lit (.string x) : DataW H)) := by
      intro m
      induction m with
      | nil => simp [Rows.uptoBulkAll]
      | cons x m ih => simp only [List.map_cons, List.sum_cons, List.length_cons, Rows.uptoBulkAll, Rows.uptoBulk]; omega
    have := g l
    simp only [Rows.uptoBulk]
    omega
theorem bulk_of {H : Type} {l : List (DataW H)} (hk : Rows.uptoSmall H l = true) : Rows.uptoBulkAll l ≤ 1048576 := of_decide_eq_true hk
end Go.Proofs.YtainindkndjkbaaGreatDoor
