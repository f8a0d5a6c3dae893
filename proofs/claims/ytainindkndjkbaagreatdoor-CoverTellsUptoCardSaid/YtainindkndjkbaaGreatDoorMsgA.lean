/- Messages: how one lies in memory, and how many nodes it has: the plain law. No program. -/
import Derived.Test.YtainindkndjkbaaGreatDoorRulAt
namespace Go.Proofs.YtainindkndjkbaaGreatDoor
open Go.RowKit
namespace Ms
/-- a node: its kind, text, offset, cases; a case: its key and body -/
inductive Nd where
  | mk (kind : Int) (text : List UInt8) (off : Int) (cases : List (List UInt8 × List Nd))
def Nd.kind : Nd → Int | .mk k _ _ _ => k
def Nd.text : Nd → List UInt8 | .mk _ t _ _ => t
def Nd.off : Nd → Int | .mk _ _ o _ => o
def Nd.cases : Nd → List (List UInt8 × List Nd) | .mk _ _ _ c => c
/-- a node's four cells, and what hangs on them -/
def NdC : Nat → World → Nat → Nat → Nd → Prop
  | 0, _, _, _, _ => False
  | f + 1, w, b, k, x => ∃ a n c, w.cell? ⟨b, k, none⟩ = some (.int .i64 x.kind) ∧ w.cell? ⟨b, k + 1, none⟩ = some (.string ⟨x.text.toArray⟩) ∧ w.cell? ⟨b, k + 2, none⟩ = some (.int .i64 x.off) ∧ w.cell? ⟨b, k + 3, none⟩ = some (.slice a n c) ∧
      SlAt 2 (fun w b k y => ∃ a n c, w.cell? ⟨b, k, none⟩ = some (.string ⟨y.1.toArray⟩) ∧ w.cell? ⟨b, k + 1, none⟩ = some (.slice a n c) ∧ SlAt 4 (NdC f) w (.slice a n c) y.2 ∧ y.1.length ≤ 2000000 ∧ y.2.length ≤ 2000000) w (.slice a n c) x.cases ∧ x.text.length ≤ 2000000 ∧ x.cases.length ≤ 2000000
/-- a case's two cells, and what hangs on them -/
def CsC (f : Nat) (w : World) (b k : Nat) (y : List UInt8 × List Nd) : Prop := ∃ a n c, w.cell? ⟨b, k, none⟩ = some (.string ⟨y.1.toArray⟩) ∧ w.cell? ⟨b, k + 1, none⟩ = some (.slice a n c) ∧ SlAt 4 (NdC f) w (.slice a n c) y.2 ∧ y.1.length ≤ 2000000 ∧ y.2.length ≤ 2000000
abbrev MsgAt (f : Nat) := SlAt 4 (NdC f)
abbrev CassAt (f : Nat) := SlAt 2 (CsC f)
theorem NdC.below : ∀ (f : Nat) {w w' : World} {b k : Nat} {x : Nd}, NdC f w b k x → Below w.heap.size w w' → NdC f w' b k x
  | 0, _, _, _, _, _, h, _ => h
  | f + 1, w, w', b, k, x, h, hb => by
    obtain ⟨a, n, c, h0, h1, h2, h3, h4, h5, h6⟩ := h
    refine ⟨a, n, c, cell_keep h0 hb, cell_keep h1 hb, cell_keep h2 hb, cell_keep h3 hb, h4.imp fun b k y _ g => ?_, h5, h6⟩
    obtain ⟨a', n', c', g0, g1, g2, g3⟩ := g
    exact ⟨a', n', c', cell_keep g0 hb, cell_keep g1 hb, g2.imp fun _ _ _ _ q => NdC.below f q hb, g3⟩
theorem msg_below {f : Nat} {w w' : World} {v : Value} {m : List Nd} (h : MsgAt f w v m) (hb : Below w.heap.size w w') : MsgAt f w' v m := h.imp fun _ _ _ _ q => NdC.below f q hb
theorem CsC.below {f : Nat} {w w' : World} {b k : Nat} {y : List UInt8 × List Nd} (h : CsC f w b k y) (hb : Below w.heap.size w w') : CsC f w' b k y := by
  obtain ⟨a', n', c', g0, g1, g2, g3⟩ := h
  exact ⟨a', n', c', cell_keep g0 hb, cell_keep g1 hb, msg_below g2 hb, g3⟩
theorem cass_below {f : Nat} {w w' : World} {v : Value} {l : List (List UInt8 × List Nd)} (h : CassAt f w v l) (hb : Below w.heap.size w w') : CassAt f w' v l := h.imp fun _ _ _ _ q => q.below hb
/-- the cases that are looked at -/
def casesOf (x : Nd) : List (List UInt8 × List Nd) := if x.kind = 4 ∨ x.kind = 5 then x.cases else []
def bodies (m : List Nd) : List (List Nd) := (m.map fun x => (casesOf x).map (·.2)).flatten
/-- so many and those of the bodies; too many? -/
def lgo (F : List Nd → Int × Bool) : Int → List (List Nd) → Int × Bool
  | n, [] => (n, decide (60 < n))
  | n, b :: r => if (F b).2 || decide (60 < n + (F b).1) then (n + (F b).1, true) else lgo F (n + (F b).1) r
/-- how many nodes; too many, or one too deep? -/
def lrg : Nat → List Nd → Int × Bool
  | 0, m => (0, !m.isEmpty)
  | d + 1, m => lgo (lrg d) m.length (bodies m)
theorem bodies_cons (x : Nd) (m : List Nd) : bodies (x :: m) = (casesOf x).map (·.2) ++ bodies m := by simp [bodies]
theorem lgo_bd {F : List Nd → Int × Bool} {K : Int} (L : List (List Nd)) (hF : ∀ b ∈ L, 0 ≤ (F b).1 ∧ (F b).1 ≤ K) (hK : 0 ≤ K) (B : Int) (hB : 60 ≤ B) : ∀ n : Int, 0 ≤ n → n ≤ B → 0 ≤ (lgo F n L).1 ∧ (lgo F n L).1 ≤ B + K := by
  induction L with
  | nil => intro n h0 h1; exact ⟨h0, by show n ≤ _; omega⟩
  | cons b r ih =>
    intro n h0 h1
    have hb := hF b (by simp)
    unfold lgo
    split
    · exact ⟨by show 0 ≤ n + _; omega, by show n + _ ≤ _; omega⟩
    · rename_i h
      have : ¬ 60 < n + (F b).1 := by
        intro g; apply h; rw [decide_eq_true g]; simp
      exact ih (fun b hb => hF b (by simp [hb])) _ (by omega) (by omega)
/-- every list is of so many at most -/
theorem lrg_bd : ∀ (d f : Nat) {w : World} {v : Value} {m : List Nd}, MsgAt f w v m → m.length ≤ 2000000 → 0 ≤ (lrg d m).1 ∧ (lrg d m).1 ≤ (d : Int) * 3000000
  | 0, _, _, _, _, _, _ => ⟨Int.le_refl _, by simp [lrg]⟩
  | d + 1, f, w, v, m, h, hl => by
    obtain ⟨A, cap, e, _, hx⟩ := h.spread
    have hb : ∀ b ∈ bodies m, 0 ≤ (lrg d b).1 ∧ (lrg d b).1 ≤ (d : Int) * 3000000 := by
      intro b hb
      unfold bodies at hb
      obtain ⟨l, hl1, hl2⟩ := List.mem_flatten.1 hb
      obtain ⟨x, hxm, rfl⟩ := List.mem_map.1 hl1
      obtain ⟨y, hy, rfl⟩ := List.mem_map.1 hl2
      obtain ⟨j, hj, ej⟩ := List.getElem_of_mem hxm
      obtain ⟨bb, off, _, hc⟩ := hx j x (by rw [List.getElem?_eq_getElem hj, ej])
      cases f with
      | zero => exact absurd hc (by simp [NdC])
      | succ f =>
        obtain ⟨a, n, c, _, _, _, _, h4, _, _⟩ := hc
        obtain ⟨A', cap', _, _, hy'⟩ := h4.spread
        have hyc : y ∈ x.cases := by
          unfold casesOf at hy
          split at hy
          · exact hy
          · simp at hy
        obtain ⟨i, hi, ei⟩ := List.getElem_of_mem hyc
        obtain ⟨b2, off2, _, a', n', c', _, _, g2, _, g4⟩ := hy' i y (by rw [List.getElem?_eq_getElem hi, ei])
        exact lrg_bd d f g2 g4
    have := lgo_bd (F := lrg d) (bodies m) hb (by omega) 2000060 (by omega) m.length (by omega) (by omega)
    exact ⟨this.1, by show (lgo (lrg d) _ _).1 ≤ _; omega⟩
/-- from a place on -/
theorem lgo_cases (F : List Nd → Int × Bool) {x : Nd} {m : List Nd} {i : Nat} (h : m[i]? = some x) (n : Int) : lgo F n (bodies (m.drop i)) = lgo F n ((casesOf x).map (·.2) ++ bodies (m.drop (i + 1))) := by
  obtain ⟨hi, e⟩ := List.getElem?_eq_some_iff.1 h
  rw [List.drop_eq_getElem_cons hi, e, bodies_cons]
theorem cases_step {l : List (List UInt8 × List Nd)} {k : Nat} {y : List UInt8 × List Nd} (h : l[k]? = some y) : (l.drop k).map (·.2) = y.2 :: (l.drop (k + 1)).map (·.2) := by
  obtain ⟨hi, e⟩ := List.getElem?_eq_some_iff.1 h
  rw [List.drop_eq_getElem_cons hi, e, List.map_cons]
end Ms
end Go.Proofs.YtainindkndjkbaaGreatDoor
