/- What bundles that came in read as: their texts are short, their entries few. -/
import Derived.Test.YtghohnbajbikjaaGreatDoorRows
import Derived.Test.YtghohnbajbikjaaGreatDoorUnP
import Derived.Test.YtghohnbajbikjaaGreatDoorProg
import Derived.OpenShut
import Derived.Deep.Slices
import Derived.Deep.Fields
import Derived.ChangeSame
namespace Go.Proofs.YtghohnbajbikjaaGreatDoor
open Go.RowKit Go.WideShapes Go.ChangeShapes Go.Deep

theorem bulk_mem {H : Type} {x : DataW H} : ∀ {l : List (DataW H)}, x ∈ l → Rows.uptoBulk x ≤ Rows.uptoBulkAll l
  | y :: l, h => by
    rcases List.mem_cons.1 h with rfl | h
    · simp only [Rows.uptoBulkAll]; omega
    · have := bulk_mem h
      simp only [Rows.uptoBulkAll]; omega
theorem bulk_pos {H : Type} (d : DataW H) : 1 ≤ Rows.uptoBulk d := by
  cases d with
  | lit x => cases x <;> simp [Rows.uptoBulk]
  | _ => simp [Rows.uptoBulk]
theorem bulk_len {H : Type} : ∀ l : List (DataW H), l.length ≤ Rows.uptoBulkAll l
  | [] => by simp
  | d :: l => by
    have := bulk_len l
    have := bulk_pos d
    simp only [Rows.uptoBulkAll, List.length_cons]; omega
theorem list_by' {α : Type} {Q : Nat → α → Prop} : ∀ (n : Nat), (∀ i, i < n → ∃ t, Q i t) → ∃ L : List α, L.length = n ∧ ∀ i t, L[i]? = some t → Q i t
  | 0, _ => ⟨[], rfl, fun i t h => by simp at h⟩
  | n + 1, h => by
    obtain ⟨L, hl, hq⟩ := list_by' n fun i hi => h i (by omega)
    obtain ⟨t, ht⟩ := h n (by omega)
    refine ⟨L ++ [t], by simp [hl], fun i x hx => ?_⟩
    by_cases hi : i < n
    · rw [List.getElem?_append_left (by omega)] at hx; exact hq i x hx
    · rw [List.getElem?_append_right (by omega)] at hx
      have hk : i - L.length < 1 := (List.getElem?_eq_some_iff.1 hx).1
      obtain rfl : i = n := by omega
      rw [hl, Nat.sub_self] at hx
      obtain rfl : t = x := by simpa using hx
      exact ht
section
variable {H : Type} {enc : TypeId × Value → H} {P : Program} {w : World} {base : Nat} {sp : Nat → Bool} {held : Bool}
/-- a slice whose elements are smaller readings -/
theorem sl_less {α : Type} {fuel m : Nat} {t e : TypeId} {C : World → Nat → Nat → α → Prop} (K : Nat) (ht : P.underlying t = some (.slice e)) (hC : P.cellsOf e = m) (hm : 0 < m)
    (el : ∀ (b off : Nat) (cs : List Value) (n : Nat) (y : DataW H × List MemPlace), (∀ i, i < m → w.cell? ⟨b, off + i, none⟩ = cs[i]?) → cs.length = m → DataW.trod enc P w base sp held n e cs = some y → Rows.uptoBulk y.1 < K → ∃ x : α, C w b off x)
    {v : Value} {y : DataW H × List MemPlace} (h : DataW.trod enc P w base sp held fuel t [v] = some y) (hK : Rows.uptoBulk y.1 ≤ K) :
    ∃ a n c l, v = .slice a n c ∧ SlAt m C w (.slice a n c) l ∧ l.length < Rows.uptoBulk y.1 := by
  have hpos := bulk_pos y.1
  rcases open_slice ht h with ⟨hcs, _⟩ | ⟨a', len, cap, mm, nn, D, Pl, hcs, _, hl, hcm, hmm, hx, hi⟩
  · exact ⟨none, 0, 0, [], by simpa using hcs, .inl ⟨rfl, none, 0, rfl⟩, by simp; omega⟩
  · have e1 : v = .slice (some a') len cap := by simpa using hcs
    have hd : y.1 = .slice ((List.range len).map D) ((List.range (mm - len)).map fun j => D (len + j)) := congrArg Prod.fst hx
    by_cases hz : len = 0
    · subst hz
      exact ⟨some a', 0, cap, [], e1, .inl ⟨rfl, _, _, rfl⟩, by simp; omega⟩
    have hlm : len ≤ mm := by rw [hmm]; split <;> omega
    rw [hC] at hi
    obtain ⟨b, off, spot⟩ := a'
    have hsp : spot = none := by
      obtain ⟨cs0, q0, _⟩ := hi 0 (by omega)
      obtain ⟨_, q1, q2⟩ := World.cells?_some q0
      have q3 := q2 0 hm
      rw [List.getElem?_eq_getElem (by omega)] at q3
      simpa [Addr.add] using World.cell?_spot q3
    subst hsp
    have hbd : ∀ i, i < len → Rows.uptoBulk (D i) < K := by
      intro i hil
      have : D i ∈ (List.range len).map D := List.mem_map.2 ⟨i, by simpa using hil, rfl⟩
      have := bulk_mem this
      rw [hd] at hK
      simp only [Rows.uptoBulk] at hK
      omega
    obtain ⟨L, hL, hQ⟩ := list_by' (Q := fun i x => C w b (off + i * m) x) len fun i hil => by
      obtain ⟨cs', q0, q1⟩ := hi i (by omega)
      obtain ⟨_, q2, q3⟩ := World.cells?_some q0
      rw [Go.WideShapes.add_plain] at q3
      exact el b (off + i * m) cs' nn _ (fun j hj => by have := q3 j hj; rwa [Go.WideShapes.add_plain] at this) q2 q1 (hbd i hil)
    refine ⟨_, len, cap, L, e1, .inr ⟨b, off, cap, by rw [hL], by omega, by omega, hcm, fun j x hx => hQ j x hx⟩, ?_⟩
    have := bulk_len ((List.range len).map D)
    rw [hd, hL]
    simp only [Rows.uptoBulk]
    simp at this
    omega
/-- all of an element is short -/
theorem sl_both {α : Type} {m : Nat} {C : World → Nat → Nat → α → Prop} {Q : α → Prop} {v : Value} {l : List α} (h : SlAt m (fun w b k x => C w b k x ∧ Q x) w v l) : SlAt m C w v l ∧ ∀ x ∈ l, Q x := by
  rcases h with ⟨rfl, h⟩ | ⟨b, off, cap, h1, h2, h3, h4, h5⟩
  · exact ⟨.inl ⟨rfl, h⟩, fun x hx => by cases hx⟩
  · refine ⟨.inr ⟨b, off, cap, h1, h2, h3, h4, fun j x hx => (h5 j x hx).1⟩, fun x hx => ?_⟩
    obtain ⟨j, hj⟩ := List.getElem?_of_mem hx
    exact (h5 j x hj).2
namespace Tn
section
variable {sB sE tB tE : TypeId} {f0 f1 g0 g1 : Field}
/-- bundles that came in -/
theorem bd_open (hsB : P.underlying sB = some (.slice tB)) (hsE : P.underlying sE = some (.slice tE)) (htB : P.underlying tB = some (.struct #[f0, f1])) (htE : P.underlying tE = some (.struct #[g0, g1]))
    (cB : P.cellsOf tB = 2) (cE : P.cellsOf tE = 2) (k0 : P.underlying f0.type = some .string) (k1 : f1.type = sE) (j0 : P.underlying g0.type = some .string) (j1 : P.underlying g1.type = some .string)
    (hB : oneCellFields P #[f0, f1] = true) (hE : oneCellFields P #[g0, g1] = true)
    {fuel : Nat} {a : Option Addr} {n c : Nat} {d : DataW H} {p : List MemPlace} (h : DataW.trod enc P w base sp held fuel sB (Value.slice a n c).cells.toList = some (d, p)) (hK : Rows.uptoBulk d ≤ 1048576) :
    ∃ l : List Bd, BdsAt w (.slice a n c) l ∧ l.length ≤ 1048576 ∧ ∀ x ∈ l, x.tag.length ≤ 1048576 ∧ x.es.length ≤ 1048576 ∧ ∀ e ∈ x.es, e.key.length ≤ 1048576 ∧ e.txt.length ≤ 1048576 := by
  have h' : DataW.trod enc P w base sp held fuel sB [.slice a n c] = some (d, p) := by simpa [Value.cells] using h
  obtain ⟨a', n', c', l, e, hs, hl⟩ := sl_less (w := w) (C := fun w b k (x : Bd) => BdC w b k x ∧ (x.tag.length ≤ 1048576 ∧ x.es.length ≤ 1048576 ∧ ∀ e ∈ x.es, e.key.length ≤ 1048576 ∧ e.txt.length ≤ 1048576)) 1048576 hsB cB (by omega) (fun b off cs n y q1 q2 q qK => by
    obtain ⟨ys, n', _, hy, _, hyl, hf⟩ := DataW.trod_struct htB q
    obtain ⟨c0, c1, rfl⟩ : ∃ c0 c1, cs = [c0, c1] := by
      match cs, q2 with
      | [c0, c1], _ => exact ⟨c0, c1, rfl⟩
    obtain ⟨y0, y1, rfl⟩ : ∃ a0 a1, ys = [a0, a1] := by
      match ys, hyl with
      | [a0, a1], _ => exact ⟨a0, a1, rfl⟩
    have r0 : DataW.trod enc P w base sp held n' f0.type [c0] = some y0 := by have := hf 0 f0 rfl; rwa [(hone_of hB 0 f0 rfl).1, (hone_of hB 0 f0 rfl).2] at this
    have r1 : DataW.trod enc P w base sp held n' f1.type [c1] = some y1 := by have := hf 1 f1 rfl; rwa [(hone_of hB 1 f1 rfl).1, (hone_of hB 1 f1 rfl).2] at this
    rw [k1] at r1
    have hb : Rows.uptoBulk y0.1 ≤ 1048576 ∧ Rows.uptoBulk y1.1 ≤ 1048576 := by
      rw [hy] at qK
      simp only [List.map_cons, List.map_nil, Rows.uptoBulk, Rows.uptoBulkAll] at qK
      omega
    obtain ⟨t0, e0, ey0, _⟩ := DataW.trod_string k0 r0
    obtain rfl : c0 = .string t0 := by simpa using e0
    have ht : t0.data.toList.length + 1 ≤ Rows.uptoBulk y0.1 := by rw [ey0]; simp [Rows.uptoBulk]
    obtain ⟨a1, m1, c1', l1, rfl, hs1, hl1⟩ := sl_less (w := w) (C := fun w b k (x : En) => EnC w b k x ∧ (x.key.length ≤ 1048576 ∧ x.txt.length ≤ 1048576)) 1048576 hsE cE (by omega) (fun b off cs n y u1 u2 u uK => by
      obtain ⟨ys, n', _, hy, _, hyl, hf⟩ := DataW.trod_struct htE u
      obtain ⟨c0, c1, rfl⟩ : ∃ c0 c1, cs = [c0, c1] := by
        match cs, u2 with
        | [c0, c1], _ => exact ⟨c0, c1, rfl⟩
      obtain ⟨y0, y1, rfl⟩ : ∃ a0 a1, ys = [a0, a1] := by
        match ys, hyl with
        | [a0, a1], _ => exact ⟨a0, a1, rfl⟩
      have r0 : DataW.trod enc P w base sp held n' g0.type [c0] = some y0 := by have := hf 0 g0 rfl; rwa [(hone_of hE 0 g0 rfl).1, (hone_of hE 0 g0 rfl).2] at this
      have r1 : DataW.trod enc P w base sp held n' g1.type [c1] = some y1 := by have := hf 1 g1 rfl; rwa [(hone_of hE 1 g1 rfl).1, (hone_of hE 1 g1 rfl).2] at this
      have hb : Rows.uptoBulk y0.1 ≤ 1048576 ∧ Rows.uptoBulk y1.1 ≤ 1048576 := by
        rw [hy] at uK
        simp only [List.map_cons, List.map_nil, Rows.uptoBulk, Rows.uptoBulkAll] at uK
        omega
      obtain ⟨t0, e0, ey0, _⟩ := DataW.trod_string j0 r0
      obtain ⟨t1, e1, ey1, _⟩ := DataW.trod_string j1 r1
      obtain rfl : c0 = .string t0 := by simpa using e0
      obtain rfl : c1 = .string t1 := by simpa using e1
      have ht0 : t0.data.toList.length + 1 ≤ Rows.uptoBulk y0.1 := by rw [ey0]; simp [Rows.uptoBulk]
      have ht1 : t1.data.toList.length + 1 ≤ Rows.uptoBulk y1.1 := by rw [ey1]; simp [Rows.uptoBulk]
      exact ⟨⟨t0.data.toList, t1.data.toList⟩, ⟨u1 0 (by omega), u1 1 (by omega)⟩, by show t0.data.toList.length ≤ _ ∧ t1.data.toList.length ≤ _; omega⟩) r1 hb.2
    obtain ⟨hs1, hq1⟩ := sl_both hs1
    exact ⟨⟨t0.data.toList, l1⟩, ⟨a1, m1, c1', q1 0 (by omega), q1 1 (by omega), hs1⟩, by show t0.data.toList.length ≤ _; omega, by show l1.length ≤ _; omega, hq1⟩) (v := .slice a n c) (y := (d, p)) h' hK
  rw [← e] at hs
  obtain ⟨hs, hq⟩ := sl_both hs
  exact ⟨l, hs, by dsimp only at hl; omega, hq⟩
end
end Tn
end
section
variable {H : Type} {enc : TypeId × Value → H} {w : World} {base : Nat} {sp : Nat → Bool} {held : Bool} {fuel : Nat} {a : Option Addr} {n c : Nat} {d : DataW H} {p : List MemPlace}
theorem cellsBd : Tryz.prog.cellsOf 38 = 2 := by kernel_rfl
theorem cellsEn : Tryz.prog.cellsOf 41 = 2 := by kernel_rfl
theorem bds_open (h : DataW.trod enc Tryz.prog w base sp held fuel 22 (Value.slice a n c).cells.toList = some (d, p)) (hK : Rows.uptoBulk d ≤ 1048576) : ∃ l : List Tn.Bd, Tn.BdsAt w (.slice a n c) l ∧ l.length ≤ 1048576 ∧ ∀ x ∈ l, x.tag.length ≤ 1048576 ∧ x.es.length ≤ 1048576 ∧ ∀ e ∈ x.es, e.key.length ≤ 1048576 ∧ e.txt.length ≤ 1048576 :=
  Tn.bd_open Tryz.underlying22 Tryz.underlying36 Tryz.underlying38 Tryz.underlying41 cellsBd cellsEn Tryz.underlying9 rfl Tryz.underlying9 Tryz.underlying9 (by kernel_rfl) (by kernel_rfl) h hK
end
end Go.Proofs.YtghohnbajbikjaaGreatDoor
