/- From what a slice of texts reads as to StrsAt; how great such a reading is. What a tag that came in reads as: its texts and the slice of its variants. A slice of structs of fields of one cell each, as it reads: its cells and their readings. After the kit's block for this, turned to this claim. What a slice of tags that came in reads as. -/
import Derived.Test.YtlhleojigcnjeaaDoorRows
import Derived.Test.YtlhleojigcnjeaaDoorRead
import Derived.OpenShut
import Derived.Test.YtlhleojigcnjeaaDoorRparts
import Derived.Test.YtlhleojigcnjeaaDoorBox
import Derived.Deep.Slices
import Derived.Deep.Fields
import Derived.ChangeSame
import Derived.Test.YtlhleojigcnjeaaDoorWithin
namespace Go.Proofs.YtlhleojigcnjeaaDoor
open Go.RowKit Go.WideShapes Go.ChangeShapes

/-- the reading of these texts -/
def strsD {H : Type} (l : List (List UInt8)) (d : DataW H) : Prop := (d = .nil ∧ l = []) ∨ ∃ sp, d = .slice (l.map fun x => .lit (.string x)) sp
theorem strs_open {H : Type} {enc : TypeId × Value → H} {P : Program} {w : World} {base : Nat} {sp : Nat → Bool} {held : Bool} {fuel : Nat} {t e : TypeId} {a : Option Addr} {n c : Nat} {d : DataW H} {p : List MemPlace}
    (ht : P.underlying t = some (.slice e)) (he : P.underlying e = some .string) (hc : P.cellsOf e = 1) (h : DataW.trod enc P w base sp held fuel t (Value.slice a n c).cells.toList = some (d, p)) :
    ∃ l : List (List UInt8), StrsAt w (.slice a n c) l ∧ strsD l d := by
  rcases open_strings ht he hc h with ⟨hcs, hx⟩ | ⟨a', len', cap', ss, hcs, _, hl, hm, hz, hx, hcell, _⟩
  · have e1 : Value.slice a n c = .slice none 0 0 := by simpa [Value.cells] using hcs
    rw [e1]
    exact ⟨[], .inl ⟨rfl, none, 0, rfl⟩, .inl ⟨(congrArg Prod.fst hx), rfl⟩⟩
  · have e1 : Value.slice a n c = .slice (some a') len' cap' := by simpa [Value.cells] using hcs
    rw [e1]
    have hlen : (ss.take len').length = len' := by
      rw [List.length_take]
      split at hz <;> omega
    refine ⟨(ss.take len').map (·.data.toList), ?_, .inr ⟨strs (ss.drop len'), ?_⟩⟩
    · by_cases h0 : len' = 0
      · subst h0
        exact .inl ⟨by simp, _, _, rfl⟩
      · obtain ⟨b, off, spot⟩ := a'
        have hsp : spot = none := by simpa [Addr.add] using World.cell?_spot (hcell 0 (by split at hz <;> omega))
        subst hsp
        refine .inr ⟨b, off, cap', by rw [List.length_map, hlen], by rw [List.length_map, hlen]; omega, by rw [List.length_map, hlen]; exact hl, hm, fun j x hj => ?_⟩
        rw [List.getElem?_map] at hj
        obtain ⟨y, hy, rfl⟩ := Option.map_eq_some_iff.1 hj
        have hj' : j < (ss.take len').length := (List.getElem?_eq_some_iff.1 hy).1
        rw [List.getElem?_take, if_pos (by omega)] at hy
        have g := hcell j (List.getElem?_eq_some_iff.1 hy).1
        rw [Go.WideShapes.add_plain] at g
        rw [g, List.getD, hy]
        rfl
    · have e2 : (d : DataW H) = .slice (strs (ss.take len')) (strs (ss.drop len')) := congrArg Prod.fst hx
      rw [e2, List.map_map]
      rfl

theorem bulk_strs {H : Type} {l : List (List UInt8)} {d : DataW H} (h : strsD l d) : (l.map (·.length)).sum + l.length + 1 ≤ Rows.uptoBulk d := by
  rcases h with ⟨rfl, rfl⟩ | ⟨sp, rfl⟩
  · simp [Rows.uptoBulk]
  · have g : ∀ m : List (List UInt8), (m.map (·.length)).sum + m.length ≤ Rows.uptoBulkAll (m.map fun x => (.lit (.string x) : DataW H)) := by
      intro m
      induction m with
      | nil => simp [Rows.uptoBulkAll]
      | cons x m ih => simp only [List.map_cons, List.sum_cons, List.length_cons, Rows.uptoBulkAll, Rows.uptoBulk]; omega
    have := g l
    simp only [Rows.uptoBulk]
    omega
theorem bulk_of {H : Type} {l : List (DataW H)} (hk : Rows.uptoSmall H l = true) : Rows.uptoBulkAll l ≤ 1048576 := of_decide_eq_true hk
end Go.Proofs.YtlhleojigcnjeaaDoor
namespace Go.Proofs.YtlhleojigcnjeaaDoor
open Go.RowKit Go.WideShapes Go.ChangeShapes

/-- a field that is a slice of texts -/
theorem strs_field {H : Type} {enc : TypeId × Value → H} {P : Program} {w : World} {base : Nat} {sp : Nat → Bool} {held : Bool} {fuel : Nat} {t e : TypeId} {v : Value} {y : DataW H × List MemPlace}
    (ht : P.underlying t = some (.slice e)) (he : P.underlying e = some .string) (hc : P.cellsOf e = 1) (h : DataW.trod enc P w base sp held fuel t [v] = some y) :
    ∃ a n c l, v = .slice a n c ∧ StrsAt w v l ∧ Nil0 v ∧ Lib.lens l + l.length + 1 ≤ Rows.uptoBulk y.1 := by
  have g : ∃ a n c, v = .slice a n c ∧ Nil0 (.slice a n c) := by
    rcases open_strings ht he hc h with ⟨hcs, _⟩ | ⟨a', len', cap', ss, hcs, _⟩
    · exact ⟨none, 0, 0, by simpa using hcs, fun n c e => by injection e with _ _ e; exact e.symm⟩
    · exact ⟨some a', len', cap', by simpa using hcs, fun n c e => by injection e with e; cases e⟩
  obtain ⟨a, n, c, rfl, h0⟩ := g
  obtain ⟨l, h1, h2⟩ := strs_open ht he hc (show DataW.trod enc P w base sp held fuel t (Value.slice a n c).cells.toList = some (y.1, y.2) by simpa [Value.cells] using h)
  exact ⟨a, n, c, l, rfl, h1, h0, bulk_strs h2⟩
end Go.Proofs.YtlhleojigcnjeaaDoor
namespace Go.Proofs.YtlhleojigcnjeaaDoor
open Go.RowKit Go.ChangeShapes Go.WideShapes Go.Deep

section
variable {H : Type} {enc : TypeId × Value → H} {P : Program} {w : World} {base : Nat} {spare : Nat → Bool} {held : Bool}
theorem open_slice_fields {t e : TypeId} {fs : Array Field} {fuel : Nat} {cs : List Value} {x : DataW H × List MemPlace} (ht : P.underlying t = some (.slice e)) (he : P.underlying e = some (.struct fs))
    (hone : oneCellFields P fs = true) (hC : P.cellsOf e = fs.size) (h : DataW.trod enc P w base spare held fuel t cs = some x) :
    (cs = [.slice none 0 0] ∧ x = (.nil, [])) ∨
    ∃ (a : Addr) (len cap m : Nat) (D : Nat → DataW H) (Pl : Nat → List MemPlace), cs = [.slice (some a) len cap] ∧ base ≤ a.block ∧ len ≤ cap ∧ cap ≤ maxLen ∧ m = (if spare a.block then cap else len) ∧
      x = (.slice ((List.range len).map D) ((List.range (m - len)).map fun j => D (len + j)), MemPlace.row a (m * fs.size) ++ (List.range m).flatMap Pl) ∧
      ∀ i, i < m → ∃ (ys : List (DataW H × List MemPlace)) (n : Nat), D i = .agg (ys.map (·.1)) ∧ Pl i = ys.flatMap (·.2) ∧ ys.length = fs.size ∧
        ∀ (j : Nat) (f : Field), fs[j]? = some f → ∃ (v : Value) (y : DataW H × List MemPlace), w.cell? (a.add (i * fs.size + j)) = some v ∧ ys[j]? = some y ∧ DataW.trod enc P w base spare held n f.type [v] = some y := by
  rcases open_slice ht h with h0 | ⟨a, len, cap, m, n, D, Pl, hcs, hb, hl, hm, hmm, hx, hi⟩
  · exact .inl h0
  · refine .inr ⟨a, len, cap, m, D, Pl, hcs, hb, hl, hm, hmm, by rw [hC] at hx; exact hx, fun i him => ?_⟩
    obtain ⟨cs', hc, ht'⟩ := hi i him
    rw [hC] at hc
    obtain ⟨ys, n', hn', hy, hlen, hyl, hf⟩ := DataW.trod_struct he ht'
    obtain ⟨_, hcl, hat⟩ := World.cells?_some hc
    simp only [Prod.mk.injEq] at hy
    refine ⟨ys, n', hy.1, hy.2, hyl, fun j f hj => ?_⟩
    obtain ⟨ho, hk⟩ := hone_of hone j f hj
    have hjl : j < fs.size := (Array.getElem?_eq_some_iff.1 hj).1
    have hcell := hat j hjl
    have hv : cs'[j]? = some (cs'[j]'(by omega)) := List.getElem?_eq_getElem (by omega)
    have h1 := hf j f hj
    rw [ho, hk] at h1
    have hone' : (cs'.drop j).take 1 = [cs'[j]'(by omega)] := by
      rw [List.drop_eq_getElem_cons (by omega)]
      rfl
    rw [hone'] at h1
    have hys : ys[j]? = some (ys[j]'(by omega)) := List.getElem?_eq_getElem (by omega)
    refine ⟨_, _, ?_, hys, h1.trans hys⟩
    rw [← Go.Deep.add_add, hcell, hv]
end
end Go.Proofs.YtlhleojigcnjeaaDoor
namespace Go.Proofs.YtlhleojigcnjeaaDoor
open Go.RowKit Go.WideShapes Go.ChangeShapes Go.Deep

theorem list_of {Q : Nat → Tg → Prop} : ∀ (n : Nat), (∀ i, i < n → ∃ t, Q i t) → ∃ L : List Tg, L.length = n ∧ ∀ i t, L[i]? = some t → Q i t
  | 0, _ => ⟨[], rfl, fun i t h => by simp at h⟩
  | n + 1, h => by
    obtain ⟨L, hl, hq⟩ := list_of n fun i hi => h i (by omega)
    obtain ⟨t, ht⟩ := h n (by omega)
    refine ⟨L ++ [t], by simp [hl], fun i x hx => ?_⟩
    by_cases hi : i < n
    · rw [List.getElem?_append_left (by omega)] at hx; exact hq i x hx
    · rw [List.getElem?_append_right (by omega)] at hx
      have hk : i - L.length < 1 := (List.getElem?_eq_some_iff.1 hx).1
      obtain rfl : i = n := by omega
      rw [hl, Nat.sub_self] at hx
      obtain rfl : t = x := by simpa using hx
      exact ht
theorem bulk_mem {H : Type} : ∀ {l : List (DataW H)} {d : DataW H}, d ∈ l → Rows.uptoBulk d ≤ Rows.uptoBulkAll l
  | [], d, h => by simp at h
  | y :: r, d, h => by
    simp only [Rows.uptoBulkAll]
    rcases List.mem_cons.1 h with rfl | h
    · omega
    · have := bulk_mem h; omega
theorem bulk_many {H : Type} : ∀ {l : List (DataW H)}, (∀ d ∈ l, 1 ≤ Rows.uptoBulk d) → l.length ≤ Rows.uptoBulkAll l
  | [], _ => Nat.zero_le _
  | y :: r, h => by
    simp only [Rows.uptoBulkAll, List.length_cons]
    have a := h y (by simp)
    have b := bulk_many fun d hd => h d (List.mem_cons_of_mem _ hd)
    omega
theorem tags_open {H : Type} {enc : TypeId × Value → H} {P : Program} {w : World} {base : Nat} {sp : Nat → Bool} {held : Bool} {fuel : Nat} {t e g : TypeId} {f0 f1 f2 f3 : Field} {a : Option Addr} {n c : Nat} {d : DataW H} {p : List MemPlace}
    (ht : P.underlying t = some (.slice e)) (he : P.underlying e = some (.struct #[f0, f1, f2, f3])) (h0 : P.underlying f0.type = some .string) (h1 : P.underlying f1.type = some .string) (h2 : P.underlying f2.type = some .string)
    (h3 : P.underlying f3.type = some (.slice g)) (hg : P.underlying g = some .string) (hgc : P.cellsOf g = 1) (hone : oneCellFields P #[f0, f1, f2, f3] = true) (hC : P.cellsOf e = 4)
    (h : DataW.trod enc P w base sp held fuel t (Value.slice a n c).cells.toList = some (d, p)) :
    ∃ L : List Tg, TagsAt w (.slice a n c) L ∧ Nil0 (.slice a n c) ∧ L.length ≤ Rows.uptoBulk d ∧ ∀ x ∈ L, x.bulk ≤ Rows.uptoBulk d := by
  rcases open_slice_fields ht he hone hC h with ⟨hcs, hx⟩ | ⟨a', len, cap, m, D, Pl, hcs, _, hl, hm, hmm, hx, hi⟩
  · have e1 : Value.slice a n c = .slice none 0 0 := by simpa [Value.cells] using hcs
    rw [e1]
    exact ⟨[], .inl ⟨rfl, none, 0, rfl⟩, (fun n c e => by injection e with _ _ e; exact e.symm), Nat.zero_le _, fun x hx => by simp at hx⟩
  · have e1 : Value.slice a n c = .slice (some a') len cap := by simpa [Value.cells] using hcs
    rw [e1]
    obtain ⟨b, off, spot⟩ := a'
    have hlm : len ≤ m := by rw [hmm]; split <;> omega
    by_cases hz : len = 0
    · subst hz
      exact ⟨[], .inl ⟨rfl, _, _, rfl⟩, (fun n c e => by injection e with e; cases e), Nat.zero_le _, fun x hx => by simp at hx⟩
    have hsp : spot = none := by
      obtain ⟨ys, k, _, _, _, hf⟩ := hi 0 (by omega)
      obtain ⟨v0, y0, c0, _, _⟩ := hf 0 f0 rfl
      simpa [Addr.add] using World.cell?_spot c0
    subst hsp
    obtain ⟨L, hL, hQ⟩ := list_of (Q := fun i t => TagCell w b (off + i * 4) t ∧ t.bulk + 1 ≤ Rows.uptoBulk (D i)) len fun i hil => by
      obtain ⟨ys, k, hD, _, hyl, hf⟩ := hi i (by omega)
      obtain ⟨v0, y0, c0, q0, r0⟩ := hf 0 f0 rfl
      obtain ⟨v1, y1, c1, q1, r1⟩ := hf 1 f1 rfl
      obtain ⟨v2, y2, c2, q2, r2⟩ := hf 2 f2 rfl
      obtain ⟨v3, y3, c3, q3, r3⟩ := hf 3 f3 rfl
      obtain ⟨s0, z0, rfl, _⟩ := DataW.trod_string h0 r0
      obtain ⟨s1, z1, rfl, _⟩ := DataW.trod_string h1 r1
      obtain ⟨s2, z2, rfl, _⟩ := DataW.trod_string h2 r2
      obtain ⟨va, vn, vc, vs, rfl, hs, hz, hbk⟩ := strs_field h3 hg hgc r3
      obtain rfl : v0 = .string s0 := by simpa using z0
      obtain rfl : v1 = .string s1 := by simpa using z1
      obtain rfl : v2 = .string s2 := by simpa using z2
      rw [Go.WideShapes.add_plain] at c0 c1 c2 c3
      refine ⟨⟨s0.data.toList, s1.data.toList, s2.data.toList, vs⟩, ⟨va, vn, vc, ?_, ?_, ?_, ?_, hs, hz⟩, ?_⟩
      · rw [show off + i * 4 = off + (i * (#[f0, f1, f2, f3] : Array Field).size + 0) from rfl]; exact c0
      · rw [show off + i * 4 + 1 = off + (i * (#[f0, f1, f2, f3] : Array Field).size + 1) from rfl]; exact c1
      · rw [show off + i * 4 + 2 = off + (i * (#[f0, f1, f2, f3] : Array Field).size + 2) from rfl]; exact c2
      · rw [show off + i * 4 + 3 = off + (i * (#[f0, f1, f2, f3] : Array Field).size + 3) from rfl]; exact c3
      · obtain ⟨a0, a1, a2, a3, rfl⟩ : ∃ a0 a1 a2 a3, ys = [a0, a1, a2, a3] := by
          match ys, hyl with
          | [a0, a1, a2, a3], _ => exact ⟨a0, a1, a2, a3, rfl⟩
        obtain rfl := Option.some.inj q0
        obtain rfl := Option.some.inj q1
        obtain rfl := Option.some.inj q2
        obtain rfl := Option.some.inj q3
        rw [hD]
        simp only [List.map_cons, List.map_nil, Rows.uptoBulk, Rows.uptoBulkAll, Tg.bulk]
        omega
    have hd : d = .slice ((List.range len).map D) ((List.range (m - len)).map fun j => D (len + j)) := congrArg Prod.fst hx
    have hall : ∀ i, i < len → Rows.uptoBulk (D i) ≤ Rows.uptoBulkAll ((List.range len).map D) := fun i hi => bulk_mem (List.mem_map.2 ⟨i, List.mem_range.2 hi, rfl⟩)
    have hQ' : ∀ i (hi : i < len), ∃ t, L[i]? = some t ∧ t.bulk + 1 ≤ Rows.uptoBulk (D i) := fun i hi => ⟨L[i]'(by omega), List.getElem?_eq_getElem (by omega), (hQ i _ (List.getElem?_eq_getElem (by omega))).2⟩
    have hmany : len ≤ Rows.uptoBulkAll ((List.range len).map D) := by
      have := bulk_many (l := (List.range len).map D) fun d hd => by
        obtain ⟨i, hi, rfl⟩ := List.mem_map.1 hd
        obtain ⟨t, _, ht⟩ := hQ' i (List.mem_range.1 hi)
        omega
      simpa using this
    refine ⟨L, .inr ⟨b, off, cap, by rw [hL], by omega, by omega, hm, fun j t ht => (hQ j t ht).1⟩, (fun n c e => by injection e with e; cases e), ?_, fun x hx => ?_⟩
    · rw [hd, hL]; simp only [Rows.uptoBulk]; omega
    · obtain ⟨i, hi, rfl⟩ := List.getElem_of_mem hx
      have a := (hQ i _ (List.getElem?_eq_getElem hi)).2
      have b := hall i (by omega)
      rw [hd]; simp only [Rows.uptoBulk]; omega
end Go.Proofs.YtlhleojigcnjeaaDoor
