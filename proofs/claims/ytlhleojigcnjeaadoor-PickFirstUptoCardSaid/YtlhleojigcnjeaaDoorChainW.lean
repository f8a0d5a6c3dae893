/- Slices of tags in memory; what growth of a row leaves as it was. The walk of chain.less: a tag without its last part. Condition: the tag has at most 1000000000 variants. The state of chain.Chain's loop, and how its steps keep it. The walk of chain.Chain: a tag and what is more common. Condition: the tag is of bulk at most 1000000. -/
import Derived.Test.YtlhleojigcnjeaaDoorTagOfSt
import Derived.Test.YtlhleojigcnjeaaDoorHeld
import Derived.Test.YtlhleojigcnjeaaDoorOwn
import Derived.Maps.AppendAt
import Derived.OwnWalk
namespace Go.Proofs.YtlhleojigcnjeaaDoor
open Go.RowKit

/-- the texts do not lie in this block -/
def NotRow (row : Option Nat) (V : Value) : Prop := ∀ ad n c, V = .slice (some ad) n c → 0 < n → some ad.block ≠ row
theorem NotRow.nil (row : Option Nat) (n c : Nat) : NotRow row (.slice none n c) := fun _ _ _ e _ => by injection e with e; cases e
theorem NotRow.none (V : Value) : NotRow none V := fun _ _ _ _ _ e => by cases e
theorem NotRow.zero (row : Option Nat) (a : Option Addr) (c : Nat) : NotRow row (.slice a 0 c) := fun _ n _ e h => by injection e with _ e; omega
theorem FarV.not {B q : Nat} {V : Value} (h : FarV B V) (hq : q < B) : NotRow (some q) V := fun ad n c e h0 g => by
  have := h ad n c e h0
  injection g with g; omega
theorem StrsAt.old {w : World} {V : Value} {l : List (List UInt8)} (h : StrsAt w V l) {q : Nat} (hq : w.heap.size ≤ q) : NotRow (some q) V := fun ad n c e h0 g => by
  rcases h with ⟨_, a, cap, rfl⟩ | ⟨b, off, cap, rfl, h1, _, _, hc⟩
  · injection e with _ e; omega
  · injection e with e _
    injection e with e
    subst e
    injection g with g
    have := World.block_lt_of_cell? _ _ (hc 0 _ (List.getElem?_eq_getElem h1))
    dsimp only at this g; omega
theorem StrsAt.grown {w w' : World} {V : Value} {l : List (List UInt8)} {row : Option Nat} (h : StrsAt w V l) (hg : w.grownBy w' row) (hn : NotRow row V) : StrsAt w' V l := by
  rcases h with h | ⟨b, off, cap, rfl, h2, h3, h4, h5⟩
  · exact .inl h
  · exact .inr ⟨b, off, cap, rfl, h2, h3, h4, fun j x hx => hg.cell (h5 j x hx) (show some b ≠ row from hn ⟨b, off, none⟩ _ cap rfl h2)⟩
theorem StrsAt.put {w : World} {V : Value} {l : List (List UInt8)} (h : StrsAt w V l) (a : Addr) (hn : NotRow (some a.block) V) (u : Value) : StrsAt (w.setCell a u) V l := by
  rcases h with h | ⟨b, off, cap, rfl, h2, h3, h4, h5⟩
  · exact .inl h
  · exact .inr ⟨b, off, cap, rfl, h2, h3, h4, fun j x hx => (World.cell?_setCell_other _ _ _ _ (fun e => hn ⟨b, off, none⟩ _ cap rfl h2 (by rw [e]))).trans (h5 j x hx)⟩
theorem Boxed.grown {w w' : World} {p : Nat} {vs : Array Value} {row : Option Nat} (h : Boxed w p vs) (hg : w.grownBy w' row) (hn : some p ≠ row) : Boxed w' p vs :=
  ⟨Nat.lt_of_lt_of_le h.lt hg.size, fun j v hj => hg.cell (h.cell j v hj) hn, fun j hj => (World.frozen?_of_block (hg.block p h.lt hn)).trans (h.free j hj)⟩
theorem grown_below {w w' : World} (hb : Below w.heap.size w w') (row : Option Nat) : w.grownBy w' row :=
  ⟨hb.os, hb.tape, hb.output, hb.size, fun k hk _ => hb.block k hk⟩
theorem grown_set (w : World) (a : Addr) (u : Value) : w.grownBy (w.setCell a u) (some a.block) :=
  ⟨rfl, rfl, rfl, by rw [size_setCell]; exact Nat.le_refl _, fun k _ hk => by
    have e : a.block ≠ k := fun e => hk (by rw [e])
    unfold World.setCell
    split <;> simp [Array.getElem?_modify, e]⟩
/-- a growth of what lies behind the old world -/
theorem grown_new {w w' w'' : World} {q : Nat} (h : w.grownBy w' none) (k : w'.grownBy w'' (some q)) (hq : w.heap.size ≤ q) : w.grownBy w'' none :=
  ⟨k.os.trans h.os, k.tape.trans h.tape, k.output.trans h.output, Nat.le_trans h.size k.size, fun i hi _ => (k.block i (Nat.lt_of_lt_of_le hi h.size) (fun e => by injection e with e; omega)).trans (h.block i hi (by simp))⟩
/-- the cells of a tag -/
def tcells (t : Tg) (V : Value) : List Value := [.string ⟨t.l.toArray⟩, .string ⟨t.s.toArray⟩, .string ⟨t.r.toArray⟩, V]
def flat (A : List (Tg × Value)) : List Value := A.flatMap fun x => tcells x.1 x.2
theorem flat_snoc (A : List (Tg × Value)) (c : Tg) (V : Value) : flat (A ++ [(c, V)]) = flat A ++ tcells c V := by simp [flat]
theorem flat_append (A B : List (Tg × Value)) : flat (A ++ B) = flat A ++ flat B := by simp [flat]
theorem flat_len (A : List (Tg × Value)) : (flat A).length = A.length * 4 := by
  induction A with
  | nil => rfl
  | cons x r ih => simp only [flat, List.flatMap_cons, List.length_append, List.length_cons] at *; rw [ih]; simp [tcells]; omega
theorem flat_at : ∀ (A : List (Tg × Value)) (j : Nat) (x : Tg × Value), A[j]? = some x → ∀ k u, (tcells x.1 x.2)[k]? = some u → (flat A)[j * 4 + k]? = some u
  | [], j, x, h, _, _, _ => by simp at h
  | y :: r, 0, x, h, k, u, hu => by
    obtain rfl : y = x := by simpa using h
    have hk : k < 4 := (List.getElem?_eq_some_iff.1 hu).1
    simp only [flat, List.flatMap_cons]
    rw [List.getElem?_append_left (by show _ < 4; omega), Nat.zero_mul, Nat.zero_add]
    exact hu
  | y :: r, j + 1, x, h, k, u, hu => by
    have := flat_at r j x (by simpa using h) k u hu
    simp only [flat, List.flatMap_cons] at this ⊢
    rw [List.getElem?_append_right (by show 4 ≤ _; omega), show (j + 1) * 4 + k - (tcells y.1 y.2).length = j * 4 + k by show (j + 1) * 4 + k - 4 = _; omega]
    exact this
/-- the texts of these tags -/
def TagsOf (w : World) (A : List (Tg × Value)) : Prop := ∀ x ∈ A, StrsAt w x.2 x.1.vs ∧ Nil0 x.2
/-- a tag lies in the four cells from k on -/
def TagCell (w : World) (b k : Nat) (t : Tg) : Prop := ∃ a n c, w.cell? ⟨b, k, none⟩ = some (.string ⟨t.l.toArray⟩) ∧ w.cell? ⟨b, k + 1, none⟩ = some (.string ⟨t.s.toArray⟩) ∧ w.cell? ⟨b, k + 2, none⟩ = some (.string ⟨t.r.toArray⟩) ∧ w.cell? ⟨b, k + 3, none⟩ = some (.slice a n c) ∧ StrsAt w (.slice a n c) t.vs ∧ Nil0 (.slice a n c)
/-- a slice of tags -/
def TagsAt (w : World) (v : Value) (L : List Tg) : Prop :=
  (L = [] ∧ ∃ a cap, v = .slice a 0 cap) ∨
  ∃ b off cap, v = .slice (some ⟨b, off, none⟩) L.length cap ∧ 0 < L.length ∧ L.length ≤ cap ∧ cap ≤ maxLen ∧ ∀ (j : Nat) t, L[j]? = some t → TagCell w b (off + j * 4) t
theorem TagCell.below {w w' : World} {b k : Nat} {t : Tg} (h : TagCell w b k t) (hb : Below w.heap.size w w') : TagCell w' b k t := by
  obtain ⟨a, n, c, h0, h1, h2, h3, h4, h5⟩ := h
  exact ⟨a, n, c, cell_keep h0 hb, cell_keep h1 hb, cell_keep h2 hb, cell_keep h3 hb, h4.below hb, h5⟩
theorem TagsAt.below {w w' : World} {v : Value} {L : List Tg} (h : TagsAt w v L) (hb : Below w.heap.size w w') : TagsAt w' v L := by
  rcases h with h | ⟨b, off, cap, h1, h2, h3, h4, h5⟩
  · exact .inl h
  · exact .inr ⟨b, off, cap, h1, h2, h3, h4, fun j t ht => (h5 j t ht).below hb⟩
theorem TagsAt.isSlice {w : World} {v : Value} {L : List Tg} (h : TagsAt w v L) : ∃ a n c, v = .slice a n c := by
  rcases h with ⟨_, a, cap, rfl⟩ | ⟨_, _, cap, rfl, _⟩
  · exact ⟨_, _, _, rfl⟩
  · exact ⟨_, _, _, rfl⟩
theorem TagsAt.of_row {w : World} {base : Nat} {e : TypeId} {v : Value} {n : Nat} {A : List (Tg × Value)} (h : w.ownsRow base e 4 v n (flat A)) (ht : TagsOf w A) : TagsAt w v (A.map (·.1)) := by
  obtain ⟨hl, h⟩ := h
  rw [flat_len] at hl
  obtain rfl : n = A.length := by omega
  rcases h with ⟨rfl, h0⟩ | ⟨g, cap, cur, rfl, _, hg, h1, h2, h3, h4⟩
  · exact .inl ⟨by rw [List.length_eq_zero_iff.1 h0]; rfl, none, 0, rfl⟩
  · by_cases h0 : A.length = 0
    · exact .inl ⟨by rw [List.length_eq_zero_iff.1 h0]; rfl, _, _, by rw [h0]⟩
    · refine .inr ⟨g, 0, cap, by rw [List.length_map], by rw [List.length_map]; omega, by rw [List.length_map]; exact h1, h2, fun j t hj => ?_⟩
      rw [List.getElem?_map] at hj
      obtain ⟨⟨t', V⟩, hx, e⟩ := Option.map_eq_some_iff.1 hj
      obtain rfl : t' = t := e
      have hjl : j < A.length := (List.getElem?_eq_some_iff.1 hx).1
      obtain ⟨hs, hz⟩ := ht _ (List.mem_of_getElem? hx)
      have hc : ∀ k u, (tcells t' V)[k]? = some u → w.cell? ⟨g, 0 + j * 4 + k, none⟩ = some u := fun k u hu => by
        have hk : k < 4 := (List.getElem?_eq_some_iff.1 hu).1
        have q := flat_at A j _ hx k u hu
        have e : (cur.toList.take (A.length * 4))[j * 4 + k]? = some u := by rw [h4]; exact q
        rw [List.getElem?_take, if_pos (by omega)] at e
        have e2 : cur[j * 4 + k]? = some u := by simpa using e
        rw [Nat.zero_add]
        simp [World.cell?, hg, e2]
      obtain ⟨a, n, c, rfl⟩ := hs.isSlice
      exact ⟨a, n, c, hc 0 _ rfl, hc 1 _ rfl, hc 2 _ rfl, hc 3 _ rfl, hs, hz⟩
end Go.Proofs.YtlhleojigcnjeaaDoor
namespace Go.Proofs.YtlhleojigcnjeaaDoor
open Go.RowKit

def LessPost (w : World) (l s r : List UInt8) (vs : List (List UInt8)) (V : Value) (is : Bool) (e : Ending) (w' : World) : Prop :=
  ∃ a n c, e = .returned (.tuple #[.agg #[.string ⟨l.toArray⟩, .string ⟨s.toArray⟩, .string ⟨r.toArray⟩, .slice a n c], .bool is]) ∧ StrsAt w' (.slice a n c) vs ∧ Nil0 (.slice a n c) ∧ (∀ q, q < w.heap.size → NotRow (some q) V → NotRow (some q) (.slice a n c)) ∧ Below w.heap.size w w'

set_option maxRecDepth 100000 in
set_option maxHeartbeats 2000000 in
theorem less_v (l s r : List UInt8) (vs : List (List UInt8)) (ad : Addr) (cap : Nat) (w : World) (hn : 0 < vs.length) (hl : vs.length ≤ 1000000000) (hc : vs.length ≤ cap)
    (hv : ∀ (j : Nat) u, (vs.map txtV)[j]? = some u → w.cell? (ad.add j) = some u) :
    Calls Tryd.prog 53 #[.agg #[.string ⟨l.toArray⟩, .string ⟨s.toArray⟩, .string ⟨r.toArray⟩, .slice (some ad) vs.length cap]] w (LessPost w l s r (vs.take (vs.length - 1)) (.slice (some ad) vs.length cap) true) := by
  obtain ⟨i0, hi, hz0, hz1, hz2⟩ := info_parts infoStr
  obtain ⟨b, hbx⟩ : ∃ b, b = w.heap.size := ⟨_, rfl⟩
  have HV := Lib.hid (show ∀ wx, Below w.heap.size w wx → ∀ (j : Nat) u, ((vs.take (vs.length - 1)).map txtV)[j]? = some u → wx.cell? (ad.add j) = some u from fun wx hb j u hu => cell_keep (hv j u (by
    have hj := (List.getElem?_eq_some_iff.1 hu).1
    rw [List.length_map, List.length_take] at hj
    rw [List.map_take, List.getElem?_take, if_pos (by omega)] at hu
    exact hu)) hb)
  have HL := Lib.hid (show ((vs.take (vs.length - 1)).map txtV).length = (vs.length - 1) * 1 by rw [List.length_map, List.length_take]; omega)
  have HTL := Lib.hid (show (vs.take (vs.length - 1)).length = vs.length - 1 by rw [List.length_take]; omega)
  generalize vs.take (vs.length - 1) = vt at *
  clear hv
  have hgt : (((vs.length : Nat) : Int) > 0) := by omega
  generalize vs.length = N at *
  obtain ⟨M, rfl⟩ : ∃ M, N = M + 1 := ⟨N - 1, by omega⟩
  rw [Nat.add_sub_cancel] at HL HTL
  have OM := own_made (w := (w.alloc (.cells #[.string ⟨l.toArray⟩, .string ⟨s.toArray⟩, .string ⟨r.toArray⟩, .slice (some ad) (M + 1) cap] 24)).alloc (.cells #[.string ByteArray.empty, .string ByteArray.empty, .string ByteArray.empty, .slice none 0 0] 24)) (base := w.heap.size + 2) (q := w.heap.size + 1 + 1) (by omega) (by simp) [] 9 (by unfold maxLen; simp)
  have B1 : Boxed (((w.alloc (.cells #[.string ⟨l.toArray⟩, .string ⟨s.toArray⟩, .string ⟨r.toArray⟩, .slice (some ad) (M + 1) cap] 24)).alloc (.cells #[.string ByteArray.empty, .string ByteArray.empty, .string ByteArray.empty, .slice none 0 0] 24)).alloc (.cells ([] : List Value).toArray 9)) w.heap.size #[.string ⟨l.toArray⟩, .string ⟨s.toArray⟩, .string ⟨r.toArray⟩, .slice (some ad) (M + 1) cap] := ((Boxed.made _ _ _).alloc _).alloc _
  have B2 : Boxed (((w.alloc (.cells #[.string ⟨l.toArray⟩, .string ⟨s.toArray⟩, .string ⟨r.toArray⟩, .slice (some ad) (M + 1) cap] 24)).alloc (.cells #[.string ByteArray.empty, .string ByteArray.empty, .string ByteArray.empty, .slice none 0 0] 24)).alloc (.cells ([] : List Value).toArray 9)) (w.heap.size + 1) #[.string ByteArray.empty, .string ByteArray.empty, .string ByteArray.empty, .slice none 0 0] := ((Boxed.made (w.alloc (.cells #[.string ⟨l.toArray⟩, .string ⟨s.toArray⟩, .string ⟨r.toArray⟩, .slice (some ad) (M + 1) cap] 24)) _ _).at (by simp)).alloc _
  have W0 : Below w.heap.size w (((w.alloc (.cells #[.string ⟨l.toArray⟩, .string ⟨s.toArray⟩, .string ⟨r.toArray⟩, .slice (some ad) (M + 1) cap] 24)).alloc (.cells #[.string ByteArray.empty, .string ByteArray.empty, .string ByteArray.empty, .slice none 0 0] 24)).alloc (.cells ([] : List Value).toArray 9)) := blw_trans (blw_trans (blw_alloc _ _) (blw_alloc _ _)) (blw_alloc _ _)
  have HB := Lib.hid (And.intro B1 (And.intro B2 W0))
  clear B1 B2 W0
  go_enter Tryd.func53, Tryd.ntmps53
  go_wp2_with (at_builtin; refine wpList_append_own_at _ rfl (.tmp 12) (.tmp 17) 22 rfl (w.heap.size + 2) 9 i0 (.string ByteArray.empty) 1 16 Tryd.underlying22 hi hz0 hz1 hz2 rfl (by decide) _ 0 [] rfl (show World.ownsRow _ _ _ _ (.slice (some ⟨w.heap.size + 1 + 1, 0, none⟩) 0 0) 0 [] from OM) ad M cap (vt.map txtV) rfl HL.out (HV.out _ HB.out.2.2) (fun x hx => by obtain ⟨y, _, rfl⟩ := List.mem_map.1 hx; rfl) (by unfold maxLen; omega) (by omega) (by simp) ?_; intro v' w2 hown hgrow _ _; have HOW := Lib.hid hown; have hg2 := (show World.grownBy _ _ (some (w.heap.size + 1 + 1)) from hgrow); have C1 := Lib.hid (HB.out.1.grown hg2 (by intro e; injection e with e; omega)); have C2 := Lib.hid (HB.out.2.1.grown hg2 (by intro e; injection e with e; omega)); have CB := Lib.hid (HB.out.2.2.grown hg2 (by simp; omega) (fun k hk => by injection hk with hk; omega)); clear hown hgrow hg2 OM; have HN7 := Lib.hid (Nil0.of_row HOW.out); have HF7 := Lib.hid (FarV.of_row HOW.out); have HV7 := Lib.hid (show StrsAt w2 v' vt from StrsAt.of_row (by have h7 := HOW.out; rw [List.nil_append] at h7; exact h7)); clear HOW; obtain ⟨x0, n0, cp0, rfl⟩ := HV7.out.isSlice; have k0 := C1.out.cell 0 _ rfl; have k1 := C1.out.cell 1 _ rfl; have k2 := C1.out.cell 2 _ rfl; have k3 := C1.out.cell 3 _ rfl; have f3 := C1.out.free 3 (by simp); have rc0 := C2.out.cell 0 _ rfl; have rc1 := C2.out.cell 1 _ rfl; have rc2 := C2.out.cell 2 _ rfl; have rc3 := C2.out.cell 3 _ rfl; have rf0 := C2.out.free 0 (by simp); have rf1 := C2.out.free 1 (by simp); have rf2 := C2.out.free 2 (by simp); have rf3 := C2.out.free 3 (by simp))
  refine bodyPost_ret (v := .tuple #[.agg #[.string ⟨l.toArray⟩, .string ⟨s.toArray⟩, .string ⟨r.toArray⟩, .slice x0 n0 cp0], .bool true]) (by simp [results, Tryd.results53, go_sem, rc0, rc1, rc2, rc3]) rfl ?_
  refine ⟨x0, n0, cp0, rfl, ?_, HN7.out, fun q hq _ => HF7.out.not (by omega), ?_⟩
  · repeat (first | with_reducible exact HV7.out | refine StrsAt.setCell ?_ HF7.out _ (by simp) _)
  · repeat (first | with_reducible exact CB.out | refine Below.setCell ?_ (by simp) _)

set_option maxRecDepth 100000 in
set_option maxHeartbeats 2000000 in
theorem less_r (l s r : List UInt8) (a : Option Addr) (c : Nat) (w : World) (h0 : Nil0 (.slice a 0 c)) (hr : r.isEmpty = false) :
    Calls Tryd.prog 53 #[.agg #[.string ⟨l.toArray⟩, .string ⟨s.toArray⟩, .string ⟨r.toArray⟩, .slice a 0 c]] w (LessPost w l s [] [] (.slice a 0 c) true) := by
  go_enter Tryd.func53, Tryd.ntmps53
  go_wp2_with fail
  refine bodyPost_ret (v := .tuple #[.agg #[.string ⟨l.toArray⟩, .string ⟨s.toArray⟩, .string ⟨#[]⟩, .slice a 0 c], .bool true]) (by simp [results, Tryd.results53, go_sem]) rfl ?_
  refine ⟨a, 0, c, rfl, .inl ⟨rfl, _, _, rfl⟩, h0, fun q hq h => h, ?_⟩
  repeat (first | exact Below.refl _ _ | refine Below.setCell ?_ (by simp) _ | refine Below.alloc ?_ (by simp) _)

set_option maxRecDepth 100000 in
set_option maxHeartbeats 2000000 in
theorem less_s (l s : List UInt8) (a : Option Addr) (c : Nat) (w : World) (h0 : Nil0 (.slice a 0 c)) (hs : s.isEmpty = false) :
    Calls Tryd.prog 53 #[.agg #[.string ⟨l.toArray⟩, .string ⟨s.toArray⟩, .string ⟨#[]⟩, .slice a 0 c]] w (LessPost w l [] [] [] (.slice a 0 c) true) := by
  go_enter Tryd.func53, Tryd.ntmps53
  go_wp2_with fail
  refine bodyPost_ret (v := .tuple #[.agg #[.string ⟨l.toArray⟩, .string ⟨#[]⟩, .string ⟨#[]⟩, .slice a 0 c], .bool true]) (by simp [results, Tryd.results53, go_sem]) rfl ?_
  refine ⟨a, 0, c, rfl, .inl ⟨rfl, _, _, rfl⟩, h0, fun q hq h => h, ?_⟩
  repeat (first | exact Below.refl _ _ | refine Below.setCell ?_ (by simp) _ | refine Below.alloc ?_ (by simp) _)

set_option maxRecDepth 100000 in
set_option maxHeartbeats 2000000 in
theorem less_n (l : List UInt8) (a : Option Addr) (c : Nat) (w : World) (h0 : Nil0 (.slice a 0 c)) :
    Calls Tryd.prog 53 #[.agg #[.string ⟨l.toArray⟩, .string ⟨#[]⟩, .string ⟨#[]⟩, .slice a 0 c]] w (LessPost w l [] [] [] (.slice a 0 c) false) := by
  go_enter Tryd.func53, Tryd.ntmps53
  go_wp2_with fail
  refine bodyPost_ret (v := .tuple #[.agg #[.string ⟨l.toArray⟩, .string ⟨#[]⟩, .string ⟨#[]⟩, .slice a 0 c], .bool false]) (by simp [results, Tryd.results53, go_sem]) rfl ?_
  refine ⟨a, 0, c, rfl, .inl ⟨rfl, _, _, rfl⟩, h0, fun q hq h => h, ?_⟩
  repeat (first | exact Below.refl _ _ | refine Below.setCell ?_ (by simp) _ | refine Below.alloc ?_ (by simp) _)

theorem less_any (t : Tg) (V : Value) (w : World) (hV : StrsAt w V t.vs) (h0 : Nil0 V) (hl : t.vs.length ≤ 1000000000) :
    Calls Tryd.prog 53 #[.agg #[.string ⟨t.l.toArray⟩, .string ⟨t.s.toArray⟩, .string ⟨t.r.toArray⟩, V]] w (LessPost w (t.less.getD t).l (t.less.getD t).s (t.less.getD t).r (t.less.getD t).vs V t.less.isSome) := by
  obtain ⟨l, s, r, vs⟩ := t
  dsimp only at hV hl
  rcases hV with ⟨rfl, a, cap, rfl⟩ | ⟨b, off, cap, rfl, hn, hc, _, hcell⟩
  · by_cases hr : r = []
    · subst hr
      by_cases hs : s = []
      · subst hs; exact less_n l a cap w h0
      · have e : (⟨l, s, [], []⟩ : Tg).less = some ⟨l, [], [], []⟩ := by unfold Tg.less; rw [if_neg (by simp), if_pos rfl, if_neg hs]
        rw [e]
        exact less_s l s a cap w h0 (by cases s with | nil => exact absurd rfl hs | cons _ _ => rfl)
    · have e : (⟨l, s, r, []⟩ : Tg).less = some ⟨l, s, [], []⟩ := by unfold Tg.less; rw [if_neg (by simp), if_neg hr]
      rw [e]
      exact less_r l s r a cap w h0 (by cases r with | nil => exact absurd rfl hr | cons _ _ => rfl)
  · have e : (⟨l, s, r, vs⟩ : Tg).less = some ⟨l, s, r, vs.take (vs.length - 1)⟩ := by unfold Tg.less; rw [if_pos hn]
    rw [e]
    exact less_v l s r vs ⟨b, off, none⟩ cap w hn hl hc (fun j u hu => by
      rw [List.getElem?_map] at hu
      obtain ⟨x, hx, rfl⟩ := Option.map_eq_some_iff.1 hu
      rw [show (⟨b, off, none⟩ : Addr).add j = ⟨b, off + j, none⟩ from Go.WideShapes.add_plain ..]
      exact hcell j x hx)
end Go.Proofs.YtlhleojigcnjeaaDoor
namespace Go.Proofs.YtlhleojigcnjeaaDoor
open Go.RowKit

/-- the row o holds the tags A; the box p holds the tag c -/
structure ChM (w wr : World) (o : Value) (A : List (Tg × Value)) (p : Nat) (c : Tg) (V : Value) : Prop where
  bel : Below w.heap.size w wr
  own : wr.ownsRow w.heap.size 24 4 o A.length (flat A)
  all : ∀ x ∈ (c, V) :: A, StrsAt wr x.2 x.1.vs ∧ Nil0 x.2 ∧ NotRow o.ownBlock x.2
  box : Boxed wr p (tcells c V).toArray
  pw : w.heap.size ≤ p
  pn : some p ≠ o.ownBlock
theorem ChM.mid {w wr w2 : World} {o o' : Value} {A : List (Tg × Value)} {p : Nat} {c : Tg} {V : Value} {ob : Obj} (h : ChM w wr o A p c V)
    (hown : w2.ownsRow w.heap.size 24 4 o' (A.length + 1) (flat A ++ tcells c V)) (hg : (wr.alloc ob).grownBy w2 o.ownBlock) (hat : o'.ownBlock = o.ownBlock ∨ o'.ownBlock = some (wr.alloc ob).heap.size) :
    ChM w w2 o' (A ++ [(c, V)]) p c V := by
  have hsz : (wr.alloc ob).heap.size = wr.heap.size + 1 := by simp
  refine ⟨(h.bel.alloc h.bel.size _).grown hg (by have := h.bel.size; omega) (fun k hk => (h.own.lt k hk).1), ?_, ?_, (h.box.alloc _).grown hg h.pn, h.pw, ?_⟩
  · rw [flat_snoc, List.length_append, List.length_singleton]; exact hown
  · intro x hx
    have hx' : x ∈ (c, V) :: A := by
      rcases List.mem_cons.1 hx with rfl | hx
      · exact List.mem_cons_self ..
      · rcases List.mem_append.1 hx with hx | hx
        · exact List.mem_cons_of_mem _ hx
        · rw [List.mem_singleton.1 hx]; exact List.mem_cons_self ..
    obtain ⟨a1, a2, a3⟩ := h.all x hx'
    refine ⟨(a1.alloc ob).grown hg a3, a2, ?_⟩
    rcases hat with e | e
    · rw [e]; exact a3
    · rw [e]; exact a1.old (by omega)
  · rcases hat with e | e
    · rw [e]; exact h.pn
    · rw [e]; have := h.box.lt; intro g; injection g with g; omega
theorem ChM.next {w w2 w3 : World} {o : Value} {A : List (Tg × Value)} {p : Nat} {c : Tg} {V : Value} (h : ChM w w2 o A p c V) (u : Tg) (V' : Value)
    (hb : Below (w2.alloc (.cells (tcells c V).toArray 24)).heap.size (w2.alloc (.cells (tcells c V).toArray 24)) w3) (hs : StrsAt w3 V' u.vs) (h0 : Nil0 V')
    (hf : ∀ q, q < (w2.alloc (.cells (tcells c V).toArray 24)).heap.size → NotRow (some q) V → NotRow (some q) V') :
    ChM w ((((w3.setCell ⟨w2.heap.size, 0, none⟩ (.string ⟨u.l.toArray⟩)).setCell ⟨w2.heap.size, 1, none⟩ (.string ⟨u.s.toArray⟩)).setCell ⟨w2.heap.size, 2, none⟩ (.string ⟨u.r.toArray⟩)).setCell ⟨w2.heap.size, 3, none⟩ V') o A w2.heap.size u V' := by
  have hsz : (w2.alloc (.cells (tcells c V).toArray 24)).heap.size = w2.heap.size + 1 := by simp
  have g0 : w2.grownBy w3 none := (World.grownBy_alloc w2 _ none).trans (grown_below hb none)
  have g4 := grown_new (grown_new (grown_new (grown_new g0 (grown_set w3 ⟨w2.heap.size, 0, none⟩ (.string ⟨u.l.toArray⟩)) (Nat.le_refl _)) (grown_set _ ⟨w2.heap.size, 1, none⟩ (.string ⟨u.s.toArray⟩)) (Nat.le_refl _)) (grown_set _ ⟨w2.heap.size, 2, none⟩ (.string ⟨u.r.toArray⟩)) (Nat.le_refl _)) (grown_set _ ⟨w2.heap.size, 3, none⟩ V') (Nat.le_refl _)
  have hVc := h.all _ (List.mem_cons_self ..)
  have hp : NotRow (some w2.heap.size) V' := hf _ (by omega) (hVc.1.old (Nat.le_refl _))
  have hbx := ((((Boxed.made w2 (tcells c V).toArray 24).below hb).set 0 (.string ⟨u.l.toArray⟩) (by simp [tcells])).set 1 (.string ⟨u.s.toArray⟩) (by simp [tcells])).set 2 (.string ⟨u.r.toArray⟩) (by simp [tcells]) |>.set 3 V' (by simp [tcells])
  refine ⟨h.bel.grown g4 h.bel.size (fun k hk => by cases hk), h.own.kept g4 (by cases o.ownBlock <;> simp), ?_, by simpa [tcells] using hbx, h.bel.size, ?_⟩
  · intro x hx
    rcases List.mem_cons.1 hx with rfl | hx
    · refine ⟨(((hs.put _ hp _).put _ hp _).put _ hp _).put _ hp _, h0, ?_⟩
      cases e : o.ownBlock with
      | none => exact NotRow.none _
      | some g =>
        have hl := (h.own.lt g e).2
        exact hf g (by omega) (by have := hVc.2.2; rw [e] at this; exact this)
    · obtain ⟨a1, a2, a3⟩ := h.all x (List.mem_cons_of_mem _ hx)
      exact ⟨a1.grown g4 (NotRow.none _), a2, a3⟩
  · intro e
    have := (h.own.lt _ e.symm).2
    omega
theorem ChM.start {w w4 w6 : World} (hbel : Below w.heap.size w w4) (t : Tg) (V1 : Value) (h1 : StrsAt w4 V1 t.vs) (h0 : Nil0 V1) (u : Tg) (V2 : Value)
    (hb : Below (w4.alloc (.cells (tcells t V1).toArray 24)).heap.size (w4.alloc (.cells (tcells t V1).toArray 24)) w6) (hs : StrsAt w6 V2 u.vs) (h0' : Nil0 V2)
    (hf : ∀ q, q < (w4.alloc (.cells (tcells t V1).toArray 24)).heap.size → NotRow (some q) V1 → NotRow (some q) V2) :
    ChM w (w6.alloc (.cells (tcells u V2).toArray 24)) (.slice (some ⟨w4.heap.size, 0, none⟩) 1 1) [(t, V1)] w6.heap.size u V2 := by
  have hsz : (w4.alloc (.cells (tcells t V1).toArray 24)).heap.size = w4.heap.size + 1 := by simp
  have hle := hb.size
  have hb4 := hbel.size
  have n1 : NotRow (some w4.heap.size) V1 := h1.old (Nat.le_refl _)
  have row : (w4.alloc (.cells (tcells t V1).toArray 24)).ownsRow w.heap.size 24 4 (.slice (some ⟨w4.heap.size, 0, none⟩) 1 1) 1 (flat [(t, V1)]) :=
    ⟨rfl, .inr ⟨w4.heap.size, 1, (tcells t V1).toArray, rfl, hb4, by show (w4.heap.push _)[w4.heap.size]? = _; simp, Nat.le_refl _, by unfold maxLen; omega, rfl, rfl⟩⟩
  have hb6 : Below w.heap.size w w6 := blw_trans (hbel.alloc hb4 _) hb
  refine ⟨hb6.alloc hb6.size _, (row.kept (grown_below hb none) (.inr (by simp [Value.ownBlock]))).alloc _, ?_, Boxed.made _ _ _, by omega, by simp [Value.ownBlock]; omega⟩
  intro x hx
  rcases List.mem_cons.1 hx with rfl | hx
  · exact ⟨hs.alloc _, h0', hf w4.heap.size (by rw [hsz]; omega) n1⟩
  · obtain rfl := List.mem_singleton.1 hx
    exact ⟨((h1.alloc _).below hb).alloc _, h0, n1⟩
theorem Boxed.t0 {w : World} {p : Nat} {c : Tg} {V : Value} (h : Boxed w p (tcells c V).toArray) : w.cell? ⟨p, 0, none⟩ = some (.string ⟨c.l.toArray⟩) := h.cell 0 _ rfl
theorem Boxed.t1 {w : World} {p : Nat} {c : Tg} {V : Value} (h : Boxed w p (tcells c V).toArray) : w.cell? ⟨p, 1, none⟩ = some (.string ⟨c.s.toArray⟩) := h.cell 1 _ rfl
theorem Boxed.t2 {w : World} {p : Nat} {c : Tg} {V : Value} (h : Boxed w p (tcells c V).toArray) : w.cell? ⟨p, 2, none⟩ = some (.string ⟨c.r.toArray⟩) := h.cell 2 _ rfl
theorem Boxed.t3 {w : World} {p : Nat} {c : Tg} {V : Value} (h : Boxed w p (tcells c V).toArray) : w.cell? ⟨p, 3, none⟩ = some (V) := h.cell 3 _ rfl
theorem row_slice {w : World} {base n k : Nat} {e : TypeId} {v : Value} {xs : List Value} (h : w.ownsRow base e k v n xs) : ∃ a c, v = .slice a n c := by
  obtain ⟨_, ⟨rfl, rfl⟩ | ⟨g, cap, cur, rfl, _⟩⟩ := h
  · exact ⟨_, _, rfl⟩
  · exact ⟨_, _, rfl⟩
def lenV : Value → Nat
  | .slice _ n _ => n
  | _ => 0
theorem less_vs {t u : Tg} (h : t.less = some u) : u.vs.length ≤ t.vs.length := by
  unfold Tg.less at h
  split at h
  · obtain rfl := Option.some.inj h
    rw [List.length_take]; omega
  · split at h
    · split at h
      · cases h
      · obtain rfl := Option.some.inj h; exact Nat.le_refl _
    · obtain rfl := Option.some.inj h; exact Nat.le_refl _
theorem chain_small : ∀ (n : Nat) (t : Tg), t.size = n → t.chain.length ≤ n + 1 ∧ ∀ x ∈ t.chain, x.vs.length ≤ t.vs.length
  | 0, t, hn => by
    have hl : t.less = none := by
      cases e : t.less with
      | none => rfl
      | some u => have := less_size e; omega
    rw [chain_none hl]
    exact ⟨Nat.le_refl _, fun x hx => by rw [List.mem_singleton.1 hx]; exact Nat.le_refl _⟩
  | n + 1, t, hn => by
    cases e : t.less with
    | none =>
      rw [chain_none e]
      exact ⟨by simp, fun x hx => by rw [List.mem_singleton.1 hx]; exact Nat.le_refl _⟩
    | some u =>
      have hs := less_size e
      obtain ⟨h1, h2⟩ := chain_small n u (by omega)
      rw [chain_some e]
      refine ⟨by simpa using h1, fun x hx => ?_⟩
      rcases List.mem_cons.1 hx with rfl | hx
      · exact Nat.le_refl _
      · exact Nat.le_trans (h2 x hx) (less_vs e)
theorem chain_step (c : Tg) : c.chain = c :: (if c.less.isSome then (c.less.getD c).chain else []) := by
  cases e : c.less with
  | none => rw [chain_none e]; rfl
  | some u => rw [chain_some e]; rfl
theorem chain_self (c : Tg) : c ∈ c.chain := by rw [chain_step]; exact List.mem_cons_self ..
theorem chain_turn {L : List Tg} {A : List (Tg × Value)} {c : Tg} (V : Value) (h : L = A.map (·.1) ++ (if true = true then c.chain else [])) : L = (A ++ [(c, V)]).map (·.1) ++ (if c.less.isSome then (c.less.getD c).chain else []) := by
  rw [h, if_pos rfl, List.map_append, List.append_assoc]
  exact congrArg (A.map (·.1) ++ ·) (chain_step c)
end Go.Proofs.YtlhleojigcnjeaaDoor
namespace Go.Proofs.YtlhleojigcnjeaaDoor
open Go.RowKit

theorem infoTag : (Tryd.prog.info? 24).map (fun i => (i.zero, i.size, i.bytes)) = some (some (.agg #[.string ByteArray.empty, .string ByteArray.empty, .string ByteArray.empty, .slice none 0 0]), 4, 72) := by kernel_rfl
theorem cells_new (w : World) (xs : List Value) (t : TypeId) : ∀ j u, xs[j]? = some u → (w.alloc (.cells xs.toArray t)).cell? ((⟨w.heap.size, 0, none⟩ : Addr).add j) = some u := by
  intro j u hj
  rw [show (⟨w.heap.size, 0, none⟩ : Addr).add j = ⟨w.heap.size, 0 + j, none⟩ from Go.WideShapes.add_plain .., Nat.zero_add]
  simp [go_sem, hj]
theorem tcells_one (t : Tg) (a : Option Addr) (n c : Nat) : ∀ u ∈ tcells t (.slice a n c), u.oneCell' = true := by
  intro u hu
  simp [tcells] at hu
  rcases hu with rfl | rfl | rfl | rfl <;> rfl

set_option maxRecDepth 100000 in
set_option maxHeartbeats 1000000 in
theorem chain_bad (l s r : List UInt8) (vs : List (List UInt8)) (V : Value) (w : World) (hV : StrsAt w V vs) (bl : l.length + s.length + r.length ≤ 1000000000) (bv : ∀ x ∈ vs, x.length ≤ 1000000000) (hF : tagFault l s r vs ≠ 0) :
    Calls Tryd.prog 19 #[.agg #[.string ⟨l.toArray⟩, .string ⟨s.toArray⟩, .string ⟨r.toArray⟩, V]] w fun e w' => e = .returned (.tuple #[.slice none 0 0, errE (tagFault l s r vs)]) ∧ Below w.heap.size w w' := by
  have CK := Lib.hid fun wx h => check_any l s r vs V wx h bl bv
  obtain ⟨a, n, c, rfl⟩ := hV.isSlice
  generalize tagFault l s r vs = Fl at *
  rw [errE_some hF] at CK ⊢
  go_enter Tryd.func19, Tryd.ntmps19
  go_wp2_with fail
  refine (CK.out _ (hV.alloc _)).mono ?_
  rintro e w1 ⟨rfl, hb⟩
  go_wp2_with fail
  go_ret2
  exact ⟨rfl, blw_trans (blw_alloc _ _) hb⟩

set_option maxRecDepth 100000 in
set_option maxHeartbeats 4000000 in
theorem chain_ok_nil (l s r : List UInt8) (w : World) (hV : StrsAt w (.slice none 0 0) []) (bt : l.length + s.length + r.length + Lib.lens ([] : List (List UInt8)) + ([] : List (List UInt8)).length ≤ 100000000) (hF : tagFault l s r [] = 0) :
    Calls Tryd.prog 19 #[.agg #[.string ⟨l.toArray⟩, .string ⟨s.toArray⟩, .string ⟨r.toArray⟩, .slice none 0 0]] w fun e w' => ∃ v, e = .returned (.tuple #[v, .nilIface]) ∧ TagsAt w' v (⟨l, s, r, []⟩ : Tg).chain ∧ Below w.heap.size w w' := by
  obtain ⟨vs, hvs⟩ : ∃ vs : List (List UInt8), vs = [] := ⟨_, rfl⟩
  rw [← hvs] at hV bt hF ⊢
  obtain ⟨i0, hi, hz0, hz1, hz2⟩ := info_parts infoStr
  obtain ⟨iT, hiT, hT0, hT1, hT2⟩ := info_parts infoTag
  have CK := Lib.hid fun wx h => check_any l s r vs (.slice none 0 0) wx h (by omega) (fun x hx => by have := lens_mem hx; omega)
  rw [hF, errE_nil rfl] at CK
  have LC := Lib.hid fun t V w h h0 hl => less_any t V w h h0 hl
  have bvs : vs.length ≤ 1000000000 := by omega
  have HCS0 := Lib.hid (chain_small _ (⟨l, s, r, vs⟩ : Tg) rfl)
  have hszT : (⟨l, s, r, vs⟩ : Tg).size ≤ 1000000005 := by
    have a1 : (one s).length ≤ 1 := by unfold one; split <;> simp
    have a2 : (one r).length ≤ 1 := by unfold one; split <;> simp
    show (one s).length + ((one r).length + vs.length) ≤ _
    omega
  obtain ⟨t0, ht0⟩ : ∃ t0 : Tg, t0 = ⟨l, s, r, vs⟩ := ⟨_, rfl⟩
  have HT0 := Lib.hid (show t0.chain = (⟨l, s, r, vs⟩ : Tg).chain by rw [ht0])
  have HCS := Lib.hid (show t0.chain.length ≤ 1000000006 ∧ ∀ x ∈ t0.chain, x.vs.length ≤ vs.length by rw [ht0]; exact ⟨Nat.le_trans HCS0.out.1 (by omega), HCS0.out.2⟩)
  have bvs0 := bvs
  have HV0 := Lib.hid hV
  clear ht0 HCS0 hF hV
  go_enter Tryd.func19, Tryd.ntmps19
  go_wp2_with fail
  refine (CK.out _ (HV0.out.alloc _)).mono ?_
  rintro e w1 ⟨rfl, hb⟩
  have W1 := Lib.hid (blw_trans (blw_alloc w (.cells #[.string ⟨l.toArray⟩, .string ⟨s.toArray⟩, .string ⟨r.toArray⟩, .slice none 0 0] 24)) hb)
  have B1 := Lib.hid ((Boxed.made w #[.string ⟨l.toArray⟩, .string ⟨s.toArray⟩, .string ⟨r.toArray⟩, .slice none 0 0] 24).below hb)
  have hsz1 := hb.size
  rw [show (w.alloc (.cells #[.string ⟨l.toArray⟩, .string ⟨s.toArray⟩, .string ⟨r.toArray⟩, .slice none 0 0] 24)).heap.size = w.heap.size + 1 by simp] at hsz1
  clear hb CK
  have k0 := B1.out.cell 0 _ rfl
  have k1 := B1.out.cell 1 _ rfl
  have k2 := B1.out.cell 2 _ rfl
  have k3 := B1.out.cell 3 _ rfl
  have f3 := B1.out.free 3 (by simp)
  have S4 := Lib.hid (show Below w.heap.size w (w1.setCell ⟨w.heap.size, 3, none⟩ (.slice none 0 0)) ∧ StrsAt (w1.setCell ⟨w.heap.size, 3, none⟩ (.slice none 0 0)) (.slice none 0 0) vs ∧ Nil0 (.slice none 0 0) from
    ⟨W1.out.setCell (Nat.le_refl _) _, .inl ⟨hvs, none, 0, rfl⟩, fun n c e => by injection e with _ _ e; exact e.symm⟩)
  clear hvs
  have hl1 : w.heap.size < w1.heap.size := by omega
  have ne1 : ¬ w.heap.size = w1.heap.size := by omega
  have ne2 : ¬ w1.heap.size = w.heap.size := by omega
  go_wp2_with (at_builtin; refine wpList_append_own_none rfl _ _ 22 rfl (w.heap.size + 1) 9 i0 1 Tryd.underlying22 hi _ 0 [] rfl ⟨rfl, .inl ⟨rfl, rfl⟩⟩ rfl ?_)
  refine (LC.out ⟨l, s, r, vs⟩ (.slice none 0 0) _ (S4.out.2.1.alloc _) S4.out.2.2 bvs).mono ?_
  rintro e w6 ⟨a2, n2, c2, rfl, hs2, hz2', hf2, hb2⟩
  have M0 := Lib.hid (ChM.start S4.out.1 ⟨l, s, r, vs⟩ (.slice none 0 0) S4.out.2.1 S4.out.2.2 _ _ hb2 hs2 hz2' hf2)
  rw [size_setCell] at M0
  have HC0 := Lib.hid (show t0.chain = [((⟨l, s, r, vs⟩ : Tg), Value.slice none 0 0)].map (·.1) ++ (if (⟨l, s, r, vs⟩ : Tg).less.isSome then ((⟨l, s, r, vs⟩ : Tg).less.getD ⟨l, s, r, vs⟩).chain else []) by rw [HT0.out]; exact chain_step _)
  clear hs2 hz2' hf2 hb2 S4
  generalize (⟨l, s, r, vs⟩ : Tg).less.isSome = is0 at *
  generalize (⟨l, s, r, vs⟩ : Tg).less.getD ⟨l, s, r, vs⟩ = u0 at *
  go_wp2_with fail
  go_loopw [5, 6, 7] (fun o p b wr => ∃ (A : List (Tg × Value)) (pp : Nat) (c : Tg) (a : Option Addr) (n cp : Nat) (ao : Option Addr) (co : Nat) (is : Bool), o = .slice ao A.length co ∧ p = .pointer (some ⟨pp, 0, none⟩) ∧ b = .bool is ∧ Hid (ChM w wr (.slice ao A.length co) A pp c (.slice a n cp)) ∧ Hid (t0.chain = A.map (·.1) ++ (if is then c.chain else []))) (fun o _ _ _ => t0.chain.length - lenV o)
  case atStart => exact ⟨[(⟨l, s, r, vs⟩, .slice none 0 0)], w6.heap.size, u0, a2, n2, c2, _, 1, is0, rfl, rfl, rfl, M0, HC0⟩
  case round =>
    obtain ⟨A, pp, c, a, n, cp, ao, co, is, rfl, rfl, rfl, HM, HC⟩ := hrel
    clear M0 HC0
    cases is with
    | false =>
      have HE := Lib.hid (show t0.chain = A.map (·.1) by rw [HC.out]; simp)
      go_wp2_with fail
      go_ret2
      exact ⟨_, rfl, by rw [← HT0.out, HE.out]; exact TagsAt.of_row HM.out.own (fun x hx => ⟨(HM.out.all x (List.mem_cons_of_mem _ hx)).1, (HM.out.all x (List.mem_cons_of_mem _ hx)).2.1⟩), HM.out.bel⟩
    | true =>
      have hcl : A.length < t0.chain.length := by
        have e := congrArg List.length HC.out
        rw [List.length_append, List.length_map, if_pos rfl, chain_step c] at e
        rw [e]; simp
      have hcv : c.vs.length ≤ 1000000000 := Nat.le_trans (HCS.out.2 c (by rw [HC.out, if_pos rfl]; exact List.mem_append_right _ (chain_self c))) bvs0
      have hal : A.length ≤ 1000000010 := by have := HCS.out.1; omega
      have HC' := Lib.hid (show t0.chain = (A ++ [(c, Value.slice a n cp)]).map (·.1) ++ (if c.less.isSome then (c.less.getD c).chain else []) from chain_turn _ HC.out)
      have hbs := HM.out.bel.size
      have own := HM.out.own
      have k0 := HM.out.box.t0
      have k1 := HM.out.box.t1
      have k2 := HM.out.box.t2
      have k3 := HM.out.box.t3
      clear HC
      go_wp2_with (at_builtin; refine wpList_append_own_at _ rfl _ _ 35 rfl w.heap.size 24 iT _ 4 72 Tryd.underlying35 hiT hT0 hT1 hT2 rfl (by decide) _ A.length (flat A) rfl (own.alloc _) ⟨wr.heap.size, 0, none⟩ 1 1 (tcells c (.slice a n cp)) rfl rfl (cells_new _ _ _) (tcells_one _ _ _ _) (by unfold maxLen; omega) (by omega) (by simp; omega) ?_; intro o' w2 hown hgrow _ hat; have M2 := Lib.hid (HM.out.mid hown hgrow hat); obtain ⟨ao', co', rfl⟩ := row_slice hown; clear hown hgrow hat own k0 k1 k2 k3; have k0 := M2.out.box.t0; have k1 := M2.out.box.t1; have k2 := M2.out.box.t2; have k3 := M2.out.box.t3)
      refine (LC.out c (.slice a n cp) _ ((M2.out.all _ (List.mem_cons_self ..)).1.alloc _) (M2.out.all _ (List.mem_cons_self ..)).2.1 hcv).mono ?_
      rintro e w3 ⟨a3, n3, c3, rfl, hs3, hz3, hf3, hb3⟩
      have N3 := Lib.hid (M2.out.next _ (.slice a3 n3 c3) hb3 hs3 hz3 hf3)
      have B3 := Lib.hid ((Boxed.made w2 (tcells c (.slice a n cp)).toArray 24).below hb3)
      clear k0 k1 k2 k3 hs3 hz3 hf3 hb3 HM M2
      have f0 := B3.out.free 0 (by simp [tcells])
      have f1 := B3.out.free 1 (by simp [tcells])
      have f2 := B3.out.free 2 (by simp [tcells])
      have f3 := B3.out.free 3 (by simp [tcells])
      have k0 := B3.out.t0
      have k1 := B3.out.t1
      have k2 := B3.out.t2
      have k3 := B3.out.t3
      generalize c.less.isSome = is1 at *
      generalize c.less.getD c = u1 at *
      go_wp2_with fail
      go_roundw
      case rel => exact ⟨A ++ [(c, .slice a n cp)], w2.heap.size, u1, a3, n3, c3, ao', co', is1, by rw [List.length_append, List.length_singleton], rfl, rfl, Lib.hid (by have q := N3.out; rw [List.length_append, List.length_singleton]; exact q), HC'⟩
      case measure => simp [lenV]; omega

set_option maxRecDepth 100000 in
set_option maxHeartbeats 4000000 in
theorem chain_ok_some (l s r : List UInt8) (vs : List (List UInt8)) (ad : Addr) (cap : Nat) (w : World) (hV : StrsAt w (.slice (some ad) vs.length cap) vs) (bt : l.length + s.length + r.length + Lib.lens vs + vs.length ≤ 100000000) (hF : tagFault l s r vs = 0) :
    Calls Tryd.prog 19 #[.agg #[.string ⟨l.toArray⟩, .string ⟨s.toArray⟩, .string ⟨r.toArray⟩, .slice (some ad) vs.length cap]] w fun e w' => ∃ v, e = .returned (.tuple #[v, .nilIface]) ∧ TagsAt w' v (⟨l, s, r, vs⟩ : Tg).chain ∧ Below w.heap.size w w' := by
  obtain ⟨i0, hi, hz0, hz1, hz2⟩ := info_parts infoStr
  obtain ⟨iT, hiT, hT0, hT1, hT2⟩ := info_parts infoTag
  have CK := Lib.hid fun wx h => check_any l s r vs (.slice (some ad) vs.length cap) wx h (by omega) (fun x hx => by have := lens_mem hx; omega)
  rw [hF, errE_nil rfl] at CK
  have LC := Lib.hid fun t V w h h0 hl => less_any t V w h h0 hl
  have bvs : vs.length ≤ 1000000000 := by omega
  have HCS0 := Lib.hid (chain_small _ (⟨l, s, r, vs⟩ : Tg) rfl)
  have hszT : (⟨l, s, r, vs⟩ : Tg).size ≤ 1000000005 := by
    have a1 : (one s).length ≤ 1 := by unfold one; split <;> simp
    have a2 : (one r).length ≤ 1 := by unfold one; split <;> simp
    show (one s).length + ((one r).length + vs.length) ≤ _
    omega
  obtain ⟨t0, ht0⟩ : ∃ t0 : Tg, t0 = ⟨l, s, r, vs⟩ := ⟨_, rfl⟩
  have HT0 := Lib.hid (show t0.chain = (⟨l, s, r, vs⟩ : Tg).chain by rw [ht0])
  have HCS := Lib.hid (show t0.chain.length ≤ 1000000006 ∧ ∀ x ∈ t0.chain, x.vs.length ≤ vs.length by rw [ht0]; exact ⟨Nat.le_trans HCS0.out.1 (by omega), HCS0.out.2⟩)
  have bvs0 := bvs
  have HV0 := Lib.hid hV
  clear ht0 HCS0 hF hV
  have HNW := Lib.hid (show ∀ wx, Below w.heap.size w wx → ∀ (j : Nat) u, (vs.map txtV)[j]? = some u → wx.cell? (ad.add j) = some u from fun wx hb j u hu => by
    rcases HV0.out.open with ⟨_, e, _⟩ | ⟨ad', cap', e, hc⟩
    · cases e
    · injection e with e _ _
      injection e with e
      subst e
      exact cell_keep (hc j u hu) hb)
  have HLN := Lib.hid (show (vs.map txtV).length = vs.length * 1 by rw [List.length_map, Nat.mul_one])
  go_enter Tryd.func19, Tryd.ntmps19
  go_wp2_with fail
  refine (CK.out _ (HV0.out.alloc _)).mono ?_
  rintro e w1 ⟨rfl, hb⟩
  have W1 := Lib.hid (blw_trans (blw_alloc w (.cells #[.string ⟨l.toArray⟩, .string ⟨s.toArray⟩, .string ⟨r.toArray⟩, .slice (some ad) vs.length cap] 24)) hb)
  have B1 := Lib.hid ((Boxed.made w #[.string ⟨l.toArray⟩, .string ⟨s.toArray⟩, .string ⟨r.toArray⟩, .slice (some ad) vs.length cap] 24).below hb)
  have hsz1 := hb.size
  rw [show (w.alloc (.cells #[.string ⟨l.toArray⟩, .string ⟨s.toArray⟩, .string ⟨r.toArray⟩, .slice (some ad) vs.length cap] 24)).heap.size = w.heap.size + 1 by simp] at hsz1
  clear hb CK
  have k0 := B1.out.cell 0 _ rfl
  have k1 := B1.out.cell 1 _ rfl
  have k2 := B1.out.cell 2 _ rfl
  have k3 := B1.out.cell 3 _ rfl
  have f3 := B1.out.free 3 (by simp)
  go_wp2_with (at_builtin; refine wpList_append_own_at _ rfl _ _ 22 rfl (w.heap.size + 1) 9 i0 (.string ByteArray.empty) 1 16 Tryd.underlying22 hi hz0 hz1 hz2 rfl (by decide) (.slice none 0 0) 0 [] rfl ⟨rfl, .inl ⟨rfl, rfl⟩⟩ ad vs.length cap (vs.map txtV) rfl HLN.out (HNW.out _ W1.out) (fun x hx => by obtain ⟨y, _, rfl⟩ := List.mem_map.1 hx; rfl) (by unfold maxLen; omega) (by omega) hsz1 ?_; intro v' w2 hown hgrow _ _; have hg2 := (show World.grownBy _ _ none from hgrow); have HOW := Lib.hid hown; have B2 := Lib.hid (B1.out.grown hg2 (by simp)); have W2 := Lib.hid (W1.out.grown hg2 (by omega) (fun k hk => by cases hk)); have HN7 := Lib.hid (Nil0.of_row HOW.out); have HF7 := Lib.hid (FarV.of_row HOW.out); have HV7 := Lib.hid (show StrsAt w2 v' vs from StrsAt.of_row (by have h7 := HOW.out; rw [List.nil_append] at h7; exact h7)); clear hown hgrow hg2 HOW B1 W1 k0 k1 k2 k3 f3; obtain ⟨x0, n0, cp0, rfl⟩ := HV7.out.isSlice; have k0 := B2.out.cell 0 _ rfl; have k1 := B2.out.cell 1 _ rfl; have k2 := B2.out.cell 2 _ rfl; have k3 := B2.out.cell 3 _ rfl; have f3 := B2.out.free 3 (by simp); have hl2 := B2.out.lt; have ne1 : ¬ w.heap.size = w2.heap.size := (by omega); have ne2 : ¬ w2.heap.size = w.heap.size := (by omega); have S4 := Lib.hid (show Below w.heap.size w (w2.setCell ⟨w.heap.size, 3, none⟩ (.slice x0 n0 cp0)) ∧ StrsAt (w2.setCell ⟨w.heap.size, 3, none⟩ (.slice x0 n0 cp0)) (.slice x0 n0 cp0) vs ∧ Nil0 (.slice x0 n0 cp0) from ⟨W2.out.setCell (Nat.le_refl _) _, HV7.out.setCell HF7.out _ (by show w.heap.size < w.heap.size + 1; omega) _, HN7.out⟩); clear HN7 HF7 HV7 W2)
  refine (LC.out ⟨l, s, r, vs⟩ (.slice x0 n0 cp0) _ (S4.out.2.1.alloc _) S4.out.2.2 bvs).mono ?_
  rintro e w6 ⟨a2, n2, c2, rfl, hs2, hz2', hf2, hb2⟩
  have M0 := Lib.hid (ChM.start S4.out.1 ⟨l, s, r, vs⟩ (.slice x0 n0 cp0) S4.out.2.1 S4.out.2.2 _ _ hb2 hs2 hz2' hf2)
  rw [size_setCell] at M0
  have HC0 := Lib.hid (show t0.chain = [((⟨l, s, r, vs⟩ : Tg), Value.slice x0 n0 cp0)].map (·.1) ++ (if (⟨l, s, r, vs⟩ : Tg).less.isSome then ((⟨l, s, r, vs⟩ : Tg).less.getD ⟨l, s, r, vs⟩).chain else []) by rw [HT0.out]; exact chain_step _)
  clear hs2 hz2' hf2 hb2 S4
  generalize (⟨l, s, r, vs⟩ : Tg).less.isSome = is0 at *
  generalize (⟨l, s, r, vs⟩ : Tg).less.getD ⟨l, s, r, vs⟩ = u0 at *
  go_wp2_with fail
  go_loopw [5, 6, 7] (fun o p b wr => ∃ (A : List (Tg × Value)) (pp : Nat) (c : Tg) (a : Option Addr) (n cp : Nat) (ao : Option Addr) (co : Nat) (is : Bool), o = .slice ao A.length co ∧ p = .pointer (some ⟨pp, 0, none⟩) ∧ b = .bool is ∧ Hid (ChM w wr (.slice ao A.length co) A pp c (.slice a n cp)) ∧ Hid (t0.chain = A.map (·.1) ++ (if is then c.chain else []))) (fun o _ _ _ => t0.chain.length - lenV o)
  case atStart => exact ⟨[(⟨l, s, r, vs⟩, .slice x0 n0 cp0)], w6.heap.size, u0, a2, n2, c2, _, 1, is0, rfl, rfl, rfl, M0, HC0⟩
  case round =>
    obtain ⟨A, pp, c, a, n, cp, ao, co, is, rfl, rfl, rfl, HM, HC⟩ := hrel
    clear M0 HC0
    cases is with
    | false =>
      have HE := Lib.hid (show t0.chain = A.map (·.1) by rw [HC.out]; simp)
      go_wp2_with fail
      go_ret2
      exact ⟨_, rfl, by rw [← HT0.out, HE.out]; exact TagsAt.of_row HM.out.own (fun x hx => ⟨(HM.out.all x (List.mem_cons_of_mem _ hx)).1, (HM.out.all x (List.mem_cons_of_mem _ hx)).2.1⟩), HM.out.bel⟩
    | true =>
      have hcl : A.length < t0.chain.length := by
        have e := congrArg List.length HC.out
        rw [List.length_append, List.length_map, if_pos rfl, chain_step c] at e
        rw [e]; simp
      have hcv : c.vs.length ≤ 1000000000 := Nat.le_trans (HCS.out.2 c (by rw [HC.out, if_pos rfl]; exact List.mem_append_right _ (chain_self c))) bvs0
      have hal : A.length ≤ 1000000010 := by have := HCS.out.1; omega
      have HC' := Lib.hid (show t0.chain = (A ++ [(c, Value.slice a n cp)]).map (·.1) ++ (if c.less.isSome then (c.less.getD c).chain else []) from chain_turn _ HC.out)
      have hbs := HM.out.bel.size
      have own := HM.out.own
      have k0 := HM.out.box.t0
      have k1 := HM.out.box.t1
      have k2 := HM.out.box.t2
      have k3 := HM.out.box.t3
      clear HC
      go_wp2_with (at_builtin; refine wpList_append_own_at _ rfl _ _ 35 rfl w.heap.size 24 iT _ 4 72 Tryd.underlying35 hiT hT0 hT1 hT2 rfl (by decide) _ A.length (flat A) rfl (own.alloc _) ⟨wr.heap.size, 0, none⟩ 1 1 (tcells c (.slice a n cp)) rfl rfl (cells_new _ _ _) (tcells_one _ _ _ _) (by unfold maxLen; omega) (by omega) (by simp; omega) ?_; intro o' w2 hown hgrow _ hat; have M2 := Lib.hid (HM.out.mid hown hgrow hat); obtain ⟨ao', co', rfl⟩ := row_slice hown; clear hown hgrow hat own k0 k1 k2 k3; have k0 := M2.out.box.t0; have k1 := M2.out.box.t1; have k2 := M2.out.box.t2; have k3 := M2.out.box.t3)
      refine (LC.out c (.slice a n cp) _ ((M2.out.all _ (List.mem_cons_self ..)).1.alloc _) (M2.out.all _ (List.mem_cons_self ..)).2.1 hcv).mono ?_
      rintro e w3 ⟨a3, n3, c3, rfl, hs3, hz3, hf3, hb3⟩
      have N3 := Lib.hid (M2.out.next _ (.slice a3 n3 c3) hb3 hs3 hz3 hf3)
      have B3 := Lib.hid ((Boxed.made w2 (tcells c (.slice a n cp)).toArray 24).below hb3)
      clear k0 k1 k2 k3 hs3 hz3 hf3 hb3 HM M2
      have f0 := B3.out.free 0 (by simp [tcells])
      have f1 := B3.out.free 1 (by simp [tcells])
      have f2 := B3.out.free 2 (by simp [tcells])
      have f3 := B3.out.free 3 (by simp [tcells])
      have k0 := B3.out.t0
      have k1 := B3.out.t1
      have k2 := B3.out.t2
      have k3 := B3.out.t3
      generalize c.less.isSome = is1 at *
      generalize c.less.getD c = u1 at *
      go_wp2_with fail
      go_roundw
      case rel => exact ⟨A ++ [(c, .slice a n cp)], w2.heap.size, u1, a3, n3, c3, ao', co', is1, by rw [List.length_append, List.length_singleton], rfl, rfl, Lib.hid (by have q := N3.out; rw [List.length_append, List.length_singleton]; exact q), HC'⟩
      case measure => simp [lenV]; omega

/-- chain.Chain: the error, or the list -/
theorem chain_any (l s r : List UInt8) (vs : List (List UInt8)) (V : Value) (w : World) (hV : StrsAt w V vs) (h0 : Nil0 V) (bt : l.length + s.length + r.length + Lib.lens vs + vs.length ≤ 100000000) :
    Calls Tryd.prog 19 #[.agg #[.string ⟨l.toArray⟩, .string ⟨s.toArray⟩, .string ⟨r.toArray⟩, V]] w fun e w' => ∃ a n c, e = .returned (.tuple #[.slice a n c, errE (tagFault l s r vs)]) ∧ TagsAt w' (.slice a n c) (if tagFault l s r vs = 0 then (⟨l, s, r, vs⟩ : Tg).chain else []) ∧ Below w.heap.size w w' := by
  by_cases hF : tagFault l s r vs = 0
  · have C : Calls Tryd.prog 19 #[.agg #[.string ⟨l.toArray⟩, .string ⟨s.toArray⟩, .string ⟨r.toArray⟩, V]] w fun e w' => ∃ v, e = .returned (.tuple #[v, .nilIface]) ∧ TagsAt w' v (⟨l, s, r, vs⟩ : Tg).chain ∧ Below w.heap.size w w' := by
      have hV' := hV
      rcases hV.open with ⟨cap, rfl, rfl⟩ | ⟨ad, cap, rfl, _⟩
      · obtain rfl := h0 _ _ rfl
        exact chain_ok_nil l s r w hV' bt hF
      · exact chain_ok_some l s r vs ad cap w hV' bt hF
    refine C.mono ?_
    rintro e w' ⟨v, rfl, ht, hb⟩
    obtain ⟨a, n, c, rfl⟩ := ht.isSlice
    exact ⟨a, n, c, by rw [errE_nil hF], by rw [if_pos hF]; exact ht, hb⟩
  · refine (chain_bad l s r vs V w hV (by omega) (fun x hx => by have := lens_mem hx; omega) hF).mono ?_
    rintro e w' ⟨rfl, hb⟩
    exact ⟨none, 0, 0, rfl, by rw [if_neg hF]; exact .inl ⟨rfl, _, _, rfl⟩, hb⟩
end Go.Proofs.YtlhleojigcnjeaaDoor
