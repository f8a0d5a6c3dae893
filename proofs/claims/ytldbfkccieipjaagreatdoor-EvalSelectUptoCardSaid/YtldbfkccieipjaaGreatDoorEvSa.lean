/- What a Select of given keys says: the plain law. No program. -/
import Derived.Test.YtldbfkccieipjaaGreatDoorEf25
import Derived.Test.YtldbfkccieipjaaGreatDoorEf19
import Derived.Maps.AppendAt
import Derived.Test.YtldbfkccieipjaaGreatDoorEf16
namespace Go.Proofs.YtldbfkccieipjaaGreatDoor
open Go.RowKit Ms
theorem infoCase : (Tryz.prog.info? 41).map (fun i => (i.zero, i.size, i.bytes)) = some (some (.agg #[.string ByteArray.empty, .slice none 0 0]), 2, 40) := by kernel_rfl
/-- a case: its key, what it says, the block of that -/
abbrev It := List UInt8 × List UInt8 × Nat
def itV (x : It) : List Value := [.string ⟨x.1.toArray⟩, .slice (some ⟨x.2.2, 0, none⟩) 1 1]
def itF (l : List It) : List Value := l.flatMap itV
def itC (l : List It) : Cs := l.map fun x => (x.1, [.mk 1 x.2.1 0 []])
theorem itF_add (l : List It) (x : It) : itF (l ++ [x]) = itF l ++ itV x := by unfold itF; rw [List.flatMap_append]; simp
theorem itC_add (l : List It) (x : It) : itC (l ++ [x]) = itC l ++ [(x.1, [.mk 1 x.2.1 0 []])] := by unfold itC; rw [List.map_append]; rfl
theorem itF_at : ∀ {l : List It} {j : Nat} {x : It}, l[j]? = some x → (itF l)[j * 2]? = some (.string ⟨x.1.toArray⟩) ∧ (itF l)[j * 2 + 1]? = some (.slice (some ⟨x.2.2, 0, none⟩) 1 1)
  | [], j, x, h => by simp at h
  | y :: l, 0, x, h => by
    obtain rfl : y = x := by simpa using h
    exact ⟨rfl, rfl⟩
  | y :: l, j + 1, x, h => by
    have := itF_at (l := l) (j := j) (x := x) (by simpa using h)
    have e : itF (y :: l) = itV y ++ itF l := by unfold itF; rw [List.flatMap_cons]
    have el : (itV y).length = 2 := rfl
    rw [e, List.getElem?_append_right (by omega), List.getElem?_append_right (by omega), el, show (j + 1) * 2 - 2 = j * 2 by omega, show (j + 1) * 2 + 1 - 2 = j * 2 + 1 by omega]
    exact this
/-- what a case says, in a block of its own -/
abbrev sayB (t : List UInt8) : Obj := .cells #[.int .i64 1, .string ⟨t.toArray⟩, .int .i64 0, .slice none 0 0] 34 (0, 0)
structure CI (B : Nat) (v : Value) (l : List It) (w : World) : Prop where
  row : w.ownsRow B 41 2 v l.length (itF l)
  bod : ∀ x ∈ l, w.heap[x.2.2]? = some (sayB x.2.1)
theorem CI.nil (B : Nat) (w : World) : CI B (.slice none 0 0) [] w := ⟨World.ownsRow_nil _ _ _ _, by simp⟩
theorem CI.below {B : Nat} {v : Value} {l : List It} {w w' : World} (h : CI B v l w) (hb : Below w.heap.size w w') : CI B v l w' :=
  ⟨row_blw h.row hb, fun x hx => (hb.block x.2.2 (Array.getElem?_eq_some_iff.1 (h.bod x hx)).1).trans (h.bod x hx)⟩
/-- the row's block bears cases -/
theorem CI.own {B : Nat} {v : Value} {l : List It} {w : World} (h : CI B v l w) {k : Nat} (e : v.ownBlock = some k) : B ≤ k ∧ k < w.heap.size ∧ ∃ cur, w.heap[k]? = some (.cells cur 41 (0, 0)) := by
  rcases h.row.2 with ⟨rfl, _⟩ | ⟨g, cap, cur, rfl, hB, hg, _⟩
  · simp [Value.ownBlock] at e
  · simp only [Value.ownBlock, Option.some.injEq] at e
    subst e
    exact ⟨hB, (Array.getElem?_eq_some_iff.1 hg).1, cur, hg⟩
theorem CI.node_ne {B : Nat} {v : Value} {l : List It} {w : World} (h : CI B v l w) {k : Nat} {cs : Array Value} (hk : w.heap[k]? = some (.cells cs 34 (0, 0))) : v.ownBlock ≠ some k := by
  intro e
  obtain ⟨_, _, cur, hc⟩ := h.own e
  rw [hk] at hc
  injection hc with hc
  injection hc with _ ht _
  exact absurd ht (by decide)
/-- one case more -/
theorem CI.app {B : Nat} {v v' : Value} {l : List It} {w w2 w' : World} (h : CI B v l w) (x : It) (hb : Below w.heap.size w w2) (hx : w.heap.size ≤ x.2.2) (hn : w2.heap[x.2.2]? = some (sayB x.2.1)) (hown : w'.ownsRow B 41 2 v' (l.length + 1) (itF l ++ itV x)) (hg : w2.grownBy w' v.ownBlock) : CI B v' (l ++ [x]) w' := by
  refine ⟨by rw [List.length_append, itF_add]; exact hown, fun y hy => ?_⟩
  rcases List.mem_append.1 hy with hy | hy
  · have h1 := h.bod y hy
    have hl := (Array.getElem?_eq_some_iff.1 h1).1
    rw [hg.block y.2.2 (Nat.lt_of_lt_of_le hl hb.size) (fun e => h.node_ne h1 e.symm), hb.block _ hl]
    exact h1
  · obtain rfl : y = x := by simpa using hy
    have hl := (Array.getElem?_eq_some_iff.1 hn).1
    rw [hg.block _ hl (fun e => by have := (h.own e.symm).2.1; omega)]
    exact hn
/-- a node that bears them -/
structure SI (w0 : World) (q : Nat) (K : Int) (T : List UInt8) (O : Int) (v : Value) (l : List It) (w : World) : Prop where
  ci : CI w0.heap.size v l w
  bx : w.heap[q]? = some (.cells #[.int .i64 K, .string ⟨T.toArray⟩, .int .i64 O, v] 34 (0, 0))
  ne : ∀ x ∈ l, x.2.2 ≠ q
  lo : w0.heap.size ≤ q
  bel : Below w0.heap.size w0 w
variable {w0 : World} {q : Nat} {K : Int} {T : List UInt8} {O : Int} {v : Value} {l : List It} {w w' : World}
theorem SI.below (h : SI w0 q K T O v l w) (hb : Below w.heap.size w w') : SI w0 q K T O v l w' :=
  ⟨h.ci.below hb, (hb.block q (Array.getElem?_eq_some_iff.1 h.bx).1).trans h.bx, h.ne, h.lo, blw_trans h.bel hb⟩
theorem SI.lt (h : SI w0 q K T O v l w) : q < w.heap.size := (Array.getElem?_eq_some_iff.1 h.bx).1
theorem SI.add {w2 : World} {v' : Value} (h : SI w0 q K T O v l w) (x : It) (hb : Below w.heap.size w w2) (hx : w.heap.size ≤ x.2.2) (hn : w2.heap[x.2.2]? = some (sayB x.2.1)) (hown : w'.ownsRow w0.heap.size 41 2 v' (l.length + 1) (itF l ++ itV x)) (hg : w2.grownBy w' v.ownBlock) : SI w0 q K T O v' (l ++ [x]) (w'.setCell ⟨q, 3, none⟩ v') := by
  have hc := h.ci.app x hb hx hn hown hg
  have hql := h.lt
  have hq2 : w'.heap[q]? = some (.cells #[.int .i64 K, .string ⟨T.toArray⟩, .int .i64 O, v] 34 (0, 0)) := by
    rw [hg.block q (Nat.lt_of_lt_of_le hql hb.size) (fun e => h.ci.node_ne h.bx e.symm), hb.block _ hql]
    exact h.bx
  have hne2 : ∀ y ∈ l ++ [x], y.2.2 ≠ q := by
    intro y hy
    rcases List.mem_append.1 hy with hy | hy
    · exact h.ne y hy
    · obtain rfl : y = x := by simpa using hy
      omega
  refine ⟨⟨?_, fun y hy => ?_⟩, ?_, hne2, h.lo, ?_⟩
  · refine ⟨hc.row.1, ?_⟩
    rcases hc.row.2 with k | ⟨g, cap, cur, k1, k2, k3, k4⟩
    · exact .inl k
    · refine .inr ⟨g, cap, cur, k1, k2, ?_, k4⟩
      rw [Below.heap_setCell _ _ _ _ (fun e => by rw [e, hq2] at k3; injection k3 with k3; injection k3 with _ ht _; exact absurd ht (by decide))]
      exact k3
  · rw [Below.heap_setCell _ _ _ _ (hne2 y hy)]
    exact hc.bod y hy
  · simp [World.setCell, Array.getElem?_modify, hq2]
  · refine Below.setCell (p := ⟨q, 3, none⟩) ?_ h.lo _
    exact (blw_trans h.bel hb).grown hg (Nat.le_trans h.bel.size hb.size) (fun k hk => (h.ci.own hk).1)
/-- they lie in memory as cases -/
theorem CI.cass {B : Nat} (h : CI B v l w) (hk : ∀ x ∈ l, x.1.length ≤ 2000000 ∧ x.2.1.length ≤ 2000000) : CassAt 1 w v (itC l) := by
  have hlen : (itC l).length = l.length := by unfold itC; rw [List.length_map]
  rcases h.row.2 with ⟨rfl, h0⟩ | ⟨g, cap, cur, rfl, _, _, h1, h2, _, _⟩
  · exact .inl ⟨List.length_eq_zero_iff.1 (by rw [hlen]; exact h0), none, 0, rfl⟩
  · by_cases h0 : l.length = 0
    · exact .inl ⟨List.length_eq_zero_iff.1 (by rw [hlen]; exact h0), _, _, by rw [h0]⟩
    · refine .inr ⟨g, 0, cap, by rw [hlen], by rw [hlen]; omega, by rw [hlen]; exact h1, h2, fun j y hy => ?_⟩
      unfold itC at hy
      rw [List.getElem?_map] at hy
      cases hx : l[j]? with
      | none => rw [hx] at hy; cases hy
      | some x =>
        rw [hx] at hy
        obtain rfl : (x.1, [Nd.mk 1 x.2.1 0 []]) = y := by simpa using hy
        obtain ⟨c0, c1⟩ := itF_at hx
        have hm := List.mem_of_getElem? hx
        have hb := h.bod x hm
        rw [Nat.zero_add]
        exact ⟨_, 1, 1, nrow_cells h.row c0, nrow_cells h.row c1, msg_one (nd_plain (by rw [Lib.cell_of_heap hb]; rfl) (by rw [Lib.cell_of_heap hb]; rfl) (by rw [Lib.cell_of_heap hb]; rfl) (by rw [Lib.cell_of_heap hb]; rfl) (hk x hm).2), (hk x hm).1, by simp⟩
end Go.Proofs.YtldbfkccieipjaaGreatDoor
namespace Go.Proofs.YtldbfkccieipjaaGreatDoor
open Go.RowKit
namespace Ms
def selC (keys : List (List UInt8)) : Cs := keys.map (fun k => (k, [.mk 1 (60 :: k) 0 []])) ++ [(other, [.mk 1 [60, 60] 0 []])]
def selM (keys : List (List UInt8)) : List Nd := [.mk 5 [115] 0 (selC keys)]
def selA (t : List UInt8) : List Ag := [⟨[115], false, 0, 0, t⟩]
theorem sel_word (keys : List (List UInt8)) : ∀ y ∈ selC keys, ∃ c r, y.2 = [.mk 1 (c :: r) 0 []] := by
  intro y hy
  unfold selC at hy
  rcases List.mem_append.1 hy with h | h
  · obtain ⟨k, _, rfl⟩ := List.mem_map.1 h
    exact ⟨60, k, rfl⟩
  · obtain rfl : y = (other, [.mk 1 [60, 60] 0 []]) := by simpa using h
    exact ⟨60, [60], rfl⟩
theorem csE_sel {G : Bool → List Nd → Int} {x : Nd} {mark : Bool} (hx : x.kind = 5) (hG : ∀ c r b, G b [.mk 1 (c :: r) 0 []] = 0) : ∀ (ks seen : List (List UInt8)), (∀ k ∈ ks, nameB k = true ∧ k ≠ other) → (seen ++ ks).Nodup → other ∉ seen → csE G x mark seen (selC ks) = 0
  | [], seen, _, _, ho => by
    show csE G x mark seen [(other, [.mk 1 [60, 60] 0 []])] = 0
    unfold csE
    have hk : keyB x other = true := by unfold keyB; rw [if_pos hx]; decide +kernel
    rw [hk, if_neg (by simp), if_neg (by simpa [List.contains_eq_mem] using ho), hG 60 [60], if_neg (by simp)]
    unfold csE
    rw [if_pos (by simp [List.contains_eq_mem])]
  | k :: ks, seen, h, hd, ho => by
    have hk := h k (by simp)
    have e : selC (k :: ks) = (k, [.mk 1 (60 :: k) 0 []]) :: selC ks := rfl
    rw [e]
    unfold csE
    have hkb : keyB x k = true := by unfold keyB; rw [if_pos hx]; exact hk.1
    have hns : k ∉ seen := by
      intro hm
      rw [List.nodup_append] at hd
      exact hd.2.2 k hm k (by simp) rfl
    rw [hkb, if_neg (by simp), if_neg (by simpa [List.contains_eq_mem] using hns), hG 60 k, if_neg (by simp)]
    refine csE_sel hx hG ks (seen ++ [k]) (fun z hz => h z (by simp [hz])) (by rw [List.append_assoc]; exact hd) ?_
    intro hm
    rcases List.mem_append.1 hm with hm | hm
    · exact ho hm
    · have e : other = k := by simpa using hm
      exact hk.2 e.symm
theorem sum_ones {g : List Nd → Int} : ∀ (L : List (List Nd)), (∀ b ∈ L, g b = 1) → (L.map g).sum = L.length
  | [], _ => rfl
  | b :: r, h => by
    rw [List.map_cons, List.sum_cons, sum_ones r fun c hc => h c (by simp [hc]), h b (by simp), List.length_cons]
    push_cast
    omega
theorem sel_msg {keys : List (List UInt8)} (h : ∀ k ∈ keys, nameB k = true ∧ k ≠ other) (hd : keys.Nodup) (hl : keys.length ≤ 50) : msgE 2 (selM keys) = 0 := by
  unfold msgE
  have hb : bodies (selM keys) = (selC keys).map (·.2) := by
    show ((selC keys).map (·.2)) ++ [] = _
    rw [List.append_nil]
  have hw : ∀ b ∈ bodies (selM keys), ∃ c r, b = [.mk 1 (c :: r) 0 []] := by
    rw [hb]
    intro b hm
    obtain ⟨y, hy, rfl⟩ := List.mem_map.1 hm
    exact sel_word keys y hy
  have hlr : ∀ b ∈ bodies (selM keys), lrg 5 b = (1, false) := by
    intro b hm
    obtain ⟨c, r, rfl⟩ := hw b hm
    rfl
  have h1 : (lrg 6 (selM keys)).2 = false := by
    refine lgo_ok (F := lrg 5) (bodies (selM keys)) 1 (fun b hm => by rw [hlr b hm]; exact ⟨rfl, by decide⟩) ?_
    rw [sum_ones (g := fun b => (lrg 5 b).1) _ fun b hm => by rw [hlr b hm], hb, List.length_map]
    unfold selC
    rw [List.length_append, List.length_map, List.length_singleton]
    push_cast
    omega
  rw [h1, if_neg (by simp)]
  have h2 : csE (chk 1) (.mk 5 [115] 0 (selC keys)) false [] (selC keys) = 0 := csE_sel rfl (fun c r b => rfl) keys [] h (by simpa using hd) (by simp)
  show msE (chk 1) false none [.mk 5 [115] 0 (selC keys)] = 0
  have h3 : ndE (chk 1) (.mk 5 [115] 0 (selC keys)) none false = 0 := by
    unfold ndE
    have hf : fineB (.mk 5 [115] 0 (selC keys)) none false = true := by
      show nameB [115] = true
      decide +kernel
    rw [hf]
    exact h2
  unfold msE
  rw [h3]
  rfl
theorem goN_id {F : List Need → List Nd → List Need} : ∀ (L : List (List Nd)) (l : List Need), (∀ b ∈ L, ∀ l, F l b = l) → goN F l L = l
  | [], _, _ => rfl
  | b :: r, l, h => by
    show goN F (F l b) r = l
    rw [h b (by simp)]
    exact goN_id r l fun c hc => h c (by simp [hc])
theorem sel_names (keys : List (List UInt8)) : allN 2 [] (selM keys) = [([115], false, true)] := by
  show goN (allN 1) [([115], false, true)] ((selC keys).map (·.2)) = _
  refine goN_id _ _ fun b hm l => ?_
  obtain ⟨y, hy, rfl⟩ := List.mem_map.1 hm
  obtain ⟨c, r, e⟩ := sel_word keys y hy
  rw [e]
  rfl
theorem sel_fit {keys : List (List UInt8)} (h : ∀ k ∈ keys, nameB k = true ∧ k ≠ other) (hd : keys.Nodup) (hl : keys.length ≤ 50) (t : List UInt8) : fitE 2 (selM keys) (selA t) = 0 := by
  have hn : namE 2 (selM keys) = 0 := by
    unfold namE
    rw [sel_msg h hd hl, sel_names]
    rfl
  unfold fitE
  rw [hn, sel_names]
  have ha : nameB [115] = true := by decide +kernel
  have e0 : argE [] (selA t) = 0 := by
    show (if (!nameB [115]) = true then (3 : Int) else if (false && badA ⟨[115], false, 0, 0, t⟩) = true then 1 else if hasA [] [115] = true then 5 else 0) = 0
    rw [ha]
    rfl
  rw [e0]
  rfl
theorem key_sel : ∀ {keys : List (List UInt8)} {t : List UInt8}, t ∈ keys → ∃ i, keyI (selC keys) t = some i ∧ (selC keys)[i]? = some (t, [.mk 1 (60 :: t) 0 []])
  | [], t, h => by simp at h
  | k :: ks, t, h => by
    have e : selC (k :: ks) = (k, [.mk 1 (60 :: k) 0 []]) :: selC ks := rfl
    unfold keyI
    rw [e, List.findIdx?_cons]
    by_cases hk : k = t
    · subst hk
      exact ⟨0, by simp, rfl⟩
    · have hm : t ∈ ks := by
        rcases List.mem_cons.1 h with e | e
        · exact absurd e.symm hk
        · exact e
      obtain ⟨i, h1, h2⟩ := key_sel hm
      unfold keyI at h1
      have hb : (k == t) = false := beq_eq_false_iff_ne.2 hk
      refine ⟨i + 1, ?_, by simpa using h2⟩
      rw [hb, h1]
      rfl
theorem key_not : ∀ {keys : List (List UInt8)} {t : List UInt8}, t ∉ keys → keyI (selC keys) t = if other == t then some keys.length else none
  | [], t, _ => by
    show [(other, [Nd.mk 1 [60, 60] 0 []])].findIdx? _ = _
    rw [List.findIdx?_cons]
    split <;> rfl
  | k :: ks, t, h => by
    have e : selC (k :: ks) = (k, [.mk 1 (60 :: k) 0 []]) :: selC ks := rfl
    have ih := key_not (keys := ks) (t := t) fun hm => h (by simp [hm])
    unfold keyI at *
    have hb : (k == t) = false := beq_eq_false_iff_ne.2 fun e => h (by simp [e])
    rw [e, List.findIdx?_cons, hb, ih, if_neg (by simp)]
    cases other == t <;> rfl
theorem sel_last (keys : List (List UInt8)) : (selC keys)[keys.length]? = some (other, [.mk 1 [60, 60] 0 []]) := by
  unfold selC
  rw [List.getElem?_append_right (by simp)]
  simp
theorem sel_said (E : Ev) {keys : List (List UInt8)} (h : ∀ k ∈ keys, nameB k = true ∧ k ≠ other) (t : List UInt8) : saidM E (valA (selA t)) 2 0 0 (selM keys) = some (if keys.contains t then 60 :: t else [60, 60]) := by
  have ho : other ∉ keys := fun hm => (h other hm).2 rfl
  have key : bodyI (.mk 5 [115] 0 (selC keys)) (choI (selC keys) t) = [.mk 1 (if keys.contains t then 60 :: t else [60, 60]) 0 []] := by
    by_cases hm : t ∈ keys
    · obtain ⟨i, h1, h2⟩ := key_sel hm
      have hc : keys.contains t = true := by rw [List.contains_eq_mem]; exact decide_eq_true hm
      unfold choI bodyI
      rw [h1, hc]
      show (((selC keys)[i]?).map (·.2)).getD [] = _
      rw [h2]
      rfl
    · have hc : keys.contains t = false := by rw [List.contains_eq_mem]; exact decide_eq_false hm
      have hch : choI (selC keys) t = keys.length := by
        unfold choI
        rw [key_not hm, key_not ho]
        split
        · rfl
        · simp
      unfold bodyI
      rw [hch, hc]
      show (((selC keys)[keys.length]?).map (·.2)).getD [] = _
      rw [sel_last]
      rfl
  show (match saidM E (valA (selA t)) 1 0 0 (bodyI (.mk 5 [115] 0 (selC keys)) (choI (selC keys) t)) with
    | none => none
    | some u => some (u ++ [])) = _
  rw [key]
  show some (((if keys.contains t then 60 :: t else [60, 60]) ++ []) ++ []) = _
  simp
end Ms
end Go.Proofs.YtldbfkccieipjaaGreatDoor
