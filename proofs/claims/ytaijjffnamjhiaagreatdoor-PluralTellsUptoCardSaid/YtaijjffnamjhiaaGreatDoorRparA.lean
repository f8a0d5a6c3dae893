/- What lasts while a rule is read: the rows of its parts and of their relations, in blocks of the call's own. No walk. -/
import Derived.Test.YtaijjffnamjhiaaGreatDoorRpars
import Derived.Test.YtaijjffnamjhiaaGreatDoorRulIn
namespace Go.Proofs.YtaijjffnamjhiaaGreatDoor
open Go.RowKit Go.Shelf

/-- block b holds cells -/
def IsC (W : World) (b : Nat) : Prop := ∃ o, W.heap[b]? = some o ∧ o.isCells = true
theorem IsC.lt {W : World} {b : Nat} (h : IsC W b) : b < W.heap.size := by
  obtain ⟨o, h, _⟩ := h
  exact (Array.getElem?_eq_some_iff.1 h).1
theorem IsC.grown {A C : World} {r : Option Nat} {b : Nat} (h : IsC A b) (g : A.grownBy C r) (hr : some b ≠ r) : IsC C b := by
  have hl := h.lt
  obtain ⟨o, h, k⟩ := h
  exact ⟨o, (g.block b hl hr).trans h, k⟩
theorem IsC.of_cell {W : World} {b k : Nat} {v : Value} (h : W.cell? ⟨b, k, none⟩ = some v) : IsC W b := by
  unfold World.cell? at h
  split at h
  · rename_i c x y hc
    exact ⟨_, hc, rfl⟩
  · cases h
theorem IsC.row {W : World} {base n k : Nat} {e : TypeId} {v : Value} {xs : List Value} (h : W.ownsRow base e k v n xs) {b : Nat} (hb : v.ownBlock = some b) : IsC W b := by
  rcases h.2 with ⟨rfl, _⟩ | ⟨g, cap, cur, rfl, _, hg, _⟩
  · cases hb
  · injection hb with hb
    subst hb
    exact ⟨_, hg, rfl⟩
theorem IsC.not {W : World} {b : Nat} {o : Obj} (h : IsC W b) (ho : W.heap[b]? = some o) (hc : o.isCells = false) : False := by
  obtain ⟨o', h, k⟩ := h
  rw [ho] at h
  injection h with h
  subst h
  rw [hc] at k
  cases k

/-- a set of blocks of cells from base on, none of which is the slice's own -/
structure Own (base : Nat) (S : Nat → Prop) (v : Value) (W : World) : Prop where
  ge : ∀ b, S b → base ≤ b
  ne : ∀ b, S b → v.ownBlock ≠ some b
  is : ∀ b, S b → IsC W b
theorem Own.grown {base : Nat} {S : Nat → Prop} {v : Value} {A C : World} {r : Option Nat} (h : Own base S v A) (g : A.grownBy C r) (hr : ∀ b, S b → some b ≠ r) : Own base S v C :=
  ⟨h.ge, h.ne, fun b hb => (h.is b hb).grown g (hr b hb)⟩
theorem same_grown {base : Nat} {S : Nat → Prop} {v : Value} {A C : World} {r : Option Nat} (h : Own base S v A) (g : A.grownBy C r) (hr : ∀ b, S b → some b ≠ r) : SameOn S A C :=
  fun b hb => g.block b (h.is b hb).lt (hr b hb)

theorem keeps_grown {B : Nat} {W0 A C : World} {r : Option Nat} (h : KeepsFrom B W0 A) (g : A.grownBy C r) (hr : ∀ k, r = some k → W0.heap.size ≤ k ∨ IsC A k ∨ k < B) : KeepsFrom B W0 C :=
  ⟨Nat.le_trans h.size g.size, fun k o hk hA hc => by
    have e := h.same k o hk hA hc
    refine (g.block k (Array.getElem?_eq_some_iff.1 e).1 (fun e' => ?_)).trans e
    rcases hr k e'.symm with h1 | h1 | h1
    · have := (Array.getElem?_eq_some_iff.1 hA).1; omega
    · exact h1.not e hc
    · omega⟩
theorem kps_grown {n₀ bp bs bv : Nat} {W0 A C : World} {r : Option Nat} (h : KpS n₀ bp bs bv W0 A) (g : A.grownBy C r) (h0 : n₀ ≤ A.heap.size) (h1 : bp < A.heap.size ∧ bs < A.heap.size ∧ bv < A.heap.size)
    (hr : ∀ k, r = some k → n₀ ≤ k ∧ k ≠ bp ∧ k ≠ bs ∧ k ≠ bv) : KpS n₀ bp bs bv W0 C :=
  ⟨h.low.grown g h0 (fun k hk => (hr k hk).1), (g.block bp h1.1 (fun e => (hr _ e.symm).2.1 rfl)).trans h.p, (g.block bs h1.2.1 (fun e => (hr _ e.symm).2.2.1 rfl)).trans h.s, (g.block bv h1.2.2 (fun e => (hr _ e.symm).2.2.2 rfl)).trans h.v⟩
theorem grown_below {A C : World} (hb : Below A.heap.size A C) : A.grownBy C none := ⟨hb.os, hb.tape, hb.output, hb.size, fun k hk _ => hb.block k hk⟩
theorem grown_store (A : World) (p k : Nat) (v : Value) : A.grownBy (A.setCell ⟨p, k, none⟩ v) (some p) :=
  ⟨rfl, rfl, rfl, by rw [size_setCell]; exact Nat.le_refl _, fun j _ hj => set_else (fun e => hj (by rw [← e]))⟩

/-- the cells of relations -/
def qflat (l : List (Rul.Rl × Value)) : List Value := l.flatMap fun q => [.int .u8 (q.1.op.toNat : Int), .int .i64 q.1.mod, .bool q.1.no, q.2]
theorem qflat_at : ∀ {l : List (Rul.Rl × Value)} {j : Nat} {q : Rul.Rl × Value}, l[j]? = some q →
    (qflat l)[j * 4]? = some (.int .u8 (q.1.op.toNat : Int)) ∧ (qflat l)[j * 4 + 1]? = some (.int .i64 q.1.mod) ∧ (qflat l)[j * 4 + 2]? = some (.bool q.1.no) ∧ (qflat l)[j * 4 + 3]? = some q.2 := by
  intro l
  induction l with
  | nil => intro j q h; simp at h
  | cons a l ih =>
    intro j q h
    cases j with
    | zero => simp at h; subst h; exact ⟨rfl, rfl, rfl, rfl⟩
    | succ j =>
      have h' := ih (j := j) (q := q) (by simpa using h)
      have e : (j + 1) * 4 = j * 4 + 1 + 1 + 1 + 1 := by omega
      rw [e]
      exact h'
theorem qflat_add (l : List (Rul.Rl × Value)) (r : Rul.Rl) (v : Value) : qflat (l ++ [(r, v)]) = qflat l ++ [.int .u8 (r.op.toNat : Int), .int .i64 r.mod, .bool r.no, v] := by
  unfold qflat; rw [List.flatMap_append]; rfl

/-- the row of relations that grows -/
structure PI (B p : Nat) (vb vr : Value) (qs : List (Rul.Rl × Value)) (S : Nat → Prop) (pre : List (List UInt8)) (W : World) : Prop where
  box : Boxed W p #[vb]
  row : W.ownsRow B 106 4 vr qs.length (qflat qs)
  fst : qs.map (·.1) = pre.map Rul.relP
  it : ∀ q ∈ qs, ∃ a n c, q.2 = .slice a n c ∧ SlAt 2 (RngI S) W (.slice a n c) q.1.rs
  own : Own B S vr W
  sz : B ≤ W.heap.size
theorem PI.grown {B p : Nat} {vb vr : Value} {qs : List (Rul.Rl × Value)} {S : Nat → Prop} {pre : List (List UInt8)} {A C : World} {r : Option Nat} (h : PI B p vb vr qs S pre A) (g : A.grownBy C r)
    (hr : ∀ k, r = some k → k ≠ p ∧ vr.ownBlock ≠ some k ∧ ¬ S k) : PI B p vb vr qs S pre C := by
  have hS : ∀ b, S b → some b ≠ r := fun b hb e => (hr b e.symm).2.2 hb
  refine ⟨boxed_grown h.box g (fun e => (hr _ e.symm).1 rfl), h.row.kept g ?_, h.fst, fun q hq => ?_, h.own.grown g hS, Nat.le_trans h.sz g.size⟩
  · cases hv : vr.ownBlock with
    | none => exact .inl rfl
    | some k => exact .inr fun e => (hr k e.symm).2.1 hv
  · obtain ⟨a, n, c, e, hs⟩ := h.it q hq
    exact ⟨a, n, c, e, rngsI_kept hs (same_grown h.own g hS) (fun _ hb => hb)⟩
theorem PI.len {B p : Nat} {vb vr : Value} {qs : List (Rul.Rl × Value)} {S : Nat → Prop} {pre : List (List UInt8)} {W : World} (h : PI B p vb vr qs S pre W) : qs.length = pre.length := by
  have := congrArg List.length h.fst
  simpa using this
/-- the relation that was read is added -/
theorem PI.append {B p : Nat} {vb vr v' : Value} {qs : List (Rul.Rl × Value)} {S : Nat → Prop} {pre : List (List UInt8)} {x : List UInt8} {a : Option Addr} {n c : Nat} {A C : World} (h : PI B p vb vr qs S pre A)
    (hown : C.ownsRow B 106 4 v' (qs.length + 1) (qflat qs ++ [.int .u8 ((Rul.relP x).op.toNat : Int), .int .i64 (Rul.relP x).mod, .bool (Rul.relP x).no, .slice a n c])) (g : A.grownBy C vr.ownBlock)
    (hat : v'.ownBlock = vr.ownBlock ∨ v'.ownBlock = some A.heap.size) (hp : p < B)
    (hs : SlAt 2 RngC A (.slice a n c) (Rul.relP x).rs) (hb : ∀ b, (Value.slice a n c).ownBlock = some b → B ≤ b ∧ vr.ownBlock ≠ some b) :
    PI B p vb v' (qs ++ [(Rul.relP x, .slice a n c)]) (fun b => S b ∨ ((Rul.relP x).rs ≠ [] ∧ (Value.slice a n c).ownBlock = some b)) (pre ++ [x]) C := by
  have hB : ∀ k, vr.ownBlock = some k → B ≤ k := fun k hk => (h.row.lt k hk).1
  have hS : ∀ b, S b → some b ≠ vr.ownBlock := fun b hb e => h.own.ne b hb e.symm
  have hT : ∀ b, (Rul.relP x).rs ≠ [] → (Value.slice a n c).ownBlock = some b → IsC A b := by
    intro b hn hb
    rcases hs with ⟨e, _⟩ | ⟨b', off, cap, e1, e2, _, _, e3⟩
    · exact absurd e hn
    · injection e1 with e1 _ _
      subst e1
      injection hb with hb
      subst hb
      have hq := e3 0 _ (List.getElem?_eq_getElem e2)
      exact IsC.of_cell hq.1
  have hs' : SlAt 2 (RngI (fun b => S b ∨ ((Rul.relP x).rs ≠ [] ∧ (Value.slice a n c).ownBlock = some b))) C (.slice a n c) (Rul.relP x).rs := by
    rcases hs with ⟨e, z⟩ | ⟨b', off, cap, e1, e2, e4, e5, e3⟩
    · exact .inl ⟨e, z⟩
    · have hne : (Rul.relP x).rs ≠ [] := by rintro e; rw [e] at e2; simp at e2
      have ho : (Value.slice a n c).ownBlock = some b' := by rw [e1]; rfl
      have hC := g.block b' (hT b' hne ho).lt (fun e => (hb b' ho).2 e.symm)
      refine .inr ⟨b', off, cap, e1, e2, e4, e5, fun j y hy => ⟨.inr ⟨hne, ho⟩, ?_, ?_⟩⟩
      · exact (World.cell?_of_block (a := ⟨b', off + j * 2, none⟩) hC).trans (e3 j y hy).1
      · exact (World.cell?_of_block (a := ⟨b', off + j * 2 + 1, none⟩) hC).trans (e3 j y hy).2
  refine ⟨boxed_grown h.box g (fun e => by have := hB _ e.symm; omega), ?_, ?_, ?_, ⟨?_, ?_, ?_⟩, Nat.le_trans h.sz g.size⟩
  · rw [qflat_add, List.length_append]; exact hown
  · rw [List.map_append, List.map_append, h.fst]; rfl
  · intro q hq
    rcases List.mem_append.1 hq with hq | hq
    · obtain ⟨a', n', c', e, z⟩ := h.it q hq
      exact ⟨a', n', c', e, rngsI_kept z (same_grown h.own g hS) (fun _ hb => .inl hb)⟩
    · rw [List.mem_singleton.1 hq]
      exact ⟨a, n, c, rfl, hs'⟩
  · rintro b (hb' | hb')
    · exact h.own.ge b hb'
    · exact (hb b hb'.2).1
  · rintro b (hb' | hb') e
    · rcases hat with e' | e'
      · exact h.own.ne b hb' (e'.symm.trans e)
      · have := (h.own.is b hb').lt
        rw [e'] at e; injection e with e; omega
    · rcases hat with e' | e'
      · exact (hb b hb'.2).2 (e'.symm.trans e)
      · have := (hT b hb'.1 hb'.2).lt
        rw [e'] at e; injection e with e; omega
  · rintro b (hb' | hb')
    · exact (h.own.is b hb').grown g (hS b hb')
    · exact (hT b hb'.1 hb'.2).grown g (fun e => (hb b hb'.2).2 e.symm)
theorem PI.stored {B p : Nat} {vb vr : Value} {qs : List (Rul.Rl × Value)} {S : Nat → Prop} {pre : List (List UInt8)} {A : World} (h : PI B p vb vr qs S pre A) (hp : p < B) : PI B p vr vr qs S pre (A.setCell ⟨p, 0, none⟩ vr) := by
  have g := grown_store A p 0 vr
  have hS : ∀ b, S b → some b ≠ some p := fun b hb e => by have := h.own.ge b hb; injection e with e; omega
  refine ⟨h.box.set 0 vr (by show 0 < 1; omega), h.row.kept g ?_, h.fst, fun q hq => ?_, h.own.grown g hS, Nat.le_trans h.sz g.size⟩
  · cases hv : vr.ownBlock with
    | none => exact .inl rfl
    | some k => exact .inr fun e => by have := h.row.lt k hv; injection e with e; omega
  · obtain ⟨a, n, c, e, hs⟩ := h.it q hq
    exact ⟨a, n, c, e, rngsI_kept hs (same_grown h.own g hS) (fun _ hb => hb)⟩
/-- the row as it lies -/
theorem PI.lies {B p : Nat} {vb : Value} {a : Option Addr} {n c : Nat} {qs : List (Rul.Rl × Value)} {S : Nat → Prop} {pre : List (List UInt8)} {A : World} (h : PI B p vb (.slice a n c) qs S pre A) :
    SlAt 4 (RelI (fun b => S b ∨ (Value.slice a n c).ownBlock = some b)) A (.slice a n c) (pre.map Rul.relP) ∧ ∀ b, (S b ∨ (Value.slice a n c).ownBlock = some b) → B ≤ b ∧ IsC A b := by
  refine ⟨?_, ?_⟩
  · rw [← h.fst]
    have hr := h.row
    rcases hr.2 with ⟨e, hn⟩ | ⟨g, cap, cur, e, hB, hg, hc, hm, _⟩
    · have : qs = [] := List.eq_nil_of_length_eq_zero hn
      subst this
      injection e with e1 e2 e3
      subst e1 e2 e3
      exact .inl ⟨rfl, _, _, rfl⟩
    · injection e with e1 e2 e3
      subst e1 e2 e3
      by_cases h0 : qs.length = 0
      · have : qs = [] := List.eq_nil_of_length_eq_zero h0
        subst this
        exact .inl ⟨rfl, _, _, rfl⟩
      · refine .inr ⟨g, 0, _, by rw [List.length_map], by rw [List.length_map]; omega, by rw [List.length_map]; exact hc, hm, fun j x hx => ?_⟩
        rw [List.getElem?_map] at hx
        obtain ⟨q, hq, rfl⟩ := Option.map_eq_some_iff.1 hx
        obtain ⟨e0, e1, e2, e3⟩ := qflat_at hq
        have hj : j < qs.length := (List.getElem?_eq_some_iff.1 hq).1
        have c0 := hr.cellAt (g := g) (j * 4) (by omega)
        have c1 := hr.cellAt (g := g) (j * 4 + 1) (by omega)
        have c2 := hr.cellAt (g := g) (j * 4 + 2) (by omega)
        have c3 := hr.cellAt (g := g) (j * 4 + 3) (by omega)
        rw [e0] at c0
        rw [e1] at c1
        rw [e2] at c2
        rw [e3] at c3
        rw [Nat.zero_add]
        obtain ⟨a', n', c', e, z⟩ := h.it q (List.mem_of_getElem? hq)
        rw [e] at c3
        exact ⟨.inr rfl, a', n', c', c0, c1, c2, c3, rngsI_kept z (fun _ _ => rfl) (fun _ hb => .inl hb)⟩
  · rintro b (hb | hb)
    · exact ⟨h.own.ge b hb, h.own.is b hb⟩
    · exact ⟨(h.row.lt b hb).1, IsC.row h.row hb⟩

/-- the row of parts that grows -/
structure PO (w : World) (B p : Nat) (vb vr : Value) (ps : List (List Rul.Rl × Value)) (S : Nat → Prop) (pre : List (List UInt8)) (W : World) : Prop where
  box : Boxed W p #[vb]
  row : W.ownsRow B 102 1 vr ps.length (ps.map (·.2))
  fst : ps.map (·.1) = pre.map Rul.partP
  it : ∀ q ∈ ps, ∃ a n c, q.2 = .slice a n c ∧ SlAt 4 (RelI S) W (.slice a n c) q.1
  own : Own B S vr W
  low : Below w.heap.size w W
  sz : B ≤ W.heap.size
theorem PO.grown {w : World} {B p : Nat} {vb vr : Value} {ps : List (List Rul.Rl × Value)} {S : Nat → Prop} {pre : List (List UInt8)} {A C : World} {r : Option Nat} (h : PO w B p vb vr ps S pre A) (g : A.grownBy C r)
    (hr : ∀ k, r = some k → w.heap.size ≤ k ∧ k ≠ p ∧ vr.ownBlock ≠ some k ∧ ¬ S k) : PO w B p vb vr ps S pre C := by
  have hS : ∀ b, S b → some b ≠ r := fun b hb e => (hr b e.symm).2.2.2 hb
  refine ⟨boxed_grown h.box g (fun e => (hr _ e.symm).2.1 rfl), h.row.kept g ?_, h.fst, fun q hq => ?_, h.own.grown g hS, h.low.grown g h.low.size (fun k hk => (hr k hk).1), Nat.le_trans h.sz g.size⟩
  · cases hv : vr.ownBlock with
    | none => exact .inl rfl
    | some k => exact .inr fun e => (hr k e.symm).2.2.1 hv
  · obtain ⟨a, n, c, e, hs⟩ := h.it q hq
    exact ⟨a, n, c, e, relsI_kept hs (same_grown h.own g hS) (fun _ hb => hb)⟩
theorem PO.len {w : World} {B p : Nat} {vb vr : Value} {ps : List (List Rul.Rl × Value)} {S : Nat → Prop} {pre : List (List UInt8)} {W : World} (h : PO w B p vb vr ps S pre W) : ps.length = pre.length := by
  have := congrArg List.length h.fst
  simpa using this
theorem PO.append {w : World} {B p : Nat} {vb vr v' : Value} {ps : List (List Rul.Rl × Value)} {S S2 : Nat → Prop} {pre : List (List UInt8)} {x : List UInt8} {a : Option Addr} {n c : Nat} {A C : World} (h : PO w B p vb vr ps S pre A)
    (hown : C.ownsRow B 102 1 v' (ps.length + 1) (ps.map (·.2) ++ [.slice a n c])) (g : A.grownBy C vr.ownBlock)
    (hat : v'.ownBlock = vr.ownBlock ∨ v'.ownBlock = some A.heap.size) (hp : p < B) (hw : w.heap.size ≤ B)
    (hs : SlAt 4 (RelI S2) A (.slice a n c) (Rul.partP x)) (hb : ∀ b, S2 b → B ≤ b ∧ vr.ownBlock ≠ some b ∧ IsC A b) :
    PO w B p vb v' (ps ++ [(Rul.partP x, .slice a n c)]) (fun b => S b ∨ S2 b) (pre ++ [x]) C := by
  have hB : ∀ k, vr.ownBlock = some k → B ≤ k := fun k hk => (h.row.lt k hk).1
  have hS : ∀ b, S b → some b ≠ vr.ownBlock := fun b hb e => h.own.ne b hb e.symm
  have hS2 : ∀ b, S2 b → some b ≠ vr.ownBlock := fun b hb' e => (hb b hb').2.1 e.symm
  have sm2 : SameOn S2 A C := fun b hb' => g.block b (hb b hb').2.2.lt (hS2 b hb')
  refine ⟨boxed_grown h.box g (fun e => by have := hB _ e.symm; omega), ?_, ?_, ?_, ⟨?_, ?_, ?_⟩, h.low.grown g h.low.size (fun k hk => by have := hB k hk; omega), Nat.le_trans h.sz g.size⟩
  · rw [List.length_append, List.map_append]; exact hown
  · rw [List.map_append, List.map_append, h.fst]; rfl
  · intro q hq
    rcases List.mem_append.1 hq with hq | hq
    · obtain ⟨a', n', c', e, z⟩ := h.it q hq
      exact ⟨a', n', c', e, relsI_kept z (same_grown h.own g hS) (fun _ hb => .inl hb)⟩
    · rw [List.mem_singleton.1 hq]
      exact ⟨a, n, c, rfl, relsI_kept hs sm2 (fun _ hb => .inr hb)⟩
  · rintro b (hb' | hb')
    · exact h.own.ge b hb'
    · exact (hb b hb').1
  · rintro b (hb' | hb') e
    · rcases hat with e' | e'
      · exact h.own.ne b hb' (e'.symm.trans e)
      · have := (h.own.is b hb').lt
        rw [e'] at e; injection e with e; omega
    · rcases hat with e' | e'
      · exact (hb b hb').2.1 (e'.symm.trans e)
      · have := (hb b hb').2.2.lt
        rw [e'] at e; injection e with e; omega
  · rintro b (hb' | hb')
    · exact (h.own.is b hb').grown g (hS b hb')
    · exact (hb b hb').2.2.grown g (hS2 b hb')
theorem PO.stored {w : World} {B p : Nat} {vb vr : Value} {ps : List (List Rul.Rl × Value)} {S : Nat → Prop} {pre : List (List UInt8)} {A : World} (h : PO w B p vb vr ps S pre A) (hp : p < B) (hw : w.heap.size ≤ p) : PO w B p vr vr ps S pre (A.setCell ⟨p, 0, none⟩ vr) := by
  have g := grown_store A p 0 vr
  have hS : ∀ b, S b → some b ≠ some p := fun b hb e => by have := h.own.ge b hb; injection e with e; omega
  refine ⟨h.box.set 0 vr (by show 0 < 1; omega), h.row.kept g ?_, h.fst, fun q hq => ?_, h.own.grown g hS, h.low.grown g h.low.size (fun k hk => by injection hk with hk; omega), Nat.le_trans h.sz g.size⟩
  · cases hv : vr.ownBlock with
    | none => exact .inl rfl
    | some k => exact .inr fun e => by have := h.row.lt k hv; injection e with e; omega
  · obtain ⟨a, n, c, e, hs⟩ := h.it q hq
    exact ⟨a, n, c, e, relsI_kept hs (same_grown h.own g hS) (fun _ hb => hb)⟩
theorem PO.lies {w : World} {B p : Nat} {vb : Value} {a : Option Addr} {n c : Nat} {ps : List (List Rul.Rl × Value)} {S : Nat → Prop} {pre : List (List UInt8)} {A : World} (h : PO w B p vb (.slice a n c) ps S pre A) :
    SlAt 1 PartC A (.slice a n c) (pre.map Rul.partP) := by
  rw [← h.fst]
  have hr := h.row
  rcases hr.2 with ⟨e, hn⟩ | ⟨g, cap, cur, e, hB, hg, hc, hm, _⟩
  · have : ps = [] := List.eq_nil_of_length_eq_zero hn
    subst this
    injection e with e1 e2 e3
    subst e1 e2 e3
    exact .inl ⟨rfl, _, _, rfl⟩
  · injection e with e1 e2 e3
    subst e1 e2 e3
    by_cases h0 : ps.length = 0
    · have : ps = [] := List.eq_nil_of_length_eq_zero h0
      subst this
      exact .inl ⟨rfl, _, _, rfl⟩
    · refine .inr ⟨g, 0, _, by rw [List.length_map], by rw [List.length_map]; omega, by rw [List.length_map]; exact hc, hm, fun j x hx => ?_⟩
      rw [List.getElem?_map] at hx
      obtain ⟨q, hq, rfl⟩ := Option.map_eq_some_iff.1 hx
      have hj : j < ps.length := (List.getElem?_eq_some_iff.1 hq).1
      have c0 := hr.cellAt (g := g) (j * 1) (by omega)
      rw [Nat.mul_one, List.getElem?_map, hq] at c0
      rw [Nat.zero_add, Nat.mul_one]
      obtain ⟨a', n', c', e, z⟩ := h.it q (List.mem_of_getElem? hq)
      exact ⟨a', n', c', c0.trans (by rw [← e]; rfl), relsI_plain z⟩

/-- the outer round's world, and what the round keeps of its start -/
structure PT (w : World) (B p bp bs bv : Nat) (v : Value) (ps : List (List Rul.Rl × Value)) (S : Nat → Prop) (pre : List (List UInt8)) (W0 W : World) : Prop where
  po : PO w B p v v ps S pre W
  kf : KeepsFrom B W0 W
  kp : KpS w.heap.size bp bs bv W0 W
theorem PT.start {w : World} {B p bp bs bv : Nat} {v : Value} {ps : List (List Rul.Rl × Value)} {S : Nat → Prop} {pre : List (List UInt8)} {W : World} (h : PO w B p v v ps S pre W) : PT w B p bp bs bv v ps S pre W W :=
  ⟨h, KeepsFrom.refl _ _, ⟨Below.refl _ _, rfl, rfl, rfl⟩⟩
/-- what lies ahead of the round's start stays -/
structure Olds (B p bp bs bv : Nat) (v : Value) (S : Nat → Prop) (n : Nat) : Prop where
  o : ∀ b, S b → b < n
  v : ∀ b, v.ownBlock = some b → b < n
  b : p < B ∧ bp < B ∧ bs < B ∧ bv < B ∧ B ≤ n
theorem PO.olds {w : World} {B p bp bs bv : Nat} {vb v : Value} {ps : List (List Rul.Rl × Value)} {S : Nat → Prop} {pre : List (List UInt8)} {W : World} (h : PO w B p vb v ps S pre W) (hb : p < B ∧ bp < B ∧ bs < B ∧ bv < B) : Olds B p bp bs bv v S W.heap.size :=
  ⟨fun b hb => (h.own.is b hb).lt, fun b hb => (h.row.lt b hb).2, hb.1, hb.2.1, hb.2.2.1, hb.2.2.2, h.sz⟩
theorem PT.grown {w : World} {B p bp bs bv : Nat} {v : Value} {ps : List (List Rul.Rl × Value)} {S : Nat → Prop} {pre : List (List UInt8)} {W0 A C : World} {r : Option Nat} (h : PT w B p bp bs bv v ps S pre W0 A) (g : A.grownBy C r)
    (ho : Olds B p bp bs bv v S W0.heap.size) (hw : w.heap.size ≤ B) (hr : ∀ k, r = some k → W0.heap.size ≤ k) : PT w B p bp bs bv v ps S pre W0 C := by
  have hb := ho.b
  have hz := h.kf.size
  refine ⟨h.po.grown g fun k hk => ?_, keeps_grown h.kf g (fun k hk => .inl (hr k hk)), kps_grown h.kp g (by omega) (by omega) fun k hk => ?_⟩
  · have := hr k hk
    exact ⟨by omega, by omega, fun e => by have := ho.v _ e; omega, fun e => by have := ho.o _ e; omega⟩
  · have := hr k hk
    exact ⟨by omega, by omega, by omega, by omega⟩
theorem PT.below {w : World} {B p bp bs bv : Nat} {v : Value} {ps : List (List Rul.Rl × Value)} {S : Nat → Prop} {pre : List (List UInt8)} {W0 A C : World} (h : PT w B p bp bs bv v ps S pre W0 A) (hb : Below A.heap.size A C)
    (ho : Olds B p bp bs bv v S W0.heap.size) (hw : w.heap.size ≤ B) : PT w B p bp bs bv v ps S pre W0 C :=
  h.grown (grown_below hb) ho hw (fun k e => by cases e)

/-- the inner round's world -/
structure PQ (w : World) (B p bp bs bv : Nat) (v : Value) (ps : List (List Rul.Rl × Value)) (S : Nat → Prop) (pre : List (List UInt8)) (W0 : World) (B2 p2 bp2 bs2 bv2 : Nat) (vb vr : Value) (qs : List (Rul.Rl × Value)) (S2 : Nat → Prop) (pre2 : List (List UInt8)) (W1 W : World) : Prop where
  pt : PT w B p bp bs bv v ps S pre W0 W
  pi : PI B2 p2 vb vr qs S2 pre2 W
  kf : KeepsFrom B2 W1 W
  kp : KpS w.heap.size bp2 bs2 bv2 W1 W
theorem PQ.start {w : World} {B p bp bs bv : Nat} {v : Value} {ps : List (List Rul.Rl × Value)} {S : Nat → Prop} {pre : List (List UInt8)} {W0 : World} {B2 p2 bp2 bs2 bv2 : Nat} {vb vr : Value} {qs : List (Rul.Rl × Value)} {S2 : Nat → Prop} {pre2 : List (List UInt8)} {W : World}
    (h : PT w B p bp bs bv v ps S pre W0 W) (k : PI B2 p2 vb vr qs S2 pre2 W) : PQ w B p bp bs bv v ps S pre W0 B2 p2 bp2 bs2 bv2 vb vr qs S2 pre2 W W :=
  ⟨h, k, KeepsFrom.refl _ _, ⟨Below.refl _ _, rfl, rfl, rfl⟩⟩
/-- what is fixed of both rounds -/
structure Fix (w : World) (B p bp bs bv : Nat) (v : Value) (S : Nat → Prop) (W0 : World) (B2 p2 bp2 bs2 bv2 : Nat) : Prop where
  ho : Olds B p bp bs bv v S W0.heap.size
  hw : w.heap.size ≤ B
  h2 : W0.heap.size ≤ p2 ∧ p2 < B2 ∧ bp2 < B2 ∧ bs2 < B2 ∧ bv2 < B2
  ne : p2 ≠ bp2 ∧ p2 ≠ bs2 ∧ p2 ≠ bv2
theorem PQ.below {w : World} {B p bp bs bv : Nat} {v : Value} {ps : List (List Rul.Rl × Value)} {S : Nat → Prop} {pre : List (List UInt8)} {W0 : World} {B2 p2 bp2 bs2 bv2 : Nat} {vb vr : Value} {qs : List (Rul.Rl × Value)} {S2 : Nat → Prop} {pre2 : List (List UInt8)} {W1 A C : World}
    (h : PQ w B p bp bs bv v ps S pre W0 B2 p2 bp2 bs2 bv2 vb vr qs S2 pre2 W1 A) (hb : Below A.heap.size A C) (f : Fix w B p bp bs bv v S W0 B2 p2 bp2 bs2 bv2) : PQ w B p bp bs bv v ps S pre W0 B2 p2 bp2 bs2 bv2 vb vr qs S2 pre2 W1 C := by
  have g := grown_below hb
  have := f.h2
  have := f.ho.b
  have := f.hw
  have := h.pi.sz
  exact ⟨h.pt.below hb f.ho f.hw, h.pi.grown g (fun k e => by cases e), keeps_grown h.kf g (fun k e => by cases e), kps_grown h.kp g (by omega) (by omega) (fun k e => by cases e)⟩
theorem PQ.append {w : World} {B p bp bs bv : Nat} {v : Value} {ps : List (List Rul.Rl × Value)} {S : Nat → Prop} {pre : List (List UInt8)} {W0 : World} {B2 p2 bp2 bs2 bv2 : Nat} {vb vr v' : Value} {qs : List (Rul.Rl × Value)} {S2 : Nat → Prop} {pre2 : List (List UInt8)} {W1 A C : World}
    {x : List UInt8} {a : Option Addr} {n c : Nat} (h : PQ w B p bp bs bv v ps S pre W0 B2 p2 bp2 bs2 bv2 vb vr qs S2 pre2 W1 A) (f : Fix w B p bp bs bv v S W0 B2 p2 bp2 bs2 bv2)
    (hown : C.ownsRow B2 106 4 v' (qs.length + 1) (qflat qs ++ [.int .u8 ((Rul.relP x).op.toNat : Int), .int .i64 (Rul.relP x).mod, .bool (Rul.relP x).no, .slice a n c])) (g : A.grownBy C vr.ownBlock)
    (hat : v'.ownBlock = vr.ownBlock ∨ v'.ownBlock = some A.heap.size)
    (hs : SlAt 2 RngC A (.slice a n c) (Rul.relP x).rs) (hb : ∀ b, (Value.slice a n c).ownBlock = some b → B2 ≤ b ∧ vr.ownBlock ≠ some b) :
    PQ w B p bp bs bv v ps S pre W0 B2 p2 bp2 bs2 bv2 vb v' (qs ++ [(Rul.relP x, .slice a n c)]) (fun b => S2 b ∨ ((Rul.relP x).rs ≠ [] ∧ (Value.slice a n c).ownBlock = some b)) (pre2 ++ [x]) W1 C := by
  have h2 := f.h2
  have := f.ho.b
  have := f.hw
  have := h.pi.sz
  have hB : ∀ k, vr.ownBlock = some k → B2 ≤ k := fun k hk => (h.pi.row.lt k hk).1
  exact ⟨h.pt.grown g f.ho f.hw (fun k hk => by have := hB k hk; omega), h.pi.append hown g hat h2.2.1 hs hb, keeps_grown h.kf g (fun k hk => .inr (.inl (IsC.row h.pi.row hk))),
    kps_grown h.kp g (by omega) (by omega) (fun k hk => by have := hB k hk; omega)⟩
theorem PQ.stored {w : World} {B p bp bs bv : Nat} {v : Value} {ps : List (List Rul.Rl × Value)} {S : Nat → Prop} {pre : List (List UInt8)} {W0 : World} {B2 p2 bp2 bs2 bv2 : Nat} {vb vr : Value} {qs : List (Rul.Rl × Value)} {S2 : Nat → Prop} {pre2 : List (List UInt8)} {W1 A : World}
    (h : PQ w B p bp bs bv v ps S pre W0 B2 p2 bp2 bs2 bv2 vb vr qs S2 pre2 W1 A) (f : Fix w B p bp bs bv v S W0 B2 p2 bp2 bs2 bv2) : PQ w B p bp bs bv v ps S pre W0 B2 p2 bp2 bs2 bv2 vr vr qs S2 pre2 W1 (A.setCell ⟨p2, 0, none⟩ vr) := by
  have g := grown_store A p2 0 vr
  have h2 := f.h2
  have hn := f.ne
  have := f.ho.b
  have := f.hw
  have := h.pi.sz
  exact ⟨h.pt.grown g f.ho f.hw (fun k hk => by injection hk with hk; omega), h.pi.stored h2.2.1, keeps_grown h.kf g (fun k hk => .inr (.inr (by injection hk with hk; omega))),
    kps_grown h.kp g (by omega) (by omega) (fun k hk => by injection hk with hk; subst hk; exact ⟨by omega, hn⟩)⟩

theorem PQ.len2 {w : World} {B p bp bs bv : Nat} {v : Value} {ps : List (List Rul.Rl × Value)} {S : Nat → Prop} {pre : List (List UInt8)} {W0 : World} {B2 p2 bp2 bs2 bv2 : Nat} {vb vr : Value} {qs : List (Rul.Rl × Value)} {S2 : Nat → Prop} {pre2 : List (List UInt8)} {W1 A : World}
    (h : PQ w B p bp bs bv v ps S pre W0 B2 p2 bp2 bs2 bv2 vb vr qs S2 pre2 W1 A) : ps.length = pre.length ∧ qs.length = pre2.length := ⟨h.pt.po.len, h.pi.len⟩
/-- the end of the outer round: the part is added -/
structure PU (w : World) (B p bp bs bv : Nat) (vb vr : Value) (ps : List (List Rul.Rl × Value)) (S : Nat → Prop) (pre : List (List UInt8)) (W0 W : World) : Prop where
  po : PO w B p vb vr ps S pre W
  kf : KeepsFrom B W0 W
  kp : KpS w.heap.size bp bs bv W0 W
theorem PQ.close {w : World} {B p bp bs bv : Nat} {v v' : Value} {ps : List (List Rul.Rl × Value)} {S : Nat → Prop} {pre : List (List UInt8)} {W0 : World} {B2 p2 bp2 bs2 bv2 : Nat} {vb : Value} {a : Option Addr} {n c : Nat} {qs : List (Rul.Rl × Value)} {S2 : Nat → Prop} {pre2 : List (List UInt8)} {W1 A C : World}
    {x : List UInt8} (h : PQ w B p bp bs bv v ps S pre W0 B2 p2 bp2 bs2 bv2 vb (.slice a n c) qs S2 pre2 W1 A) (f : Fix w B p bp bs bv v S W0 B2 p2 bp2 bs2 bv2) (hx : Rul.partP x = pre2.map Rul.relP)
    (hown : C.ownsRow B 102 1 v' (ps.length + 1) (ps.map (·.2) ++ [.slice a n c])) (g : A.grownBy C v.ownBlock) (hat : v'.ownBlock = v.ownBlock ∨ v'.ownBlock = some A.heap.size) :
    PU w B p bp bs bv v v' (ps ++ [(Rul.partP x, .slice a n c)]) (fun b => S b ∨ (S2 b ∨ (Value.slice a n c).ownBlock = some b)) (pre ++ [x]) W0 C := by
  obtain ⟨hl, hl2⟩ := h.pi.lies
  have h2 := f.h2
  have hb := f.ho.b
  have hw := f.hw
  have hB : ∀ k, v.ownBlock = some k → B ≤ k := fun k hk => (h.pt.po.row.lt k hk).1
  have hz := h.pi.sz
  refine ⟨h.pt.po.append hown g hat hb.1 hw (by rw [hx]; exact hl) (fun b h' => ?_), keeps_grown h.pt.kf g (fun k hk => .inr (.inl (IsC.row h.pt.po.row hk))), kps_grown h.pt.kp g (by omega) (by omega) (fun k hk => by have := hB k hk; omega)⟩
  have := hl2 b h'
  exact ⟨by omega, fun e => by have := f.ho.v b e; omega, this.2⟩
theorem PU.stored {w : World} {B p bp bs bv : Nat} {vb vr : Value} {ps : List (List Rul.Rl × Value)} {S : Nat → Prop} {pre : List (List UInt8)} {W0 A : World} (h : PU w B p bp bs bv vb vr ps S pre W0 A) (hp : p < B) (hw : w.heap.size ≤ p) (hb : bp < B ∧ bs < B ∧ bv < B) (hne : p ≠ bp ∧ p ≠ bs ∧ p ≠ bv) :
    PU w B p bp bs bv vr vr ps S pre W0 (A.setCell ⟨p, 0, none⟩ vr) := by
  have g := grown_store A p 0 vr
  have hz := h.po.sz
  exact ⟨h.po.stored hp hw, keeps_grown h.kf g (fun k hk => .inr (.inr (by injection hk with hk; omega))), kps_grown h.kp g (by omega) (by omega) (fun k hk => by injection hk with hk; subst hk; exact ⟨hw, hne⟩)⟩

section
variable {P : Program} (w : World)
theorem wp_append_own_at {o : Oper} {a : Act} {K : Act → World → Prop} {Q : Exit → Act → World → Prop} (s x : Operand) (t : TypeId)
    (ho : o.op = .call { callee := .builtin .append, args := #[s, x], argTypes := #[t, t] })
    (base : Nat) (e : TypeId) (i : TypeInfo) (z : Value) (size bytes : Nat) (ht : P.underlying t = some (.slice e)) (hi : P.info? e = some i) (hz : i.zero = some z)
    (hsize : i.size = size) (hby : i.bytes = bytes) (hzs : z.cells.size = size) (hsz : 0 < size)
    (v : Value) (n : Nat) (xs : List Value) (hs : a.eval s = v) (hown : w.ownsRow base e size v n xs)
    (ad : Addr) (m c : Nat) (news : List Value) (hx : a.eval x = .slice (some ad) m c) (hl : news.length = m * size) (hnews : ∀ j u, news[j]? = some u → w.cell? (ad.add j) = some u) (h1 : ∀ u ∈ news, u.oneCell' = true)
    (h63 : n + m ≤ maxLen) (hbytes : (n + m) * bytes ≤ 140737488355328) (hbase : base ≤ w.heap.size)
    (h : ∀ v' w', w'.ownsRow base e size v' (n + m) (xs ++ news) → w.grownBy w' v.ownBlock → (v'.ownBlock = v.ownBlock ∨ v'.ownBlock = some w.heap.size) → K (a.put o.dst v') w') : o.wp P a w K Q := by
  obtain ⟨v', w', hr, h2, h3, _, h5⟩ := run_append_own_at (P := P) w base t o.type e i z size bytes ht hi hz hsize hby hzs hsz v n xs hown ad m c news hl hnews h1 h63 hbytes hbase
  unfold Oper.wp execOp
  simp only [ho, resolve, invoke, builtin, Sem.run_bind, Sem.run_pure, Result.andThen_ok, List.map_toArray, List.map_cons, List.map_nil, hs, hx, hr]
  exact h v' w' h2 h3 h5
end
end Go.Proofs.YtaijjffnamjhiaaGreatDoor
