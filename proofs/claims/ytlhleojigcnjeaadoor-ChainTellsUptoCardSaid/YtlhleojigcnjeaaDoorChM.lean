/- The state of chain.Chain's loop, and how its steps keep it. -/
import Derived.Test.YtlhleojigcnjeaaDoorLess
namespace Go.Proofs.YtlhleojigcnjeaaDoor
open Go.RowKit

/-- the row o holds the tags A; the box p holds the tag c -/
structure ChM (w wr : World) (o : Value) (A : List (Tg × Value)) (p : Nat) (c : Tg) (V : Value) : Prop where
  bel : Below w.heap.size w wr
  own : wr.ownsRow w.heap.size 24 4 o A.length (flat A)
  all : ∀ x ∈ (c, V) :: A, StrsAt wr x.2 x.1.vs ∧ Nil0 x.2 ∧ NotRow o.ownBlock x.2
  box : Boxed wr p (tcells c V).toArray
  pw : w.heap.size ≤ p
  pn : some p ≠ o.ownBlock
theorem ChM.mid {w wr w2 : World} {o o' : Value} {A : List (Tg × Value)} {p : Nat} {c : Tg} {V : Value} {ob : Obj} (h : ChM w wr o A p c V)
    (hown : w2.ownsRow w.heap.size 24 4 o' (A.length + 1) (flat A ++ tcells c V)) (hg : (wr.alloc ob).grownBy w2 o.ownBlock) (hat : o'.ownBlock = o.ownBlock ∨ o'.ownBlock = some (wr.alloc ob).heap.size) :
    ChM w w2 o' (A ++ [(c, V)]) p c V := by
  have hsz : (wr.alloc ob).heap.size = wr.heap.size + 1 := by simp
  refine ⟨(h.bel.alloc h.bel.size _).grown hg (by have := h.bel.size; omega) (fun k hk => (h.own.lt k hk).1), ?_, ?_, (h.box.alloc _).grown hg h.pn, h.pw, ?_⟩
  · rw [flat_snoc, List.length_append, List.length_singleton]; exact hown
  · intro x hx
    have hx' : x ∈ (c, V) :: A := by
      rcases List.mem_cons.1 hx with rfl | hx
      · exact List.mem_cons_self ..
      · rcases List.mem_append.1 hx with hx | hx
        · exact List.mem_cons_of_mem _ hx
        · rw [List.mem_singleton.1 hx]; exact List.mem_cons_self ..
    obtain ⟨a1, a2, a3⟩ := h.all x hx'
    refine ⟨(a1.alloc ob).grown hg a3, a2, ?_⟩
    rcases hat with e | e
    · rw [e]; exact a3
    · rw [e]; exact a1.old (by omega)
  · rcases hat with e | e
    · rw [e]; exact h.pn
    · rw [e]; have := h.box.lt; intro g; injection g with g; omega
theorem ChM.next {w w2 w3 : World} {o : Value} {A : List (Tg × Value)} {p : Nat} {c : Tg} {V : Value} (h : ChM w w2 o A p c V) (u : Tg) (V' : Value)
    (hb : Below (w2.alloc (.cells (tcells c V).toArray 24)).heap.size (w2.alloc (.cells (tcells c V).toArray 24)) w3) (hs : StrsAt w3 V' u.vs) (h0 : Nil0 V')
    (hf : ∀ q, q < (w2.alloc (.cells (tcells c V).toArray 24)).heap.size → NotRow (some q) V → NotRow (some q) V') :
    ChM w ((((w3.setCell ⟨w2.heap.size, 0, none⟩ (.string ⟨u.l.toArray⟩)).setCell ⟨w2.heap.size, 1, none⟩ (.string ⟨u.s.toArray⟩)).setCell ⟨w2.heap.size, 2, none⟩ (.string ⟨u.r.toArray⟩)).setCell ⟨w2.heap.size, 3, none⟩ V') o A w2.heap.size u V' := by
  have hsz : (w2.alloc (.cells (tcells c V).toArray 24)).heap.size = w2.heap.size + 1 := by simp
  have g0 : w2.grownBy w3 none := (World.grownBy_alloc w2 _ none).trans (grown_below hb none)
  have g4 := grown_new (grown_new (grown_new (grown_new g0 (grown_set w3 ⟨w2.heap.size, 0, none⟩ (.string ⟨u.l.toArray⟩)) (Nat.le_refl _)) (grown_set _ ⟨w2.heap.size, 1, none⟩ (.string ⟨u.s.toArray⟩)) (Nat.le_refl _)) (grown_set _ ⟨w2.heap.size, 2, none⟩ (.string ⟨u.r.toArray⟩)) (Nat.le_refl _)) (grown_set _ ⟨w2.heap.size, 3, none⟩ V') (Nat.le_refl _)
  have hVc := h.all _ (List.mem_cons_self ..)
  have hp : NotRow (some w2.heap.size) V' := hf _ (by omega) (hVc.1.old (Nat.le_refl _))
  have hbx := ((((Boxed.made w2 (tcells c V).toArray 24).below hb).set 0 (.string ⟨u.l.toArray⟩) (by simp [tcells])).set 1 (.string ⟨u.s.toArray⟩) (by simp [tcells])).set 2 (.string ⟨u.r.toArray⟩) (by simp [tcells]) |>.set 3 V' (by simp [tcells])
  refine ⟨h.bel.grown g4 h.bel.size (fun k hk => by cases hk), h.own.kept g4 (by cases o.ownBlock <;> simp), ?_, by simpa [tcells] using hbx, h.bel.size, ?_⟩
  · intro x hx
    rcases List.mem_cons.1 hx with rfl | hx
    · refine ⟨(((hs.put _ hp _).put _ hp _).put _ hp _).put _ hp _, h0, ?_⟩
      cases e : o.ownBlock with
      | none => exact NotRow.none _
      | some g =>
        have hl := (h.own.lt g e).2
        exact hf g (by omega) (by have := hVc.2.2; rw [e] at this; exact this)
    · obtain ⟨a1, a2, a3⟩ := h.all x (List.mem_cons_of_mem _ hx)
      exact ⟨a1.grown g4 (NotRow.none _), a2, a3⟩
  · intro e
    have := (h.own.lt _ e.symm).2
    omega
theorem ChM.start {w w4 w6 : World} (hbel : Below w.heap.size w w4) (t : Tg) (V1 : Value) (h1 : StrsAt w4 V1 t.vs) (h0 : Nil0 V1) (u : Tg) (V2 : Value)
    (hb : Below (w4.alloc (.cells (tcells t V1).toArray 24)).heap.size (w4.alloc (.cells (tcells t V1).toArray 24)) w6) (hs : StrsAt w6 V2 u.vs) (h0' : Nil0 V2)
    (hf : ∀ q, q < (w4.alloc (.cells (tcells t V1).toArray 24)).heap.size → NotRow (some q) V1 → NotRow (some q) V2) :
    ChM w (w6.alloc (.cells (tcells u V2).toArray 24)) (.slice (some ⟨w4.heap.size, 0, none⟩) 1 1) [(t, V1)] w6.heap.size u V2 := by
  have hsz : (w4.alloc (.cells (tcells t V1).toArray 24)).heap.size = w4.heap.size + 1 := by simp
  have hle := hb.size
  have hb4 := hbel.size
  have n1 : NotRow (some w4.heap.size) V1 := h1.old (Nat.le_refl _)
  have row : (w4.alloc (.cells (tcells t V1).toArray 24)).ownsRow w.heap.size 24 4 (.slice (some ⟨w4.heap.size, 0, none⟩) 1 1) 1 (flat [(t, V1)]) :=
    ⟨rfl, .inr ⟨w4.heap.size, 1, (tcells t V1).toArray, rfl, hb4, by show (w4.heap.push _)[w4.heap.size]? = _; simp, Nat.le_refl _, by unfold maxLen; omega, rfl, rfl⟩⟩
  have hb6 : Below w.heap.size w w6 := blw_trans (hbel.alloc hb4 _) hb
  refine ⟨hb6.alloc hb6.size _, (row.kept (grown_below hb none) (.inr (by simp [Value.ownBlock]))).alloc _, ?_, Boxed.made _ _ _, by omega, by simp [Value.ownBlock]; omega⟩
  intro x hx
  rcases List.mem_cons.1 hx with rfl | hx
  · exact ⟨hs.alloc _, h0', hf w4.heap.size (by rw [hsz]; omega) n1⟩
  · obtain rfl := List.mem_singleton.1 hx
    exact ⟨((h1.alloc _).below hb).alloc _, h0, n1⟩
theorem Boxed.t0 {w : World} {p : Nat} {c : Tg} {V : Value} (h : Boxed w p (tcells c V).toArray) : w.cell? ⟨p, 0, none⟩ = some (.string ⟨c.l.toArray⟩) := h.cell 0 _ rfl
theorem Boxed.t1 {w : World} {p : Nat} {c : Tg} {V : Value} (h : Boxed w p (tcells c V).toArray) : w.cell? ⟨p, 1, none⟩ = some (.string ⟨c.s.toArray⟩) := h.cell 1 _ rfl
theorem Boxed.t2 {w : World} {p : Nat} {c : Tg} {V : Value} (h : Boxed w p (tcells c V).toArray) : w.cell? ⟨p, 2, none⟩ = some (.string ⟨c.r.toArray⟩) := h.cell 2 _ rfl
theorem Boxed.t3 {w : World} {p : Nat} {c : Tg} {V : Value} (h : Boxed w p (tcells c V).toArray) : w.cell? ⟨p, 3, none⟩ = some (V) := h.cell 3 _ rfl
theorem row_slice {w : World} {base n k : Nat} {e : TypeId} {v : Value} {xs : List Value} (h : w.ownsRow base e k v n xs) : ∃ a c, v = .slice a n c := by
  obtain ⟨_, ⟨rfl, rfl⟩ | ⟨g, cap, cur, rfl, _⟩⟩ := h
  · exact ⟨_, _, rfl⟩
  · exact ⟨_, _, rfl⟩
def lenV : Value → Nat
  | .slice _ n _ => n
  | _ => 0
theorem less_vs {t u : Tg} (h : t.less = some u) : u.vs.length ≤ t.vs.length := by
  unfold Tg.less at h
  split at h
  · obtain rfl := Option.some.inj h
    rw [List.length_take]; omega
  · split at h
    · split at h
      · cases h
      · obtain rfl := Option.some.inj h; exact Nat.le_refl _
    · obtain rfl := Option.some.inj h; exact Nat.le_refl _
theorem chain_small : ∀ (n : Nat) (t : Tg), t.size = n → t.chain.length ≤ n + 1 ∧ ∀ x ∈ t.chain, x.vs.length ≤ t.vs.length
  | 0, t, hn => by
    have hl : t.less = none := by
      cases e : t.less with
      | none => rfl
      | some u => have := less_size e; omega
    rw [chain_none hl]
    exact ⟨Nat.le_refl _, fun x hx => by rw [List.mem_singleton.1 hx]; exact Nat.le_refl _⟩
  | n + 1, t, hn => by
    cases e : t.less with
    | none =>
      rw [chain_none e]
      exact ⟨by simp, fun x hx => by rw [List.mem_singleton.1 hx]; exact Nat.le_refl _⟩
    | some u =>
      have hs := less_size e
      obtain ⟨h1, h2⟩ := chain_small n u (by omega)
      rw [chain_some e]
      refine ⟨by simpa using h1, fun x hx => ?_⟩
      rcases List.mem_cons.1 hx with rfl | hx
      · exact Nat.le_refl _
      · exact Nat.le_trans (h2 x hx) (less_vs e)
theorem chain_step (c : Tg) : c.chain = c :: (if c.less.isSome then (c.less.getD c).chain else []) := by
  cases e : c.less with
  | none => rw [chain_none e]; rfl
  | some u => rw [chain_some e]; rfl
theorem chain_self (c : Tg) : c ∈ c.chain := by rw [chain_step]; exact List.mem_cons_self ..
theorem chain_turn {L : List Tg} {A : List (Tg × Value)} {c : Tg} (V : Value) (h : L = A.map (·.1) ++ (if true = true then c.chain else [])) : L = (A ++ [(c, V)]).map (·.1) ++ (if c.less.isSome then (c.less.getD c).chain else []) := by
  rw [h, if_pos rfl, List.map_append, List.append_assoc]
  exact congrArg (A.map (·.1) ++ ·) (chain_step c)
end Go.Proofs.YtlhleojigcnjeaaDoor
