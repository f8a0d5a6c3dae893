/- The names that a message needs: how they are kept; the plain law of adding one. No program. -/
import Derived.Test.YtainindkndjkbaaGreatDoorMsgA
import Derived.Test.YtainindkndjkbaaGreatDoorBoxS
import Derived.Maps.AppendAt
import Derived.Laws.OwnMore
import Derived.OwnWalk
namespace Go.Proofs.YtainindkndjkbaaGreatDoor
open Go.RowKit

namespace Ms
/-- a name; is it a number, a text? -/
abbrev Need := List UInt8 × Bool × Bool
def orN (a b : Bool) (n : Need) : Need := (n.1, n.2.1 || a, n.2.2 || b)
def grownN (l : List Need) (t : List UInt8) : List Need := if l.findIdx (fun n => n.1 == t) < l.length then l else l ++ [(t, false, false)]
/-- a node's name is added -/
def addN (l : List Need) (x : Nd) : List Need :=
  if x.kind = 1 ∨ x.kind = 6 then l else (grownN l x.text).modify (l.findIdx (fun n => n.1 == x.text)) (orN (decide (x.kind = 3) || decide (x.kind = 4)) (decide (x.kind = 5)))
def goN (F : List Need → List Nd → List Need) (l : List Need) (bs : List (List Nd)) : List Need := bs.foldl F l
/-- .. of a message -/
def allN : Nat → List Need → List Nd → List Need
  | 0, l, _ => l
  | f + 1, l, m => m.foldl (fun l x => goN (allN f) (addN l x) ((casesOf x).map (·.2))) l
/-- how many nodes -/
def cnt : Nat → List Nd → Nat
  | 0, _ => 0
  | f + 1, m => (m.map fun x => 1 + ((casesOf x).map fun y => cnt f y.2).sum).sum
theorem modify_len (l : List Need) (i : Nat) (g : Need → Need) : (l.modify i g).length = l.length := by simp
theorem grownN_idx (l : List Need) (t : List UInt8) : l.findIdx (fun n => n.1 == t) < (grownN l t).length ∧ (grownN l t).length ≤ l.length + 1 ∧ ∃ n, (grownN l t)[l.findIdx (fun n => n.1 == t)]? = some n := by
  unfold grownN
  split
  · rename_i h
    exact ⟨h, by omega, _, List.getElem?_eq_getElem h⟩
  · rename_i h
    have e : l.findIdx (fun n => n.1 == t) = l.length := by have := List.findIdx_le_length (xs := l) (p := fun n => n.1 == t); omega
    rw [e]
    exact ⟨by simp, by simp, (t, false, false), by simp⟩
theorem addN_len (l : List Need) (x : Nd) : (addN l x).length ≤ l.length + 1 := by
  unfold addN
  split
  · omega
  · rw [modify_len]; exact (grownN_idx l x.text).2.1
theorem goN_len {F : List Need → List Nd → List Need} {c : List Nd → Nat} (hF : ∀ l b, (F l b).length ≤ l.length + c b) : ∀ (bs : List (List Nd)) (l : List Need), (goN F l bs).length ≤ l.length + (bs.map c).sum
  | [], l => by simp [goN]
  | b :: r, l => by
    have h := goN_len hF r (F l b)
    have h2 := hF l b
    show (goN F (F l b) r).length ≤ _
    rw [List.map_cons, List.sum_cons]
    omega
theorem allN_len : ∀ (f : Nat) (l : List Need) (m : List Nd), (allN f l m).length ≤ l.length + cnt f m
  | 0, l, m => by simp [allN, cnt]
  | f + 1, l, m => by
    induction m generalizing l with
    | nil => simp [allN, cnt]
    | cons x r ih =>
      have h := ih (goN (allN f) (addN l x) ((casesOf x).map (·.2)))
      have h2 := goN_len (F := allN f) (c := cnt f) (fun l b => allN_len f l b) ((casesOf x).map (·.2)) (addN l x)
      have h3 := addN_len l x
      have e : cnt (f + 1) (x :: r) = (1 + ((casesOf x).map fun y => cnt f y.2).sum) + cnt (f + 1) r := by simp [cnt]
      have e2 : ((casesOf x).map fun y => cnt f y.2).sum = (((casesOf x).map (·.2)).map (cnt f)).sum := by rw [List.map_map]; rfl
      rw [e, e2]
      show (allN (f + 1) (goN (allN f) (addN l x) ((casesOf x).map (·.2))) r).length ≤ _
      omega
/-- the cells -/
def ncells (n : Need) : List Value := [.string ⟨n.1.toArray⟩, .bool n.2.1, .bool n.2.2]
def nflat (l : List Need) : List Value := l.flatMap ncells
theorem nflat_add (l : List Need) (n : Need) : nflat (l ++ [n]) = nflat l ++ ncells n := by unfold nflat; rw [List.flatMap_append]; simp
theorem nflat_at : ∀ {l : List Need} {j : Nat} {n : Need}, l[j]? = some n → (nflat l)[j * 3]? = some (.string ⟨n.1.toArray⟩) ∧ (nflat l)[j * 3 + 1]? = some (.bool n.2.1) ∧ (nflat l)[j * 3 + 2]? = some (.bool n.2.2) := by
  intro l
  induction l with
  | nil => intro j n h; simp at h
  | cons a l ih =>
    intro j n h
    cases j with
    | zero => simp at h; subst h; exact ⟨rfl, rfl, rfl⟩
    | succ j =>
      have h' := ih (j := j) (n := n) (by simpa using h)
      have e : (j + 1) * 3 = j * 3 + 1 + 1 + 1 := by omega
      rw [e]
      exact h'
theorem nflat_or : ∀ {l : List Need} {j : Nat} {n : Need} (a b : Bool), l[j]? = some n → ((nflat l).set (j * 3 + 1) (.bool (n.2.1 || a))).set (j * 3 + 2) (.bool (n.2.2 || b)) = nflat (l.modify j (orN a b)) := by
  intro l
  induction l with
  | nil => intro j n a b h; simp at h
  | cons x l ih =>
    intro j n a b h
    cases j with
    | zero => simp at h; subst h; rfl
    | succ j =>
      have h' := ih (j := j) (n := n) a b (by simpa using h)
      have e : (j + 1) * 3 = j * 3 + 1 + 1 + 1 := by omega
      rw [e, List.modify_succ_cons]
      show _ = ncells x ++ nflat (l.modify j (orN a b))
      rw [← h']
      rfl
end Ms
open Ms
def NeedC (w : World) (b k : Nat) (n : Need) : Prop := w.cell? ⟨b, k, none⟩ = some (.string ⟨n.1.toArray⟩) ∧ w.cell? ⟨b, k + 1, none⟩ = some (.bool n.2.1) ∧ w.cell? ⟨b, k + 2, none⟩ = some (.bool n.2.2)
abbrev NeedsAt := SlAt 3 NeedC
theorem NeedC.below {w w' : World} {b k : Nat} {n : Need} (h : NeedC w b k n) (hb : Below w.heap.size w w') : NeedC w' b k n := ⟨cell_keep h.1 hb, cell_keep h.2.1 hb, cell_keep h.2.2 hb⟩
theorem needs_below {w w' : World} {v : Value} {l : List Need} (h : NeedsAt w v l) (hb : Below w.heap.size w w') : NeedsAt w' v l := h.imp fun _ _ _ _ q => q.below hb
theorem nrow_cells {w : World} {base n k : Nat} {e : TypeId} {g cap : Nat} {xs : List Value} (h : w.ownsRow base e k (.slice (some ⟨g, 0, none⟩) n cap) n xs) {j : Nat} {u : Value} (hj : xs[j]? = some u) : w.cell? ⟨g, j, none⟩ = some u := by
  have := h.cellAt j (by have := (List.getElem?_eq_some_iff.1 hj).1; have := h.1; omega)
  rw [this, hj]
theorem needs_of_row {w : World} {base : Nat} {e : TypeId} {v : Value} {l : List Need} (h : w.ownsRow base e 3 v l.length (nflat l)) : NeedsAt w v l := by
  have h' := h.2
  rcases h' with ⟨rfl, h0⟩ | ⟨g, cap, cur, rfl, _, _, h1, h2, _, _⟩
  · exact .inl ⟨List.length_eq_zero_iff.1 h0, none, 0, rfl⟩
  · by_cases h0 : l.length = 0
    · exact .inl ⟨List.length_eq_zero_iff.1 h0, _, _, by rw [h0]⟩
    · refine .inr ⟨g, 0, cap, rfl, by omega, h1, h2, fun j x hx => ?_⟩
      rw [Nat.zero_add]
      have q := nflat_at hx
      exact ⟨nrow_cells h q.1, nrow_cells h q.2.1, nrow_cells h q.2.2⟩
/-- the needs, kept in a row of the call's own behind a block that tells where -/
structure NI (B p : Nat) (v : Value) (xs : List Need) (W : World) : Prop where
  box : Boxed W p #[v]
  row : W.ownsRow B 57 3 v xs.length (nflat xs)
  ne : v.ownBlock ≠ some p
  ge : B ≤ p
theorem NI.below {B p : Nat} {v : Value} {xs : List Need} {A C : World} (h : NI B p v xs A) (hb : Below A.heap.size A C) : NI B p v xs C :=
  ⟨h.box.below hb, h.row.kept (row := none) ⟨hb.os, hb.tape, hb.output, hb.size, fun k hk _ => hb.block k hk⟩ (by cases v.ownBlock <;> simp), h.ne, h.ge⟩
theorem NI.isSlice {B p : Nat} {v : Value} {xs : List Need} {A : World} (h : NI B p v xs A) : ∃ a c, v = .slice a xs.length c := by
  rcases h.row.2 with ⟨rfl, h0⟩ | ⟨g, cap, cur, rfl, _⟩
  · exact ⟨none, 0, by rw [h0]⟩
  · exact ⟨_, _, rfl⟩
theorem nboxed_grown {A C : World} {r : Option Nat} {p : Nat} {vs : Array Value} (h : Boxed A p vs) (g : A.grownBy C r) (hr : some p ≠ r) : Boxed C p vs :=
  ⟨Nat.lt_of_lt_of_le h.lt g.size, fun j v hv => g.cell (h.cell j v hv) hr, fun j hj => (World.frozen?_of_block (g.block p h.lt hr)).trans (h.free j hj)⟩
theorem nrow_some {w : World} {base n k : Nat} {e : TypeId} {v : Value} {xs : List Value} (h : w.ownsRow base e k v n xs) (hn : 0 < n) : ∃ g cap, v = .slice (some ⟨g, 0, none⟩) n cap := by
  obtain ⟨_, ⟨rfl, rfl⟩ | ⟨g, cap, cur, rfl, _⟩⟩ := h
  · omega
  · exact ⟨_, _, rfl⟩
theorem nboxed_add {W : World} {q : Nat} {l : List Value} (h : Boxed W q l.toArray) : ∀ j u, l[j]? = some u → W.cell? ((⟨q, 0, none⟩ : Addr).add j) = some u := by
  intro j u hj
  have c := h.cell j u (by simpa using hj)
  cases j with
  | zero => simpa [Addr.add] using c
  | succ j => simpa [Addr.add] using c
/-- the new row's slice is stored into the block -/
theorem NI.stored {B p : Nat} {v v' : Value} {xs ys : List Need} {A C : World} (h : NI B p v xs A) (hg : A.grownBy C v.ownBlock) (hn : v'.ownBlock = v.ownBlock ∨ v'.ownBlock = some A.heap.size) (ho : C.ownsRow B 57 3 v' ys.length (nflat ys)) :
    NI B p v' ys (C.setCell ⟨p, 0, none⟩ v') ∧ Boxed C p #[v] := by
  have hb := nboxed_grown h.box hg (fun e => h.ne e.symm)
  have hne : v'.ownBlock ≠ some p := by
    rcases hn with e | e
    · rw [e]; exact h.ne
    · rw [e]; intro g; injection g with g; have := h.box.lt; omega
  refine ⟨⟨by exact hb.set 0 v' (by simp), ho.kept (row := some p) ⟨rfl, rfl, rfl, by simp, fun k _ hk => ?_⟩ (.inr hne), hne, h.ge⟩, hb⟩
  exact heap_setCell_other C ⟨p, 0, none⟩ k v' (fun e => hk (by simp [e]))
/-- two of a row's cells are stored -/
theorem NI.ored {B p g cap : Nat} {ys : List Need} {A : World} (h : NI B p (.slice (some ⟨g, 0, none⟩) ys.length cap) ys A) {j : Nat} {n : Need} (hj : ys[j]? = some n) (a b : Bool) :
    NI B p (.slice (some ⟨g, 0, none⟩) ys.length cap) (ys.modify j (orN a b)) ((A.setCell ⟨g, j * 3 + 1, none⟩ (.bool (n.2.1 || a))).setCell ⟨g, j * 3 + 2, none⟩ (.bool (n.2.2 || b))) := by
  have hgp : g ≠ p := fun e => h.ne (by rw [e]; rfl)
  have h1 := (h.row.stored (j * 3 + 1) (.bool (n.2.1 || a))).1
  have h2 := (h1.stored (j * 3 + 2) (.bool (n.2.2 || b))).1
  rw [nflat_or a b hj] at h2
  exact ⟨(h.box.far hgp _ _).far hgp _ _, by rw [modify_len]; exact h2, h.ne, h.ge⟩
section
variable {P : Program} (w : World)
theorem wp_nappend {o : Oper} {a : Act} {K : Act → World → Prop} {Q : Exit → Act → World → Prop} (s x : Operand) (t : TypeId)
    (ho : o.op = .call { callee := .builtin .append, args := #[s, x], argTypes := #[t, t] })
    (base : Nat) (e : TypeId) (i : TypeInfo) (z : Value) (size bytes : Nat) (ht : P.underlying t = some (.slice e)) (hi : P.info? e = some i) (hz : i.zero = some z)
    (hsize : i.size = size) (hby : i.bytes = bytes) (hzs : z.cells.size = size) (hsz : 0 < size)
    (v : Value) (n : Nat) (xs : List Value) (hs : a.eval s = v) (hown : w.ownsRow base e size v n xs)
    (ad : Addr) (m c : Nat) (news : List Value) (hx : a.eval x = .slice (some ad) m c) (hl : news.length = m * size) (hnews : ∀ j u, news[j]? = some u → w.cell? (ad.add j) = some u) (h1 : ∀ u ∈ news, u.oneCell' = true)
    (h63 : n + m ≤ maxLen) (hbytes : (n + m) * bytes ≤ 140737488355328) (hbase : base ≤ w.heap.size)
    (h : ∀ v' w', w'.ownsRow base e size v' (n + m) (xs ++ news) → w.grownBy w' v.ownBlock → (v'.ownBlock = v.ownBlock ∨ v'.ownBlock = some w.heap.size) → K (a.put o.dst v') w') : o.wp P a w K Q := by
  obtain ⟨v', w', hr, h2, h3, _, h5⟩ := run_append_own_at (P := P) w base t o.type e i z size bytes ht hi hz hsize hby hzs hsz v n xs hown ad m c news hl hnews h1 h63 hbytes hbase
  unfold Oper.wp execOp
  simp only [ho, resolve, invoke, builtin, Sem.run_bind, Sem.run_pure, Result.andThen_ok, List.map_toArray, List.map_cons, List.map_nil, hs, hx, hr]
  exact h v' w' h2 h3 h5
end
end Go.Proofs.YtainindkndjkbaaGreatDoor
