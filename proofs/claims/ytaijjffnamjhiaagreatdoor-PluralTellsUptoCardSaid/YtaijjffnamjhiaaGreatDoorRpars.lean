/- The walk of rule.parsed: what is read of one relation's text. Conditions: the library's two errors and its variable MaxLen are there; the text is short. -/
import Derived.Test.YtaijjffnamjhiaaGreatDoorRnum
import Derived.Test.YtaijjffnamjhiaaGreatDoorRulAt
import Derived.Test.YtaijjffnamjhiaaGreatDoorSplitSeq
import Derived.Test.YtaijjffnamjhiaaGreatDoorRound
import Derived.Test.YtaijjffnamjhiaaGreatDoorHeld
import Derived.Test.YtaijjffnamjhiaaGreatDoorBoxS
import Derived.Test.YtaijjffnamjhiaaGreatDoorShelfC
import Derived.Deep.DeepCutAuto
import Derived.Deep.CutRange
import Derived.Sort.CutIn
import Derived.Maps.AppendAt
namespace Go.Proofs.YtaijjffnamjhiaaGreatDoor
open Go.RowKit Go.Shelf

theorem scut_any (t s : List UInt8) (w : World) (hM : MaxW w) (ht : t.length ≤ 4000000000) :
    Calls Tryz.prog 76 #[.string ⟨t.toArray⟩, .string ⟨s.toArray⟩] w fun e w' => e = .returned (.tuple #[.string ⟨(Lib.cut t s).1.toArray⟩, .string ⟨(Lib.cut t s).2.1.toArray⟩, .bool (Lib.cut t s).2.2]) ∧ Below w.heap.size w w' := by
  obtain ⟨m, hm⟩ := hM
  refine (Tryz.strings_Cut ⟨t.toArray⟩ ⟨s.toArray⟩ m w (by rw [size_mkl]; omega) hm).mono ?_
  rintro e w' ⟨rfl, n, rfl⟩
  exact ⟨rfl, blw_drewN (Below.refl _ _) n⟩
theorem cut_lens (t s : List UInt8) : (Lib.cut t s).1.length ≤ t.length ∧ (Lib.cut t s).2.1.length ≤ t.length := by
  unfold Lib.cut
  split
  · simp only [List.length_take, List.length_drop]; omega
  · simp

attribute [local go_sem] Oper.semAt_some

theorem infoRng : (Tryz.prog.info? 165).map (fun i => (i.zero, i.size, i.bytes)) = some (some (.agg #[.int .i64 0, .int .i64 0]), 2, 16) := by kernel_rfl
theorem piece_len (sub : List UInt8) : ∀ (k : Nat) (s x : List UInt8), x ∈ Lib.splitK sub 0 k s → x.length ≤ s.length := by
  intro k
  induction k with
  | zero => intro s x hx; simp [Lib.splitK] at hx; rw [hx]; omega
  | succ k ih =>
    intro s x hx
    unfold Lib.splitK at hx
    split at hx
    · simp at hx; rw [hx]; omega
    · rcases List.mem_cons.1 hx with rfl | hx
      · simp; omega
      · have := ih _ x hx
        simp at this; omega
theorem piece_le {s sub x : List UInt8} (hx : x ∈ Lib.split s sub) : x.length ≤ s.length := piece_len sub _ s x hx
theorem set_else {w : World} {a : Addr} {v : Value} {k : Nat} (h : a.block ≠ k) : (w.setCell a v).heap[k]? = w.heap[k]? :=
  Below.heap_setCell _ _ _ k (by first | exact h | exact h.symm)
/-- the cells of ranges -/
def rflat (l : List (List UInt8)) : List Value := l.flatMap fun x => [.int .i64 (Rul.rngP x).1, .int .i64 (Rul.rngP x).2]
theorem rflat_at {l : List (List UInt8)} : ∀ {j : Nat} {x : List UInt8}, l[j]? = some x → (rflat l)[j * 2]? = some (.int .i64 (Rul.rngP x).1) ∧ (rflat l)[j * 2 + 1]? = some (.int .i64 (Rul.rngP x).2) := by
  induction l with
  | nil => intro j x h; simp at h
  | cons a l ih =>
    intro j x h
    cases j with
    | zero => simp at h; subst h; exact ⟨rfl, rfl⟩
    | succ j =>
      have h' := ih (by simpa using h)
      have e : (j + 1) * 2 = j * 2 + 1 + 1 := by omega
      rw [e]
      exact h'
/-- the round's world: the box of the relation, the row of its ranges -/
structure PX (w : World) (B p : Nat) (o m b vb vr : Value) (pre : List (List UInt8)) (W : World) : Prop where
  box : Boxed W p #[o, m, b, vb]
  row : W.ownsRow B 165 2 vr pre.length (rflat pre)
  res : Boxed W w.heap.size #[.int .u8 0, .int .i64 0, .bool false, .slice none 0 0]
  low : Below w.heap.size w W
  sz : B ≤ W.heap.size
theorem boxed_grown {A C : World} {r : Option Nat} {p : Nat} {vs : Array Value} (h : Boxed A p vs) (g : A.grownBy C r) (hr : some p ≠ r) : Boxed C p vs :=
  ⟨Nat.lt_of_lt_of_le h.lt g.size, fun j v hv => g.cell (h.cell j v hv) hr, fun j hj => (World.frozen?_of_block (g.block p h.lt hr)).trans (h.free j hj)⟩
theorem PX.grown {w : World} {B p : Nat} {o m b vb vr : Value} {pre : List (List UInt8)} {A C : World} {r : Option Nat} (h : PX w B p o m b vb vr pre A) (g : A.grownBy C r)
    (hr : ∀ k, r = some k → w.heap.size < k ∧ k ≠ p ∧ vr.ownBlock ≠ some k) : PX w B p o m b vb vr pre C :=
  ⟨boxed_grown h.box g (fun e => (hr _ e.symm).2.1 rfl), h.row.kept g (by
      cases hv : vr.ownBlock with
      | none => exact .inl rfl
      | some k => exact .inr fun e => (hr k e.symm).2.2 hv), boxed_grown h.res g (fun e => by have := (hr _ e.symm).1; omega),
    h.low.grown g h.low.size (fun k hk => by have := (hr k hk).1; omega), Nat.le_trans h.sz g.size⟩

theorem PX.lies {w : World} {B p : Nat} {o m b vb vr : Value} {pre : List (List UInt8)} {A C : World} (h : PX w B p o m b vb vr pre A)
    (hC : ∀ (g : Nat) cur e, B ≤ g → A.heap[g]? = some (.cells cur e (0, 0)) → C.heap[g]? = A.heap[g]?) : SlAt 2 RngC C vr (pre.map Rul.rngP) := by
  rcases hv : h.row.2 with ⟨rfl, hn⟩ | ⟨g, cap, cur, rfl, hB, hg, hc, hm, _⟩
  · exact .inl ⟨by rw [List.length_eq_zero_iff.1 hn]; rfl, _, _, rfl⟩
  · by_cases h0 : pre.length = 0
    · exact .inl ⟨by rw [List.length_eq_zero_iff.1 h0]; rfl, some ⟨g, 0, none⟩, cap, by rw [h0]⟩
    · have hgC := hC g cur _ hB hg
      refine .inr ⟨g, 0, cap, by rw [List.length_map], by rw [List.length_map]; omega, by rw [List.length_map]; exact hc, hm, fun j x hx => ?_⟩
      rw [List.getElem?_map] at hx
      obtain ⟨y, hy, rfl⟩ := Option.map_eq_some_iff.1 hx
      have hj : j < pre.length := (List.getElem?_eq_some_iff.1 hy).1
      obtain ⟨e0, e1⟩ := rflat_at hy
      have c0 := h.row.cellAt (g := g) (j * 2) (by omega)
      have c1 := h.row.cellAt (g := g) (j * 2 + 1) (by omega)
      rw [e0] at c0
      rw [e1] at c1
      rw [Nat.zero_add]
      exact ⟨(World.cell?_of_block (a := ⟨g, j * 2, none⟩) hgC).trans c0, (World.cell?_of_block (a := ⟨g, j * 2 + 1, none⟩) hgC).trans c1⟩

theorem row_some {w : World} {base n k : Nat} {e : TypeId} {v : Value} {xs : List Value} (h : w.ownsRow base e k v n xs) (hn : 0 < n) : ∃ g cap, v = .slice (some ⟨g, 0, none⟩) n cap := by
  obtain ⟨_, ⟨rfl, rfl⟩ | ⟨g, cap, cur, rfl, _⟩⟩ := h
  · omega
  · exact ⟨_, _, rfl⟩
theorem boxed_add {W : World} {q : Nat} {l : List Value} (h : Boxed W q l.toArray) : ∀ j u, l[j]? = some u → W.cell? ((⟨q, 0, none⟩ : Addr).add j) = some u := by
  intro j u hj
  have c := h.cell j u (by simpa using hj)
  cases j with
  | zero => simpa [Addr.add] using c
  | succ j => simpa [Addr.add] using c
/-- number i or number j may come up -/
theorem take_two {P : Program} {l : List Oper} {Q : Exit → Act → World → Prop} {md : Region.Mode} {S : World → Prop} {oi oj : Oper} {fuel : Nat} {listed : Array Bool} {a : Act} {w : World} (i j : Nat) (hi : l[i]? = some oi) (hj : l[j]? = some oj) (hr : Region.ready md l.toArray listed = [i, j])
    (hwi : Region.wanted oi (yielded l.toArray a.tmps) = true) (hwj : Region.wanted oj (yielded l.toArray a.tmps) = true)
    (h1 : ∀ K' : Act → World → Prop, Shut (∀ a w, S w → (S w → wpAnyH P md l.toArray Q S fuel (listed.setIfInBounds i true) a w) → K' a w) → Oper.wp P oi a w K' Q)
    (h2 : ∀ K' : Act → World → Prop, Shut (∀ a w, S w → (S w → wpAnyH P md l.toArray Q S fuel (listed.setIfInBounds j true) a w) → K' a w) → Oper.wp P oj a w K' Q) : wpAnyH P md l.toArray Q S (fuel + 1) listed a w :=
  wpAnyH_ready hr (by simp) (AllReadyH.cons (by simpa using hi) (fun K' hK => by rw [if_pos hwi]; exact h1 K' hK) (AllReadyH.cons (by simpa using hj) (fun K' hK => by rw [if_pos hwj]; exact h2 K' hK) AllReadyH.nil))
/-- the round's world, and what the round keeps of its start -/
structure PL (w : World) (B p bp bs bv : Nat) (o m b vb vr : Value) (pre : List (List UInt8)) (W0 W : World) : Prop where
  px : PX w B p o m b vb vr pre W
  kf : KeepsFrom B W0 W
  kp : KpS w.heap.size bp bs bv W0 W
theorem PL.start {w : World} {B p bp bs bv : Nat} {o m b vb vr : Value} {pre : List (List UInt8)} {W : World} (h : PX w B p o m b vb vr pre W) : PL w B p bp bs bv o m b vb vr pre W W :=
  ⟨h, KeepsFrom.refl _ _, ⟨Below.refl _ _, rfl, rfl, rfl⟩⟩
theorem PL.below {w : World} {B p bp bs bv : Nat} {o m b vb vr : Value} {pre : List (List UInt8)} {W0 A C : World} (h : PL w B p bp bs bv o m b vb vr pre W0 A) (hb : Below A.heap.size A C)
    (h1 : bp < B ∧ bs < B ∧ bv < B) : PL w B p bp bs bv o m b vb vr pre W0 C :=
  have s := h.px.sz
  have g : A.grownBy C none := ⟨hb.os, hb.tape, hb.output, hb.size, fun k hk _ => hb.block k hk⟩
  ⟨h.px.grown g (fun k e => by cases e), h.kf.trans (KeepsFrom.of_grownBy g (fun j e => by cases e)),
    h.kp.trans ⟨hb.mono h.px.low.size, hb.block _ (by omega), hb.block _ (by omega), hb.block _ (by omega)⟩⟩
theorem PL.append {w : World} {B p bp bs bv : Nat} {o m b vb vr v' : Value} {pre : List (List UInt8)} {x : List UInt8} {W0 A C : World} (h : PL w B p bp bs bv o m b vb vr pre W0 A)
    (hown : C.ownsRow B 165 2 v' (pre.length + 1) (rflat pre ++ [.int .i64 (Rul.rngP x).1, .int .i64 (Rul.rngP x).2])) (g : A.grownBy C vr.ownBlock) (hw : w.heap.size < B) (hp : p < B)
    (h1 : bp < B ∧ bs < B ∧ bv < B) : PL w B p bp bs bv o m b vb v' (pre ++ [x]) W0 C := by
  have hB : ∀ k, vr.ownBlock = some k → B ≤ k := fun k hk => (h.px.row.lt k hk).1
  have s := h.px.sz
  have keep : ∀ k, k < B → C.heap[k]? = A.heap[k]? := fun k hk => g.block k (by omega) (fun e => by have := hB k e.symm; omega)
  refine ⟨⟨boxed_grown h.px.box g (fun e => by have := hB _ e.symm; omega), ?_, boxed_grown h.px.res g (fun e => by have := hB _ e.symm; omega),
    h.px.low.grown g h.px.low.size (fun k hk => by have := hB _ hk; omega), Nat.le_trans h.px.sz g.size⟩, h.kf.trans ⟨g.size, fun k ob hk hA hc => ?_⟩,
    h.kp.trans ⟨⟨g.os, g.tape, g.output, g.size, fun k hk => keep k (by omega)⟩, keep _ h1.1, keep _ h1.2.1, keep _ h1.2.2⟩⟩
  · have e : rflat (pre ++ [x]) = rflat pre ++ [.int .i64 (Rul.rngP x).1, .int .i64 (Rul.rngP x).2] := by unfold rflat; rw [List.flatMap_append]; rfl
    rw [e, List.length_append]
    exact hown
  · refine (g.block k (Array.getElem?_eq_some_iff.1 hA).1 (fun e => ?_)).trans hA
    rcases h.px.row.2 with ⟨rfl, _⟩ | ⟨g', cap, cur, rfl, _, hg', _⟩
    · cases e
    · injection e with e
      subst e
      rw [hA] at hg'
      injection hg' with hg'
      subst hg'
      cases hc
theorem PL.stored {w : World} {B p bp bs bv : Nat} {o m b vb vr : Value} {pre : List (List UInt8)} {W0 A : World} (h : PL w B p bp bs bv o m b vb vr pre W0 A) (hw : w.heap.size < p) (hp : p < B)
    (hne : p ≠ bp ∧ p ≠ bs ∧ p ≠ bv) : PL w B p bp bs bv o m b vr vr pre W0 (A.setCell ⟨p, 3, none⟩ vr) := by
  have g : A.grownBy (A.setCell ⟨p, 3, none⟩ vr) (some p) := ⟨rfl, rfl, rfl, by rw [size_setCell]; exact Nat.le_refl _, fun k _ hk => set_else (fun e => hk (by rw [← e]))⟩
  have keep : ∀ k, p ≠ k → (A.setCell ⟨p, 3, none⟩ vr).heap[k]? = A.heap[k]? := fun k hk => set_else hk
  refine ⟨⟨h.px.box.set 3 vr (by show 3 < 4; omega), h.px.row.kept g ?_, h.px.res.far (by omega) 3 vr, h.px.low.setCell (p := ⟨p, 3, none⟩) (show w.heap.size ≤ p by omega) vr, by rw [size_setCell]; exact h.px.sz⟩,
    h.kf.trans (KeepsFrom.of_grownBy g (fun j e => by injection e with e; omega)),
    h.kp.trans ⟨(Below.refl _ _).setCell (p := ⟨p, 3, none⟩) (show w.heap.size ≤ p by omega) vr, keep _ hne.1, keep _ hne.2.1, keep _ hne.2.2⟩⟩
  cases hv : vr.ownBlock with
  | none => exact .inl rfl
  | some k => exact .inr fun e => by have := h.px.row.lt k hv; injection e with e; omega

set_option maxRecDepth 100000 in
set_option maxHeartbeats 8000000 in
theorem parsed_any (t : List UInt8) (w : World) (hM : MaxW w) (hN : NumW w) (ht : t.length ≤ 4000000000) :
    Calls Tryz.prog 61 #[.string ⟨t.toArray⟩] w fun e w' => ∃ v, e = .returned (.agg #[.int .u8 ((Rul.relP t).op.toNat : Int), .int .i64 (Rul.relP t).mod, .bool (Rul.relP t).no, v]) ∧ SlAt 2 RngC w' v (Rul.relP t).rs ∧ (∀ b, v.ownBlock = some b → w.heap.size ≤ b) ∧ Below w.heap.size w w' := by
  have C1 := Lib.hid fun w hM => scut_any t [32, 61, 32] w hM ht
  have C2 := Lib.hid fun w hM => scut_any t [32, 33, 61, 32] w hM ht
  have l1 := cut_lens t Rul.eqS
  have l2 := cut_lens t Rul.neS
  obtain ⟨hh, hhh⟩ : ∃ hh, hh = (Rul.hd t).1 := ⟨_, rfl⟩
  obtain ⟨tl, htl⟩ : ∃ tl, tl = (Rul.hd t).2 := ⟨_, rfl⟩
  have eop : (Rul.relP t).op = Rul.opP (Lib.cut hh Rul.pcS).1 := by rw [hhh]; rfl
  have emd : (Rul.relP t).mod = if (Lib.cut hh Rul.pcS).2.2 then Rul.num (Lib.cut hh Rul.pcS).2.1 else 0 := by rw [hhh]; rfl
  have eno : (Rul.relP t).no = !(Lib.cut t Rul.eqS).2.2 := rfl
  have ers : (Rul.relP t).rs = (Lib.split tl [44]).map Rul.rngP := by rw [htl]; rfl
  have lh : hh.length ≤ t.length ∧ tl.length ≤ t.length := by
    rw [hhh, htl]; unfold Rul.hd; split
    · exact l1
    · exact l2
  unfold Rul.hd at hhh htl
  have C3 := Lib.hid fun w hM => scut_any hh [32, 37, 32] w hM (by omega)
  have l3 := cut_lens hh Rul.pcS
  rw [eop, emd, eno, ers]
  clear eop emd eno ers
  generalize hR : (Lib.split tl [44]).map Rul.rngP = RS
  change Hid (∀ w, MaxW w → Calls Tryz.prog 76 #[.string ⟨hh.toArray⟩, .string ⟨#[32, 37, 32]⟩] w fun e w' => e = .returned (.tuple #[.string ⟨(Lib.cut hh Rul.pcS).1.toArray⟩, .string ⟨(Lib.cut hh Rul.pcS).2.1.toArray⟩, .bool (Lib.cut hh Rul.pcS).2.2]) ∧ Below w.heap.size w w') at C3
  change Hid (∀ w, MaxW w → Calls Tryz.prog 76 #[.string ⟨t.toArray⟩, .string ⟨#[32, 61, 32]⟩] w fun e w' => e = .returned (.tuple #[.string ⟨(Lib.cut t Rul.eqS).1.toArray⟩, .string ⟨(Lib.cut t Rul.eqS).2.1.toArray⟩, .bool (Lib.cut t Rul.eqS).2.2]) ∧ Below w.heap.size w w') at C1
  change Hid (∀ w, MaxW w → Calls Tryz.prog 76 #[.string ⟨t.toArray⟩, .string ⟨#[32, 33, 61, 32]⟩] w fun e w' => e = .returned (.tuple #[.string ⟨(Lib.cut t Rul.neS).1.toArray⟩, .string ⟨(Lib.cut t Rul.neS).2.1.toArray⟩, .bool (Lib.cut t Rul.neS).2.2]) ∧ Below w.heap.size w w') at C2
  generalize Lib.cut t Rul.eqS = c1 at *
  generalize Lib.cut t Rul.neS = c2 at *
  generalize Lib.cut hh Rul.pcS = c3 at *
  obtain ⟨a1, b1, f1⟩ := c1
  obtain ⟨a2, b2, f2⟩ := c2
  obtain ⟨nm, md, f3⟩ := c3
  dsimp only at *
  have CN := Lib.hid fun w hN => number_any md w hN (by omega)
  generalize Rul.num md = MD at *
  obtain ⟨MO, hMO⟩ : ∃ MO, (if f3 = true then MD else 0) = MO := ⟨_, rfl⟩
  obtain ⟨OP, hOP⟩ : ∃ OP, ((Rul.opP nm).toNat : Int) = OP := ⟨_, rfl⟩
  obtain ⟨NO, hNO⟩ : ∃ NO, (!f1) = NO := ⟨_, rfl⟩
  rw [hMO, hOP, hNO]
  have HMO := Lib.hid hMO
  have HOP := Lib.hid hOP
  have HNO := Lib.hid hNO
  clear hMO hOP hNO
  have HT := Lib.hid (show (if f1 = true then (a1, b1) else (a2, b2)) = (hh, tl) by rw [hhh, htl])
  clear hhh htl
  refine (callsIn_wide (n := 10)).1 ?_
  refine callsIn_of_wp_marks Tryz.func61 rfl trivial ?_ rfl
  refine wpIn_wide.2 ?_
  simp only [Tryz.ntmps61, List.size_toArray, List.length_cons, List.length_nil, Nat.reduceAdd, Nat.reduceSub, Array.replicate_succ, Array.replicate_zero, List.push_toArray, List.append_toArray, List.nil_append, List.cons_append]
  go_wp2_with fail
  refine (C1.out _ (hM.alloc _)).mono ?_
  rintro e w1 ⟨rfl, hb⟩
  have M1 := (hM.alloc _).below hb
  have W1 := Lib.hid (blw_trans (blw_alloc w _) hb)
  have B1 := Lib.hid ((Boxed.made w _ _).below hb)
  have hwl := W1.out.size
  have hMw := Lib.hid hM
  have hNw := Lib.hid hN
  clear hb hM hN C1
  have ne : w1.heap.size ≠ w.heap.size := by have := B1.out.lt; omega
  go_upto_if 21 with fail
  go_cut [3, 4] from 14 to 46 (fun v3 v4 wx => v3 = .string ⟨hh.toArray⟩ ∧ v4 = .string ⟨tl.toArray⟩ ∧ Hid (Boxed wx w1.heap.size #[.int .u8 0, .int .i64 0, .bool NO, .slice none 0 0]) ∧ Hid (Boxed wx w.heap.size #[.int .u8 0, .int .i64 0, .bool false, .slice none 0 0]) ∧ Hid (Below w.heap.size w wx))
  case first =>
    have M2 := M1.alloc (.cells #[.int .u8 0, .int .i64 0, .bool false, .slice none 0 0] 106)
    have W2 := Lib.hid (blw_trans W1.out (blw_alloc w1 (.cells #[.int .u8 0, .int .i64 0, .bool false, .slice none 0 0] 106)))
    have B2 := Lib.hid (B1.out.alloc (.cells #[.int .u8 0, .int .i64 0, .bool false, .slice none 0 0] 106))
    have A2 := Lib.hid (Boxed.made w1 #[.int .u8 0, .int .i64 0, .bool false, .slice none 0 0] 106)
    cases f1 with
    | true =>
      obtain rfl : NO = false := HNO.out.symm
      obtain ⟨rfl, rfl⟩ := Prod.mk.inj ((if_pos rfl).symm.trans HT.out)
      go_wp2_with fail
      go_meet
      exact ⟨rfl, rfl, A2, B2, W2⟩
    | false =>
      obtain rfl : NO = true := HNO.out.symm
      obtain ⟨rfl, rfl⟩ := Prod.mk.inj ((if_neg (by decide)).symm.trans HT.out)
      go_wp2_with fail
      refine (C2.out _ M2).mono ?_
      rintro e w2 ⟨rfl, hb⟩
      have W3 := Lib.hid (blw_trans W2.out hb)
      have A3 := Lib.hid (A2.out.below hb)
      have B3 := Lib.hid (B2.out.below hb)
      have k2 := A3.out.cell 2 _ rfl
      have fz := A3.out.free
      have sz := A3.out.lt
      clear hb A2 B2 W2 B1 W1 C2 C3 CN
      go_wp2_with fail
      go_meet
      exact ⟨rfl, rfl, Lib.hid (A3.out.set 2 (.bool true) (by decide)), Lib.hid (B3.out.far ne 2 _), Lib.hid (W3.out.setCell (show w.heap.size ≤ w1.heap.size from hwl) _)⟩
  case rest =>
    obtain ⟨rfl, rfl, A4, B4, W4⟩ := hcut
    clear HT C2 M1 B1
    go_wp2_with fail
    refine (C3.out _ (hMw.out.below W4.out)).mono ?_
    rintro e w2 ⟨rfl, hb⟩
    have W5 := Lib.hid (blw_trans W4.out hb)
    have A5 := Lib.hid (A4.out.below hb)
    have B5 := Lib.hid (B4.out.below hb)
    clear hb C3 A4 B4 W4 W1
    have k0 := A5.out.cell 0 _ rfl
    have f0 := A5.out.free 0 (by show 0 < 4; omega)
    have hlt := A5.out.lt
    go_upto_if 37 with fail
    go_cut [] from 14 to 46 (fun wx => Hid (Boxed wx w1.heap.size #[.int .u8 OP, .int .i64 0, .bool NO, .slice none 0 0]) ∧ Hid (Boxed wx w.heap.size #[.int .u8 0, .int .i64 0, .bool false, .slice none 0 0]) ∧ Hid (Below w.heap.size w wx))
    case first =>
      by_cases hn : nm.length = 1
      · obtain ⟨c, rfl⟩ := List.length_eq_one_iff.1 hn
        have IX : ∀ w, (Instr.index 9 (.string ⟨[c].toArray⟩) (.int .i64 0)).run Tryz.prog w = .ok (.int .u8 (c.toNat : Int)) w := fun w => index_str (P := Tryz.prog) 9 Tryz.underlying9 [c] .i64 0 c rfl w
        have e1 : ((([c] : List UInt8).length : Int) == 1) = true := rfl
        have eo : Rul.opP [c] = c := rfl
        clear hn
        generalize [c] = nm at *
        go_wp2_with fail
        go_meet
        obtain rfl : OP = (c.toNat : Int) := by rw [← HOP.out, eo]
        exact ⟨Lib.hid (by exact A5.out.set 0 (.int .u8 (c.toNat : Int)) (by show 0 < 4; omega)), Lib.hid (B5.out.far ne 0 _), Lib.hid (W5.out.setCell (show w.heap.size ≤ w1.heap.size from hwl) _)⟩
      · have e1 : ((nm.length : Int) == 1) = false := beq_no (by omega)
        have eo : Rul.opP nm = 0 := by
          unfold Rul.opP
          split
          · simp at hn
          · rfl
        go_wp2_with fail
        go_meet
        obtain rfl : OP = 0 := by rw [← HOP.out, eo]; rfl
        exact ⟨A5, B5, W5⟩
    case rest =>
      obtain ⟨A6, B6, W6⟩ := hcut
      clear A5 B5 W5 k0 f0 hlt
      go_upto_if 41 with fail
      go_cut [] from 14 to 46 (fun wx => Hid (Boxed wx w1.heap.size #[.int .u8 OP, .int .i64 MO, .bool NO, .slice none 0 0]) ∧ Hid (Boxed wx w.heap.size #[.int .u8 0, .int .i64 0, .bool false, .slice none 0 0]) ∧ Hid (Below w.heap.size w wx))
      case first =>
        cases f3 with
        | false =>
          obtain rfl : MO = 0 := by simpa using HMO.out.symm
          go_wp2_with fail
          go_meet
          exact ⟨A6, B6, W6⟩
        | true =>
          obtain rfl : MO = MD := by simpa using HMO.out.symm
          go_wp2_with fail
          refine (CN.out _ (hNw.out.below W6.out)).mono ?_
          rintro e w3 ⟨rfl, hb⟩
          have W7 := Lib.hid (blw_trans W6.out hb)
          have A7 := Lib.hid (A6.out.below hb)
          have B7 := Lib.hid (B6.out.below hb)
          have k1 := A7.out.cell 1 _ rfl
          have f1 := A7.out.free 1 (by show 1 < 4; omega)
          have hlt := A7.out.lt
          clear hb A6 B6 W6 CN
          go_wp2_with fail
          go_meet
          exact ⟨Lib.hid (A7.out.set 1 (.int .i64 MO) (by show 1 < 4; omega)), Lib.hid (B7.out.far ne 1 _), Lib.hid (W7.out.setCell (show w.heap.size ≤ w1.heap.size from hwl) _)⟩
      case rest =>
        obtain ⟨A8, B8, W8⟩ := hcut
        clear A6 B6 W6 CN
        go_wp2_with fail
        refine (splitseq_any tl [44] _).mono ?_
        rintro e w2 ⟨rfl, rfl⟩
        go_wp2_with fail
        have hgM : 2 < w.heap.size := by
          obtain ⟨m, hm⟩ := hMw.out
          exact World.block_lt_of_cell? w _ hm
        obtain ⟨V, hV⟩ : ∃ V, ((wc.alloc (.cells #[.string ⟨tl.toArray⟩] 9)).alloc (.cells #[.string ⟨#[44]⟩] 9)).alloc (.cells #[.int .i64 0] 3) = V := ⟨_, rfl⟩
        have bS := Lib.hid (((Boxed.made wc #[.string ⟨tl.toArray⟩] 9).alloc (.cells #[.string ⟨#[44]⟩] 9)).alloc (.cells #[.int .i64 0] 3))
        have bP := Lib.hid ((Boxed.made (wc.alloc (.cells #[.string ⟨tl.toArray⟩] 9)) #[.string ⟨#[44]⟩] 9).alloc (.cells #[.int .i64 0] 3))
        have bV := Lib.hid (Boxed.made ((wc.alloc (.cells #[.string ⟨tl.toArray⟩] 9)).alloc (.cells #[.string ⟨#[44]⟩] 9)) #[.int .i64 0] 3)
        simp only [World.size_alloc] at bP bV
        have wV := Lib.hid (((blw_alloc wc (.cells #[.string ⟨tl.toArray⟩] 9)).alloc (by simp) (.cells #[.string ⟨#[44]⟩] 9)).alloc (by simp; omega) (.cells #[.int .i64 0] 3))
        have zV : V.heap.size = wc.heap.size + 3 := by rw [← hV]; simp
        rw [hV] at bS bP bV wV ⊢
        clear hV
        have W9 := Lib.hid (blw_trans W8.out wV.out)
        have A9 := Lib.hid (A8.out.below wV.out)
        have B9 := Lib.hid (B8.out.below wV.out)
        have l8 := W8.out.size
        have la := A8.out.lt
        have lb := B8.out.lt
        clear W8 A8 B8 wV
        refine (wpIn_wide (n := 10)).1 ?_
        refine wpIn_range_out1 (F := Fence.wide) (d := 10) (val := fun x : List UInt8 => Value.string ⟨x.toArray⟩) (n := 10) rfl (by omega) (gf := 162) (lb := #[.pointer (some ⟨wc.heap.size + 1, 0, none⟩), .pointer (some ⟨wc.heap.size, 0, none⟩), .pointer (some ⟨wc.heap.size + 2, 0, none⟩)]) rfl trivial (enters_of Tryz.func162 (by kernel_rfl) rfl)
          (split_iter tl [44] (wc.heap.size + 1) wc.heap.size (wc.heap.size + 2) w.heap.size 9 V (by omega) (by simp) (by omega) (by simp) hgM (by omega) (hMw.out.below W9.out) (by omega) (by omega) (by omega) (by omega) (by omega)
            (bP.out.cell 0 _ rfl) (bS.out.cell 0 _ rfl) (bV.out.cell 0 _ rfl) (bS.out.free 0 (by show 0 < 1; omega)))
          (by omega) KpS.trans (KpS.put (by omega) (by omega) (by omega) (by omega))
          (fun pre W => ∃ v, PX w V.heap.size w1.heap.size (.int .u8 OP) (.int .i64 MO) (.bool NO) v v pre W)
          (fun pre A C r hs g hr => by
            obtain ⟨v, hs⟩ := hs
            exact ⟨v, hs.grown g fun k hk => by
              obtain ⟨h1, o, h2, h3⟩ := hr k hk
              refine ⟨by omega, by omega, fun e => ?_⟩
              rcases hs.row.2 with ⟨rfl, _⟩ | ⟨g', cap, cur, rfl, _, hg', _⟩
              · cases e
              · injection e with e
                subst e
                rw [hg'] at h2
                injection h2 with h2
                subst h2
                cases h3⟩)
          (fun pre A C hs g => by
            obtain ⟨v, hs⟩ := hs
            exact ⟨v, hs.grown g fun k hk => by
              injection hk with hk
              subst hk
              refine ⟨by omega, by omega, fun e => ?_⟩
              have := hs.row.lt _ e
              omega⟩)
          ⟨.slice none 0 0, A9.out, ⟨rfl, .inl ⟨rfl, rfl⟩⟩, B9.out, W9.out, Nat.le_refl _⟩
          ?assign ?body ?done
        case assign =>
          intro l pre x W K hi hK
          gi_wp2
          exact hK _ (KeepsFrom.refl _ _) ⟨Below.refl _ _, rfl, rfl, rfl⟩ hi
        case done =>
          rintro D W hD ⟨v, hs⟩ hK
          obtain ⟨a, n, c, rfl⟩ : ∃ a n c, v = .slice a n c := by
            rcases hs.row.2 with ⟨rfl, _⟩ | ⟨g', cap, cur, rfl, _⟩
            · exact ⟨_, _, _, rfl⟩
            · exact ⟨_, _, _, rfl⟩
          have k0 := hs.box.cell 0 _ rfl
          have k1 := hs.box.cell 1 _ rfl
          have k2 := hs.box.cell 2 _ rfl
          have k3 := hs.box.cell 3 _ rfl
          have q0 := hs.res.free 0 (by show 0 < 4; omega)
          have q1 := hs.res.free 1 (by show 1 < 4; omega)
          have q2 := hs.res.free 2 (by show 2 < 4; omega)
          have q3 := hs.res.free 3 (by show 3 < 4; omega)
          have c0 := hs.res.cell 0 _ rfl
          have c1 := hs.res.cell 1 _ rfl
          have c2 := hs.res.cell 2 _ rfl
          have c3 := hs.res.cell 3 _ rfl
          have s0 := hs.res.lt
          have s1 := hs.box.lt
          have HS := Lib.hid hs
          clear hs
          go_wp2_with fail
          have HD := Lib.hid (show ((((W.setCell ⟨w.heap.size, 0, none⟩ (.int .u8 OP)).setCell ⟨w.heap.size, 1, none⟩ (.int .i64 MO)).setCell ⟨w.heap.size, 2, none⟩ (.bool NO)).setCell ⟨w.heap.size, 3, none⟩ (.slice a n c)).heap[D]? = some (.deferred (some [])) by
            rw [set_else (by show w.heap.size ≠ D; omega), set_else (by show w.heap.size ≠ D; omega), set_else (by show w.heap.size ≠ D; omega), set_else (by show w.heap.size ≠ D; omega)]
            exact hK)
          have BD := Lib.hid (boxed_grown ((((HS.out.res.set 0 (.int .u8 OP) (by show 0 < 4; omega)).set 1 (.int .i64 MO) (by show 1 < 4; omega)).set 2 (.bool NO) (by show 2 < 4; omega)).set 3 (.slice a n c) (by show 3 < 4; omega)) (grownBy_putObj' _ D (.deferred none)) (fun e => by injection e with e; omega))
          have WD := Lib.hid ((((HS.out.low.setCell (p := ⟨w.heap.size, 0, none⟩) (Nat.le_refl _) (.int .u8 OP)).setCell (p := ⟨w.heap.size, 1, none⟩) (Nat.le_refl _) (.int .i64 MO)).setCell (p := ⟨w.heap.size, 2, none⟩) (Nat.le_refl _) (.bool NO)).setCell (p := ⟨w.heap.size, 3, none⟩) (Nat.le_refl _) (.slice a n c))
          have SD := Lib.hid (PX.lies HS.out (C := ((((W.setCell ⟨w.heap.size, 0, none⟩ (.int .u8 OP)).setCell ⟨w.heap.size, 1, none⟩ (.int .i64 MO)).setCell ⟨w.heap.size, 2, none⟩ (.bool NO)).setCell ⟨w.heap.size, 3, none⟩ (.slice a n c)).putObj D (.deferred none)) (fun g cur e hg h => by
            have hgD : g ≠ D := fun e => by subst e; rw [hK] at h; cases h
            rw [World.putObj_heap_other hgD, set_else (by show w.heap.size ≠ g; omega), set_else (by show w.heap.size ≠ g; omega), set_else (by show w.heap.size ≠ g; omega), set_else (by show w.heap.size ≠ g; omega)]))
          refine ⟨by simp, .inl ⟨_, _, rfl, run_takeDeferred HD.out, ?_⟩⟩
          have y0 := BD.out.cell 0 _ rfl
          have y1 := BD.out.cell 1 _ rfl
          have y2 := BD.out.cell 2 _ rfl
          have y3 := BD.out.cell 3 _ rfl
          have WE := Lib.hid (WD.out.trans (belowK_b (w := w) (Nat.le_refl _) _ D _ (.deferred none) (by omega) HD.out rfl rfl))
          have FR : ∀ b, (Value.slice a n c).ownBlock = some b → w.heap.size ≤ b := fun b hb => by have := (HS.out.row.lt b hb).1; omega
          clear HD BD WD HS k0 k1 k2 k3 q0 q1 q2 q3 c0 c1 c2 c3
          generalize ((((W.setCell ⟨w.heap.size, 0, none⟩ (.int .u8 OP)).setCell ⟨w.heap.size, 1, none⟩ (.int .i64 MO)).setCell ⟨w.heap.size, 2, none⟩ (.bool NO)).setCell ⟨w.heap.size, 3, none⟩ (.slice a n c)).putObj D (.deferred none) = Z at *
          refine ⟨.agg #[.int .u8 OP, .int .i64 MO, .bool NO, .slice a n c], ?res, .slice a n c, rfl, ?_, FR, WE.out⟩
          case res => simp [results, Tryz.results61, go_sem, y0, y1, y2, y3]
          · rw [← hR]; exact SD.out
        case body =>
          rintro l pre x W hl ⟨r, hr⟩ ⟨v, hs⟩ hpre
          have hxl : x.length ≤ 4000000000 := by have := piece_le (hpre.subset (by simp) : x ∈ Lib.split tl [44]); omega
          have hpl : pre.length + 1 ≤ 4000000001 := by
            have h1 := hpre.length_le
            rw [Spl.split_len (by simp), Lib.count_one] at h1
            have h2 := List.count_le_length (a := (44 : UInt8)) (l := tl)
            simp at h1
            omega
          have CC := Lib.hid fun w hM => scut_any x [46, 46] w hM hxl
          have lc := cut_lens x [46, 46]
          have er : Rul.rngP x = (Rul.num (Lib.cut x [46, 46]).1, Rul.num (if (Lib.cut x [46, 46]).2.2 then (Lib.cut x [46, 46]).2.1 else (Lib.cut x [46, 46]).1)) := rfl
          generalize Lib.cut x [46, 46] = c at *
          obtain ⟨a, b, f⟩ := c
          dsimp only at *
          have HER := Lib.hid er
          have P0 := Lib.hid (PL.start (bp := wc.heap.size + 1) (bs := wc.heap.size) (bv := wc.heap.size + 2) hs)
          have hBs : wc.heap.size + 1 < V.heap.size ∧ wc.heap.size < V.heap.size ∧ wc.heap.size + 2 < V.heap.size := by omega
          clear er hs hpre A9 B9 W9 bS bP bV
          gi_upto_if 55 with (refine ⟨trivial, ?_⟩; gi_at_call 76; refine (CallsIn.inRound l (callsIn_wide.2 (CC.out _ (hMw.out.below P0.out.px.low)))).mono ?_; rintro e w2 ⟨rfl, hb⟩)
          have P1 := Lib.hid (P0.out.below hb hBs)
          clear hb CC P0
          have CN1 := Lib.hid fun w hN => number_any a w hN (by omega)
          have lz : (if f = true then b else a).length ≤ 4000000000 := by split <;> omega
          have CN2 := Lib.hid fun w hN => number_any (if f = true then b else a) w hN lz
          obtain ⟨z, hz⟩ : ∃ z, (if f = true then b else a) = z := ⟨_, rfl⟩
          rw [hz] at CN2
          replace HER := Lib.hid (show Rul.rngP x = (Rul.num a, Rul.num z) by rw [HER.out, hz])
          have HZ := Lib.hid hz
          generalize Rul.num z = N2 at CN2 HER
          generalize Rul.num a = N1 at CN1 HER
          clear hz lz
          have hwB : w.heap.size < V.heap.size := by omega
          have hpB : w1.heap.size < V.heap.size := by omega
          have hwp : w.heap.size < w1.heap.size := by omega
          have hne : w1.heap.size ≠ wc.heap.size + 1 ∧ w1.heap.size ≠ wc.heap.size ∧ w1.heap.size ≠ wc.heap.size + 2 := by omega
          gi_cut [12] from 48 (fun v wx => v = .string ⟨z.toArray⟩ ∧ wx = w2)
          case first =>
            cases f with
            | false =>
              obtain rfl : a = z := HZ.out
              gi_wp2
              gi_meet
              exact ⟨rfl, rfl⟩
            | true =>
              obtain rfl : b = z := HZ.out
              gi_wp2
              gi_meet
              exact ⟨rfl, rfl⟩
          case rest =>
            obtain ⟨rfl, rfl⟩ := hcut
            gi_wp2
            obtain ⟨iR, hiR, hR0, hR1, hR2⟩ := info_parts infoRng
            refine region_round (S := fun _ => True) (by kernel_rfl) (by kernel_rfl) (fun _ _ h => h) trivial (fun hHeld => ?_)
            have P := Lib.hid (P1.out.below (Below.drew (Below.refl _ _)) hBs)
            clear P1
            generalize World.drew _ = w3 at *
            refine take_run (d := some 57) (v := ?v11) 0 rfl rfl (by kernel_rfl) (by kernel_rfl) (by kernel_rfl) (fun _ _ _ h => h) (by rfl) hHeld ?hy11 ?rs11
            case hy11 => (intro w hSw; (try dsimp only at hSw); go_simp) <;> (try with_reducible rfl)
            (try simp only [Act.put, List.setIfInBounds_toArray, List.set_cons_zero, List.set_cons_succ])
            refine take_run (d := some 59) (v := ?v12) 2 rfl rfl (by kernel_rfl) (by kernel_rfl) (by kernel_rfl) (fun _ _ _ h => h) (by rfl) hHeld ?hy12 ?rs12
            case hy12 => (intro w hSw; (try dsimp only at hSw); go_simp) <;> (try with_reducible rfl)
            (try simp only [Act.put, List.setIfInBounds_toArray, List.set_cons_zero, List.set_cons_succ])
            refine take_run (d := some 61) (v := ?v13) 4 rfl rfl (by kernel_rfl) (by kernel_rfl) (by kernel_rfl) (fun _ _ _ h => h) (by rfl) hHeld ?hy13 ?rs13
            case hy13 => (intro w hSw; (try dsimp only at hSw); go_simp) <;> (try with_reducible rfl)
            (try simp only [Act.put, List.setIfInBounds_toArray, List.set_cons_zero, List.set_cons_succ])
            refine take_two 1 3 rfl rfl (by kernel_rfl) (by rfl) (by rfl) (fun K hK => ?_) (fun K hK => ?_)
            · have k3 := P.out.px.box.cell 3 _ rfl
              go_simp
              clear k3
              refine hK.out _ _ trivial (fun hHeld => ?_)
              clear hK K
              (try simp only [Act.put, List.setIfInBounds_toArray, List.set_cons_zero, List.set_cons_succ])
              refine take_call 3 rfl (by kernel_rfl) (by rfl) (fun K hK => ?_)
              go_simp
              refine (CN1.out _ (hNw.out.below P.out.px.low)).mono ?_
              rintro e w' ⟨rfl, hb⟩
              replace P := Lib.hid (P.out.below hb hBs)
              refine hK.out _ _ trivial (fun hHeld => ?_)
              clear hK K
              (try simp only [Act.put, List.setIfInBounds_toArray, List.set_cons_zero, List.set_cons_succ])
              clear hb
              refine take_call 5 rfl (by kernel_rfl) (by rfl) (fun K hK => ?_)
              go_simp
              refine (CN2.out _ (hNw.out.below P.out.px.low)).mono ?_
              rintro e w' ⟨rfl, hb⟩
              replace P := Lib.hid (P.out.below hb hBs)
              refine hK.out _ _ trivial (fun hHeld => ?_)
              clear hK K
              (try simp only [Act.put, List.setIfInBounds_toArray, List.set_cons_zero, List.set_cons_succ])
              clear hb
              refine take_run (d := some 63) (v := ?v14) 6 rfl rfl (by kernel_rfl) (by kernel_rfl) (by kernel_rfl) (fun _ _ _ h => h) (by rfl) hHeld ?hy14 ?rs14
              case hy14 => (intro w hSw; (try dsimp only at hSw); go_simp) <;> (try with_reducible rfl)
              (try simp only [Act.put, List.setIfInBounds_toArray, List.set_cons_zero, List.set_cons_succ])
              refine take_call 7 rfl (by kernel_rfl) (by rfl) (fun K hK => ?_)
              go_simp
              refine hK.out _ _ trivial (fun hHeld => ?_)
              clear hK K
              (try simp only [Act.put, List.setIfInBounds_toArray, List.set_cons_zero, List.set_cons_succ])
              replace P := Lib.hid (P.out.below (blw_alloc _ (.cells #[.int .i64 N1, .int .i64 N2] 165)) hBs)
              have BN := Lib.hid (Boxed.made _ #[.int .i64 N1, .int .i64 N2] 165 : Boxed (World.alloc w' (.cells #[.int .i64 N1, .int .i64 N2] 165)) w'.heap.size _)
              generalize hq : w'.heap.size = q at *
              generalize World.alloc w' (.cells #[.int .i64 N1, .int .i64 N2] 165) = w5 at *
              clear hq
              refine take_call 8 rfl (by kernel_rfl) (by rfl) (fun K hK => ?_)
              refine wp_append_own _ _ _ 104 rfl V.heap.size 165 iR _ 2 16 Tryz.underlying104 hiR hR0 hR1 hR2 rfl (by decide) v pre.length (rflat pre) (by simp [go_sem]) P.out.px.row ⟨q, 0, none⟩ 1 1 [.int .i64 N1, .int .i64 N2] (by simp [go_sem]) rfl (boxed_add BN.out) (fun u hu => by simp at hu; rcases hu with rfl | rfl <;> rfl) (by unfold maxLen; omega) (by omega) P.out.px.sz ?_
              intro v' w6 hown hgrow hnil
              clear hnil
              obtain ⟨g', cap', rfl⟩ := row_some hown (by omega)
              replace P := Lib.hid (P.out.append (x := x) (by rw [HER.out]; exact hown) hgrow hwB hpB hBs)
              clear hown hgrow
              refine hK.out _ _ trivial (fun hHeld => ?_)
              clear hK K
              (try simp only [Act.put, List.setIfInBounds_toArray, List.set_cons_zero, List.set_cons_succ])
              refine take_run (d := some 66) (v := ?v15) 9 rfl rfl (by kernel_rfl) (by kernel_rfl) (by kernel_rfl) (fun _ _ _ h => h) (by rfl) hHeld ?hy15 ?rs15
              case hy15 => (intro w hSw; (try dsimp only at hSw); go_simp) <;> (try with_reducible rfl)
              (try simp only [Act.put, List.setIfInBounds_toArray, List.set_cons_zero, List.set_cons_succ])
              refine take_call 10 rfl (by kernel_rfl) (by rfl) (fun K hK => ?_)
              have k3 := P.out.px.box.cell 3 _ rfl
              have z3 := P.out.px.box.free 3 (by show 3 < 4; omega)
              have hlt := P.out.px.box.lt
              go_simp
              clear k3 z3 hlt
              refine hK.out _ _ trivial (fun hHeld => ?_)
              clear hK K
              (try simp only [Act.put, List.setIfInBounds_toArray, List.set_cons_zero, List.set_cons_succ])
              replace P := Lib.hid (P.out.stored hwp hpB hne)
              refine wpAnyH_done (by kernel_rfl) ?_ _
              exact ⟨P.out.kf, P.out.kp, _, P.out.px⟩
            · go_simp
              refine (CN1.out _ (hNw.out.below P.out.px.low)).mono ?_
              rintro e w' ⟨rfl, hb⟩
              replace P := Lib.hid (P.out.below hb hBs)
              refine hK.out _ _ trivial (fun hHeld => ?_)
              clear hK K
              (try simp only [Act.put, List.setIfInBounds_toArray, List.set_cons_zero, List.set_cons_succ])
              clear hb
              refine take_two 1 5 rfl rfl (by kernel_rfl) (by rfl) (by rfl) (fun K hK => ?_) (fun K hK => ?_)
              · have k3 := P.out.px.box.cell 3 _ rfl
                go_simp
                clear k3
                refine hK.out _ _ trivial (fun hHeld => ?_)
                clear hK K
                (try simp only [Act.put, List.setIfInBounds_toArray, List.set_cons_zero, List.set_cons_succ])
                refine take_call 5 rfl (by kernel_rfl) (by rfl) (fun K hK => ?_)
                go_simp
                refine (CN2.out _ (hNw.out.below P.out.px.low)).mono ?_
                rintro e w' ⟨rfl, hb⟩
                replace P := Lib.hid (P.out.below hb hBs)
                refine hK.out _ _ trivial (fun hHeld => ?_)
                clear hK K
                (try simp only [Act.put, List.setIfInBounds_toArray, List.set_cons_zero, List.set_cons_succ])
                clear hb
                refine take_run (d := some 63) (v := ?v19) 6 rfl rfl (by kernel_rfl) (by kernel_rfl) (by kernel_rfl) (fun _ _ _ h => h) (by rfl) hHeld ?hy19 ?rs19
                case hy19 => (intro w hSw; (try dsimp only at hSw); go_simp) <;> (try with_reducible rfl)
                (try simp only [Act.put, List.setIfInBounds_toArray, List.set_cons_zero, List.set_cons_succ])
                refine take_call 7 rfl (by kernel_rfl) (by rfl) (fun K hK => ?_)
                go_simp
                refine hK.out _ _ trivial (fun hHeld => ?_)
                clear hK K
                (try simp only [Act.put, List.setIfInBounds_toArray, List.set_cons_zero, List.set_cons_succ])
                replace P := Lib.hid (P.out.below (blw_alloc _ (.cells #[.int .i64 N1, .int .i64 N2] 165)) hBs)
                have BN := Lib.hid (Boxed.made _ #[.int .i64 N1, .int .i64 N2] 165 : Boxed (World.alloc w' (.cells #[.int .i64 N1, .int .i64 N2] 165)) w'.heap.size _)
                generalize hq : w'.heap.size = q at *
                generalize World.alloc w' (.cells #[.int .i64 N1, .int .i64 N2] 165) = w5 at *
                clear hq
                refine take_call 8 rfl (by kernel_rfl) (by rfl) (fun K hK => ?_)
                refine wp_append_own _ _ _ 104 rfl V.heap.size 165 iR _ 2 16 Tryz.underlying104 hiR hR0 hR1 hR2 rfl (by decide) v pre.length (rflat pre) (by simp [go_sem]) P.out.px.row ⟨q, 0, none⟩ 1 1 [.int .i64 N1, .int .i64 N2] (by simp [go_sem]) rfl (boxed_add BN.out) (fun u hu => by simp at hu; rcases hu with rfl | rfl <;> rfl) (by unfold maxLen; omega) (by omega) P.out.px.sz ?_
                intro v' w6 hown hgrow hnil
                clear hnil
                obtain ⟨g', cap', rfl⟩ := row_some hown (by omega)
                replace P := Lib.hid (P.out.append (x := x) (by rw [HER.out]; exact hown) hgrow hwB hpB hBs)
                clear hown hgrow
                refine hK.out _ _ trivial (fun hHeld => ?_)
                clear hK K
                (try simp only [Act.put, List.setIfInBounds_toArray, List.set_cons_zero, List.set_cons_succ])
                refine take_run (d := some 66) (v := ?v20) 9 rfl rfl (by kernel_rfl) (by kernel_rfl) (by kernel_rfl) (fun _ _ _ h => h) (by rfl) hHeld ?hy20 ?rs20
                case hy20 => (intro w hSw; (try dsimp only at hSw); go_simp) <;> (try with_reducible rfl)
                (try simp only [Act.put, List.setIfInBounds_toArray, List.set_cons_zero, List.set_cons_succ])
                refine take_call 10 rfl (by kernel_rfl) (by rfl) (fun K hK => ?_)
                have k3 := P.out.px.box.cell 3 _ rfl
                have z3 := P.out.px.box.free 3 (by show 3 < 4; omega)
                have hlt := P.out.px.box.lt
                go_simp
                clear k3 z3 hlt
                refine hK.out _ _ trivial (fun hHeld => ?_)
                clear hK K
                (try simp only [Act.put, List.setIfInBounds_toArray, List.set_cons_zero, List.set_cons_succ])
                replace P := Lib.hid (P.out.stored hwp hpB hne)
                refine wpAnyH_done (by kernel_rfl) ?_ _
                exact ⟨P.out.kf, P.out.kp, _, P.out.px⟩
              · go_simp
                refine (CN2.out _ (hNw.out.below P.out.px.low)).mono ?_
                rintro e w' ⟨rfl, hb⟩
                replace P := Lib.hid (P.out.below hb hBs)
                refine hK.out _ _ trivial (fun hHeld => ?_)
                clear hK K
                (try simp only [Act.put, List.setIfInBounds_toArray, List.set_cons_zero, List.set_cons_succ])
                clear hb
                refine take_run (d := some 63) (v := ?v16) 6 rfl rfl (by kernel_rfl) (by kernel_rfl) (by kernel_rfl) (fun _ _ _ h => h) (by rfl) hHeld ?hy16 ?rs16
                case hy16 => (intro w hSw; (try dsimp only at hSw); go_simp) <;> (try with_reducible rfl)
                (try simp only [Act.put, List.setIfInBounds_toArray, List.set_cons_zero, List.set_cons_succ])
                refine take_two 1 7 rfl rfl (by kernel_rfl) (by rfl) (by rfl) (fun K hK => ?_) (fun K hK => ?_)
                · have k3 := P.out.px.box.cell 3 _ rfl
                  go_simp
                  clear k3
                  refine hK.out _ _ trivial (fun hHeld => ?_)
                  clear hK K
                  (try simp only [Act.put, List.setIfInBounds_toArray, List.set_cons_zero, List.set_cons_succ])
                  refine take_call 7 rfl (by kernel_rfl) (by rfl) (fun K hK => ?_)
                  go_simp
                  refine hK.out _ _ trivial (fun hHeld => ?_)
                  clear hK K
                  (try simp only [Act.put, List.setIfInBounds_toArray, List.set_cons_zero, List.set_cons_succ])
                  replace P := Lib.hid (P.out.below (blw_alloc _ (.cells #[.int .i64 N1, .int .i64 N2] 165)) hBs)
                  have BN := Lib.hid (Boxed.made _ #[.int .i64 N1, .int .i64 N2] 165 : Boxed (World.alloc w' (.cells #[.int .i64 N1, .int .i64 N2] 165)) w'.heap.size _)
                  generalize hq : w'.heap.size = q at *
                  generalize World.alloc w' (.cells #[.int .i64 N1, .int .i64 N2] 165) = w5 at *
                  clear hq
                  refine take_call 8 rfl (by kernel_rfl) (by rfl) (fun K hK => ?_)
                  refine wp_append_own _ _ _ 104 rfl V.heap.size 165 iR _ 2 16 Tryz.underlying104 hiR hR0 hR1 hR2 rfl (by decide) v pre.length (rflat pre) (by simp [go_sem]) P.out.px.row ⟨q, 0, none⟩ 1 1 [.int .i64 N1, .int .i64 N2] (by simp [go_sem]) rfl (boxed_add BN.out) (fun u hu => by simp at hu; rcases hu with rfl | rfl <;> rfl) (by unfold maxLen; omega) (by omega) P.out.px.sz ?_
                  intro v' w6 hown hgrow hnil
                  clear hnil
                  obtain ⟨g', cap', rfl⟩ := row_some hown (by omega)
                  replace P := Lib.hid (P.out.append (x := x) (by rw [HER.out]; exact hown) hgrow hwB hpB hBs)
                  clear hown hgrow
                  refine hK.out _ _ trivial (fun hHeld => ?_)
                  clear hK K
                  (try simp only [Act.put, List.setIfInBounds_toArray, List.set_cons_zero, List.set_cons_succ])
                  refine take_run (d := some 66) (v := ?v17) 9 rfl rfl (by kernel_rfl) (by kernel_rfl) (by kernel_rfl) (fun _ _ _ h => h) (by rfl) hHeld ?hy17 ?rs17
                  case hy17 => (intro w hSw; (try dsimp only at hSw); go_simp) <;> (try with_reducible rfl)
                  (try simp only [Act.put, List.setIfInBounds_toArray, List.set_cons_zero, List.set_cons_succ])
                  refine take_call 10 rfl (by kernel_rfl) (by rfl) (fun K hK => ?_)
                  have k3 := P.out.px.box.cell 3 _ rfl
                  have z3 := P.out.px.box.free 3 (by show 3 < 4; omega)
                  have hlt := P.out.px.box.lt
                  go_simp
                  clear k3 z3 hlt
                  refine hK.out _ _ trivial (fun hHeld => ?_)
                  clear hK K
                  (try simp only [Act.put, List.setIfInBounds_toArray, List.set_cons_zero, List.set_cons_succ])
                  replace P := Lib.hid (P.out.stored hwp hpB hne)
                  refine wpAnyH_done (by kernel_rfl) ?_ _
                  exact ⟨P.out.kf, P.out.kp, _, P.out.px⟩
                · go_simp
                  refine hK.out _ _ trivial (fun hHeld => ?_)
                  clear hK K
                  (try simp only [Act.put, List.setIfInBounds_toArray, List.set_cons_zero, List.set_cons_succ])
                  replace P := Lib.hid (P.out.below (blw_alloc _ (.cells #[.int .i64 N1, .int .i64 N2] 165)) hBs)
                  have BN := Lib.hid (Boxed.made _ #[.int .i64 N1, .int .i64 N2] 165 : Boxed (World.alloc w' (.cells #[.int .i64 N1, .int .i64 N2] 165)) w'.heap.size _)
                  generalize hq : w'.heap.size = q at *
                  generalize World.alloc w' (.cells #[.int .i64 N1, .int .i64 N2] 165) = w5 at *
                  clear hq
                  refine take_call 1 rfl (by kernel_rfl) (by rfl) (fun K hK => ?_)
                  have k3 := P.out.px.box.cell 3 _ rfl
                  go_simp
                  clear k3
                  refine hK.out _ _ trivial (fun hHeld => ?_)
                  clear hK K
                  (try simp only [Act.put, List.setIfInBounds_toArray, List.set_cons_zero, List.set_cons_succ])
                  refine take_call 8 rfl (by kernel_rfl) (by rfl) (fun K hK => ?_)
                  refine wp_append_own _ _ _ 104 rfl V.heap.size 165 iR _ 2 16 Tryz.underlying104 hiR hR0 hR1 hR2 rfl (by decide) v pre.length (rflat pre) (by simp [go_sem]) P.out.px.row ⟨q, 0, none⟩ 1 1 [.int .i64 N1, .int .i64 N2] (by simp [go_sem]) rfl (boxed_add BN.out) (fun u hu => by simp at hu; rcases hu with rfl | rfl <;> rfl) (by unfold maxLen; omega) (by omega) P.out.px.sz ?_
                  intro v' w6 hown hgrow hnil
                  clear hnil
                  obtain ⟨g', cap', rfl⟩ := row_some hown (by omega)
                  replace P := Lib.hid (P.out.append (x := x) (by rw [HER.out]; exact hown) hgrow hwB hpB hBs)
                  clear hown hgrow
                  refine hK.out _ _ trivial (fun hHeld => ?_)
                  clear hK K
                  (try simp only [Act.put, List.setIfInBounds_toArray, List.set_cons_zero, List.set_cons_succ])
                  refine take_run (d := some 66) (v := ?v18) 9 rfl rfl (by kernel_rfl) (by kernel_rfl) (by kernel_rfl) (fun _ _ _ h => h) (by rfl) hHeld ?hy18 ?rs18
                  case hy18 => (intro w hSw; (try dsimp only at hSw); go_simp) <;> (try with_reducible rfl)
                  (try simp only [Act.put, List.setIfInBounds_toArray, List.set_cons_zero, List.set_cons_succ])
                  refine take_call 10 rfl (by kernel_rfl) (by rfl) (fun K hK => ?_)
                  have k3 := P.out.px.box.cell 3 _ rfl
                  have z3 := P.out.px.box.free 3 (by show 3 < 4; omega)
                  have hlt := P.out.px.box.lt
                  go_simp
                  clear k3 z3 hlt
                  refine hK.out _ _ trivial (fun hHeld => ?_)
                  clear hK K
                  (try simp only [Act.put, List.setIfInBounds_toArray, List.set_cons_zero, List.set_cons_succ])
                  replace P := Lib.hid (P.out.stored hwp hpB hne)
                  refine wpAnyH_done (by kernel_rfl) ?_ _
                  exact ⟨P.out.kf, P.out.kp, _, P.out.px⟩
end Go.Proofs.YtaijjffnamjhiaaGreatDoor
