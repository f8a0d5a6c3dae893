/- The law EvalParts, proved where what it reads is of bulk at most 1048576: the call returns true of every input, and turns nothing that was there. Conditions: the row's own (the listed variables hold what the program's text lays; the card ties them). -/
import Derived.Test.YtldbfkccieipjaaGreatDoorEf19
import Derived.Test.YtldbfkccieipjaaGreatDoorEf23
import Derived.Test.YtldbfkccieipjaaGreatDoorEf5
import Derived.Maps.AppendAt
import Derived.Test.YtldbfkccieipjaaGreatDoorCards
import Derived.Test.YtldbfkccieipjaaGreatDoorTie
import Derived.Deep.DeepHandedRow
import Derived.Deep.DeepWitnessRowRef
import Derived.Stop.Joined
import Derived.Lay
import Derived.Test.YtldbfkccieipjaaGreatDoorEf4
import Derived.Test.YtldbfkccieipjaaGreatDoorEf16
import Derived.Test.YtldbfkccieipjaaGreatDoorEf8
import Derived.Test.YtldbfkccieipjaaGreatDoorEf12
namespace Go.Proofs.YtldbfkccieipjaaGreatDoor
open Go.RowKit
open Dcm (okD)
namespace Ms
/-- texts of at most 2000000 bytes, as deep as they are -/
def LenM : Nat → List Nd → Prop
  | 0, _ => True
  | f + 1, m => ∀ x ∈ m, x.text.length ≤ 2000000 ∧ ∀ y ∈ x.cases, LenM f y.2
theorem len_of : ∀ (f : Nat) {w : World} {v : Value} {m : List Nd}, MsgAt f w v m → LenM f m
  | 0, _, _, _, _ => trivial
  | f + 1, w, v, m, h => by
    intro x hx
    obtain ⟨A, cap, _, _, hel⟩ := h.spread
    obtain ⟨j, hj, e⟩ := List.getElem_of_mem hx
    obtain ⟨b, off, _, a, n, c, _, _, _, _, hc, ht, _⟩ := hel j x (by rw [List.getElem?_eq_getElem hj, e])
    refine ⟨ht, fun y hy => ?_⟩
    have hc' : CassAt f w (.slice a n c) x.cases := hc
    obtain ⟨A2, cap2, _, _, hel2⟩ := hc'.spread
    obtain ⟨j2, hj2, e2⟩ := List.getElem_of_mem hy
    obtain ⟨b2, off2, _, a2, n2, c2, _, _, hm, _⟩ := hel2 j2 y (by rw [List.getElem?_eq_getElem hj2, e2])
    exact len_of f hm
theorem cat_len {F : Nd → Option (List UInt8)} {C : Nd → Nat} : ∀ {m : List Nd} {t : List UInt8}, (∀ x ∈ m, ∀ u, F x = some u → u.length ≤ C x) → catM F m = some t → t.length ≤ (m.map C).sum
  | [], t, _, h => by
    have e : some [] = some t := h
    injection e with e
    rw [← e]; simp
  | x :: r, t, hF, h => by
    have h' : (match F x with | none => none | some u => (catM F r).map (u ++ ·)) = some t := h
    cases hx : F x with
    | none => rw [hx] at h'; cases h'
    | some u =>
      rw [hx] at h'
      cases hr : catM F r with
      | none => rw [hr] at h'; cases h'
      | some z =>
        rw [hr] at h'
        have e : some (u ++ z) = some t := h'
        injection e with e
        have h1 := hF x (by simp) u hx
        have h2 := cat_len (m := r) (fun y hy => hF y (by simp [hy])) hr
        rw [← e, List.length_append, List.map_cons, List.sum_cons]
        omega
theorem said_len {L : List (List UInt8)} {args : List Ag} (hA : ArgsFine args) : ∀ (f : Nat) (mc ms : Int) (m : List Nd) (t : List UInt8), LenM f m → WfM (fun t => (valA args t).1) f m → okD mc ms → saidM (evS L) (valA args) f mc ms m = some t → t.length ≤ cnt f m * 4000000
  | 0, mc, ms, m, t, _, _, _, h => by
    have e : some [] = some t := h
    injection e with e
    rw [← e]; exact Nat.zero_le _
  | f + 1, mc, ms, m, t, hl, hw, hm, h => by
    have h' : catM (saidX (evS L) (valA args) (saidM (evS L) (valA args) f) mc ms) m = some t := h
    have := cat_len (C := fun x => (1 + (((casesOf x).map (·.2)).map (cnt f)).sum) * 4000000) (fun x hx u hu => ?_) h'
    · refine Nat.le_trans this (Nat.le_of_eq ?_)
      clear this h h' hl hw
      induction m with
      | nil => simp [cnt]
      | cons x r ih =>
        rw [List.map_cons, List.sum_cons, ih]
        have e : cnt (f + 1) (x :: r) = 1 + (((casesOf x).map (·.2)).map (cnt f)).sum + cnt (f + 1) r := by
          rw [List.map_map]; simp [cnt, Function.comp_def]
        rw [e]
        exact (Nat.add_mul _ _ _).symm
    · obtain ⟨hxl, hxb⟩ := hl x hx
      have hwx := hw x hx
      have hval := val_arg args x.text
      have htx := arg_txt hA.txt x.text
      have hbn := fun h => hA.num _ (arg_in (args := args) (t := x.text) h) h
      have big : 2000000 ≤ (1 + (((casesOf x).map (·.2)).map (cnt f)).sum) * 4000000 := Nat.le_trans (by decide) (Nat.mul_le_mul_right 4000000 (Nat.le_add_right 1 _))
      obtain ⟨K, T, O, cs⟩ := x
      have hkind : K = 1 ∨ K = 2 ∨ K = 3 ∨ K = 4 ∨ K = 5 ∨ K = 6 := hwx.kind
      have hnum : K = 3 ∨ K = 4 → (valA args T).1 = true := hwx.num
      have hsome : K = 4 ∨ K = 5 → cs ≠ [] := hwx.some
      have hbody : ∀ (hK : K = 4 ∨ K = 5) (i : Nat), i < cs.length → ∀ a b, okD a b → saidM (evS L) (valA args) f a b (bodyI (.mk K T O cs) i) = some u → u.length ≤ (1 + (((casesOf (.mk K T O cs)).map (·.2)).map (cnt f)).sum) * 4000000 := by
        intro hK i hi a b hab hs
        obtain ⟨y, hy, hb, hwf, hcn⟩ := body_at hK hwx hi
        rw [hb] at hs
        have := said_len hA f a b y.2 u (hxb y (List.mem_of_getElem? hy)) hwf hab hs
        exact Nat.le_trans this (Nat.mul_le_mul_right _ (Nat.le_trans hcn (Nat.le_add_left _ _)))
      rw [show Nd.text (.mk K T O cs) = T from rfl] at *
      rw [hval] at hnum
      rcases hkind with rfl | rfl | rfl | rfl | rfl | rfl
      · have e : some T = some u := hu
        injection e with e
        rw [← e]; exact Nat.le_trans hxl big
      · have e : some (if (valA args T).1 then Byt.decText (valA args T).2.1 (valA args T).2.2.1 else (valA args T).2.2.2) = some u := hu
        injection e with e
        rw [hval] at e
        rw [← e]
        refine Nat.le_trans ?_ big
        show (if (argOf args T).num then Byt.decText (argOf args T).co (argOf args T).sc else (argOf args T).txt).length ≤ 2000000
        split
        · rename_i hz; exact Nat.le_trans (dtx_len _ _ (hbn hz)) (by decide)
        · exact htx
      · have e : some (numM (valA args T).2.1 (valA args T).2.2.1) = some u := hu
        injection e with e
        rw [hval] at e
        rw [← e]
        exact Nat.le_trans (Nat.le_trans (numM_len _ _ (hbn (hnum (.inl rfl)))) (by decide)) big
      · have e : (match (evS L).less (valA args T).2.1 (valA args T).2.2.1 O with | none => none | some l => saidM (evS L) (valA args) f l.1 l.2 (bodyI (.mk 4 T O cs) (cntI (evS L) cs (valA args T).2.1 (valA args T).2.2.1 l.1 l.2))) = some u := hu
        cases hz : (evS L).less (valA args T).2.1 (valA args T).2.2.1 O with
        | none => rw [hz] at e; cases e
        | some l =>
          rw [hz] at e
          exact hbody (.inl rfl) _ (cntI_lt (hsome (.inl rfl)) _ _ _ _) l.1 l.2 (less_okd hz) e
      · have e : saidM (evS L) (valA args) f mc ms (bodyI (.mk 5 T O cs) (choI cs (valA args T).2.2.2)) = some u := hu
        exact hbody (.inr rfl) _ (choI_lt (hsome (.inr rfl)) _) mc ms hm e
      · have e : some (numM mc ms) = some u := hu
        injection e with e
        rw [← e]
        exact Nat.le_trans (Nat.le_trans (numM_len _ _ hm) (by decide)) big
/-- what is said is not too long -/
theorem sayT_len {L : List (List UInt8)} {f : Nat} {m : List Nd} {args : List Ag} (hl : LenM f m) (ht : ∀ a ∈ args, a.txt.length ≤ 2000000) : (sayT L f m args).length ≤ 240000000 := by
  unfold sayT
  split
  · rename_i hF
    obtain ⟨hwf, hae, hcn⟩ := wf_fit hF
    cases hs : sayO L f m args with
    | none => exact Nat.zero_le _
    | some t =>
      have := said_len (args_fine hae ht) f 0 0 m t hl hwf (by decide) hs
      exact Nat.le_trans this (Nat.le_trans (Nat.mul_le_mul_right 4000000 hcn) (by decide))
  · exact Nat.zero_le _
/-- of two messages, one behind the other -/
theorem say_parts {L : List (List UInt8)} {f : Nat} {m n : List Nd} {args : List Ag} (h : sayE L (f + 1) (m ++ n) args = 0) : sayE L (f + 1) m args = 0 ∧ sayE L (f + 1) n args = 0 ∧ sayT L (f + 1) (m ++ n) args = sayT L (f + 1) m args ++ sayT L (f + 1) n args := by
  have hF : fitE (f + 1) (m ++ n) args = 0 := by
    unfold sayE at h
    split at h
    · assumption
    · exact h
  have hM : msgE (f + 1) (m ++ n) = 0 := by
    have hF2 := hF
    unfold fitE at hF2
    split at hF2
    · rename_i h1; exact absurd hF2 h1
    · rename_i h1
      exact (namE_zero (by simpa using h1)).1
  obtain ⟨h1, h2⟩ := msg_part hM
  have f1 := fit_part (less_left _ m n) h1 hF
  have f2 := fit_part (less_right _ m n) h2 hF
  have hO : sayO L (f + 1) (m ++ n) args = match sayO L (f + 1) m args with | none => none | some t => (sayO L (f + 1) n args).map (t ++ ·) := catM_app _ m n
  unfold sayE at h
  rw [if_pos hF] at h
  unfold sayE sayT
  rw [if_pos f1, if_pos f2, if_pos hF, if_pos f1, if_pos f2]
  cases ha : sayO L (f + 1) m args with
  | none => rw [hO, ha] at h; cases h
  | some t =>
    rw [ha] at hO
    cases hb : sayO L (f + 1) n args with
    | none => rw [hO, hb] at h; cases h
    | some u =>
      rw [hb] at hO
      rw [hO]
      exact ⟨rfl, rfl, rfl⟩
end Ms
end Go.Proofs.YtldbfkccieipjaaGreatDoor
namespace Go.Proofs.YtldbfkccieipjaaGreatDoor
open Go.RowKit Ms
open Dcm (okD)
theorem infoNode : (Tryz.prog.info? 34).map (fun i => (i.zero, i.size, i.bytes)) = some (some (.agg #[.int .i64 0, .string ByteArray.empty, .int .i64 0, .slice none 0 0]), 4, 56) := by kernel_rfl
/-- the cells of nodes, as they lie in memory -/
def RawM (f : Nat) (w : World) : List Nd → List Value → Prop
  | [], xs => xs = []
  | x :: r, xs => ∃ a n c ys, xs = .int .i64 x.kind :: .string ⟨x.text.toArray⟩ :: .int .i64 x.off :: .slice a n c :: ys ∧ CassAt f w (.slice a n c) x.cases ∧ x.text.length ≤ 2000000 ∧ x.cases.length ≤ 2000000 ∧ RawM f w r ys
theorem raw_of {f : Nat} {w : World} {b : Nat} : ∀ {m : List Nd} {off : Nat}, (∀ (j : Nat) x, m[j]? = some x → NdC (f + 1) w b (off + j * 4) x) → ∃ xs, RawM f w m xs ∧ xs.length = m.length * 4 ∧ ∀ (j : Nat) u, xs[j]? = some u → w.cell? ⟨b, off + j, none⟩ = some u
  | [], off, _ => ⟨[], rfl, rfl, fun j u h => by simp at h⟩
  | x :: r, off, h => by
    obtain ⟨a, n, c, h0, h1, h2, h3, h4, h5, h6⟩ := h 0 x rfl
    obtain ⟨ys, k1, k2, k3⟩ := raw_of (f := f) (w := w) (b := b) (m := r) (off := off + 4) fun j y hy => by
      have := h (j + 1) y (by simpa using hy)
      rwa [show off + (j + 1) * 4 = off + 4 + j * 4 by omega] at this
    refine ⟨.int .i64 x.kind :: .string ⟨x.text.toArray⟩ :: .int .i64 x.off :: .slice a n c :: ys, ⟨a, n, c, ys, rfl, h4, h5, h6, k1⟩, by simp [k2]; omega, fun j u hj => ?_⟩
    match j, hj with
    | 0, hj => simp at hj; subst hj; simpa using h0
    | 1, hj => simp at hj; subst hj; simpa using h1
    | 2, hj => simp at hj; subst hj; simpa using h2
    | 3, hj => simp at hj; subst hj; simpa using h3
    | j + 4, hj =>
      have := k3 j u (by simpa using hj)
      rwa [show off + 4 + j = off + (j + 4) by omega] at this
theorem raw_app {f : Nat} {w : World} {n : List Nd} {ys : List Value} (k : RawM f w n ys) : ∀ {m : List Nd} {xs : List Value}, RawM f w m xs → RawM f w (m ++ n) (xs ++ ys)
  | [], xs, h => by
    have e : xs = [] := h
    subst e
    exact k
  | x :: r, xs, h => by
    obtain ⟨a, m, c, zs, rfl, h1, h2, h3, h4⟩ := h
    exact ⟨a, m, c, zs ++ ys, rfl, h1, h2, h3, raw_app k h4⟩
theorem raw_one {f : Nat} {w : World} : ∀ {m : List Nd} {xs : List Value}, RawM f w m xs → ∀ u ∈ xs, u.oneCell' = true
  | [], xs, h => by
    have e : xs = [] := h
    subst e
    intro u hu; simp at hu
  | x :: r, xs, h => by
    obtain ⟨a, m, c, zs, rfl, _, _, _, h4⟩ := h
    intro u hu
    rcases List.mem_cons.1 hu with rfl | hu
    · rfl
    rcases List.mem_cons.1 hu with rfl | hu
    · rfl
    rcases List.mem_cons.1 hu with rfl | hu
    · rfl
    rcases List.mem_cons.1 hu with rfl | hu
    · rfl
    exact raw_one h4 u hu
theorem raw_at {f : Nat} {w w' : World} {b : Nat} (hb : Below w.heap.size w w') : ∀ {m : List Nd} {xs : List Value} {off : Nat}, RawM f w m xs → (∀ (j : Nat) u, xs[j]? = some u → w'.cell? ⟨b, off + j, none⟩ = some u) → ∀ (j : Nat) x, m[j]? = some x → NdC (f + 1) w' b (off + j * 4) x
  | [], _, _, _, _, j, x, hx => by simp at hx
  | y :: r, xs, off, h, hc, j, x, hx => by
    obtain ⟨a, m, c, zs, rfl, h1, h2, h3, h4⟩ := h
    match j, hx with
    | 0, hx =>
      obtain rfl : y = x := by simpa using hx
      exact ⟨a, m, c, by simpa using hc 0 _ rfl, by simpa using hc 1 _ rfl, by simpa using hc 2 _ rfl, by simpa using hc 3 _ rfl, cass_below h1 hb, h2, h3⟩
    | j + 1, hx =>
      have := raw_at hb (off := off + 4) h4 (fun i u hu => by
        have := hc (i + 4) u (by simpa using hu)
        rwa [show off + (i + 4) = off + 4 + i by omega] at this) j x (by simpa using hx)
      rwa [show off + 4 + j * 4 = off + (j + 1) * 4 by omega] at this
theorem raw_msg {f : Nat} {w w' : World} {base : Nat} {v : Value} {m : List Nd} {xs : List Value} (hb : Below w.heap.size w w') (h : RawM f w m xs) (hr : w'.ownsRow base 34 4 v m.length xs) : MsgAt (f + 1) w' v m := by
  rcases hr.2 with ⟨rfl, h0⟩ | ⟨g, cap, cur, rfl, _, _, h1, h2, _, _⟩
  · exact .inl ⟨List.length_eq_zero_iff.1 h0, none, 0, rfl⟩
  · by_cases h0 : m.length = 0
    · exact .inl ⟨List.length_eq_zero_iff.1 h0, _, _, by rw [h0]⟩
    · exact .inr ⟨g, 0, cap, rfl, by omega, h1, h2, raw_at hb h fun j u hj => by rw [Nat.zero_add]; exact nrow_cells hr hj⟩
/-- what an append takes in -/
def SrcAt (w : World) (sv : Value) (m : Nat) (news : List Value) : Prop :=
  (news = [] ∧ m = 0 ∧ ∃ a c, sv = .slice a 0 c) ∨ ∃ b off cap, sv = .slice (some ⟨b, off, none⟩) m cap ∧ news.length = m * 4 ∧ ∀ (j : Nat) u, news[j]? = some u → w.cell? ⟨b, off + j, none⟩ = some u
theorem src_of {f : Nat} {w : World} {v : Value} {m : List Nd} (h : MsgAt (f + 1) w v m) : ∃ xs, RawM f w m xs ∧ SrcAt w v m.length xs := by
  rcases h with ⟨rfl, a, c, rfl⟩ | ⟨b, off, cap, rfl, _, _, _, hx⟩
  · exact ⟨[], rfl, .inl ⟨rfl, rfl, a, c, rfl⟩⟩
  · obtain ⟨xs, h1, h2, h3⟩ := raw_of hx
    exact ⟨xs, h1, .inr ⟨b, off, cap, rfl, h2, h3⟩⟩
theorem SrcAt.below {w w' : World} {sv : Value} {m : Nat} {news : List Value} (h : SrcAt w sv m news) (hb : Below w.heap.size w w') : SrcAt w' sv m news := by
  rcases h with h | ⟨b, off, cap, h1, h2, h3⟩
  · exact .inl h
  · exact .inr ⟨b, off, cap, h1, h2, fun j u hj => cell_keep (h3 j u hj) hb⟩
section
variable {P : Program} (w : World)
theorem run_append_nothing (base : Nat) (t ty e : TypeId) (i : TypeInfo) (size : Nat) (ht : P.underlying t = some (.slice e)) (hi : P.info? e = some i)
    (v : Value) (n : Nat) (xs : List Value) (hown : w.ownsRow base e size v n xs) (c : Nat) :
    (Builtin.append_ #[t, t] ty #[v, .slice none 0 c]).run P w = .ok v w := by
  rcases hown.2 with ⟨rfl, rfl⟩ | ⟨g, cap, cur, rfl, _, _, hnc, _⟩
  · simp [Builtin.append_, run_underlying ht, sizeOf, typeInfo, hi, Builtin.lenOf, Builtin.firstCells]
  · simp [Builtin.append_, run_underlying ht, sizeOf, typeInfo, hi, Builtin.lenOf, Builtin.firstCells, hnc, storeCells]
theorem wpList_append_src {ops : Array Oper} {rest : List Oper} {o : Oper} {a : Act} {Q : Exit → Act → World → Prop} (hgd : o.guard = none) (s x : Operand) (t : TypeId)
    (ho : o.op = .call { callee := .builtin .append, args := #[s, x], argTypes := #[t, t] })
    (base : Nat) (e : TypeId) (i : TypeInfo) (z : Value) (bytes : Nat) (ht : P.underlying t = some (.slice e)) (hi : P.info? e = some i) (hz : i.zero = some z)
    (hsize : i.size = 4) (hby : i.bytes = bytes) (hzs : z.cells.size = 4)
    (v : Value) (n : Nat) (xs : List Value) (hs : a.eval s = v) (hown : w.ownsRow base e 4 v n xs)
    (sv : Value) (m : Nat) (news : List Value) (hx : a.eval x = sv) (hsrc : SrcAt w sv m news) (h1 : ∀ u ∈ news, u.oneCell' = true)
    (h63 : n + m ≤ maxLen) (hbytes : (n + m) * bytes ≤ 140737488355328) (hbase : base ≤ w.heap.size)
    (h : ∀ v' w', w'.ownsRow base e 4 v' (n + m) (xs ++ news) → w.grownBy w' v.ownBlock → (v'.ownBlock = v.ownBlock ∨ v'.ownBlock = some w.heap.size) → wpList P ops Q rest (a.put o.dst v') w') :
    wpList P ops Q (o :: rest) a w := by
  refine wpList_plain hgd fun K hK => ?_
  obtain ⟨v', w', hr, h2, h3, h5⟩ : ∃ v' w', (Builtin.append_ #[t, t] o.type #[v, sv]).run P w = .ok v' w' ∧ w'.ownsRow base e 4 v' (n + m) (xs ++ news) ∧ w.grownBy w' v.ownBlock ∧ (v'.ownBlock = v.ownBlock ∨ v'.ownBlock = some w.heap.size) := by
    rcases hsrc with ⟨rfl, rfl, A, c, rfl⟩ | ⟨b, off, cap, rfl, hl, hc⟩
    · cases A with
      | none => exact ⟨v, w, run_append_nothing (w := w) base t o.type e i 4 ht hi v n xs hown c, by rw [List.append_nil]; exact hown, ⟨rfl, rfl, rfl, Nat.le_refl _, fun _ _ _ => rfl⟩, .inl rfl⟩
      | some ad =>
        obtain ⟨v', w', hr, h2, h3, _, h5⟩ := run_append_own_at (P := P) w base t o.type e i z 4 bytes ht hi hz hsize hby hzs (by decide) v n xs hown ad 0 c [] rfl (fun j u hj => by simp at hj) h1 h63 hbytes hbase
        exact ⟨v', w', hr, h2, h3, h5⟩
    · obtain ⟨v', w', hr, h2, h3, _, h5⟩ := run_append_own_at (P := P) w base t o.type e i z 4 bytes ht hi hz hsize hby hzs (by decide) v n xs hown ⟨b, off, none⟩ m cap news hl (fun j u hj => by
        have hcj := hc j u hj
        by_cases hj0 : j = 0
        · subst hj0; simpa [Addr.add] using hcj
        · simpa [Addr.add, hj0] using hcj) h1 h63 hbytes hbase
      exact ⟨v', w', hr, h2, h3, h5⟩
  unfold Oper.wp execOp
  simp only [ho, resolve, invoke, builtin, Sem.run_bind, Sem.run_pure, Result.andThen_ok, List.map_toArray, List.map_cons, List.map_nil, hs, hx, hr]
  exact hK _ _ (h v' w' h2 h3 h5)
end
theorem nrow_zero (w : World) (base : Nat) (hb : base ≤ w.heap.size) : (w.alloc (.cells #[] 34)).ownsRow base 34 4 (.slice (some ⟨w.heap.size, 0, none⟩) 0 0) 0 [] :=
  ⟨rfl, .inr ⟨w.heap.size, 0, #[], rfl, hb, by show (w.heap.push _)[w.heap.size]? = _; simp, Nat.le_refl _, by unfold maxLen; omega, rfl, rfl⟩⟩
set_option maxRecDepth 100000 in
set_option maxHeartbeats 8000000 in
theorem eparts_any {f : Nat} {v vn va : Value} {m n : List Nd} {args : List Ag} (lang : List UInt8) (w : World) (hw : MW w) (hE : EvW w) (h : MsgAt (f + 1) w v m) (hl : m.length + n.length ≤ 2000000) (hn : MsgAt (f + 1) w vn n) (ha : ArgsAt w va args) (hal : args.length ≤ 2000000) (hna : ∀ a ∈ args, a.name.length ≤ 4000000000) (htx : ∀ a ∈ args, a.txt.length ≤ 2000000) :
    Calls Tryz.prog 3 #[v, vn, .string ⟨lang.toArray⟩, va] w fun e w' => e = .returned (.bool true) ∧ Below w.heap.size w w' := by
  obtain ⟨t0, t1, t2, t3, t4, b, hS, hb0, CL, _⟩ := lang_set lang
  obtain ⟨iN, hiN, hN0, hN1, hN2⟩ := info_parts infoNode
  have CC := Lib.hid (counted_any w hw hE)
  have CS := Lib.hid fun (z : Value) (k : List Nd) (wx : World) (hb : Below w.heap.size w wx) (hk : MsgAt (f + 1) wx z k) (hkl : k.length ≤ 2000000) => esay_any lang t0 t1 t2 t3 t4 b wx (hw.below hb) (hE.below hb) hk hkl (args_below ha hb) hal hna htx hS hb0 CL
  obtain ⟨xs, hx, hxs⟩ := src_of h
  obtain ⟨ys, hy, hys⟩ := src_of hn
  have ox := raw_one hx
  have oy := raw_one hy
  have HXY := Lib.hid (raw_app hy hx)
  have HX := Lib.hid hxs
  have HY := Lib.hid hys
  have HM := Lib.hid h
  have HN := Lib.hid hn
  have hl1 := sayT_len (L := [t0, t1, t2, t3, t4]) (len_of _ h) htx
  have hl2 := sayT_len (L := [t0, t1, t2, t3, t4]) (len_of _ hn) htx
  have HP := Lib.hid fun (h : sayE [t0, t1, t2, t3, t4] (f + 1) (m ++ n) args = 0) => say_parts h
  have CS1 := Lib.hid fun (wx : World) (hb : Below w.heap.size w wx) => CS.out v m wx hb (msg_below h hb) (by omega)
  have CS2 := Lib.hid fun (wx : World) (hb : Below w.heap.size w wx) => CS.out vn n wx hb (msg_below hn hb) (by omega)
  have CS3 := Lib.hid fun (z : Value) (wx : World) (hb : Below w.heap.size w wx) (hk : MsgAt (f + 1) wx z (m ++ n)) => CS.out z (m ++ n) wx hb hk (by rw [List.length_append]; omega)
  have HLEN := Lib.hid (show (m ++ n).length = m.length + n.length from List.length_append)
  obtain ⟨v1, v2, v3, rfl⟩ := h.isSlice
  obtain ⟨n1, n2, n3, rfl⟩ := hn.isSlice
  obtain ⟨u1, u2, u3, rfl⟩ := ha.isSlice
  clear hw hE h hn ha hal hna htx hS hb0 CL hx hxs hy hys CS HM HN
  generalize sayE [t0, t1, t2, t3, t4] (f + 1) m args = E1 at *
  generalize sayT [t0, t1, t2, t3, t4] (f + 1) m args = T1 at *
  generalize sayE [t0, t1, t2, t3, t4] (f + 1) n args = E2 at *
  generalize sayT [t0, t1, t2, t3, t4] (f + 1) n args = T2 at *
  generalize sayE [t0, t1, t2, t3, t4] (f + 1) (m ++ n) args = E3 at *
  generalize sayT [t0, t1, t2, t3, t4] (f + 1) (m ++ n) args = T3 at *
  go_enter Tryz.func3, Tryz.ntmps3
  go_wp2_with fail
  refine CC.out.mono ?_
  rintro e w1 ⟨rfl, hb⟩
  have W1 := Lib.hid hb
  clear hb CC
  go_wp2_with fail
  refine (CS1.out _ W1.out).mono ?_
  rintro e w2 ⟨rfl, hb⟩
  have W2 := Lib.hid (blw_trans W1.out hb)
  clear hb CS1 W1
  go_wp2_with fail
  refine (CS2.out _ W2.out).mono ?_
  rintro e w3 ⟨rfl, hb⟩
  have W3 := Lib.hid (blw_trans W2.out hb)
  have HZ := Lib.hid (nrow_zero w3 w3.heap.size (Nat.le_refl _))
  have HX4 := Lib.hid (HX.out.below (blw_trans W3.out (blw_alloc w3 (.cells #[] 34))))
  clear hb CS2 W2 HX
  generalize hN1' : m.length = LM at *
  generalize hN2' : n.length = LN at *
  go_wp2_with (first
    | (at_builtin; refine wpList_append_src _ rfl _ _ 22 rfl w3.heap.size 34 iN _ 56 Tryz.underlying22 hiN hN0 hN1 hN2 rfl (.slice (some ⟨w3.heap.size, 0, none⟩) 0 0) 0 [] rfl HZ.out _ LM xs rfl HX4.out ox (by unfold maxLen; omega) (by omega) (by simp) ?_; intro v5 w5 hown5 hgrow5 _; have B5 := Lib.hid ((blw_alloc w3 (.cells #[] 34)).grown hgrow5 (by simp) (fun k hk => (HZ.out.lt k hk).1)); have R5 := Lib.hid (show w5.ownsRow w3.heap.size 34 4 v5 LM xs by have := hown5; rwa [Nat.zero_add, List.nil_append] at this); have HY5 := Lib.hid (HY.out.below (blw_trans W3.out B5.out)); have S5 := B5.out.size; obtain ⟨va5, vc5, rfl⟩ := mrow_slice R5.out; clear hown5 hgrow5 HX4 HZ)
    | (at_builtin; refine wpList_append_src _ rfl _ _ 22 rfl w3.heap.size 34 iN _ 56 Tryz.underlying22 hiN hN0 hN1 hN2 rfl (.slice va5 LM vc5) LM xs rfl R5.out _ LN ys rfl HY5.out oy (by unfold maxLen; omega) (by omega) S5 ?_; intro v6 w6 hown6 hgrow6 _; have B6 := Lib.hid (B5.out.grown hgrow6 S5 (fun k hk => (R5.out.lt k hk).1)); have R6 := Lib.hid hown6; obtain ⟨va6, vc6, rfl⟩ := mrow_slice R6.out; clear hown6 hgrow6 HY5 R5))
  have W6 := Lib.hid (blw_trans W3.out B6.out)
  have M6 := Lib.hid (raw_msg (m := m ++ n) W6.out HXY.out (by rw [HLEN.out]; exact R6.out))
  have CSi := Lib.hid (CS3.out _ _ W6.out M6.out)
  clear CS3 M6 W3 B5 B6 R6
  refine CSi.out.mono ?_
  rintro e w7 ⟨rfl, hb⟩
  have W7 := Lib.hid (blw_trans W6.out hb)
  clear hb CSi W6
  go_upto_region 5 with fail
  by_cases h3 : E3 = 0
  · obtain ⟨h1, h2, h4⟩ := HP.out h3
    have AD : ∀ w, (Op.stringOp .add ⟨T1.toArray⟩ ⟨T2.toArray⟩).run Tryz.prog w = .ok (.string ⟨T3.toArray⟩) w := fun w => by rw [h4]; exact add_str (P := Tryz.prog) T1 T2 (by omega) w
    have v1' : errN E1 = .nilIface := by rw [h1]; rfl
    have v2' : errN E2 = .nilIface := by rw [h2]; rfl
    have v3' : errN E3 = .nilIface := by rw [h3]; rfl
    rw [v1', v2', v3']
    clear h1 h2 h3 h4 v1' v2' v3'
    go_wp2_with fail
    go_ret
    exact ⟨ret_bool (by simp), W7.out⟩
  · have v3' : errN E3 = errV E3 := if_neg h3
    by_cases h1 : E1 = 0
    · by_cases h2 : E2 = 0
      · have v1' : errN E1 = .nilIface := by rw [h1]; rfl
        have v2' : errN E2 = .nilIface := by rw [h2]; rfl
        rw [v1', v2', v3']
        go_wp2_with fail
        go_ret
        exact ⟨rfl, W7.out⟩
      · have v1' : errN E1 = .nilIface := by rw [h1]; rfl
        have v2' : errN E2 = errV E2 := if_neg h2
        rw [v1', v2', v3']
        go_wp2_with fail
        go_ret
        exact ⟨rfl, W7.out⟩
    · by_cases h2 : E2 = 0
      · have v1' : errN E1 = errV E1 := if_neg h1
        have v2' : errN E2 = .nilIface := by rw [h2]; rfl
        rw [v1', v2', v3']
        go_wp2_with fail
        go_ret
        exact ⟨rfl, W7.out⟩
      · have v1' : errN E1 = errV E1 := if_neg h1
        have v2' : errN E2 = errV E2 := if_neg h2
        rw [v1', v2', v3']
        go_wp2_with fail
        go_ret
        exact ⟨rfl, W7.out⟩
end Go.Proofs.YtldbfkccieipjaaGreatDoor
namespace Go.Proofs.YtldbfkccieipjaaGreatDoor.lawEvalParts
open Go.ChangeShapes Go.WideShapes Go.ChangeAt Go.RowKit Go.Joins

theorem own : ownKnob Tryz.prog.godebug = none := by kernel_rfl
theorem laidOut : laidOutB Tryz.prog = true := by kernel_rfl

set_option maxRecDepth 100000 in
theorem contract (H : Type) (enc : TypeId × Value → H) (W : World) (base : Nat) (args : Array Value) (ds gs : List (DataW H)) (before : List MemPlace)
    (hval : ∀ (j : Nat) t v, Tryz.f3.params[j]? = some t → args[j]? = some v → Value.okWide Tryz.prog W .any base t v)
    (hW : DataW.Whole enc Tryz.prog Tryz.f3.params.toList Rows.evalPartsSpec.vars false W args.toList ds gs before) (hk : Rows.uptoSmall H (ds ++ gs) = true) (hL : laidMetH Tryz.prog Rows.evalPartsUptoRow.laid W) (hS : W.ShapedOpen Tryz.prog) :
    Calls Tryz.prog 3 args W fun e W' => ∃ v, e = .returned v ∧ Rows.evalPartsSpec.post enc Tryz.prog Tryz.f3 false true false false W args v W' := by
  have hpost : ∀ W', Below W.heap.size W W' → Rows.evalPartsSpec.post enc Tryz.prog Tryz.f3 false true false false W args (.bool true) W' := fun W' hb =>
    law_post (tb := 4) laidOut rfl Tryz.underlying4 rfl (by kernel_rfl) (fun ds h => by match ds, h with | [x0, x1, x2, x3], _ => rfl) hW hb
  obtain ⟨p, q, hA0, hV, _, hfz, hnd⟩ := hW
  have hA : DataW.TrodAll enc Tryz.prog W 0 (fun _ => true) true Tryz.f3.params.toList args.toList ds p := hA0
  obtain ⟨rfl, rfl⟩ := trodVars_none hV
  rw [Tryz.params3] at hA hval
  obtain ⟨v0, vs0, d0, ds0, p0, q0, hargs, rfl, hp0, h0, r0⟩ := trodAll_cons hA
  obtain ⟨v1, vs1, d1, ds1, p1, q1, rfl, rfl, hp1, h1, r1⟩ := trodAll_cons r0
  obtain ⟨v2, vs2, d2, ds2, p2, q2, rfl, rfl, hp2, h2, r2⟩ := trodAll_cons r1
  obtain ⟨v3, vs3, d3, ds3, p3, q3, rfl, rfl, hp3, h3, r3⟩ := trodAll_cons r2
  obtain ⟨rfl, rfl, hp⟩ := trodAll_nil r3
  obtain rfl : args = #[v0, v1, v2, v3] := by cases args; simp_all
  obtain ⟨m_a, m_n, m_c, rfl⟩ := okWide_slice Tryz.underlying22 (hval 0 22 v0 rfl rfl)
  obtain ⟨m_f, m_h⟩ := h0
  obtain ⟨n_a, n_n, n_c, rfl⟩ := okWide_slice Tryz.underlying22 (hval 1 22 v1 rfl rfl)
  obtain ⟨n_f, n_h⟩ := h1
  obtain ⟨l, rfl, rfl, rfl, w_l⟩ := ChangeMaps.open_string Tryz.underlying9 (hval 2 9 v2 rfl rfl) h2
  obtain ⟨a_a, a_n, a_c, rfl⟩ := okWide_slice Tryz.underlying23 (hval 3 23 v3 rfl rfl)
  obtain ⟨a_f, a_h⟩ := h3
  clear hA0 hfz hnd hval
  have hm : MaxW W := Go.Proofs.cell_of_shapedOpen_int (zero := #[.int .i64 0]) (t := 3) hS (of_decide_eq_true (by kernel_rfl)) (by kernel_rfl) rfl (by kernel_rfl) (by kernel_rfl) Tryz.underlying3
  have hT : TR W := ⟨powW_of hL (by kernel_rfl), numW_of hL (by kernel_rfl) (by kernel_rfl), hm⟩
  have hM : MW W := ⟨powW_of hL (by kernel_rfl), numW_of hL (by kernel_rfl) (by kernel_rfl), kdW_of hL (by kernel_rfl)⟩
  have hE : EvW W := ⟨hT, kindsW_of hL (by kernel_rfl), numerW_of hL (by kernel_rfl) (by kernel_rfl)⟩
  have hq : Rows.uptoBulkAll _ ≤ 1048576 := of_decide_eq_true hk
  simp only [List.append_nil, Rows.uptoBulkAll] at hq
  obtain ⟨ms, m_at, m_len⟩ := nodes_open m_h (by omega)
  obtain ⟨ns, n_at, n_len⟩ := nodes_open n_h (by omega)
  obtain ⟨asx, a_at, a_len, a_nm⟩ := argx_open a_h (by omega)
  refine Calls.mono (?_ : Calls Tryz.prog 3 #[.slice m_a m_n m_c, .slice n_a n_n n_c, .string l, .slice a_a a_n a_c] W fun e w' => e = .returned (.bool true) ∧ Below W.heap.size W w') fun e W' ⟨he, hb⟩ => ⟨_, he, hpost W' hb⟩
  obtain ⟨ll, rfl⟩ : ∃ x : List UInt8, l = ⟨x.toArray⟩ := ⟨l.data.toList, rfl⟩
  exact eparts_any (f := 1048575) ll W hM hE m_at (by omega) n_at a_at (by omega) (fun x hx => by have := (a_nm x hx).1; omega) (fun x hx => by have := (a_nm x hx).2; omega)

theorem start_met (os : Os) : laidMetH Tryz.prog Rows.evalPartsUptoRow.laid ((World.laidAll Tryz.prog os Rows.evalPartsUptoRow.laid).forCall (fun _ _ => 0) ⟨#[], #[.slice none 0 0, .slice none 0 0, .string ⟨#[]⟩, .slice none 0 0], []⟩).memory :=
  by rw [MakeChecks.laidMetH_plain _ _ _ (by kernel_rfl)]; exact laidMet_laidAll _ (by kernel_rfl) (by kernel_rfl)
theorem start_reads (os : Os) {H : Type} (enc : TypeId × Value → H) : ∃ places, DataW.whole enc Tryz.prog ((World.laidAll Tryz.prog os Rows.evalPartsUptoRow.laid).forCall (fun _ _ => 0) ⟨#[], #[.slice none 0 0, .slice none 0 0, .string ⟨#[]⟩, .slice none 0 0], []⟩).memory Tryz.f3.params.toList Rows.evalPartsSpec.vars false (#[.slice none 0 0, .slice none 0 0, .string ⟨#[]⟩, .slice none 0 0] : Array Value).toList 8 = some ([.nil, .nil, .lit (.string []), .nil], [], places) :=
  ⟨[], by kernel_rfl⟩

set_option maxRecDepth 100000 in
theorem lifted (os : Os) (started : os.Started) (H : Type) (enc : TypeId × Value → H) (F : Stop.Interp) :
    ReturnsInHanded {} Tryz.checked os 3 .any ((Rows.OpenSpec.upto Rows.evalPartsSpec).preRow enc Tryz.prog Tryz.f3 Rows.evalPartsUptoRow.domain false Rows.evalPartsUptoRow.laid) (((Rows.OpenSpec.upto Rows.evalPartsSpec).at F).post enc Tryz.prog Tryz.f3 false true false false) := by
  obtain ⟨places, hx⟩ := start_reads os enc
  refine returnsInHanded_of_row (C := Tryz.checked) (s := Rows.OpenSpec.upto Rows.evalPartsSpec) own started (by kernel_rfl) Tryz.func3
    (witness_row_atRef (enc := enc) (C := Tryz.checked) false (World.laidAll Tryz.prog os Rows.evalPartsUptoRow.laid) #[.slice none 0 0, .slice none 0 0, .string ⟨#[]⟩, .slice none 0 0] (World.laidAll_os _ _ _) (by kernel_rfl) (by kernel_rfl) (by kernel_rfl)
      (OpenSpec.preRow_of_cond 8 hx (by kernel_rfl) (fun k hk => by cases hk; kernel_rfl) (by kernel_rfl) (start_met os))) ?_
  intro W base args ds gs before hval hW _ hcond _ hL hS _
  exact contract H enc W base args ds gs before hval hW (hcond _ rfl) hL hS

theorem cl1 : (Rows.evalPartsUptoRow.inPlace == Tryz.pinned.checked.prog.inPlace 3) = true := by kernel_rfl
theorem cl2 : (Rows.evalPartsUptoRow.unfollowed == Tryz.pinned.checked.prog.unfollowed 3) = true := by kernel_rfl
theorem cl3 : (Rows.evalPartsUptoRow.recurses == Tryz.pinned.checked.prog.recurses 3) = true := by kernel_rfl
theorem cl4 : (Rows.evalPartsUptoRow.named == Tryz.pinned.checked.prog.varsNamed 3) = true := by kernel_rfl
theorem closed : joinedFacts Tryz.pinned.checked.prog 3 Tryz.f3 (Rows.OpenSpec.upto Rows.evalPartsSpec).bare Rows.evalPartsUptoRow = true := by
  unfold joinedFacts
  rw [cl1, cl2, cl3, cl4]
  kernel_rfl

theorem said : Rows.EvalPartsUptoSaid :=
  OpenClaim.holds_of_cond 3 Tryz.f3 rfl rfl rfl rfl rfl rfl rfl ⟨rfl, rfl, rfl, rfl, rfl⟩ rfl rfl rfl rfl rfl (by kernel_rfl) Tryz.func3 closed
    (of_decide_eq_true (by kernel_rfl)) (by unfold Func.isWrapper; first | (rw [if_pos (by decide +kernel)]; kernel_rfl) | (rw [if_neg (by decide +kernel)]; exact ⟨rfl, rfl⟩))
    (fun os started H enc _ F => by rw [OpenClaim.pre_eq_preRow]; exact lifted os started H enc F)

theorem plain (f : FuncId) (fn : Func) (hf : Tryz.pinned.checked.prog.funcNamed "linguister/linguisterlaw3.EvalParts" = some f) (hfn : Tryz.pinned.checked.prog.funcs[f]? = some fn) :
    true = Tryz.pinned.checked.prog.looks [] ∧ ∀ (j : Nat) t, fn.params[j]? = some t → Tryz.pinned.checked.prog.wantsStandIn t = false := by
  obtain rfl : f = 3 := Option.some.inj ((show Tryz.prog.funcNamed "linguister/linguisterlaw3.EvalParts" = some 3 by kernel_rfl).symm.trans hf) |>.symm
  obtain rfl : fn = Tryz.f3 := (Option.some.inj (Tryz.func3.symm.trans hfn)).symm
  refine ⟨by kernel_rfl, fun j t ht => ?_⟩
  rw [Tryz.params3] at ht
  have hm : t ∈ [22, 22, 9, 23] := by simpa using Array.mem_of_getElem? ht
  have hall : ([22, 22, 9, 23].all fun u => !Tryz.prog.wantsStandIn u) = true := by kernel_rfl
  exact (show Tryz.prog.wantsStandIn t = false by simpa using List.all_eq_true.1 hall t hm)

theorem proved : Rows.EvalPartsUptoCardSaid :=
  Claim7.holds_tied_plain_at .later [] _ _ _ _ said (fun _ h => by cases h) (by kernel_rfl) (fun _ h => by cases h) evalPartsUpto_row_tie rfl ⟨rfl, rfl⟩ (by kernel_rfl) rfl plain (by kernel_rfl)
#print axioms proved
end Go.Proofs.YtldbfkccieipjaaGreatDoor.lawEvalParts
