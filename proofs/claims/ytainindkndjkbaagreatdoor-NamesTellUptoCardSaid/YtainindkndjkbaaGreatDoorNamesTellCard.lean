/- The law NamesTell, proved where what it reads is of bulk at most 1048576: the call returns true of every input, and turns nothing that was there. Conditions: the row's own (the listed variables hold what the program's text lays; the card ties them). -/
import Derived.Test.YtainindkndjkbaaGreatDoorNmC
import Derived.Test.YtainindkndjkbaaGreatDoorNmD
import Derived.Test.YtainindkndjkbaaGreatDoorAs
import Derived.Test.YtainindkndjkbaaGreatDoorRows
import Derived.Test.YtainindkndjkbaaGreatDoorMsgA
import Derived.OpenShut
import Derived.Deep.Slices
import Derived.Deep.Fields
import Derived.ChangeSame
import Derived.Test.YtainindkndjkbaaGreatDoorReadO
import Derived.Test.YtainindkndjkbaaGreatDoorNmA
import Derived.LaidSub
import Derived.MakeChecks
import Derived.Test.YtainindkndjkbaaGreatDoorCards
import Derived.Test.YtainindkndjkbaaGreatDoorTie
import Derived.Deep.DeepHandedRow
import Derived.Deep.DeepWitnessRowRef
import Derived.Stop.Joined
import Derived.Test.YtainindkndjkbaaGreatDoorLaid
import Derived.Test.YtainindkndjkbaaGreatDoorFrame
import Derived.Test.YtainindkndjkbaaGreatDoorPow
import Derived.Test.YtainindkndjkbaaGreatDoorHan
namespace Go.Proofs.YtainindkndjkbaaGreatDoor
open Go.RowKit Ms

theorem errNo_N (k : Int) : ErrNo (errN k) k := by
  unfold errN
  split
  · rename_i h; subst h; exact ErrNo.nil
  · exact ErrNo.no k

set_option maxRecDepth 100000 in
set_option maxHeartbeats 4000000 in
theorem ntell_any {f : Nat} {v va : Value} {m : List Nd} {args : List Ag} (w : World) (hw : MW w) (hH : HanW w) (h : MsgAt f w v m) (hl : m.length ≤ 2000000) (ha : ArgsAt w va args) (hal : args.length ≤ 2000000) (hna : ∀ a ∈ args, a.name.length ≤ 4000000000) :
    Calls Tryz.prog 3 #[v, va] w fun e w' => e = .returned (.bool true) ∧ Below w.heap.size w w' := by
  have CO1 := Lib.hid fun wx v1 (hb : Below w.heap.size w wx) (h1 : MsgAt 2 wx v1 appM) => nOf_any wx (hw.below hb) h1 (by decide)
  have CO := Lib.hid fun wx (hb : Below w.heap.size w wx) => nOf_any wx (hw.below hb) (msg_below h hb) hl
  have CQ := Lib.hid fun wx (hb : Below w.heap.size w wx) => nfault_any wx (msg_below h hb) hl
  have CA := Lib.hid fun wx (hb : Below w.heap.size w wx) (hc : cnt f m ≤ 60) => asked_any f v m wx wx (.slice none 0 0) [] (msg_below h hb) hl ⟨rfl, .inl ⟨rfl, rfl⟩⟩ (Below.refl _ _) (by simp; omega)
  have CE := Lib.hid fun (k : Int) wx (hb : Below w.heap.size w wx) => sameErr_yes (errNo_N k) wx (hH.below hb)
  have CF := Lib.hid fun wx (hb : Below w.heap.size w wx) => fits_any wx (hw.below hb) (msg_below h hb) hl (args_below ha hb) hal hna
  have CG := Lib.hid fun wx (hb : Below w.heap.size w wx) => ffault_any wx (msg_below h hb) hl (args_below ha hb) hal hna
  have CS := Lib.hid fun (l : List Need) (a b : Value) wx (h1 : ArgsAt wx a (l.map ofN)) (h2 : ArgsAt wx b (l.map ofN)) (hll : l.length ≤ 60) => sargs_same (l.map ofN) a b wx h1 h2 (by rw [List.length_map]; omega)
  have HLL := Lib.hid (lstN_len f m)
  have HL := Lib.hid (show lstN f m = if namE f m = 0 then allN f [] m else [] from rfl)
  have HC := Lib.hid (fun (h0 : namE f m = 0) => cnt_small (f := f) (m := m) (namE_zero h0).1)
  obtain ⟨a, n, c, rfl⟩ := h.isSlice
  obtain ⟨A, cap, rfl, _, _⟩ := ha.spread
  clear h hl ha hna hw hH
  generalize lstN f m = LS at *
  generalize namE f m = NE at *
  generalize allN f [] m = AL at *
  generalize fitE f m args = FE at *
  generalize args.length = N at *
  go_enter Tryz.func3, Tryz.ntmps3
  go_wp2_with fail
  refine (apples_any w).mono ?_
  rintro e w1 ⟨v1, rfl, hm, hb⟩
  have W1 := Lib.hid hb
  have CO1h := Lib.hid (CO1.out w1 v1 hb hm)
  obtain ⟨a1, n1, c1, rfl⟩ := hm.isSlice
  clear hb hm CO1
  go_wp2_with fail
  refine CO1h.out.mono ?_
  rintro e w2 ⟨u1, rfl, hr, hb⟩
  have W2 := Lib.hid (blw_trans W1.out hb)
  rw [app_names.2] at hr
  rw [app_names.1, show errN 0 = .nilIface from rfl]
  obtain ⟨g, cap1, rfl⟩ := nrow_some hr (by decide)
  have G1 : w2.cell? ⟨g, 1, none⟩ = some (.bool true) := nrow_cells hr rfl
  have hcp : 1 ≤ cap1 := (by rcases hr.2 with ⟨e, _⟩ | ⟨_, _, _, e, _, _, h, _⟩; cases e; injection e with _ _ e; subst e; exact h)
  rw [show ([([110], true, false)] : List Need).length = 1 from rfl]
  clear hr hb CO1h W1
  go_wp2_with fail
  refine (CQ.out w2 W2.out).mono ?_
  rintro e w3 ⟨rfl, hb⟩
  have W3 := Lib.hid (blw_trans W2.out hb)
  have V3 := Lib.hid hb
  clear hb CQ W2
  by_cases h0 : NE = 0
  · subst h0
    obtain rfl : LS = AL := HL.out
    go_wp2_with fail
    refine (CA.out w3 W3.out (HC.out trivial)).mono ?_
    rintro e w4 ⟨u3, rfl, hr, hb⟩
    have W4 := Lib.hid (blw_trans W3.out hb)
    have V4 := Lib.hid (blw_trans V3.out hb)
    obtain ⟨ua, uc, rfl⟩ := mrow_slice hr
    have RW4 := Lib.hid (args_of_row (l := LS.map ofN) (by rw [List.length_map]; exact hr))
    clear hb hr CA W3 V3 HC HL
    go_wp2_with fail
    refine (CO.out w4 W4.out).mono ?_
    rintro e w5 ⟨u4, rfl, hr, hb⟩
    have W5 := Lib.hid (blw_trans W4.out hb)
    have V5 := Lib.hid (blw_trans V4.out hb)
    have RW5 := Lib.hid (args_below RW4.out hb)
    obtain ⟨va, vc, rfl⟩ := mrow_slice hr
    have R5 := Lib.hid (args_of_row (l := LS.map ofN) (by rw [List.length_map]; exact hr))
    clear hb hr W4 V4 RW4 CO
    go_wp2_with fail
    refine (CE.out 0 w5 W5.out).mono ?_
    rintro e w6 ⟨rfl, hb⟩
    have W6 := Lib.hid (blw_trans W5.out hb)
    have V6 := Lib.hid (blw_trans V5.out hb)
    have RW6 := Lib.hid (args_below RW5.out hb)
    have R6 := Lib.hid (args_below R5.out hb)
    clear hb W5 V5 RW5 R5
    go_wp2_with fail
    refine (CS.out LS _ _ w6 R6.out RW6.out HLL.out).mono ?_
    rintro e w7 ⟨rfl, hb⟩
    have W7 := Lib.hid (blw_trans W6.out hb)
    have V7 := Lib.hid (blw_trans V6.out hb)
    clear hb W6 V6 R6 RW6 CS
    go_wp2_with fail
    refine (CF.out w7 W7.out).mono ?_
    rintro e w8 ⟨rfl, hb⟩
    have W8 := Lib.hid (blw_trans W7.out hb)
    have V8 := Lib.hid (blw_trans V7.out hb)
    clear hb W7 V7 CF
    go_wp2_with fail
    refine (CG.out w8 W8.out).mono ?_
    rintro e w9 ⟨rfl, hb⟩
    have W9 := Lib.hid (blw_trans W8.out hb)
    have V9 := Lib.hid (blw_trans V8.out hb)
    clear hb W8 V8 CG
    go_wp2_with fail
    refine (CE.out FE w9 W9.out).mono ?_
    rintro e w10 ⟨rfl, hb⟩
    have W10 := Lib.hid (blw_trans W9.out hb)
    have G := cell_keep (cell_keep G1 V9.out) hb
    clear hb W9 V9 CE G1
    go_wp2_with fail
    go_ret
    exact ⟨rfl, W10.out⟩
  · have b0 : (NE == 0) = false := beq_no h0
    obtain rfl : LS = [] := by rw [HL.out, if_neg h0]
    have W4 := W3
    have V4 := V3
    have RW4 := Lib.hid (show ArgsAt w3 (.slice none 0 0) (([] : List Need).map ofN) from .inl ⟨rfl, none, 0, rfl⟩)
    clear h0 HL HC CA W3 V3
    go_wp2_with fail
    refine (CO.out w3 W4.out).mono ?_
    rintro e w5 ⟨u4, rfl, hr, hb⟩
    have W5 := Lib.hid (blw_trans W4.out hb)
    have V5 := Lib.hid (blw_trans V4.out hb)
    have RW5 := Lib.hid (args_below RW4.out hb)
    obtain ⟨va, vc, rfl⟩ := mrow_slice hr
    have R5 := Lib.hid (args_of_row (l := ([] : List Need).map ofN) (by rw [List.length_map]; exact hr))
    clear hb hr W4 V4 RW4 CO
    go_wp2_with fail
    refine (CE.out NE w5 W5.out).mono ?_
    rintro e w6 ⟨rfl, hb⟩
    have W6 := Lib.hid (blw_trans W5.out hb)
    have V6 := Lib.hid (blw_trans V5.out hb)
    have RW6 := Lib.hid (args_below RW5.out hb)
    have R6 := Lib.hid (args_below R5.out hb)
    clear hb W5 V5 RW5 R5
    go_wp2_with fail
    refine (CS.out [] _ _ w6 R6.out RW6.out HLL.out).mono ?_
    rintro e w7 ⟨rfl, hb⟩
    have W7 := Lib.hid (blw_trans W6.out hb)
    have V7 := Lib.hid (blw_trans V6.out hb)
    clear hb W6 V6 R6 RW6 CS
    go_wp2_with fail
    refine (CF.out w7 W7.out).mono ?_
    rintro e w8 ⟨rfl, hb⟩
    have W8 := Lib.hid (blw_trans W7.out hb)
    have V8 := Lib.hid (blw_trans V7.out hb)
    clear hb W7 V7 CF
    go_wp2_with fail
    refine (CG.out w8 W8.out).mono ?_
    rintro e w9 ⟨rfl, hb⟩
    have W9 := Lib.hid (blw_trans W8.out hb)
    have V9 := Lib.hid (blw_trans V8.out hb)
    clear hb W8 V8 CG
    go_wp2_with fail
    refine (CE.out FE w9 W9.out).mono ?_
    rintro e w10 ⟨rfl, hb⟩
    have W10 := Lib.hid (blw_trans W9.out hb)
    have G := cell_keep (cell_keep G1 V9.out) hb
    clear hb W9 V9 CE G1
    go_wp2_with fail
    go_ret
    exact ⟨rfl, W10.out⟩
end Go.Proofs.YtainindkndjkbaaGreatDoor
namespace Go.Proofs.YtainindkndjkbaaGreatDoor
open Go.RowKit Go.WideShapes Go.ChangeShapes Go.Deep Ms

theorem bulk_mem {H : Type} {x : DataW H} : ∀ {l : List (DataW H)}, x ∈ l → Rows.uptoBulk x ≤ Rows.uptoBulkAll l
  | y :: l, h => by
    rcases List.mem_cons.1 h with rfl | h
    · simp only [Rows.uptoBulkAll]; omega
    · have := bulk_mem h
      simp only [Rows.uptoBulkAll]; omega
theorem bulk_pos {H : Type} (d : DataW H) : 1 ≤ Rows.uptoBulk d := by
  cases d with
  | lit x => cases x <;> simp [Rows.uptoBulk]
  | _ => simp [Rows.uptoBulk]
theorem bulk_len {H : Type} : ∀ l : List (DataW H), l.length ≤ Rows.uptoBulkAll l
  | [] => by simp
  | d :: l => by
    have := bulk_len l
    have := bulk_pos d
    simp only [Rows.uptoBulkAll, List.length_cons]; omega
theorem list_by' {α : Type} {Q : Nat → α → Prop} : ∀ (n : Nat), (∀ i, i < n → ∃ t, Q i t) → ∃ L : List α, L.length = n ∧ ∀ i t, L[i]? = some t → Q i t
  | 0, _ => ⟨[], rfl, fun i t h => by simp at h⟩
  | n + 1, h => by
    obtain ⟨L, hl, hq⟩ := list_by' n fun i hi => h i (by omega)
    obtain ⟨t, ht⟩ := h n (by omega)
    refine ⟨L ++ [t], by simp [hl], fun i x hx => ?_⟩
    by_cases hi : i < n
    · rw [List.getElem?_append_left (by omega)] at hx; exact hq i x hx
    · rw [List.getElem?_append_right (by omega)] at hx
      have hk : i - L.length < 1 := (List.getElem?_eq_some_iff.1 hx).1
      obtain rfl : i = n := by omega
      rw [hl, Nat.sub_self] at hx
      obtain rfl : t = x := by simpa using hx
      exact ht
section
variable {H : Type} {enc : TypeId × Value → H} {P : Program} {w : World} {base : Nat} {sp : Nat → Bool} {held : Bool}
/-- a slice whose elements are smaller readings -/
theorem sl_less {α : Type} {fuel m : Nat} {t e : TypeId} {C : World → Nat → Nat → α → Prop} (K : Nat) (ht : P.underlying t = some (.slice e)) (hC : P.cellsOf e = m) (hm : 0 < m)
    (el : ∀ (b off : Nat) (cs : List Value) (n : Nat) (y : DataW H × List MemPlace), (∀ i, i < m → w.cell? ⟨b, off + i, none⟩ = cs[i]?) → cs.length = m → DataW.trod enc P w base sp held n e cs = some y → Rows.uptoBulk y.1 < K → ∃ x : α, C w b off x)
    {v : Value} {y : DataW H × List MemPlace} (h : DataW.trod enc P w base sp held fuel t [v] = some y) (hK : Rows.uptoBulk y.1 ≤ K) :
    ∃ a n c l, v = .slice a n c ∧ SlAt m C w (.slice a n c) l ∧ l.length < Rows.uptoBulk y.1 := by
  have hpos := bulk_pos y.1
  rcases open_slice ht h with ⟨hcs, _⟩ | ⟨a', len, cap, mm, nn, D, Pl, hcs, _, hl, hcm, hmm, hx, hi⟩
  · exact ⟨none, 0, 0, [], by simpa using hcs, .inl ⟨rfl, none, 0, rfl⟩, by simp; omega⟩
  · have e1 : v = .slice (some a') len cap := by simpa using hcs
    have hd : y.1 = .slice ((List.range len).map D) ((List.range (mm - len)).map fun j => D (len + j)) := congrArg Prod.fst hx
    by_cases hz : len = 0
    · subst hz
      exact ⟨some a', 0, cap, [], e1, .inl ⟨rfl, _, _, rfl⟩, by simp; omega⟩
    have hlm : len ≤ mm := by rw [hmm]; split <;> omega
    rw [hC] at hi
    obtain ⟨b, off, spot⟩ := a'
    have hsp : spot = none := by
      obtain ⟨cs0, q0, _⟩ := hi 0 (by omega)
      obtain ⟨_, q1, q2⟩ := World.cells?_some q0
      have q3 := q2 0 hm
      rw [List.getElem?_eq_getElem (by omega)] at q3
      simpa [Addr.add] using World.cell?_spot q3
    subst hsp
    have hbd : ∀ i, i < len → Rows.uptoBulk (D i) < K := by
      intro i hil
      have : D i ∈ (List.range len).map D := List.mem_map.2 ⟨i, by simpa using hil, rfl⟩
      have := bulk_mem this
      rw [hd] at hK
      simp only [Rows.uptoBulk] at hK
      omega
    obtain ⟨L, hL, hQ⟩ := list_by' (Q := fun i x => C w b (off + i * m) x) len fun i hil => by
      obtain ⟨cs', q0, q1⟩ := hi i (by omega)
      obtain ⟨_, q2, q3⟩ := World.cells?_some q0
      rw [Go.WideShapes.add_plain] at q3
      exact el b (off + i * m) cs' nn _ (fun j hj => by have := q3 j hj; rwa [Go.WideShapes.add_plain] at this) q2 q1 (hbd i hil)
    refine ⟨_, len, cap, L, e1, .inr ⟨b, off, cap, by rw [hL], by omega, by omega, hcm, fun j x hx => hQ j x hx⟩, ?_⟩
    have := bulk_len ((List.range len).map D)
    rw [hd, hL]
    simp only [Rows.uptoBulk]
    simp at this
    omega
section
variable {sN sC tN tC : TypeId} {f0 f1 f2 f3 g0 g1 : Field}
/-- a node that came in, and all that hangs on it: as deep as it is great -/
theorem node_up (hsN : P.underlying sN = some (.slice tN)) (hsC : P.underlying sC = some (.slice tC)) (htN : P.underlying tN = some (.struct #[f0, f1, f2, f3])) (htC : P.underlying tC = some (.struct #[g0, g1]))
    (cN : P.cellsOf tN = 4) (cC : P.cellsOf tC = 2) (k0 : P.underlying f0.type = some (.int .i64)) (k1 : P.underlying f1.type = some .string) (k2 : P.underlying f2.type = some (.int .i64)) (k3 : f3.type = sC) (j0 : P.underlying g0.type = some .string) (j1 : g1.type = sN)
    (hN : oneCellFields P #[f0, f1, f2, f3] = true) (hC : oneCellFields P #[g0, g1] = true) :
    ∀ K, K ≤ 1048576 → ∀ (b off : Nat) (cs : List Value) (n : Nat) (y : DataW H × List MemPlace), (∀ i, i < 4 → w.cell? ⟨b, off + i, none⟩ = cs[i]?) → cs.length = 4 → DataW.trod enc P w base sp held n tN cs = some y → Rows.uptoBulk y.1 ≤ K → ∃ x : Nd, NdC K w b off x := by
  intro K
  induction K with
  | zero => intro _ b off cs n y _ _ _ hK; have := bulk_pos y.1; omega
  | succ K ih =>
    intro hK' b off cs n y h1 h2 h hK
    obtain ⟨ys, n', _, hy, _, hyl, hf⟩ := DataW.trod_struct htN h
    obtain ⟨c0, c1, c2, c3, rfl⟩ : ∃ c0 c1 c2 c3, cs = [c0, c1, c2, c3] := by
      match cs, h2 with
      | [c0, c1, c2, c3], _ => exact ⟨c0, c1, c2, c3, rfl⟩
    obtain ⟨y0, y1, y2, y3, rfl⟩ : ∃ a0 a1 a2 a3, ys = [a0, a1, a2, a3] := by
      match ys, hyl with
      | [a0, a1, a2, a3], _ => exact ⟨a0, a1, a2, a3, rfl⟩
    have r0 : DataW.trod enc P w base sp held n' f0.type [c0] = some y0 := by have := hf 0 f0 rfl; rwa [(hone_of hN 0 f0 rfl).1, (hone_of hN 0 f0 rfl).2] at this
    have r1 : DataW.trod enc P w base sp held n' f1.type [c1] = some y1 := by have := hf 1 f1 rfl; rwa [(hone_of hN 1 f1 rfl).1, (hone_of hN 1 f1 rfl).2] at this
    have r2 : DataW.trod enc P w base sp held n' f2.type [c2] = some y2 := by have := hf 2 f2 rfl; rwa [(hone_of hN 2 f2 rfl).1, (hone_of hN 2 f2 rfl).2] at this
    have r3 : DataW.trod enc P w base sp held n' f3.type [c3] = some y3 := by have := hf 3 f3 rfl; rwa [(hone_of hN 3 f3 rfl).1, (hone_of hN 3 f3 rfl).2] at this
    rw [k3] at r3
    have hb : Rows.uptoBulk y1.1 + Rows.uptoBulk y3.1 ≤ K := by
      rw [hy] at hK
      simp only [List.map_cons, List.map_nil, Rows.uptoBulk, Rows.uptoBulkAll] at hK
      omega
    obtain ⟨a0, e0, _⟩ := DataW.trod_int k0 r0
    obtain ⟨t1, e1, ey1, _⟩ := DataW.trod_string k1 r1
    obtain ⟨a2, e2, _⟩ := DataW.trod_int k2 r2
    obtain rfl : c0 = .int .i64 a0 := by simpa using e0
    obtain rfl : c1 = .string t1 := by simpa using e1
    obtain rfl : c2 = .int .i64 a2 := by simpa using e2
    have hp1 := bulk_pos y1.1
    obtain ⟨a, m, c, l, rfl, hs, hl⟩ := sl_less (w := w) (C := fun w b k (y : List UInt8 × List Nd) => ∃ a n c, w.cell? ⟨b, k, none⟩ = some (.string ⟨y.1.toArray⟩) ∧ w.cell? ⟨b, k + 1, none⟩ = some (.slice a n c) ∧ SlAt 4 (NdC K) w (.slice a n c) y.2 ∧ y.1.length ≤ 2000000 ∧ y.2.length ≤ 2000000) K hsC cC (by omega) (fun b off cs n y u1 u2 u uK => by
      obtain ⟨ys, n', _, hy, _, hyl, hf⟩ := DataW.trod_struct htC u
      obtain ⟨c0, c1, rfl⟩ : ∃ c0 c1, cs = [c0, c1] := by
        match cs, u2 with
        | [c0, c1], _ => exact ⟨c0, c1, rfl⟩
      obtain ⟨y0, y1, rfl⟩ : ∃ a0 a1, ys = [a0, a1] := by
        match ys, hyl with
        | [a0, a1], _ => exact ⟨a0, a1, rfl⟩
      have r0 : DataW.trod enc P w base sp held n' g0.type [c0] = some y0 := by have := hf 0 g0 rfl; rwa [(hone_of hC 0 g0 rfl).1, (hone_of hC 0 g0 rfl).2] at this
      have r1 : DataW.trod enc P w base sp held n' g1.type [c1] = some y1 := by have := hf 1 g1 rfl; rwa [(hone_of hC 1 g1 rfl).1, (hone_of hC 1 g1 rfl).2] at this
      rw [j1] at r1
      have hb : Rows.uptoBulk y0.1 + Rows.uptoBulk y1.1 < K := by
        rw [hy] at uK
        simp only [List.map_cons, List.map_nil, Rows.uptoBulk, Rows.uptoBulkAll] at uK
        omega
      obtain ⟨t0, e0, ey0, _⟩ := DataW.trod_string j0 r0
      obtain rfl : c0 = .string t0 := by simpa using e0
      obtain ⟨a, m, c, l, rfl, hs, hl⟩ := sl_less (w := w) (C := NdC K) K hsN cN (by omega) (fun b off cs n y q1 q2 q qK => ih (by omega) b off cs n y q1 q2 q (by omega)) r1 (by omega)
      have ht : t0.data.toList.length + 1 ≤ Rows.uptoBulk y0.1 := by rw [ey0]; simp [Rows.uptoBulk]
      exact ⟨(t0.data.toList, l), a, m, c, u1 0 (by omega), u1 1 (by omega), hs, by show t0.data.toList.length ≤ _; omega, by show l.length ≤ _; omega⟩) r3 (by omega)
    have ht : t1.data.toList.length + 1 ≤ Rows.uptoBulk y1.1 := by rw [ey1]; simp [Rows.uptoBulk]
    exact ⟨.mk a0 t1.data.toList a2 l, a, m, c, h1 0 (by omega), h1 1 (by omega), h1 2 (by omega), h1 3 (by omega), hs, by show t1.data.toList.length ≤ _; omega, by show l.length ≤ _; omega⟩
theorem msg_open (hsN : P.underlying sN = some (.slice tN)) (hsC : P.underlying sC = some (.slice tC)) (htN : P.underlying tN = some (.struct #[f0, f1, f2, f3])) (htC : P.underlying tC = some (.struct #[g0, g1]))
    (cN : P.cellsOf tN = 4) (cC : P.cellsOf tC = 2) (k0 : P.underlying f0.type = some (.int .i64)) (k1 : P.underlying f1.type = some .string) (k2 : P.underlying f2.type = some (.int .i64)) (k3 : f3.type = sC) (j0 : P.underlying g0.type = some .string) (j1 : g1.type = sN)
    (hN : oneCellFields P #[f0, f1, f2, f3] = true) (hC : oneCellFields P #[g0, g1] = true) {fuel : Nat} {a : Option Addr} {n c : Nat} {d : DataW H} {p : List MemPlace} (h : DataW.trod enc P w base sp held fuel sN (Value.slice a n c).cells.toList = some (d, p)) (hK : Rows.uptoBulk d ≤ 1048576) :
    ∃ m : List Nd, MsgAt 1048576 w (.slice a n c) m ∧ m.length < Rows.uptoBulk d := by
  obtain ⟨a', n', c', l, e, hs, hl⟩ := sl_less (w := w) (C := NdC 1048576) 1048576 hsN cN (by omega) (fun b off cs n y q1 q2 q qK => node_up hsN hsC htN htC cN cC k0 k1 k2 k3 j0 j1 hN hC 1048576 (Nat.le_refl _) b off cs n y q1 q2 q (by omega)) (v := .slice a n c) (y := (d, p)) (by simpa [Value.cells] using h) hK
  rw [← e] at hs
  exact ⟨l, hs, hl⟩
end
section
variable {s t u : TypeId} {f0 f1 f2 f3 g0 g1 : Field}
/-- args that came in -/
theorem args_open (hs : P.underlying s = some (.slice t)) (ht : P.underlying t = some (.struct #[f0, f1, f2, f3])) (hc : P.cellsOf t = 5) (k0 : P.underlying f0.type = some .string) (k1 : P.underlying f1.type = some .bool) (k2 : P.underlying f2.type = some (.struct #[g0, g1])) (k3 : P.underlying f3.type = some .string)
    (j0 : P.underlying g0.type = some (.int .i64)) (j1 : P.underlying g1.type = some (.int .i64)) (o0 : f0.offset = 0 ∧ P.cellsOf f0.type = 1) (o1 : f1.offset = 1 ∧ P.cellsOf f1.type = 1) (o2 : f2.offset = 2 ∧ P.cellsOf f2.type = 2) (o3 : f3.offset = 4 ∧ P.cellsOf f3.type = 1) (hG : oneCellFields P #[g0, g1] = true)
    {fuel : Nat} {a : Option Addr} {n c : Nat} {d : DataW H} {p : List MemPlace} (h : DataW.trod enc P w base sp held fuel s (Value.slice a n c).cells.toList = some (d, p)) (hK : Rows.uptoBulk d ≤ 1048576) :
    ∃ l : List Ag, ArgsAt w (.slice a n c) l ∧ l.length < Rows.uptoBulk d ∧ ∀ x ∈ l, x.name.length ≤ 1048576 := by
  have h' : DataW.trod enc P w base sp held fuel s [.slice a n c] = some (d, p) := by simpa [Value.cells] using h
  obtain ⟨a', n', c', l, e, hs, hl⟩ := sl_less (enc := enc) (P := P) (base := base) (sp := sp) (held := held) (fuel := fuel) (e := t) (t := s) (w := w) (C := fun w b k (x : Ag) => ArgC w b k x ∧ x.name.length ≤ 1048576) 1048576 hs hc (by omega) (fun b off cs n y q1 q2 q qK => by
    obtain ⟨ys, n', _, hy, _, hyl, hf⟩ := DataW.trod_struct ht q
    obtain ⟨c0, c1, c2, c3, c4, rfl⟩ : ∃ c0 c1 c2 c3 c4, cs = [c0, c1, c2, c3, c4] := by
      match cs, q2 with
      | [c0, c1, c2, c3, c4], _ => exact ⟨c0, c1, c2, c3, c4, rfl⟩
    obtain ⟨y0, y1, y2, y3, rfl⟩ : ∃ a0 a1 a2 a3, ys = [a0, a1, a2, a3] := by
      match ys, hyl with
      | [a0, a1, a2, a3], _ => exact ⟨a0, a1, a2, a3, rfl⟩
    have r0 : DataW.trod enc P w base sp held n' f0.type [c0] = some y0 := by have := hf 0 f0 rfl; rwa [o0.1, o0.2] at this
    have r1 : DataW.trod enc P w base sp held n' f1.type [c1] = some y1 := by have := hf 1 f1 rfl; rwa [o1.1, o1.2] at this
    have r2 : DataW.trod enc P w base sp held n' f2.type [c2, c3] = some y2 := by have := hf 2 f2 rfl; rwa [o2.1, o2.2] at this
    have r3 : DataW.trod enc P w base sp held n' f3.type [c4] = some y3 := by have := hf 3 f3 rfl; rwa [o3.1, o3.2] at this
    have hb : Rows.uptoBulk y0.1 ≤ 1048576 := by
      rw [hy] at qK
      simp only [List.map_cons, List.map_nil, Rows.uptoBulk, Rows.uptoBulkAll] at qK
      omega
    obtain ⟨zs, n2, _, _, _, hzl, hg⟩ := DataW.trod_struct k2 r2
    obtain ⟨z0, z1, rfl⟩ : ∃ a0 a1, zs = [a0, a1] := by
      match zs, hzl with
      | [a0, a1], _ => exact ⟨a0, a1, rfl⟩
    have s0 : DataW.trod enc P w base sp held n2 g0.type [c2] = some z0 := by have := hg 0 g0 rfl; rwa [(hone_of hG 0 g0 rfl).1, (hone_of hG 0 g0 rfl).2] at this
    have s1 : DataW.trod enc P w base sp held n2 g1.type [c3] = some z1 := by have := hg 1 g1 rfl; rwa [(hone_of hG 1 g1 rfl).1, (hone_of hG 1 g1 rfl).2] at this
    obtain ⟨t0, e0, ey0, _⟩ := DataW.trod_string k0 r0
    obtain ⟨b1, e1, _⟩ := DataW.trod_bool k1 r1
    obtain ⟨i2, e2, _⟩ := DataW.trod_int j0 s0
    obtain ⟨i3, e3, _⟩ := DataW.trod_int j1 s1
    obtain ⟨t4, e4, _⟩ := DataW.trod_string k3 r3
    obtain rfl : c0 = .string t0 := by simpa using e0
    obtain rfl : c1 = .bool b1 := by simpa using e1
    obtain rfl : c2 = .int .i64 i2 := by simpa using e2
    obtain rfl : c3 = .int .i64 i3 := by simpa using e3
    obtain rfl : c4 = .string t4 := by simpa using e4
    have ht : t0.data.toList.length + 1 ≤ Rows.uptoBulk y0.1 := by rw [ey0]; simp [Rows.uptoBulk]
    exact ⟨⟨t0.data.toList, b1, i2, i3, t4.data.toList⟩, ⟨q1 0 (by omega), q1 1 (by omega), q1 2 (by omega), q1 3 (by omega), q1 4 (by omega)⟩, by show t0.data.toList.length ≤ _; omega⟩) (v := .slice a n c) (y := (d, p)) h' hK
  rw [← e] at hs
  refine ⟨l, by rcases hs with h | ⟨b, off, cap, h1, h2, h3, h4, h5⟩; exact .inl h; exact .inr ⟨b, off, cap, h1, h2, h3, h4, fun j x hx => (h5 j x hx).1⟩, hl, fun x hx => ?_⟩
  obtain ⟨j, hj, ej⟩ := List.getElem_of_mem hx
  obtain ⟨A, cap, _, _, hh⟩ := hs.spread
  obtain ⟨b, off, _, hq⟩ := hh j x (by rw [List.getElem?_eq_getElem hj, ej])
  exact hq.2
end
end
end Go.Proofs.YtainindkndjkbaaGreatDoor
namespace Go.Proofs.YtainindkndjkbaaGreatDoor
open Go.RowKit Go.WideShapes Go.ChangeShapes Go.Deep Ms

theorem gKd : Tryz.prog.globalNamed "linguister/msg.kinds" = some 2 := by kernel_rfl
theorem gKdT : (Tryz.prog.globals[2]?).map (·.type) = some 45 := by kernel_rfl
theorem kdW_of {L : List (String × DataW Unit)} {W : World} (h : laidMetH Tryz.prog L W) (hf : L.filter (fun x => x.1 == "linguister/msg.kinds") = [("linguister/msg.kinds", Rows.laid_linguister_msg_kinds)]) : KdW W := by
  have g := laidMetH.filter (fun x => x.1 == "linguister/msg.kinds") h
  rw [hf, MakeChecks.laidMetH_plain _ _ _ (by kernel_rfl)] at g
  obtain ⟨ps, ⟨gg, t, cs, fuel, p, q, hg, ht, hvar, hd, _, _⟩, _⟩ := g
  obtain rfl := Option.some.inj (gKd.symm.trans hg)
  obtain rfl := Option.some.inj (gKdT.symm.trans ht)
  obtain ⟨a, n, c, e⟩ : ∃ a n c, cs.toList = [Value.slice a n c] := by
    rcases open_slice Tryz.underlying45 hd with ⟨hcs, _⟩ | ⟨a', len, cap, _, _, _, _, hcs, _⟩
    · exact ⟨_, _, _, hcs⟩
    · exact ⟨_, _, _, hcs⟩
  rw [e] at hd
  obtain ⟨l, hl, hD⟩ := strs_open (a := a) (n := n) (c := c) Tryz.underlying45 Tryz.underlying9 (by kernel_rfl) (by simpa [Value.cells] using hd)
  have el : l = Ms.six := by
    rcases hD with ⟨e, _⟩ | ⟨sp, e⟩
    · cases e
    · simp only [Rows.laid_linguister_msg_kinds] at e
      injection e with e _
      have e2 : l.map (fun x => (.lit (.string x) : DataW Unit)) = Ms.six.map (fun x => (.lit (.string x) : DataW Unit)) := e.symm
      exact (List.map_inj_right (fun a b h => by injection h with h; injection h)).1 e2
  subst el
  refine ⟨a, n, c, ?_, hl⟩
  have hv := World.var?_cell gKd hvar 0
  rw [hv]
  have : cs = #[Value.slice a n c] := by
    cases cs with | mk l => simp at e; rw [e]
  rw [this]; rfl

theorem cellsNode : Tryz.prog.cellsOf 60 = 4 := by kernel_rfl
theorem cellsCase : Tryz.prog.cellsOf 62 = 2 := by kernel_rfl
theorem cellsArg : Tryz.prog.cellsOf 39 = 5 := by kernel_rfl
section
variable {H : Type} {enc : TypeId × Value → H} {w : World} {base : Nat} {sp : Nat → Bool} {held : Bool} {fuel : Nat} {a : Option Addr} {n c : Nat} {d : DataW H} {p : List MemPlace}
theorem nodes_open (h : DataW.trod enc Tryz.prog w base sp held fuel 22 (Value.slice a n c).cells.toList = some (d, p)) (hK : Rows.uptoBulk d ≤ 1048576) : ∃ m : List Nd, MsgAt 1048576 w (.slice a n c) m ∧ m.length < Rows.uptoBulk d :=
  msg_open Tryz.underlying22 Tryz.underlying58 Tryz.underlying60 Tryz.underlying62 cellsNode cellsCase Tryz.underlying3 Tryz.underlying9 Tryz.underlying3 rfl Tryz.underlying9 rfl (by kernel_rfl) (by kernel_rfl) h hK
theorem argl_open (h : DataW.trod enc Tryz.prog w base sp held fuel 23 (Value.slice a n c).cells.toList = some (d, p)) (hK : Rows.uptoBulk d ≤ 1048576) : ∃ l : List Ag, ArgsAt w (.slice a n c) l ∧ l.length < Rows.uptoBulk d ∧ ∀ x ∈ l, x.name.length ≤ 1048576 :=
  args_open Tryz.underlying23 Tryz.underlying39 cellsArg Tryz.underlying9 Tryz.underlying4 Tryz.underlying37 Tryz.underlying9 Tryz.underlying3 Tryz.underlying3 ⟨rfl, by kernel_rfl⟩ ⟨rfl, by kernel_rfl⟩ ⟨rfl, by kernel_rfl⟩ ⟨rfl, by kernel_rfl⟩ (by kernel_rfl) h hK
end
end Go.Proofs.YtainindkndjkbaaGreatDoor
namespace Go.Proofs.YtainindkndjkbaaGreatDoor.lawNamesTell
open Go.ChangeShapes Go.WideShapes Go.ChangeAt Go.RowKit Go.Joins

theorem own : ownKnob Tryz.prog.godebug = none := by kernel_rfl
theorem laidOut : laidOutB Tryz.prog = true := by kernel_rfl

set_option maxRecDepth 100000 in
theorem contract (H : Type) (enc : TypeId × Value → H) (W : World) (base : Nat) (args : Array Value) (ds gs : List (DataW H)) (before : List MemPlace)
    (hval : ∀ (j : Nat) t v, Tryz.f3.params[j]? = some t → args[j]? = some v → Value.okWide Tryz.prog W .any base t v)
    (hW : DataW.Whole enc Tryz.prog Tryz.f3.params.toList Rows.namesTellSpec.vars false W args.toList ds gs before) (hk : Rows.uptoSmall H (ds ++ gs) = true) (hL : laidMetH Tryz.prog Rows.namesTellUptoRow.laid W) :
    Calls Tryz.prog 3 args W fun e W' => ∃ v, e = .returned v ∧ Rows.namesTellSpec.post enc Tryz.prog Tryz.f3 false true false false W args v W' := by
  have hpost : ∀ W', Below W.heap.size W W' → Rows.namesTellSpec.post enc Tryz.prog Tryz.f3 false true false false W args (.bool true) W' := fun W' hb =>
    law_post (tb := 4) laidOut rfl Tryz.underlying4 rfl (by kernel_rfl) (fun ds h => by match ds, h with | [x0, x1], _ => rfl) hW hb
  obtain ⟨p, q, hA0, hV, _, hfz, hnd⟩ := hW
  have hA : DataW.TrodAll enc Tryz.prog W 0 (fun _ => true) true Tryz.f3.params.toList args.toList ds p := hA0
  obtain ⟨rfl, rfl⟩ := trodVars_none hV
  rw [Tryz.params3] at hA hval
  obtain ⟨v0, vs0, d0, ds0, p0, q0, hargs, rfl, hp0, h0, r0⟩ := trodAll_cons hA
  obtain ⟨v1, vs1, d1, ds1, p1, q1, rfl, rfl, hp1, h1, r1⟩ := trodAll_cons r0
  obtain ⟨rfl, rfl, hp⟩ := trodAll_nil r1
  obtain rfl : args = #[v0, v1] := by cases args; simp_all
  obtain ⟨m_a, m_n, m_c, rfl⟩ := okWide_slice Tryz.underlying22 (hval 0 22 v0 rfl rfl)
  obtain ⟨m_f, m_h⟩ := h0
  obtain ⟨a_a, a_n, a_c, rfl⟩ := okWide_slice Tryz.underlying23 (hval 1 23 v1 rfl rfl)
  obtain ⟨a_f, a_h⟩ := h1
  clear hA0 hfz hnd hval
  have hT : MW W := ⟨powW_of hL (by kernel_rfl), numW_of hL (by kernel_rfl) (by kernel_rfl), kdW_of hL (by kernel_rfl)⟩
  have hH : HanW W := hanW_of (by repeat (first | exact List.Mem.head _ | refine List.Mem.tail _ ?_)) hL
  have hq : Rows.uptoBulkAll _ ≤ 1048576 := of_decide_eq_true hk
  simp only [List.append_nil, Rows.uptoBulkAll] at hq
  obtain ⟨ms, m_at, m_len⟩ := nodes_open m_h (by omega)
  obtain ⟨l, a_at, a_len, a_nm⟩ := argl_open a_h (by omega)
  refine Calls.mono (?_ : Calls Tryz.prog 3 #[.slice m_a m_n m_c, .slice a_a a_n a_c] W fun e w' => e = .returned (.bool true) ∧ Below W.heap.size W w') fun e W' ⟨he, hb⟩ => ⟨_, he, hpost W' hb⟩
  exact ntell_any W hT hH m_at (by omega) a_at (by omega) (fun x hx => by have := a_nm x hx; omega)

theorem start_met (os : Os) : laidMetH Tryz.prog Rows.namesTellUptoRow.laid (((World.doorLaid Tryz.prog 84 os).layVars Tryz.prog (Rows.namesTellUptoRow.laid.filter fun x => x.2.handleName?.isNone)).forCall (fun _ _ => 0) ⟨#[], #[.slice none 0 0, .slice none 0 0], []⟩).memory :=
  laidMetH_of_parts3 (fuel := 8) (laidMet_over _ (by kernel_rfl) (by kernel_rfl)) (by kernel_rfl) (by kernel_rfl)
theorem start_reads (os : Os) {H : Type} (enc : TypeId × Value → H) : ∃ places, DataW.whole enc Tryz.prog (((World.doorLaid Tryz.prog 84 os).layVars Tryz.prog (Rows.namesTellUptoRow.laid.filter fun x => x.2.handleName?.isNone)).forCall (fun _ _ => 0) ⟨#[], #[.slice none 0 0, .slice none 0 0], []⟩).memory Tryz.f3.params.toList Rows.namesTellSpec.vars false (#[.slice none 0 0, .slice none 0 0] : Array Value).toList 8 = some ([.nil, .nil], [], places) :=
  ⟨[], by kernel_rfl⟩

set_option maxRecDepth 100000 in
theorem lifted (os : Os) (started : os.Started) (H : Type) (enc : TypeId × Value → H) (F : Stop.Interp) :
    ReturnsInHanded {} Tryz.checked os 3 .any ((Rows.OpenSpec.upto Rows.namesTellSpec).preRow enc Tryz.prog Tryz.f3 Rows.namesTellUptoRow.domain false Rows.namesTellUptoRow.laid) (((Rows.OpenSpec.upto Rows.namesTellSpec).at F).post enc Tryz.prog Tryz.f3 false true false false) := by
  obtain ⟨places, hx⟩ := start_reads os enc
  refine returnsInHanded_of_row (C := Tryz.checked) (s := Rows.OpenSpec.upto Rows.namesTellSpec) own started (by kernel_rfl) Tryz.func3
    (witness_row_atRef (enc := enc) (C := Tryz.checked) false ((World.doorLaid Tryz.prog 84 os).layVars Tryz.prog (Rows.namesTellUptoRow.laid.filter fun x => x.2.handleName?.isNone)) #[.slice none 0 0, .slice none 0 0] (World.layVars_os _ _ _) (by kernel_rfl) (by kernel_rfl) (by kernel_rfl)
      (OpenSpec.preRow_of_cond 8 hx (by kernel_rfl) (fun k hk => by cases hk; kernel_rfl) (by kernel_rfl) (start_met os))) ?_
  intro W base args ds gs before hval hW _ hcond _ hL _ _
  exact contract H enc W base args ds gs before hval hW (hcond _ rfl) hL

theorem said : Rows.NamesTellUptoSaid :=
  OpenClaim.holds_of_cond 3 Tryz.f3 rfl rfl rfl rfl rfl rfl rfl ⟨rfl, rfl, rfl, rfl, rfl⟩ rfl rfl rfl rfl rfl (by kernel_rfl) Tryz.func3 (by kernel_rfl)
    (of_decide_eq_true (by kernel_rfl)) (by unfold Func.isWrapper; first | (rw [if_pos (by decide +kernel)]; kernel_rfl) | (rw [if_neg (by decide +kernel)]; exact ⟨rfl, rfl⟩))
    (fun os started H enc _ F => by rw [OpenClaim.pre_eq_preRow]; exact lifted os started H enc F)

theorem plain (f : FuncId) (fn : Func) (hf : Tryz.pinned.checked.prog.funcNamed "linguister/linguisterlaw3.NamesTell" = some f) (hfn : Tryz.pinned.checked.prog.funcs[f]? = some fn) :
    true = Tryz.pinned.checked.prog.looks [] ∧ ∀ (j : Nat) t, fn.params[j]? = some t → Tryz.pinned.checked.prog.wantsStandIn t = false := by
  obtain rfl : f = 3 := Option.some.inj ((show Tryz.prog.funcNamed "linguister/linguisterlaw3.NamesTell" = some 3 by kernel_rfl).symm.trans hf) |>.symm
  obtain rfl : fn = Tryz.f3 := (Option.some.inj (Tryz.func3.symm.trans hfn)).symm
  refine ⟨by kernel_rfl, fun j t ht => ?_⟩
  rw [Tryz.params3] at ht
  have hm : t ∈ [22, 23] := by simpa using Array.mem_of_getElem? ht
  have hall : ([22, 23].all fun u => !Tryz.prog.wantsStandIn u) = true := by kernel_rfl
  exact (show Tryz.prog.wantsStandIn t = false by simpa using List.all_eq_true.1 hall t hm)

theorem proved : Rows.NamesTellUptoCardSaid :=
  Claim7.holds_tied_plain_at .later [] _ _ _ _ said (fun _ h => by cases h) (by kernel_rfl) (fun _ h => by cases h) namesTellUpto_row_tie rfl ⟨rfl, rfl⟩ (by kernel_rfl) rfl plain (by kernel_rfl)
#print axioms proved
end Go.Proofs.YtainindkndjkbaaGreatDoor.lawNamesTell
