/- The law NamesFit, proved where what it reads is of bulk at most 1048576: the call returns true of every input, and turns nothing that was there. Conditions: the row's own (the listed variables hold what the program's text lays; the card ties them). -/
import Derived.Test.YtainindkndjkbaaGreatDoorNmC
import Derived.Test.YtainindkndjkbaaGreatDoorNmA
import Derived.Test.YtainindkndjkbaaGreatDoorNmD
import Derived.Test.YtainindkndjkbaaGreatDoorAs
import Derived.Test.YtainindkndjkbaaGreatDoorRows
import Derived.Test.YtainindkndjkbaaGreatDoorMsgA
import Derived.OpenShut
import Derived.Deep.Slices
import Derived.Deep.Fields
import Derived.ChangeSame
import Derived.Test.YtainindkndjkbaaGreatDoorReadO
import Derived.LaidSub
import Derived.MakeChecks
import Derived.Test.YtainindkndjkbaaGreatDoorCards
import Derived.Test.YtainindkndjkbaaGreatDoorTie
import Derived.Deep.DeepHandedRow
import Derived.Deep.DeepWitnessRowRef
import Derived.Stop.Joined
import Derived.Test.YtainindkndjkbaaGreatDoorLaid
import Derived.Test.YtainindkndjkbaaGreatDoorFrame
import Derived.Test.YtainindkndjkbaaGreatDoorPow
import Derived.Test.YtainindkndjkbaaGreatDoorHan
namespace Go.Proofs.YtainindkndjkbaaGreatDoor
open Go.RowKit Ms
section
variable {P : Program} (w : World)
/-- what is appended is a row of the call's own, or none -/
theorem wpList_append_row {ops : Array Oper} {rest : List Oper} {o : Oper} {a : Act} {Q : Exit → Act → World → Prop} (hgd : o.guard = none) (s x : Operand) (t : TypeId)
    (ho : o.op = .call { callee := .builtin .append, args := #[s, x], argTypes := #[t, t] })
    (base : Nat) (e : TypeId) (i : TypeInfo) (z : Value) (size bytes : Nat) (ht : P.underlying t = some (.slice e)) (hi : P.info? e = some i) (hz : i.zero = some z)
    (hsize : i.size = size) (hby : i.bytes = bytes) (hzs : z.cells.size = size) (hsz : 0 < size)
    (v : Value) (n : Nat) (xs : List Value) (hs : a.eval s = v) (hown : w.ownsRow base e size v n xs)
    (base2 : Nat) (sv : Value) (m : Nat) (news : List Value) (hx : a.eval x = sv) (hsrc : w.ownsRow base2 e size sv m news) (h1 : ∀ u ∈ news, u.oneCell' = true)
    (h63 : n + m ≤ maxLen) (hbytes : (n + m) * bytes ≤ 140737488355328) (hbase : base ≤ w.heap.size)
    (h : ∀ v' w', w'.ownsRow base e size v' (n + m) (xs ++ news) → w.grownBy w' v.ownBlock → (v'.ownBlock = v.ownBlock ∨ v'.ownBlock = some w.heap.size) → wpList P ops Q rest (a.put o.dst v') w') :
    wpList P ops Q (o :: rest) a w := by
  refine wpList_plain hgd fun K hK => ?_
  obtain ⟨v', w', hr, h2, h3, h5⟩ : ∃ v' w', (Builtin.append_ #[t, t] o.type #[v, sv]).run P w = .ok v' w' ∧ w'.ownsRow base e size v' (n + m) (xs ++ news) ∧ w.grownBy w' v.ownBlock ∧ (v'.ownBlock = v.ownBlock ∨ v'.ownBlock = some w.heap.size) := by
    rcases hsrc.2 with ⟨rfl, rfl⟩ | ⟨g, cap, cur, rfl, _⟩
    · have e0 : news = [] := by
        have := hsrc.1
        rw [Nat.zero_mul] at this
        exact List.length_eq_zero_iff.1 this
      subst e0
      refine ⟨v, w, run_append_owned_none (w := w) base t o.type e i size ht hi v n xs hown, by rw [List.append_nil]; exact hown, ⟨rfl, rfl, rfl, Nat.le_refl _, fun _ _ _ => rfl⟩, .inl rfl⟩
    · obtain ⟨v', w', hr, h2, h3, _, h5⟩ := run_append_own_at (P := P) w base t o.type e i z size bytes ht hi hz hsize hby hzs hsz v n xs hown ⟨g, 0, none⟩ m cap news hsrc.1 (hsrc.cells (g := g) rfl) h1 h63 hbytes hbase
      exact ⟨v', w', hr, h2, h3, h5⟩
  unfold Oper.wp execOp
  simp only [ho, resolve, invoke, builtin, Sem.run_bind, Sem.run_pure, Result.andThen_ok, List.map_toArray, List.map_cons, List.map_nil, hs, hx, hr]
  exact hK _ _ (h v' w' h2 h3 h5)
end
theorem arow_zero (w : World) (base : Nat) (hb : base ≤ w.heap.size) : (w.alloc (.cells #[] 39)).ownsRow base 39 5 (.slice (some ⟨w.heap.size, 0, none⟩) 0 0) 0 [] :=
  ⟨rfl, .inr ⟨w.heap.size, 0, #[], rfl, hb, by show (w.heap.push _)[w.heap.size]? = _; simp, Nat.le_refl _, by unfold maxLen; omega, rfl, rfl⟩⟩
theorem afl_one (l : List Ag) : ∀ u ∈ afl l, u.oneCell' = true := by
  intro u hu
  obtain ⟨a, _, h⟩ := List.mem_flatMap.1 hu
  exact acells_one a u h
theorem afl_len (l : List Ag) : (afl l).length = l.length * 5 := by
  induction l with
  | nil => rfl
  | cons a r ih =>
    show (acells a ++ afl r).length = _
    rw [List.length_append, ih, List.length_cons]
    show 5 + _ = _
    omega
theorem afl_app (l k : List Ag) : afl (l ++ k) = afl l ++ afl k := by unfold afl; rw [List.flatMap_append]
theorem afl_take_at {l : List Ag} {k j : Nat} {u : Value} (h : (afl (l.take k))[j]? = some u) : (afl l)[j]? = some u := by
  have e : afl l = afl (l.take k) ++ afl (l.drop k) := by rw [← afl_app, List.take_append_drop]
  rw [e, List.getElem?_append_left (List.getElem?_eq_some_iff.1 h).1]
  exact h
theorem afl_drop_at {l : List Ag} {k j : Nat} {u : Value} (h : (afl (l.drop k))[j]? = some u) : (afl l)[k * 5 + j]? = some u := by
  by_cases hk : k ≤ l.length
  · have e : afl l = afl (l.take k) ++ afl (l.drop k) := by rw [← afl_app, List.take_append_drop]
    have el : (afl (l.take k)).length = k * 5 := by rw [afl_len, List.length_take]; omega
    rw [e, List.getElem?_append_right (by omega), el, Nat.add_sub_cancel_left]
    exact h
  · rw [List.drop_of_length_le (by omega)] at h
    simp [afl] at h
end Go.Proofs.YtainindkndjkbaaGreatDoor
namespace Go.Proofs.YtainindkndjkbaaGreatDoor
open Go.RowKit Ms

theorem errNo_N (k : Int) : ErrNo (errN k) k := by
  unfold errN
  split
  · rename_i h; subst h; exact ErrNo.nil
  · exact ErrNo.no k

set_option maxRecDepth 100000 in
set_option maxHeartbeats 4000000 in
theorem ntell_any {f : Nat} {v va : Value} {m : List Nd} {args : List Ag} (w : World) (hw : MW w) (hH : HanW w) (h : MsgAt f w v m) (hl : m.length ≤ 2000000) (ha : ArgsAt w va args) (hal : args.length ≤ 2000000) (hna : ∀ a ∈ args, a.name.length ≤ 4000000000) :
    Calls Tryz.prog 3 #[v, va] w fun e w' => e = .returned (.bool true) ∧ Below w.heap.size w w' := by
  have CO1 := Lib.hid fun wx v1 (hb : Below w.heap.size w wx) (h1 : MsgAt 2 wx v1 appM) => nOf_any wx (hw.below hb) h1 (by decide)
  have CO := Lib.hid fun wx (hb : Below w.heap.size w wx) => nOf_any wx (hw.below hb) (msg_below h hb) hl
  have CQ := Lib.hid fun wx (hb : Below w.heap.size w wx) => nfault_any wx (msg_below h hb) hl
  have CA := Lib.hid fun wx (hb : Below w.heap.size w wx) (hc : cnt f m ≤ 60) => asked_any f v m wx wx (.slice none 0 0) [] (msg_below h hb) hl ⟨rfl, .inl ⟨rfl, rfl⟩⟩ (Below.refl _ _) (by simp; omega)
  have CE := Lib.hid fun (k : Int) wx (hb : Below w.heap.size w wx) => sameErr_yes (errNo_N k) wx (hH.below hb)
  have CF := Lib.hid fun wx (hb : Below w.heap.size w wx) => fits_any wx (hw.below hb) (msg_below h hb) hl (args_below ha hb) hal hna
  have CG := Lib.hid fun wx (hb : Below w.heap.size w wx) => ffault_any wx (msg_below h hb) hl (args_below ha hb) hal hna
  have CS := Lib.hid fun (l : List Need) (a b : Value) wx (h1 : ArgsAt wx a (l.map ofN)) (h2 : ArgsAt wx b (l.map ofN)) (hll : l.length ≤ 60) => sargs_same (l.map ofN) a b wx h1 h2 (by rw [List.length_map]; omega)
  have HLL := Lib.hid (lstN_len f m)
  have HL := Lib.hid (show lstN f m = if namE f m = 0 then allN f [] m else [] from rfl)
  have HC := Lib.hid (fun (h0 : namE f m = 0) => cnt_small (f := f) (m := m) (namE_zero h0).1)
  obtain ⟨a, n, c, rfl⟩ := h.isSlice
  obtain ⟨A, cap, rfl, _, _⟩ := ha.spread
  clear h hl ha hna hw hH
  generalize lstN f m = LS at *
  generalize namE f m = NE at *
  generalize allN f [] m = AL at *
  generalize fitE f m args = FE at *
  generalize args.length = N at *
  go_enter Tryz.func3, Tryz.ntmps3
  go_wp2_with fail
  refine (apples_any w).mono ?_
  rintro e w1 ⟨v1, rfl, hm, hb⟩
  have W1 := Lib.hid hb
  have CO1h := Lib.hid (CO1.out w1 v1 hb hm)
  obtain ⟨a1, n1, c1, rfl⟩ := hm.isSlice
  clear hb hm CO1
  go_wp2_with fail
  refine CO1h.out.mono ?_
  rintro e w2 ⟨u1, rfl, hr, hb⟩
  have W2 := Lib.hid (blw_trans W1.out hb)
  rw [app_names.2] at hr
  rw [app_names.1, show errN 0 = .nilIface from rfl]
  obtain ⟨g, cap1, rfl⟩ := nrow_some hr (by decide)
  have G1 : w2.cell? ⟨g, 1, none⟩ = some (.bool true) := nrow_cells hr rfl
  have hcp : 1 ≤ cap1 := (by rcases hr.2 with ⟨e, _⟩ | ⟨_, _, _, e, _, _, h, _⟩; cases e; injection e with _ _ e; subst e; exact h)
  rw [show ([([110], true, false)] : List Need).length = 1 from rfl]
  clear hr hb CO1h W1
  go_wp2_with fail
  refine (CQ.out w2 W2.out).mono ?_
  rintro e w3 ⟨rfl, hb⟩
  have W3 := Lib.hid (blw_trans W2.out hb)
  have V3 := Lib.hid hb
  clear hb CQ W2
  by_cases h0 : NE = 0
  · subst h0
    obtain rfl : LS = AL := HL.out
    go_wp2_with fail
    refine (CA.out w3 W3.out (HC.out trivial)).mono ?_
    rintro e w4 ⟨u3, rfl, hr, hb⟩
    have W4 := Lib.hid (blw_trans W3.out hb)
    have V4 := Lib.hid (blw_trans V3.out hb)
    obtain ⟨ua, uc, rfl⟩ := mrow_slice hr
    have RW4 := Lib.hid (args_of_row (l := LS.map ofN) (by rw [List.length_map]; exact hr))
    clear hb hr CA W3 V3 HC HL
    go_wp2_with fail
    refine (CO.out w4 W4.out).mono ?_
    rintro e w5 ⟨u4, rfl, hr, hb⟩
    have W5 := Lib.hid (blw_trans W4.out hb)
    have V5 := Lib.hid (blw_trans V4.out hb)
    have RW5 := Lib.hid (args_below RW4.out hb)
    obtain ⟨va, vc, rfl⟩ := mrow_slice hr
    have R5 := Lib.hid (args_of_row (l := LS.map ofN) (by rw [List.length_map]; exact hr))
    clear hb hr W4 V4 RW4 CO
    go_wp2_with fail
    refine (CE.out 0 w5 W5.out).mono ?_
    rintro e w6 ⟨rfl, hb⟩
    have W6 := Lib.hid (blw_trans W5.out hb)
    have V6 := Lib.hid (blw_trans V5.out hb)
    have RW6 := Lib.hid (args_below RW5.out hb)
    have R6 := Lib.hid (args_below R5.out hb)
    clear hb W5 V5 RW5 R5
    go_wp2_with fail
    refine (CS.out LS _ _ w6 R6.out RW6.out HLL.out).mono ?_
    rintro e w7 ⟨rfl, hb⟩
    have W7 := Lib.hid (blw_trans W6.out hb)
    have V7 := Lib.hid (blw_trans V6.out hb)
    clear hb W6 V6 R6 RW6 CS
    go_wp2_with fail
    refine (CF.out w7 W7.out).mono ?_
    rintro e w8 ⟨rfl, hb⟩
    have W8 := Lib.hid (blw_trans W7.out hb)
    have V8 := Lib.hid (blw_trans V7.out hb)
    clear hb W7 V7 CF
    go_wp2_with fail
    refine (CG.out w8 W8.out).mono ?_
    rintro e w9 ⟨rfl, hb⟩
    have W9 := Lib.hid (blw_trans W8.out hb)
    have V9 := Lib.hid (blw_trans V8.out hb)
    clear hb W8 V8 CG
    go_wp2_with fail
    refine (CE.out FE w9 W9.out).mono ?_
    rintro e w10 ⟨rfl, hb⟩
    have W10 := Lib.hid (blw_trans W9.out hb)
    have G := cell_keep (cell_keep G1 V9.out) hb
    clear hb W9 V9 CE G1
    go_wp2_with fail
    go_ret
    exact ⟨rfl, W10.out⟩
  · have b0 : (NE == 0) = false := beq_no h0
    obtain rfl : LS = [] := by rw [HL.out, if_neg h0]
    have W4 := W3
    have V4 := V3
    have RW4 := Lib.hid (show ArgsAt w3 (.slice none 0 0) (([] : List Need).map ofN) from .inl ⟨rfl, none, 0, rfl⟩)
    clear h0 HL HC CA W3 V3
    go_wp2_with fail
    refine (CO.out w3 W4.out).mono ?_
    rintro e w5 ⟨u4, rfl, hr, hb⟩
    have W5 := Lib.hid (blw_trans W4.out hb)
    have V5 := Lib.hid (blw_trans V4.out hb)
    have RW5 := Lib.hid (args_below RW4.out hb)
    obtain ⟨va, vc, rfl⟩ := mrow_slice hr
    have R5 := Lib.hid (args_of_row (l := ([] : List Need).map ofN) (by rw [List.length_map]; exact hr))
    clear hb hr W4 V4 RW4 CO
    go_wp2_with fail
    refine (CE.out NE w5 W5.out).mono ?_
    rintro e w6 ⟨rfl, hb⟩
    have W6 := Lib.hid (blw_trans W5.out hb)
    have V6 := Lib.hid (blw_trans V5.out hb)
    have RW6 := Lib.hid (args_below RW5.out hb)
    have R6 := Lib.hid (args_below R5.out hb)
    clear hb W5 V5 RW5 R5
    go_wp2_with fail
    refine (CS.out [] _ _ w6 R6.out RW6.out HLL.out).mono ?_
    rintro e w7 ⟨rfl, hb⟩
    have W7 := Lib.hid (blw_trans W6.out hb)
    have V7 := Lib.hid (blw_trans V6.out hb)
    clear hb W6 V6 R6 RW6 CS
    go_wp2_with fail
    refine (CF.out w7 W7.out).mono ?_
    rintro e w8 ⟨rfl, hb⟩
    have W8 := Lib.hid (blw_trans W7.out hb)
    have V8 := Lib.hid (blw_trans V7.out hb)
    clear hb W7 V7 CF
    go_wp2_with fail
    refine (CG.out w8 W8.out).mono ?_
    rintro e w9 ⟨rfl, hb⟩
    have W9 := Lib.hid (blw_trans W8.out hb)
    have V9 := Lib.hid (blw_trans V8.out hb)
    clear hb W8 V8 CG
    go_wp2_with fail
    refine (CE.out FE w9 W9.out).mono ?_
    rintro e w10 ⟨rfl, hb⟩
    have W10 := Lib.hid (blw_trans W9.out hb)
    have G := cell_keep (cell_keep G1 V9.out) hb
    clear hb W9 V9 CE G1
    go_wp2_with fail
    go_ret
    exact ⟨rfl, W10.out⟩
end Go.Proofs.YtainindkndjkbaaGreatDoor
namespace Go.Proofs.YtainindkndjkbaaGreatDoor
open Go.RowKit Ms
namespace Ms
def zzT : List UInt8 := [122, 122, 95, 122, 122, 95, 122, 122]
def zzA : Ag := ⟨zzT, false, 0, 0, []⟩
theorem fit_zz {f : Nat} {m : List Nd} (h : namE f m = 0) : fitE f m ((allN f [] m).map ofN ++ [zzA]) = 0 ∨ hasA ((allN f [] m).map ofN) zzT = true := by
  cases hh : hasA ((allN f [] m).map ofN) zzT with
  | true => exact .inr rfl
  | false =>
    refine .inl (fit_more h [zzA] (fun a ha => ?_) ?_)
    · obtain rfl : a = zzA := by simpa using ha
      exact ⟨by decide +kernel, rfl⟩
    · rw [List.nodup_append]
      refine ⟨names_dist f m, by simp, fun a ha b hb e => ?_⟩
      obtain rfl : b = zzT := by simpa [zzA] using hb
      subst e
      obtain ⟨n, hn, e⟩ := List.mem_map.1 ha
      have : hasA ((allN f [] m).map ofN) zzT = true := List.any_eq_true.2 ⟨ofN n, List.mem_map.2 ⟨n, hn, rfl⟩, by show (n.1 == zzT) = true; rw [e]; simp⟩
      rw [hh] at this; cases this
end Ms

set_option maxRecDepth 100000 in
set_option maxHeartbeats 4000000 in
theorem nfit_any {f : Nat} {v : Value} {m : List Nd} (w : World) (i : Int) (hw : MW w) (hH : HanW w) (h : MsgAt f w v m) (hl : m.length ≤ 2000000) (hi1 : -9223372036854775808 ≤ i) (hi2 : i ≤ 9223372036854775807) :
    Calls Tryz.prog 4 #[v, .int .i64 i] w fun e w' => e = .returned (.bool true) ∧ Below w.heap.size w w' := by
  obtain ⟨iN, hiN, hN0, hN1, hN2⟩ := info_parts infoArg
  have CO1 := Lib.hid fun wx v1 (hb : Below w.heap.size w wx) (h1 : MsgAt 2 wx v1 appM) => nOf_any wx (hw.below hb) h1 (by decide)
  have CO := Lib.hid fun wx (hb : Below w.heap.size w wx) => nOf_any wx (hw.below hb) (msg_below h hb) hl
  have CE := Lib.hid fun (k : Int) wx (hb : Below w.heap.size w wx) => sameErr_yes (errNo_N k) wx (hH.below hb)
  have CF := Lib.hid fun (l : List Ag) va wx (hb : Below w.heap.size w wx) (ha : ArgsAt wx va l) (hal : l.length ≤ 2000000) (hna : ∀ a ∈ l, a.name.length ≤ 4000000000) => fits_any wx (hw.below hb) (msg_below h hb) hl ha hal hna
  have HLL := Lib.hid (lstN_len f m)
  have HL := Lib.hid (show lstN f m = if namE f m = 0 then allN f [] m else [] from rfl)
  have HZ := Lib.hid (fun h0 => fit_zz (f := f) (m := m) h0)
  have HO := Lib.hid (fun h0 => fit_own (f := f) (m := m) h0)
  have HS := Lib.hid (fun (h0 : namE f m = 0) i (hi : i < (allN f [] m).length) => fit_less h0 hi)
  have HK := Lib.hid (fun (h0 : namE f m = 0) (n : Need) (hn : n ∈ allN f [] m) => (show n.1.length ≤ 20 by
    have := names_ok h0 n hn
    unfold nameB at this
    simp only [Bool.and_eq_true, decide_eq_true_eq] at this
    exact this.1.2.2))
  obtain ⟨a, n, c, rfl⟩ := h.isSlice
  clear h hl hw hH
  generalize lstN f m = LS at *
  generalize namE f m = NE at *
  generalize allN f [] m = AL at *
  go_enter Tryz.func4, Tryz.ntmps4
  go_wp2_with fail
  refine (apples_any w).mono ?_
  rintro e w1 ⟨v1, rfl, hm, hb⟩
  have W1 := Lib.hid hb
  have CO1h := Lib.hid (CO1.out w1 v1 hb hm)
  obtain ⟨a1, n1, c1, rfl⟩ := hm.isSlice
  clear hb hm CO1
  go_wp2_with fail
  refine CO1h.out.mono ?_
  rintro e w2 ⟨u1, rfl, hr, hb⟩
  have W2 := Lib.hid (blw_trans W1.out hb)
  rw [app_names.2] at hr
  rw [app_names.1, show errN 0 = .nilIface from rfl]
  obtain ⟨g1, cap1, rfl⟩ := nrow_some hr (by decide)
  rw [show ([([110], true, false)] : List Need).length = 1 from rfl]
  clear hr hb CO1h W1
  go_wp2_with fail
  refine (CO.out w2 W2.out).mono ?_
  rintro e w3 ⟨u4, rfl, hr, hb⟩
  have W3 := Lib.hid (blw_trans W2.out hb)
  have hs3 := hb.size
  obtain ⟨va, vc, rfl⟩ := mrow_slice hr
  have R3 := Lib.hid hr
  clear hr hb W2 CO
  by_cases h0 : NE = 0
  case neg =>
    obtain rfl : LS = [] := by rw [HL.out, if_neg h0]
    have HV := Lib.hid (show errN NE = errV NE from if_neg h0)
    rw [HV.out]
    clear h0 HL HZ HO HS HK CF CE
    go_wp2_with fail
    go_ret
    exact ⟨rfl, W3.out⟩
  subst h0
  obtain rfl : LS = AL := HL.out
  rw [show errN 0 = .nilIface from rfl]
  replace HZ := Lib.hid (HZ.out rfl)
  replace HO := Lib.hid (HO.out rfl)
  replace HS := Lib.hid (HS.out rfl)
  replace HK := Lib.hid (HK.out rfl)
  have CFM := Lib.hid fun va wx hb ha => CF.out (LS.map ofN ++ [zzA]) va wx hb ha (by have := HLL.out; simp; omega) (fun a ha => by
    rcases List.mem_append.1 ha with ha | ha
    · obtain ⟨n, hn, rfl⟩ := List.mem_map.1 ha
      have := HK.out n hn
      show n.1.length ≤ _; omega
    · obtain rfl : a = zzA := by simpa using ha
      show zzT.length ≤ _; decide)
  have CFO := Lib.hid fun va wx hb ha => CF.out (LS.map ofN) va wx hb ha (by have := HLL.out; simp; omega) (fun a ha => by
    obtain ⟨n, hn, rfl⟩ := List.mem_map.1 ha
    have := HK.out n hn
    show n.1.length ≤ _; omega)
  have CFL := Lib.hid fun k va wx hb ha => CF.out ((LS.map ofN).take k ++ (LS.map ofN).drop (k + 1)) va wx hb ha (by have := HLL.out; simp; omega) (fun a ha => by
    have ha : a ∈ LS.map ofN := by
      rcases List.mem_append.1 ha with ha | ha
      · exact List.mem_of_mem_take ha
      · exact List.mem_of_mem_drop ha
    obtain ⟨n, hn, rfl⟩ := List.mem_map.1 ha
    have := HK.out n hn
    show n.1.length ≤ _; omega)
  have HZZ := Lib.hid (show fitE f m (LS.map ofN ++ [zzA]) ≠ 0 → ¬ idxA (LS.map ofN) zzT < 0 from fun h1 h2 => by
    rw [idxA_lt] at h2
    rcases HZ.out with h | h
    · exact h1 h
    · rw [h2] at h; cases h)
  have CI := Lib.hid fun va wx (ha : ArgsAt wx va (LS.map ofN)) => qargof_any (LS.map ofN) zzT va wx ha (by have := HLL.out; simp; omega)
  rw [HO.out, show errN 0 = .nilIface from rfl] at CFO
  replace CFL := Lib.hid fun k (hk : k < LS.length) va wx hb ha => (show Calls _ _ _ _ fun e w' => e = .returned (errN 2) ∧ Below wx.heap.size wx w' from by have := CFL.out k va wx hb ha; rwa [HS.out k hk] at this)
  have hll := HLL.out
  clear HZ HO HS HK HL HLL CF
  generalize fitE f m (LS.map ofN ++ [zzA]) = FM at *
  generalize idxA (LS.map ofN) zzT = IZ at *
  generalize hN : LS.length = N at *
  have Ra := Lib.hid (mrow_below R3.out (blw_alloc w3 (.cells #[] 39)))
  have HZr := Lib.hid (arow_zero w3 w3.heap.size (Nat.le_refl _))
  go_wp2_with (first
    | (at_builtin; refine wpList_append_row _ rfl _ _ 23 rfl w3.heap.size 39 iN _ 5 56 Tryz.underlying23 hiN hN0 hN1 hN2 rfl (by decide) (.slice (some ⟨w3.heap.size, 0, none⟩) 0 0) 0 [] rfl HZr.out w2.heap.size (.slice va N vc) N (nafl LS) rfl Ra.out (afl_one _) (by unfold maxLen; omega) (by omega) (by simp) ?_; intro v5 w5 hown5 hgrow5 _; have B5 := Lib.hid ((blw_alloc w3 (.cells #[] 39)).grown hgrow5 (by simp) (fun k hk => (HZr.out.lt k hk).1)); have hown5 : w5.ownsRow w3.heap.size 39 5 v5 N (nafl LS) := (by have := hown5; rwa [Nat.zero_add, List.nil_append] at this); obtain ⟨va5, vc5, rfl⟩ := mrow_slice hown5; have hs5 := B5.out.size; have R5 := Lib.hid hown5; clear hgrow5 Ra HZr)
    | (at_builtin; refine wpList_append_own_at _ rfl _ _ 23 rfl w3.heap.size 39 iN _ 5 56 Tryz.underlying23 hiN hN0 hN1 hN2 rfl (by decide) _ N (nafl LS) rfl (R5.out.alloc _) ⟨w5.heap.size, 0, none⟩ 1 1 (acells zzA) rfl rfl (ncells_at _ (acells zzA) _ _ rfl) (acells_one _) (by unfold maxLen; omega) (by omega) (by simp; omega) ?_; intro v6 w6 hown6 hgrow6 _ _; have B6 := Lib.hid ((B5.out.alloc hs5 _).grown hgrow6 (by simp; omega) (fun k hk => (R5.out.lt k hk).1)); obtain ⟨va6, vc6, rfl⟩ := mrow_slice hown6; have A6 := Lib.hid (args_of_row (l := LS.map ofN ++ [zzA]) (v := .slice va6 (N + 1) vc6) (by rw [List.length_append, List.length_map, hN, afl_app]; exact hown6)); clear hown6 hgrow6 B5 R5))
  refine (CFM.out _ w6 (blw_trans W3.out B6.out) A6.out).mono ?_
  rintro e w7 ⟨rfl, hb⟩
  have W7 := Lib.hid (blw_trans (blw_trans W3.out B6.out) hb)
  have R7 := Lib.hid (mrow_below (mrow_below R3.out B6.out) hb)
  have A7 := Lib.hid (args_of_row (l := LS.map ofN) (by rw [List.length_map, hN]; exact R7.out))
  clear hb CFM A6 B6 R3 W3
  go_wp2_with fail
  refine (CFO.out _ w7 W7.out A7.out).mono ?_
  rintro e w8 ⟨rfl, hb⟩
  have W8 := Lib.hid (blw_trans W7.out hb)
  have R8 := Lib.hid (mrow_below R7.out hb)
  have A8 := Lib.hid (args_of_row (l := LS.map ofN) (by rw [List.length_map, hN]; exact R8.out))
  clear hb CFO A7 R7 W7
  by_cases hF : FM = 0
  · subst hF
    rw [show errN 0 = .nilIface from rfl]
    by_cases hi0 : i < 0
    · have d0 : decide (i < 0) = true := decide_eq_true hi0
      clear CFL CE HZZ
      go_wp2_with fail
      go_ret
      exact ⟨rfl, W8.out⟩
    have d0 : decide (i < 0) = false := decide_eq_false hi0
    by_cases hiM : (N : Int) ≤ i
    · have d1 : decide ((N : Int) ≤ i) = true := decide_eq_true hiM
      clear CFL CE HZZ
      go_wp2_with fail
      go_ret
      exact ⟨rfl, W8.out⟩
    have d1 : decide ((N : Int) ≤ i) = false := decide_eq_false hiM
    obtain ⟨k, rfl⟩ : ∃ k : Nat, i = (k : Int) := ⟨i.toNat, by omega⟩
    have hkN : k < N := by omega
    obtain ⟨g, vc', eg⟩ := nrow_some R8.out (by omega)
    injection eg with eg _ eg'
    subst eg eg'
    have hcap : N ≤ vc := by
      rcases R8.out.2 with ⟨e, h0⟩ | ⟨g, cap, cur, e, _, _, q, _⟩
      · cases e
      · injection e with _ _ e; omega
    have wk : IntKind.i64.wrap ((k : Int) + 1) = (k : Int) + 1 := IntWalk.i64_in _ (by omega)
    go_wp2_with fail
    have hg8 := (R8.out.lt g rfl).2
    have HT := Lib.hid (show ((LS.map ofN).take k).length = k by rw [List.length_take, List.length_map]; omega)
    have HD := Lib.hid (show ((LS.map ofN).drop (k + 1)).length = N - (k + 1) by rw [List.length_drop, List.length_map]; omega)
    have hk0 : (0 : Int) ≤ (k : Int) := by omega
    have hk1 : (k : Int) + 1 ≤ (N : Int) := by omega
    have hk2 : (k : Int) ≤ (vc : Int) := by omega
    have hk3 : (0 : Int) ≤ (k : Int) + 1 := by omega
    have hk4 : (N : Int) ≤ (vc : Int) := by omega
    have hs8 := W8.out.size
    refine wp_region_held_drew (S := fun w' => Hid (World.ownsRow w' w2.heap.size 39 5 (.slice (some ⟨g, 0, none⟩) N vc) N (nafl LS)) ∧ Hid (Below w.heap.size w w')) (by kernel_rfl) (⟨Lib.hid (mrow_below R8.out (blw_drewN (Below.refl _ _) 1)), Lib.hid (Below.drew W8.out)⟩) (fun hHeld => ?_)
    refine take_run (d := (some 66)) (v := ?v1) 1 rfl rfl (by kernel_rfl) (by kernel_rfl) (by kernel_rfl) (fun _ _ _ h => h) (by rfl) hHeld ?hy1 ?rs1
    case hy1 => (intro w hSw; (try dsimp only at hSw); go_simp) <;> (try with_reducible rfl)
    (try simp only [Act.put, List.setIfInBounds_toArray, List.set_cons_zero, List.set_cons_succ])
    refine take_run (d := (some 67)) (v := ?v2) 2 rfl rfl (by kernel_rfl) (by kernel_rfl) (by kernel_rfl) (fun _ _ _ h => h) (by rfl) hHeld ?hy2 ?rs2
    case hy2 => (intro w hSw; (try dsimp only at hSw); go_simp) <;> (try with_reducible rfl)
    (try simp only [Act.put, List.setIfInBounds_toArray, List.set_cons_zero, List.set_cons_succ])
    refine take_run (d := (some 68)) (v := ?v3) 3 rfl rfl (by kernel_rfl) (by kernel_rfl) (by kernel_rfl) (fun _ _ _ h => h) (by rfl) hHeld ?hy3 ?rs3
    case hy3 => (intro w hSw; (try dsimp only at hSw); go_simp) <;> (try with_reducible rfl)
    (try simp only [Act.put, List.setIfInBounds_toArray, List.set_cons_zero, List.set_cons_succ])
    refine take_run (d := (some 70)) (v := ?v4) 5 rfl rfl (by kernel_rfl) (by kernel_rfl) (by kernel_rfl) (fun _ _ _ h => h) (by rfl) hHeld ?hy4 ?rs4
    case hy4 => (intro w hSw; (try dsimp only at hSw); go_simp) <;> (try with_reducible rfl)
    (try simp only [Act.put, List.setIfInBounds_toArray, List.set_cons_zero, List.set_cons_succ])
    refine take_run (d := (some 71)) (v := ?v5) 6 rfl rfl (by kernel_rfl) (by kernel_rfl) (by kernel_rfl) (fun _ _ _ h => h) (by rfl) hHeld ?hy5 ?rs5
    case hy5 => (intro w hSw; (try dsimp only at hSw); go_simp) <;> (try with_reducible rfl)
    (try simp only [Act.put, List.setIfInBounds_toArray, List.set_cons_zero, List.set_cons_succ])
    refine take_run (d := (some 72)) (v := ?v6) 7 rfl rfl (by kernel_rfl) (by kernel_rfl) (by kernel_rfl) (fun _ _ _ h => h) (by rfl) hHeld ?hy6 ?rs6
    case hy6 => (intro w hSw; (try dsimp only at hSw); go_simp) <;> (try with_reducible rfl)
    (try simp only [Act.put, List.setIfInBounds_toArray, List.set_cons_zero, List.set_cons_succ])
    refine take_run (d := (some 73)) (v := ?v7) 8 rfl rfl (by kernel_rfl) (by kernel_rfl) (by kernel_rfl) (fun _ _ _ h => h) (by rfl) hHeld ?hy7 ?rs7
    case hy7 => (intro w hSw; (try dsimp only at hSw); go_simp) <;> (try with_reducible rfl)
    (try simp only [Act.put, List.setIfInBounds_toArray, List.set_cons_zero, List.set_cons_succ])
    refine take_call 0 rfl (by kernel_rfl) (by rfl) (fun K hK => ?_)
    go_simp
    have hHeld0 := hHeld
    obtain ⟨h0, hw⟩ := hHeld
    refine hK.out _ _ (by exact ⟨Lib.hid (mrow_below h0.out (blw_alloc _ _)), Lib.hid (blw_trans hw.out (blw_alloc _ _))⟩) (fun hHeld => ?_)
    clear hK K h0 hw
    (try simp only [Act.put, List.setIfInBounds_toArray, List.set_cons_zero, List.set_cons_succ])
    refine take_call 4 rfl (by kernel_rfl) (by rfl) (fun K hK => ?_)
    have hHeld0 := hHeld
    obtain ⟨h0, hw⟩ := hHeld
    refine wp_nappend _ _ _ 23 rfl w8.heap.size 39 iN _ 5 56 Tryz.underlying23 hiN hN0 hN1 hN2 rfl (by decide) (.slice (some ⟨w8.heap.size, 0, none⟩) 0 0) 0 [] (by simp [go_sem]) (arow_zero (World.drew w8) w8.heap.size (Nat.le_refl _)) ⟨g, 0, none⟩ k vc (afl ((LS.map ofN).take k)) (by simp [go_sem]) (by rw [afl_len, HT.out]) (fun j u hj => h0.out.cells (g := g) rfl j u (afl_take_at hj)) (afl_one _) (by unfold maxLen; omega) (by omega) (by simp) ?_
    intro v' w2 hown hgrow hnil
    have HO1 := Lib.hid (show World.ownsRow _ _ _ _ v' k (afl ((LS.map ofN).take k)) by have := hown; rwa [Nat.zero_add, List.nil_append] at this)
    have hbs1 : w8.heap.size + 1 ≤ w2.heap.size := by have h : (World.alloc w8 (.cells #[] 39)).heap.size ≤ w2.heap.size := hgrow.size; simpa using h
    obtain ⟨pa, pc, rfl⟩ := mrow_slice HO1.out
    refine hK.out _ _ (⟨Lib.hid (h0.out.kept hgrow (.inr (fun e => by injection e with e; have e2 : w8.heap.size = g := e.symm; omega))), Lib.hid (hw.out.grown hgrow (by simp; omega) (fun k hk => by injection hk with hk; subst hk; exact hs8))⟩) (fun hHeld => ?_)
    clear hK K
    (try simp only [Act.put, List.setIfInBounds_toArray, List.set_cons_zero, List.set_cons_succ])
    refine take_call 9 rfl (by kernel_rfl) (by rfl) (fun K hK => ?_)
    have hHeld0 := hHeld
    obtain ⟨h0, hw⟩ := hHeld
    refine wp_nappend _ _ _ 23 rfl w8.heap.size 39 iN _ 5 56 Tryz.underlying23 hiN hN0 hN1 hN2 rfl (by decide) _ k (afl ((LS.map ofN).take k)) (by simp [go_sem]) HO1.out (if vc = k + 1 then ⟨g, 0, none⟩ else ⟨g, (k + 1) * 5, none⟩) (N - (k + 1)) (vc - (k + 1)) (afl ((LS.map ofN).drop (k + 1))) (by by_cases hv : vc = k + 1 <;> simp [go_sem, hv]) (by rw [afl_len, HD.out]) (fun j u hj => by have := h0.out.cells (g := g) rfl _ u (afl_drop_at hj); by_cases hv : vc = k + 1; (exfalso; have e9 : (afl ((LS.map ofN).drop (k + 1))).length = 0 := (by rw [afl_len, HD.out]; omega); have := (List.getElem?_eq_some_iff.1 hj).1; omega); rw [if_neg hv]; cases j with | zero => simpa [Addr.add] using this | succ j => simpa [Addr.add] using this) (afl_one _) (by unfold maxLen; omega) (by omega) (by omega) ?_
    intro v' w2 hown hgrow hnil
    have HO2 := Lib.hid hown
    obtain ⟨qa, qc, rfl⟩ := mrow_slice HO2.out
    refine hK.out _ _ (⟨Lib.hid (h0.out.kept hgrow (.inr (fun e => by have e1 := (HO1.out.lt g e.symm).1; omega))), Lib.hid (hw.out.grown hgrow (by omega) (fun k hk => by have e1 := (HO1.out.lt k hk).1; omega))⟩) (fun hHeld => ?_)
    clear hK K
    (try simp only [Act.put, List.setIfInBounds_toArray, List.set_cons_zero, List.set_cons_succ])
    refine take_run (d := (some 11)) (v := ?v11) 10 rfl rfl (by kernel_rfl) (by kernel_rfl) (by kernel_rfl) (fun _ _ _ h => h) (by rfl) hHeld ?hy11 ?rs11
    case hy11 => (intro w hSw; (try dsimp only at hSw); go_simp) <;> (try with_reducible rfl)
    (try simp only [Act.put, List.setIfInBounds_toArray, List.set_cons_zero, List.set_cons_succ])
    refine wpAnyH_done (by kernel_rfl) ?_ _
    obtain ⟨z0, zW⟩ := hHeld
    have A9 := Lib.hid (args_of_row (l := (LS.map ofN).take k ++ (LS.map ofN).drop (k + 1)) (v := .slice qa (k + (N - (k + 1))) qc) (by rw [List.length_append, HT.out, HD.out, afl_app]; exact HO2.out))
    go_wp2_with fail
    all_goals (
      refine (CFL.out k hkN _ _ zW.out A9.out).mono ?_
      rintro e w10 ⟨rfl, hb⟩
      have W10 := Lib.hid (blw_trans zW.out hb)
      go_wp2_with fail
      refine (CE.out 2 w10 W10.out).mono ?_
      rintro e w11 ⟨rfl, hb⟩
      go_wp2_with fail
      go_ret
      exact ⟨rfl, blw_trans W10.out hb⟩)
  · have HV := Lib.hid (show errN FM = errV FM from if_neg hF)
    have hIZ := HZZ.out hF
    have dI : decide (IZ < 0) = false := decide_eq_false (by omega)
    rw [HV.out]
    clear hF HV hIZ
    by_cases hi0 : i < 0
    · have d0 : decide (i < 0) = true := decide_eq_true hi0
      clear CFL CE HZZ
      go_wp2_with fail
      refine (CI.out _ w8 A8.out).mono ?_
      rintro e w9 ⟨rfl, rfl⟩
      go_wp2_with fail
      go_ret
      exact ⟨rfl, W8.out⟩
    have d0 : decide (i < 0) = false := decide_eq_false hi0
    by_cases hiM : (N : Int) ≤ i
    · have d1 : decide ((N : Int) ≤ i) = true := decide_eq_true hiM
      clear CFL CE HZZ
      go_wp2_with fail
      refine (CI.out _ w8 A8.out).mono ?_
      rintro e w9 ⟨rfl, rfl⟩
      go_wp2_with fail
      go_ret
      exact ⟨rfl, W8.out⟩
    have d1 : decide ((N : Int) ≤ i) = false := decide_eq_false hiM
    obtain ⟨k, rfl⟩ : ∃ k : Nat, i = (k : Int) := ⟨i.toNat, by omega⟩
    have hkN : k < N := by omega
    obtain ⟨g, vc', eg⟩ := nrow_some R8.out (by omega)
    injection eg with eg _ eg'
    subst eg eg'
    have hcap : N ≤ vc := by
      rcases R8.out.2 with ⟨e, h0⟩ | ⟨g, cap, cur, e, _, _, q, _⟩
      · cases e
      · injection e with _ _ e; omega
    have wk : IntKind.i64.wrap ((k : Int) + 1) = (k : Int) + 1 := IntWalk.i64_in _ (by omega)
    go_wp2_with fail
    refine (CI.out _ w8 A8.out).mono ?_
    rintro e w9 ⟨rfl, rfl⟩
    go_wp2_with fail
    have hg8 := (R8.out.lt g rfl).2
    have HT := Lib.hid (show ((LS.map ofN).take k).length = k by rw [List.length_take, List.length_map]; omega)
    have HD := Lib.hid (show ((LS.map ofN).drop (k + 1)).length = N - (k + 1) by rw [List.length_drop, List.length_map]; omega)
    have hk0 : (0 : Int) ≤ (k : Int) := by omega
    have hk1 : (k : Int) + 1 ≤ (N : Int) := by omega
    have hk2 : (k : Int) ≤ (vc : Int) := by omega
    have hk3 : (0 : Int) ≤ (k : Int) + 1 := by omega
    have hk4 : (N : Int) ≤ (vc : Int) := by omega
    have hs8 := W8.out.size
    refine wp_region_held_drew (S := fun w' => Hid (World.ownsRow w' w2.heap.size 39 5 (.slice (some ⟨g, 0, none⟩) N vc) N (nafl LS)) ∧ Hid (Below w.heap.size w w')) (by kernel_rfl) (⟨Lib.hid (mrow_below R8.out (blw_drewN (Below.refl _ _) 1)), Lib.hid (Below.drew W8.out)⟩) (fun hHeld => ?_)
    refine take_run (d := (some 66)) (v := ?v12) 1 rfl rfl (by kernel_rfl) (by kernel_rfl) (by kernel_rfl) (fun _ _ _ h => h) (by rfl) hHeld ?hy12 ?rs12
    case hy12 => (intro w hSw; (try dsimp only at hSw); go_simp) <;> (try with_reducible rfl)
    (try simp only [Act.put, List.setIfInBounds_toArray, List.set_cons_zero, List.set_cons_succ])
    refine take_run (d := (some 67)) (v := ?v13) 2 rfl rfl (by kernel_rfl) (by kernel_rfl) (by kernel_rfl) (fun _ _ _ h => h) (by rfl) hHeld ?hy13 ?rs13
    case hy13 => (intro w hSw; (try dsimp only at hSw); go_simp) <;> (try with_reducible rfl)
    (try simp only [Act.put, List.setIfInBounds_toArray, List.set_cons_zero, List.set_cons_succ])
    refine take_run (d := (some 68)) (v := ?v14) 3 rfl rfl (by kernel_rfl) (by kernel_rfl) (by kernel_rfl) (fun _ _ _ h => h) (by rfl) hHeld ?hy14 ?rs14
    case hy14 => (intro w hSw; (try dsimp only at hSw); go_simp) <;> (try with_reducible rfl)
    (try simp only [Act.put, List.setIfInBounds_toArray, List.set_cons_zero, List.set_cons_succ])
    refine take_run (d := (some 70)) (v := ?v15) 5 rfl rfl (by kernel_rfl) (by kernel_rfl) (by kernel_rfl) (fun _ _ _ h => h) (by rfl) hHeld ?hy15 ?rs15
    case hy15 => (intro w hSw; (try dsimp only at hSw); go_simp) <;> (try with_reducible rfl)
    (try simp only [Act.put, List.setIfInBounds_toArray, List.set_cons_zero, List.set_cons_succ])
    refine take_run (d := (some 71)) (v := ?v16) 6 rfl rfl (by kernel_rfl) (by kernel_rfl) (by kernel_rfl) (fun _ _ _ h => h) (by rfl) hHeld ?hy16 ?rs16
    case hy16 => (intro w hSw; (try dsimp only at hSw); go_simp) <;> (try with_reducible rfl)
    (try simp only [Act.put, List.setIfInBounds_toArray, List.set_cons_zero, List.set_cons_succ])
    refine take_run (d := (some 72)) (v := ?v17) 7 rfl rfl (by kernel_rfl) (by kernel_rfl) (by kernel_rfl) (fun _ _ _ h => h) (by rfl) hHeld ?hy17 ?rs17
    case hy17 => (intro w hSw; (try dsimp only at hSw); go_simp) <;> (try with_reducible rfl)
    (try simp only [Act.put, List.setIfInBounds_toArray, List.set_cons_zero, List.set_cons_succ])
    refine take_run (d := (some 73)) (v := ?v18) 8 rfl rfl (by kernel_rfl) (by kernel_rfl) (by kernel_rfl) (fun _ _ _ h => h) (by rfl) hHeld ?hy18 ?rs18
    case hy18 => (intro w hSw; (try dsimp only at hSw); go_simp) <;> (try with_reducible rfl)
    (try simp only [Act.put, List.setIfInBounds_toArray, List.set_cons_zero, List.set_cons_succ])
    refine take_call 0 rfl (by kernel_rfl) (by rfl) (fun K hK => ?_)
    go_simp
    have hHeld0 := hHeld
    obtain ⟨h0, hw⟩ := hHeld
    refine hK.out _ _ (by exact ⟨Lib.hid (mrow_below h0.out (blw_alloc _ _)), Lib.hid (blw_trans hw.out (blw_alloc _ _))⟩) (fun hHeld => ?_)
    clear hK K h0 hw
    (try simp only [Act.put, List.setIfInBounds_toArray, List.set_cons_zero, List.set_cons_succ])
    refine take_call 4 rfl (by kernel_rfl) (by rfl) (fun K hK => ?_)
    have hHeld0 := hHeld
    obtain ⟨h0, hw⟩ := hHeld
    refine wp_nappend _ _ _ 23 rfl w9.heap.size 39 iN _ 5 56 Tryz.underlying23 hiN hN0 hN1 hN2 rfl (by decide) (.slice (some ⟨w9.heap.size, 0, none⟩) 0 0) 0 [] (by simp [go_sem]) (arow_zero (World.drew w9) w9.heap.size (Nat.le_refl _)) ⟨g, 0, none⟩ k vc (afl ((LS.map ofN).take k)) (by simp [go_sem]) (by rw [afl_len, HT.out]) (fun j u hj => h0.out.cells (g := g) rfl j u (afl_take_at hj)) (afl_one _) (by unfold maxLen; omega) (by omega) (by simp) ?_
    intro v' w2 hown hgrow hnil
    have HO1 := Lib.hid (show World.ownsRow _ _ _ _ v' k (afl ((LS.map ofN).take k)) by have := hown; rwa [Nat.zero_add, List.nil_append] at this)
    have hbs1 : w9.heap.size + 1 ≤ w2.heap.size := by have h : (World.alloc w9 (.cells #[] 39)).heap.size ≤ w2.heap.size := hgrow.size; simpa using h
    obtain ⟨pa, pc, rfl⟩ := mrow_slice HO1.out
    refine hK.out _ _ (⟨Lib.hid (h0.out.kept hgrow (.inr (fun e => by injection e with e; have e2 : w9.heap.size = g := e.symm; omega))), Lib.hid (hw.out.grown hgrow (by simp; omega) (fun k hk => by injection hk with hk; subst hk; exact hs8))⟩) (fun hHeld => ?_)
    clear hK K
    (try simp only [Act.put, List.setIfInBounds_toArray, List.set_cons_zero, List.set_cons_succ])
    refine take_call 9 rfl (by kernel_rfl) (by rfl) (fun K hK => ?_)
    have hHeld0 := hHeld
    obtain ⟨h0, hw⟩ := hHeld
    refine wp_nappend _ _ _ 23 rfl w9.heap.size 39 iN _ 5 56 Tryz.underlying23 hiN hN0 hN1 hN2 rfl (by decide) _ k (afl ((LS.map ofN).take k)) (by simp [go_sem]) HO1.out (if vc = k + 1 then ⟨g, 0, none⟩ else ⟨g, (k + 1) * 5, none⟩) (N - (k + 1)) (vc - (k + 1)) (afl ((LS.map ofN).drop (k + 1))) (by by_cases hv : vc = k + 1 <;> simp [go_sem, hv]) (by rw [afl_len, HD.out]) (fun j u hj => by have := h0.out.cells (g := g) rfl _ u (afl_drop_at hj); by_cases hv : vc = k + 1; (exfalso; have e9 : (afl ((LS.map ofN).drop (k + 1))).length = 0 := (by rw [afl_len, HD.out]; omega); have := (List.getElem?_eq_some_iff.1 hj).1; omega); rw [if_neg hv]; cases j with | zero => simpa [Addr.add] using this | succ j => simpa [Addr.add] using this) (afl_one _) (by unfold maxLen; omega) (by omega) (by omega) ?_
    intro v' w2 hown hgrow hnil
    have HO2 := Lib.hid hown
    obtain ⟨qa, qc, rfl⟩ := mrow_slice HO2.out
    refine hK.out _ _ (⟨Lib.hid (h0.out.kept hgrow (.inr (fun e => by have e1 := (HO1.out.lt g e.symm).1; omega))), Lib.hid (hw.out.grown hgrow (by omega) (fun k hk => by have e1 := (HO1.out.lt k hk).1; omega))⟩) (fun hHeld => ?_)
    clear hK K
    (try simp only [Act.put, List.setIfInBounds_toArray, List.set_cons_zero, List.set_cons_succ])
    refine take_run (d := (some 11)) (v := ?v22) 10 rfl rfl (by kernel_rfl) (by kernel_rfl) (by kernel_rfl) (fun _ _ _ h => h) (by rfl) hHeld ?hy22 ?rs22
    case hy22 => (intro w hSw; (try dsimp only at hSw); go_simp) <;> (try with_reducible rfl)
    (try simp only [Act.put, List.setIfInBounds_toArray, List.set_cons_zero, List.set_cons_succ])
    refine wpAnyH_done (by kernel_rfl) ?_ _
    obtain ⟨z0, zW⟩ := hHeld
    have A9 := Lib.hid (args_of_row (l := (LS.map ofN).take k ++ (LS.map ofN).drop (k + 1)) (v := .slice qa (k + (N - (k + 1))) qc) (by rw [List.length_append, HT.out, HD.out, afl_app]; exact HO2.out))
    go_wp2_with fail
    all_goals (
      refine (CFL.out k hkN _ _ zW.out A9.out).mono ?_
      rintro e w10 ⟨rfl, hb⟩
      have W10 := Lib.hid (blw_trans zW.out hb)
      go_wp2_with fail
      refine (CE.out 2 w10 W10.out).mono ?_
      rintro e w11 ⟨rfl, hb⟩
      go_wp2_with fail
      go_ret
      exact ⟨rfl, blw_trans W10.out hb⟩)
end Go.Proofs.YtainindkndjkbaaGreatDoor
namespace Go.Proofs.YtainindkndjkbaaGreatDoor
open Go.RowKit Go.WideShapes Go.ChangeShapes Go.Deep Ms

theorem bulk_mem {H : Type} {x : DataW H} : ∀ {l : List (DataW H)}, x ∈ l → Rows.uptoBulk x ≤ Rows.uptoBulkAll l
  | y :: l, h => by
    rcases List.mem_cons.1 h with rfl | h
    · simp only [Rows.uptoBulkAll]; omega
    · have := bulk_mem h
      simp only [Rows.uptoBulkAll]; omega
theorem bulk_pos {H : Type} (d : DataW H) : 1 ≤ Rows.uptoBulk d := by
  cases d with
  | lit x => cases x <;> simp [Rows.uptoBulk]
  | _ => simp [Rows.uptoBulk]
theorem bulk_len {H : Type} : ∀ l : List (DataW H), l.length ≤ Rows.uptoBulkAll l
  | [] => by simp
  | d :: l => by
    have := bulk_len l
    have := bulk_pos d
    simp only [Rows.uptoBulkAll, List.length_cons]; omega
theorem list_by' {α : Type} {Q : Nat → α → Prop} : ∀ (n : Nat), (∀ i, i < n → ∃ t, Q i t) → ∃ L : List α, L.length = n ∧ ∀ i t, L[i]? = some t → Q i t
  | 0, _ => ⟨[], rfl, fun i t h => by simp at h⟩
  | n + 1, h => by
    obtain ⟨L, hl, hq⟩ := list_by' n fun i hi => h i (by omega)
    obtain ⟨t, ht⟩ := h n (by omega)
    refine ⟨L ++ [t], by simp [hl], fun i x hx => ?_⟩
    by_cases hi : i < n
    · rw [List.getElem?_append_left (by omega)] at hx; exact hq i x hx
    · rw [List.getElem?_append_right (by omega)] at hx
      have hk : i - L.length < 1 := (List.getElem?_eq_some_iff.1 hx).1
      obtain rfl : i = n := by omega
      rw [hl, Nat.sub_self] at hx
      obtain rfl : t = x := by simpa using hx
      exact ht
section
variable {H : Type} {enc : TypeId × Value → H} {P : Program} {w : World} {base : Nat} {sp : Nat → Bool} {held : Bool}
/-- a slice whose elements are smaller readings -/
theorem sl_less {α : Type} {fuel m : Nat} {t e : TypeId} {C : World → Nat → Nat → α → Prop} (K : Nat) (ht : P.underlying t = some (.slice e)) (hC : P.cellsOf e = m) (hm : 0 < m)
    (el : ∀ (b off : Nat) (cs : List Value) (n : Nat) (y : DataW H × List MemPlace), (∀ i, i < m → w.cell? ⟨b, off + i, none⟩ = cs[i]?) → cs.length = m → DataW.trod enc P w base sp held n e cs = some y → Rows.uptoBulk y.1 < K → ∃ x : α, C w b off x)
    {v : Value} {y : DataW H × List MemPlace} (h : DataW.trod enc P w base sp held fuel t [v] = some y) (hK : Rows.uptoBulk y.1 ≤ K) :
    ∃ a n c l, v = .slice a n c ∧ SlAt m C w (.slice a n c) l ∧ l.length < Rows.uptoBulk y.1 := by
  have hpos := bulk_pos y.1
  rcases open_slice ht h with ⟨hcs, _⟩ | ⟨a', len, cap, mm, nn, D, Pl, hcs, _, hl, hcm, hmm, hx, hi⟩
  · exact ⟨none, 0, 0, [], by simpa using hcs, .inl ⟨rfl, none, 0, rfl⟩, by simp; omega⟩
  · have e1 : v = .slice (some a') len cap := by simpa using hcs
    have hd : y.1 = .slice ((List.range len).map D) ((List.range (mm - len)).map fun j => D (len + j)) := congrArg Prod.fst hx
    by_cases hz : len = 0
    · subst hz
      exact ⟨some a', 0, cap, [], e1, .inl ⟨rfl, _, _, rfl⟩, by simp; omega⟩
    have hlm : len ≤ mm := by rw [hmm]; split <;> omega
    rw [hC] at hi
    obtain ⟨b, off, spot⟩ := a'
    have hsp : spot = none := by
      obtain ⟨cs0, q0, _⟩ := hi 0 (by omega)
      obtain ⟨_, q1, q2⟩ := World.cells?_some q0
      have q3 := q2 0 hm
      rw [List.getElem?_eq_getElem (by omega)] at q3
      simpa [Addr.add] using World.cell?_spot q3
    subst hsp
    have hbd : ∀ i, i < len → Rows.uptoBulk (D i) < K := by
      intro i hil
      have : D i ∈ (List.range len).map D := List.mem_map.2 ⟨i, by simpa using hil, rfl⟩
      have := bulk_mem this
      rw [hd] at hK
      simp only [Rows.uptoBulk] at hK
      omega
    obtain ⟨L, hL, hQ⟩ := list_by' (Q := fun i x => C w b (off + i * m) x) len fun i hil => by
      obtain ⟨cs', q0, q1⟩ := hi i (by omega)
      obtain ⟨_, q2, q3⟩ := World.cells?_some q0
      rw [Go.WideShapes.add_plain] at q3
      exact el b (off + i * m) cs' nn _ (fun j hj => by have := q3 j hj; rwa [Go.WideShapes.add_plain] at this) q2 q1 (hbd i hil)
    refine ⟨_, len, cap, L, e1, .inr ⟨b, off, cap, by rw [hL], by omega, by omega, hcm, fun j x hx => hQ j x hx⟩, ?_⟩
    have := bulk_len ((List.range len).map D)
    rw [hd, hL]
    simp only [Rows.uptoBulk]
    simp at this
    omega
section
variable {sN sC tN tC : TypeId} {f0 f1 f2 f3 g0 g1 : Field}
/-- a node that came in, and all that hangs on it: as deep as it is great -/
theorem node_up (hsN : P.underlying sN = some (.slice tN)) (hsC : P.underlying sC = some (.slice tC)) (htN : P.underlying tN = some (.struct #[f0, f1, f2, f3])) (htC : P.underlying tC = some (.struct #[g0, g1]))
    (cN : P.cellsOf tN = 4) (cC : P.cellsOf tC = 2) (k0 : P.underlying f0.type = some (.int .i64)) (k1 : P.underlying f1.type = some .string) (k2 : P.underlying f2.type = some (.int .i64)) (k3 : f3.type = sC) (j0 : P.underlying g0.type = some .string) (j1 : g1.type = sN)
    (hN : oneCellFields P #[f0, f1, f2, f3] = true) (hC : oneCellFields P #[g0, g1] = true) :
    ∀ K, K ≤ 1048576 → ∀ (b off : Nat) (cs : List Value) (n : Nat) (y : DataW H × List MemPlace), (∀ i, i < 4 → w.cell? ⟨b, off + i, none⟩ = cs[i]?) → cs.length = 4 → DataW.trod enc P w base sp held n tN cs = some y → Rows.uptoBulk y.1 ≤ K → ∃ x : Nd, NdC K w b off x := by
  intro K
  induction K with
  | zero => intro _ b off cs n y _ _ _ hK; have := bulk_pos y.1; omega
  | succ K ih =>
    intro hK' b off cs n y h1 h2 h hK
    obtain ⟨ys, n', _, hy, _, hyl, hf⟩ := DataW.trod_struct htN h
    obtain ⟨c0, c1, c2, c3, rfl⟩ : ∃ c0 c1 c2 c3, cs = [c0, c1, c2, c3] := by
      match cs, h2 with
      | [c0, c1, c2, c3], _ => exact ⟨c0, c1, c2, c3, rfl⟩
    obtain ⟨y0, y1, y2, y3, rfl⟩ : ∃ a0 a1 a2 a3, ys = [a0, a1, a2, a3] := by
      match ys, hyl with
      | [a0, a1, a2, a3], _ => exact ⟨a0, a1, a2, a3, rfl⟩
    have r0 : DataW.trod enc P w base sp held n' f0.type [c0] = some y0 := by have := hf 0 f0 rfl; rwa [(hone_of hN 0 f0 rfl).1, (hone_of hN 0 f0 rfl).2] at this
    have r1 : DataW.trod enc P w base sp held n' f1.type [c1] = some y1 := by have := hf 1 f1 rfl; rwa [(hone_of hN 1 f1 rfl).1, (hone_of hN 1 f1 rfl).2] at this
    have r2 : DataW.trod enc P w base sp held n' f2.type [c2] = some y2 := by have := hf 2 f2 rfl; rwa [(hone_of hN 2 f2 rfl).1, (hone_of hN 2 f2 rfl).2] at this
    have r3 : DataW.trod enc P w base sp held n' f3.type [c3] = some y3 := by have := hf 3 f3 rfl; rwa [(hone_of hN 3 f3 rfl).1, (hone_of hN 3 f3 rfl).2] at this
    rw [k3] at r3
    have hb : Rows.uptoBulk y1.1 + Rows.uptoBulk y3.1 ≤ K := by
      rw [hy] at hK
      simp only [List.map_cons, List.map_nil, Rows.uptoBulk, Rows.uptoBulkAll] at hK
      omega
    obtain ⟨a0, e0, _⟩ := DataW.trod_int k0 r0
    obtain ⟨t1, e1, ey1, _⟩ := DataW.trod_string k1 r1
    obtain ⟨a2, e2, _⟩ := DataW.trod_int k2 r2
    obtain rfl : c0 = .int .i64 a0 := by simpa using e0
    obtain rfl : c1 = .string t1 := by simpa using e1
    obtain rfl : c2 = .int .i64 a2 := by simpa using e2
    have hp1 := bulk_pos y1.1
    obtain ⟨a, m, c, l, rfl, hs, hl⟩ := sl_less (w := w) (C := fun w b k (y : List UInt8 × List Nd) => ∃ a n c, w.cell? ⟨b, k, none⟩ = some (.string ⟨y.1.toArray⟩) ∧ w.cell? ⟨b, k + 1, none⟩ = some (.slice a n c) ∧ SlAt 4 (NdC K) w (.slice a n c) y.2 ∧ y.1.length ≤ 2000000 ∧ y.2.length ≤ 2000000) K hsC cC (by omega) (fun b off cs n y u1 u2 u uK => by
      obtain ⟨ys, n', _, hy, _, hyl, hf⟩ := DataW.trod_struct htC u
      obtain ⟨c0, c1, rfl⟩ : ∃ c0 c1, cs = [c0, c1] := by
        match cs, u2 with
        | [c0, c1], _ => exact ⟨c0, c1, rfl⟩
      obtain ⟨y0, y1, rfl⟩ : ∃ a0 a1, ys = [a0, a1] := by
        match ys, hyl with
        | [a0, a1], _ => exact ⟨a0, a1, rfl⟩
      have r0 : DataW.trod enc P w base sp held n' g0.type [c0] = some y0 := by have := hf 0 g0 rfl; rwa [(hone_of hC 0 g0 rfl).1, (hone_of hC 0 g0 rfl).2] at this
      have r1 : DataW.trod enc P w base sp held n' g1.type [c1] = some y1 := by have := hf 1 g1 rfl; rwa [(hone_of hC 1 g1 rfl).1, (hone_of hC 1 g1 rfl).2] at this
      rw [j1] at r1
      have hb : Rows.uptoBulk y0.1 + Rows.uptoBulk y1.1 < K := by
        rw [hy] at uK
        simp only [List.map_cons, List.map_nil, Rows.uptoBulk, Rows.uptoBulkAll] at uK
        omega
      obtain ⟨t0, e0, ey0, _⟩ := DataW.trod_string j0 r0
      obtain rfl : c0 = .string t0 := by simpa using e0
      obtain ⟨a, m, c, l, rfl, hs, hl⟩ := sl_less (w := w) (C := NdC K) K hsN cN (by omega) (fun b off cs n y q1 q2 q qK => ih (by omega) b off cs n y q1 q2 q (by omega)) r1 (by omega)
      have ht : t0.data.toList.length + 1 ≤ Rows.uptoBulk y0.1 := by rw [ey0]; simp [Rows.uptoBulk]
      exact ⟨(t0.data.toList, l), a, m, c, u1 0 (by omega), u1 1 (by omega), hs, by show t0.data.toList.length ≤ _; omega, by show l.length ≤ _; omega⟩) r3 (by omega)
    have ht : t1.data.toList.length + 1 ≤ Rows.uptoBulk y1.1 := by rw [ey1]; simp [Rows.uptoBulk]
    exact ⟨.mk a0 t1.data.toList a2 l, a, m, c, h1 0 (by omega), h1 1 (by omega), h1 2 (by omega), h1 3 (by omega), hs, by show t1.data.toList.length ≤ _; omega, by show l.length ≤ _; omega⟩
theorem msg_open (hsN : P.underlying sN = some (.slice tN)) (hsC : P.underlying sC = some (.slice tC)) (htN : P.underlying tN = some (.struct #[f0, f1, f2, f3])) (htC : P.underlying tC = some (.struct #[g0, g1]))
    (cN : P.cellsOf tN = 4) (cC : P.cellsOf tC = 2) (k0 : P.underlying f0.type = some (.int .i64)) (k1 : P.underlying f1.type = some .string) (k2 : P.underlying f2.type = some (.int .i64)) (k3 : f3.type = sC) (j0 : P.underlying g0.type = some .string) (j1 : g1.type = sN)
    (hN : oneCellFields P #[f0, f1, f2, f3] = true) (hC : oneCellFields P #[g0, g1] = true) {fuel : Nat} {a : Option Addr} {n c : Nat} {d : DataW H} {p : List MemPlace} (h : DataW.trod enc P w base sp held fuel sN (Value.slice a n c).cells.toList = some (d, p)) (hK : Rows.uptoBulk d ≤ 1048576) :
    ∃ m : List Nd, MsgAt 1048576 w (.slice a n c) m ∧ m.length < Rows.uptoBulk d := by
  obtain ⟨a', n', c', l, e, hs, hl⟩ := sl_less (w := w) (C := NdC 1048576) 1048576 hsN cN (by omega) (fun b off cs n y q1 q2 q qK => node_up hsN hsC htN htC cN cC k0 k1 k2 k3 j0 j1 hN hC 1048576 (Nat.le_refl _) b off cs n y q1 q2 q (by omega)) (v := .slice a n c) (y := (d, p)) (by simpa [Value.cells] using h) hK
  rw [← e] at hs
  exact ⟨l, hs, hl⟩
end
section
variable {s t u : TypeId} {f0 f1 f2 f3 g0 g1 : Field}
/-- args that came in -/
theorem args_open (hs : P.underlying s = some (.slice t)) (ht : P.underlying t = some (.struct #[f0, f1, f2, f3])) (hc : P.cellsOf t = 5) (k0 : P.underlying f0.type = some .string) (k1 : P.underlying f1.type = some .bool) (k2 : P.underlying f2.type = some (.struct #[g0, g1])) (k3 : P.underlying f3.type = some .string)
    (j0 : P.underlying g0.type = some (.int .i64)) (j1 : P.underlying g1.type = some (.int .i64)) (o0 : f0.offset = 0 ∧ P.cellsOf f0.type = 1) (o1 : f1.offset = 1 ∧ P.cellsOf f1.type = 1) (o2 : f2.offset = 2 ∧ P.cellsOf f2.type = 2) (o3 : f3.offset = 4 ∧ P.cellsOf f3.type = 1) (hG : oneCellFields P #[g0, g1] = true)
    {fuel : Nat} {a : Option Addr} {n c : Nat} {d : DataW H} {p : List MemPlace} (h : DataW.trod enc P w base sp held fuel s (Value.slice a n c).cells.toList = some (d, p)) (hK : Rows.uptoBulk d ≤ 1048576) :
    ∃ l : List Ag, ArgsAt w (.slice a n c) l ∧ l.length < Rows.uptoBulk d ∧ ∀ x ∈ l, x.name.length ≤ 1048576 := by
  have h' : DataW.trod enc P w base sp held fuel s [.slice a n c] = some (d, p) := by simpa [Value.cells] using h
  obtain ⟨a', n', c', l, e, hs, hl⟩ := sl_less (enc := enc) (P := P) (base := base) (sp := sp) (held := held) (fuel := fuel) (e := t) (t := s) (w := w) (C := fun w b k (x : Ag) => ArgC w b k x ∧ x.name.length ≤ 1048576) 1048576 hs hc (by omega) (fun b off cs n y q1 q2 q qK => by
    obtain ⟨ys, n', _, hy, _, hyl, hf⟩ := DataW.trod_struct ht q
    obtain ⟨c0, c1, c2, c3, c4, rfl⟩ : ∃ c0 c1 c2 c3 c4, cs = [c0, c1, c2, c3, c4] := by
      match cs, q2 with
      | [c0, c1, c2, c3, c4], _ => exact ⟨c0, c1, c2, c3, c4, rfl⟩
    obtain ⟨y0, y1, y2, y3, rfl⟩ : ∃ a0 a1 a2 a3, ys = [a0, a1, a2, a3] := by
      match ys, hyl with
      | [a0, a1, a2, a3], _ => exact ⟨a0, a1, a2, a3, rfl⟩
    have r0 : DataW.trod enc P w base sp held n' f0.type [c0] = some y0 := by have := hf 0 f0 rfl; rwa [o0.1, o0.2] at this
    have r1 : DataW.trod enc P w base sp held n' f1.type [c1] = some y1 := by have := hf 1 f1 rfl; rwa [o1.1, o1.2] at this
    have r2 : DataW.trod enc P w base sp held n' f2.type [c2, c3] = some y2 := by have := hf 2 f2 rfl; rwa [o2.1, o2.2] at this
    have r3 : DataW.trod enc P w base sp held n' f3.type [c4] = some y3 := by have := hf 3 f3 rfl; rwa [o3.1, o3.2] at this
    have hb : Rows.uptoBulk y0.1 ≤ 1048576 := by
      rw [hy] at qK
      simp only [List.map_cons, List.map_nil, Rows.uptoBulk, Rows.uptoBulkAll] at qK
      omega
    obtain ⟨zs, n2, _, _, _, hzl, hg⟩ := DataW.trod_struct k2 r2
    obtain ⟨z0, z1, rfl⟩ : ∃ a0 a1, zs = [a0, a1] := by
      match zs, hzl with
      | [a0, a1], _ => exact ⟨a0, a1, rfl⟩
    have s0 : DataW.trod enc P w base sp held n2 g0.type [c2] = some z0 := by have := hg 0 g0 rfl; rwa [(hone_of hG 0 g0 rfl).1, (hone_of hG 0 g0 rfl).2] at this
    have s1 : DataW.trod enc P w base sp held n2 g1.type [c3] = some z1 := by have := hg 1 g1 rfl; rwa [(hone_of hG 1 g1 rfl).1, (hone_of hG 1 g1 rfl).2] at this
    obtain ⟨t0, e0, ey0, _⟩ := DataW.trod_string k0 r0
    obtain ⟨b1, e1, _⟩ := DataW.trod_bool k1 r1
    obtain ⟨i2, e2, _⟩ := DataW.trod_int j0 s0
    obtain ⟨i3, e3, _⟩ := DataW.trod_int j1 s1
    obtain ⟨t4, e4, _⟩ := DataW.trod_string k3 r3
    obtain rfl : c0 = .string t0 := by simpa using e0
    obtain rfl : c1 = .bool b1 := by simpa using e1
    obtain rfl : c2 = .int .i64 i2 := by simpa using e2
    obtain rfl : c3 = .int .i64 i3 := by simpa using e3
    obtain rfl : c4 = .string t4 := by simpa using e4
    have ht : t0.data.toList.length + 1 ≤ Rows.uptoBulk y0.1 := by rw [ey0]; simp [Rows.uptoBulk]
    exact ⟨⟨t0.data.toList, b1, i2, i3, t4.data.toList⟩, ⟨q1 0 (by omega), q1 1 (by omega), q1 2 (by omega), q1 3 (by omega), q1 4 (by omega)⟩, by show t0.data.toList.length ≤ _; omega⟩) (v := .slice a n c) (y := (d, p)) h' hK
  rw [← e] at hs
  refine ⟨l, by rcases hs with h | ⟨b, off, cap, h1, h2, h3, h4, h5⟩; exact .inl h; exact .inr ⟨b, off, cap, h1, h2, h3, h4, fun j x hx => (h5 j x hx).1⟩, hl, fun x hx => ?_⟩
  obtain ⟨j, hj, ej⟩ := List.getElem_of_mem hx
  obtain ⟨A, cap, _, _, hh⟩ := hs.spread
  obtain ⟨b, off, _, hq⟩ := hh j x (by rw [List.getElem?_eq_getElem hj, ej])
  exact hq.2
end
end
end Go.Proofs.YtainindkndjkbaaGreatDoor
namespace Go.Proofs.YtainindkndjkbaaGreatDoor
open Go.RowKit Go.WideShapes Go.ChangeShapes Go.Deep Ms

theorem gKd : Tryz.prog.globalNamed "linguister/msg.kinds" = some 2 := by kernel_rfl
theorem gKdT : (Tryz.prog.globals[2]?).map (·.type) = some 45 := by kernel_rfl
theorem kdW_of {L : List (String × DataW Unit)} {W : World} (h : laidMetH Tryz.prog L W) (hf : L.filter (fun x => x.1 == "linguister/msg.kinds") = [("linguister/msg.kinds", Rows.laid_linguister_msg_kinds)]) : KdW W := by
  have g := laidMetH.filter (fun x => x.1 == "linguister/msg.kinds") h
  rw [hf, MakeChecks.laidMetH_plain _ _ _ (by kernel_rfl)] at g
  obtain ⟨ps, ⟨gg, t, cs, fuel, p, q, hg, ht, hvar, hd, _, _⟩, _⟩ := g
  obtain rfl := Option.some.inj (gKd.symm.trans hg)
  obtain rfl := Option.some.inj (gKdT.symm.trans ht)
  obtain ⟨a, n, c, e⟩ : ∃ a n c, cs.toList = [Value.slice a n c] := by
    rcases open_slice Tryz.underlying45 hd with ⟨hcs, _⟩ | ⟨a', len, cap, _, _, _, _, hcs, _⟩
    · exact ⟨_, _, _, hcs⟩
    · exact ⟨_, _, _, hcs⟩
  rw [e] at hd
  obtain ⟨l, hl, hD⟩ := strs_open (a := a) (n := n) (c := c) Tryz.underlying45 Tryz.underlying9 (by kernel_rfl) (by simpa [Value.cells] using hd)
  have el : l = Ms.six := by
    rcases hD with ⟨e, _⟩ | ⟨sp, e⟩
    · cases e
    · simp only [Rows.laid_linguister_msg_kinds] at e
      injection e with e _
      have e2 : l.map (fun x => (.lit (.string x) : DataW Unit)) = Ms.six.map (fun x => (.lit (.string x) : DataW Unit)) := e.symm
      exact (List.map_inj_right (fun a b h => by injection h with h; injection h)).1 e2
  subst el
  refine ⟨a, n, c, ?_, hl⟩
  have hv := World.var?_cell gKd hvar 0
  rw [hv]
  have : cs = #[Value.slice a n c] := by
    cases cs with | mk l => simp at e; rw [e]
  rw [this]; rfl

theorem cellsNode : Tryz.prog.cellsOf 60 = 4 := by kernel_rfl
theorem cellsCase : Tryz.prog.cellsOf 62 = 2 := by kernel_rfl
theorem cellsArg : Tryz.prog.cellsOf 39 = 5 := by kernel_rfl
section
variable {H : Type} {enc : TypeId × Value → H} {w : World} {base : Nat} {sp : Nat → Bool} {held : Bool} {fuel : Nat} {a : Option Addr} {n c : Nat} {d : DataW H} {p : List MemPlace}
theorem nodes_open (h : DataW.trod enc Tryz.prog w base sp held fuel 22 (Value.slice a n c).cells.toList = some (d, p)) (hK : Rows.uptoBulk d ≤ 1048576) : ∃ m : List Nd, MsgAt 1048576 w (.slice a n c) m ∧ m.length < Rows.uptoBulk d :=
  msg_open Tryz.underlying22 Tryz.underlying58 Tryz.underlying60 Tryz.underlying62 cellsNode cellsCase Tryz.underlying3 Tryz.underlying9 Tryz.underlying3 rfl Tryz.underlying9 rfl (by kernel_rfl) (by kernel_rfl) h hK
theorem argl_open (h : DataW.trod enc Tryz.prog w base sp held fuel 23 (Value.slice a n c).cells.toList = some (d, p)) (hK : Rows.uptoBulk d ≤ 1048576) : ∃ l : List Ag, ArgsAt w (.slice a n c) l ∧ l.length < Rows.uptoBulk d ∧ ∀ x ∈ l, x.name.length ≤ 1048576 :=
  args_open Tryz.underlying23 Tryz.underlying39 cellsArg Tryz.underlying9 Tryz.underlying4 Tryz.underlying37 Tryz.underlying9 Tryz.underlying3 Tryz.underlying3 ⟨rfl, by kernel_rfl⟩ ⟨rfl, by kernel_rfl⟩ ⟨rfl, by kernel_rfl⟩ ⟨rfl, by kernel_rfl⟩ (by kernel_rfl) h hK
end
end Go.Proofs.YtainindkndjkbaaGreatDoor
namespace Go.Proofs.YtainindkndjkbaaGreatDoor.lawNamesFit
open Go.ChangeShapes Go.WideShapes Go.ChangeAt Go.RowKit Go.Joins

theorem own : ownKnob Tryz.prog.godebug = none := by kernel_rfl
theorem laidOut : laidOutB Tryz.prog = true := by kernel_rfl

set_option maxRecDepth 100000 in
theorem contract (H : Type) (enc : TypeId × Value → H) (W : World) (base : Nat) (args : Array Value) (ds gs : List (DataW H)) (before : List MemPlace)
    (hval : ∀ (j : Nat) t v, Tryz.f4.params[j]? = some t → args[j]? = some v → Value.okWide Tryz.prog W .any base t v)
    (hW : DataW.Whole enc Tryz.prog Tryz.f4.params.toList Rows.namesFitSpec.vars false W args.toList ds gs before) (hk : Rows.uptoSmall H (ds ++ gs) = true) (hL : laidMetH Tryz.prog Rows.namesFitUptoRow.laid W) :
    Calls Tryz.prog 4 args W fun e W' => ∃ v, e = .returned v ∧ Rows.namesFitSpec.post enc Tryz.prog Tryz.f4 false true false false W args v W' := by
  have hpost : ∀ W', Below W.heap.size W W' → Rows.namesFitSpec.post enc Tryz.prog Tryz.f4 false true false false W args (.bool true) W' := fun W' hb =>
    law_post (tb := 4) laidOut rfl Tryz.underlying4 rfl (by kernel_rfl) (fun ds h => by match ds, h with | [x0, x1], _ => rfl) hW hb
  obtain ⟨p, q, hA0, hV, _, hfz, hnd⟩ := hW
  have hA : DataW.TrodAll enc Tryz.prog W 0 (fun _ => true) true Tryz.f4.params.toList args.toList ds p := hA0
  obtain ⟨rfl, rfl⟩ := trodVars_none hV
  rw [Tryz.params4] at hA hval
  obtain ⟨v0, vs0, d0, ds0, p0, q0, hargs, rfl, hp0, h0, r0⟩ := trodAll_cons hA
  obtain ⟨v1, vs1, d1, ds1, p1, q1, rfl, rfl, hp1, h1, r1⟩ := trodAll_cons r0
  obtain ⟨rfl, rfl, hp⟩ := trodAll_nil r1
  obtain rfl : args = #[v0, v1] := by cases args; simp_all
  obtain ⟨m_a, m_n, m_c, rfl⟩ := okWide_slice Tryz.underlying22 (hval 0 22 v0 rfl rfl)
  obtain ⟨m_f, m_h⟩ := h0
  obtain ⟨i, rfl, rfl, rfl, w_i⟩ := open_int Tryz.underlying3 (hval 1 3 v1 rfl rfl) h1
  have b_i := bounds_i64 w_i
  clear hA0 hfz hnd hval
  have hT : MW W := ⟨powW_of hL (by kernel_rfl), numW_of hL (by kernel_rfl) (by kernel_rfl), kdW_of hL (by kernel_rfl)⟩
  have hH : HanW W := hanW_of (by repeat (first | exact List.Mem.head _ | refine List.Mem.tail _ ?_)) hL
  have hq : Rows.uptoBulkAll _ ≤ 1048576 := of_decide_eq_true hk
  simp only [List.append_nil, Rows.uptoBulkAll] at hq
  obtain ⟨ms, m_at, m_len⟩ := nodes_open m_h (by omega)
  refine Calls.mono (?_ : Calls Tryz.prog 4 #[.slice m_a m_n m_c, .int .i64 i] W fun e w' => e = .returned (.bool true) ∧ Below W.heap.size W w') fun e W' ⟨he, hb⟩ => ⟨_, he, hpost W' hb⟩
  exact nfit_any W i hT hH m_at (by omega) b_i.1 (by omega)

theorem start_met (os : Os) : laidMetH Tryz.prog Rows.namesFitUptoRow.laid (((World.doorLaid Tryz.prog 84 os).layVars Tryz.prog (Rows.namesFitUptoRow.laid.filter fun x => x.2.handleName?.isNone)).forCall (fun _ _ => 0) ⟨#[], #[.slice none 0 0, .int .i64 0], []⟩).memory :=
  laidMetH_of_parts3 (fuel := 8) (laidMet_over _ (by kernel_rfl) (by kernel_rfl)) (by kernel_rfl) (by kernel_rfl)
theorem start_reads (os : Os) {H : Type} (enc : TypeId × Value → H) : ∃ places, DataW.whole enc Tryz.prog (((World.doorLaid Tryz.prog 84 os).layVars Tryz.prog (Rows.namesFitUptoRow.laid.filter fun x => x.2.handleName?.isNone)).forCall (fun _ _ => 0) ⟨#[], #[.slice none 0 0, .int .i64 0], []⟩).memory Tryz.f4.params.toList Rows.namesFitSpec.vars false (#[.slice none 0 0, .int .i64 0] : Array Value).toList 8 = some ([.nil, .lit (.int .i64 0)], [], places) :=
  ⟨[], by kernel_rfl⟩

set_option maxRecDepth 100000 in
theorem lifted (os : Os) (started : os.Started) (H : Type) (enc : TypeId × Value → H) (F : Stop.Interp) :
    ReturnsInHanded {} Tryz.checked os 4 .any ((Rows.OpenSpec.upto Rows.namesFitSpec).preRow enc Tryz.prog Tryz.f4 Rows.namesFitUptoRow.domain false Rows.namesFitUptoRow.laid) (((Rows.OpenSpec.upto Rows.namesFitSpec).at F).post enc Tryz.prog Tryz.f4 false true false false) := by
  obtain ⟨places, hx⟩ := start_reads os enc
  refine returnsInHanded_of_row (C := Tryz.checked) (s := Rows.OpenSpec.upto Rows.namesFitSpec) own started (by kernel_rfl) Tryz.func4
    (witness_row_atRef (enc := enc) (C := Tryz.checked) false ((World.doorLaid Tryz.prog 84 os).layVars Tryz.prog (Rows.namesFitUptoRow.laid.filter fun x => x.2.handleName?.isNone)) #[.slice none 0 0, .int .i64 0] (World.layVars_os _ _ _) (by kernel_rfl) (by kernel_rfl) (by kernel_rfl)
      (OpenSpec.preRow_of_cond 8 hx (by kernel_rfl) (fun k hk => by cases hk; kernel_rfl) (by kernel_rfl) (start_met os))) ?_
  intro W base args ds gs before hval hW _ hcond _ hL _ _
  exact contract H enc W base args ds gs before hval hW (hcond _ rfl) hL

theorem said : Rows.NamesFitUptoSaid :=
  OpenClaim.holds_of_cond 4 Tryz.f4 rfl rfl rfl rfl rfl rfl rfl ⟨rfl, rfl, rfl, rfl, rfl⟩ rfl rfl rfl rfl rfl (by kernel_rfl) Tryz.func4 (by kernel_rfl)
    (of_decide_eq_true (by kernel_rfl)) (by unfold Func.isWrapper; first | (rw [if_pos (by decide +kernel)]; kernel_rfl) | (rw [if_neg (by decide +kernel)]; exact ⟨rfl, rfl⟩))
    (fun os started H enc _ F => by rw [OpenClaim.pre_eq_preRow]; exact lifted os started H enc F)

theorem plain (f : FuncId) (fn : Func) (hf : Tryz.pinned.checked.prog.funcNamed "linguister/linguisterlaw3.NamesFit" = some f) (hfn : Tryz.pinned.checked.prog.funcs[f]? = some fn) :
    true = Tryz.pinned.checked.prog.looks [] ∧ ∀ (j : Nat) t, fn.params[j]? = some t → Tryz.pinned.checked.prog.wantsStandIn t = false := by
  obtain rfl : f = 4 := Option.some.inj ((show Tryz.prog.funcNamed "linguister/linguisterlaw3.NamesFit" = some 4 by kernel_rfl).symm.trans hf) |>.symm
  obtain rfl : fn = Tryz.f4 := (Option.some.inj (Tryz.func4.symm.trans hfn)).symm
  refine ⟨by kernel_rfl, fun j t ht => ?_⟩
  rw [Tryz.params4] at ht
  have hm : t ∈ [22, 3] := by simpa using Array.mem_of_getElem? ht
  have hall : ([22, 3].all fun u => !Tryz.prog.wantsStandIn u) = true := by kernel_rfl
  exact (show Tryz.prog.wantsStandIn t = false by simpa using List.all_eq_true.1 hall t hm)

theorem proved : Rows.NamesFitUptoCardSaid :=
  Claim7.holds_tied_plain_at .later [] _ _ _ _ said (fun _ h => by cases h) (by kernel_rfl) (fun _ h => by cases h) namesFitUpto_row_tie rfl ⟨rfl, rfl⟩ (by kernel_rfl) rfl plain (by kernel_rfl)
#print axioms proved
end Go.Proofs.YtainindkndjkbaaGreatDoor.lawNamesFit
