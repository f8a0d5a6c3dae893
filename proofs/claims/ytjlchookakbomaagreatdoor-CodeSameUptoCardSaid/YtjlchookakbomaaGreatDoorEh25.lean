/- A start for rows that list a pinned table and a handle: the door's own run, and the data laid over it by the function. -/
import Derived.Test.YtjlchookakbomaaGreatDoorEh23
import Derived.Test.YtjlchookakbomaaGreatDoorEh24
import Derived.Test.YtjlchookakbomaaGreatDoorEh21
import Derived.Test.YtjlchookakbomaaGreatDoorRows
import Derived.Test.YtjlchookakbomaaGreatDoorEh0
import Derived.Test.YtjlchookakbomaaGreatDoorEh3
import Derived.OpenShut
import Derived.Deep.Slices
import Derived.Deep.Fields
import Derived.ChangeSame
import Derived.Test.YtjlchookakbomaaGreatDoorEh5
import Derived.Test.YtjlchookakbomaaGreatDoorEh11
import Derived.LaidSub
import Derived.MakeChecks
import Derived.Test.YtjlchookakbomaaGreatDoorEh2
import Derived.Test.YtjlchookakbomaaGreatDoorEh18
import Derived.Test.YtjlchookakbomaaGreatDoorEh7
import Derived.WalkKit
import Derived.ProofKit
import Derived.LaidMore
import Derived.Lib.LaidTab
import Derived.Lib.SmallJoins
import Derived.Stop.Joined
import Derived.SevenTiedAt
import Derived.LaidLaws
import Derived.LaidHandle
import Derived.Lay
namespace Go.Proofs.YtjlchookakbomaaGreatDoor
open Go.RowKit Ms
theorem errNo_C (n : Int) : ErrNo (errN n) n := by
  unfold errN
  split
  · rename_i h; subst h; exact .nil
  · exact .no n
theorem app_fine : msgE 2 appM = 0 ∧ cnt 2 appM = 4 := by decide +kernel
theorem zero_said (L : List (List UInt8)) : sayT L 0 [] [] = [] ∧ sayE L 0 [] [] = 0 := ⟨rfl, rfl⟩
theorem zero_code (w : World) : CodeAt 0 w (.slice none 0 0) (.slice none 0 0) [] := ⟨.inl ⟨rfl, none, 0, rfl⟩, .inl ⟨rfl, none, 0, rfl⟩⟩
theorem zero_args (w : World) : ArgsAt w (.slice none 0 0) [] := .inl ⟨rfl, none, 0, rfl⟩
set_option maxRecDepth 100000 in
set_option maxHeartbeats 16000000 in
theorem csame_any {f : Nat} {v va vo : Value} {m : List Nd} {args others : List Ag} (lang : List UInt8) (w : World) (hw : MW w) (hE : EvW w) (hH : HanW w) (h : MsgAt f w v m) (hl : m.length ≤ 2000000) (ha : ArgsAt w va args) (hal : args.length ≤ 2000000) (hna : ∀ a ∈ args, a.name.length ≤ 4000000000) (htx : ∀ a ∈ args, a.txt.length ≤ 2000000)
    (ho : ArgsAt w vo others) (hol : others.length ≤ 2000000) (hno : ∀ a ∈ others, a.name.length ≤ 4000000000) (hto : ∀ a ∈ others, a.txt.length ≤ 2000000) :
    Calls Tryz.prog 4 #[v, .string ⟨lang.toArray⟩, va, vo] w fun e w' => e = .returned (.bool true) ∧ Below w.heap.size w w' := by
  obtain ⟨t0, t1, t2, t3, t4, b, hS, hb0, CL, _⟩ := lang_set lang
  have C0 := Lib.hid fun wx => apples_any wx
  have CZ := Lib.hid fun (wx : World) (hb : Below w.heap.size w wx) => csay_any (f := 0) (va := .slice none 0 0) (args := []) lang t0 t1 t2 t3 t4 b wx (hw.below hb) (hE.below hb) (zero_code wx) rfl (Nat.zero_le _) (zero_args wx) (Nat.zero_le _) (fun a ha => by cases ha) (fun a ha => by cases ha) hS hb0 CL
  rw [(zero_said _).1, (zero_said _).2] at CZ
  have CP := Lib.hid fun (wx : World) (hb : Below w.heap.size w wx) => compile_any wx (hw.below hb) (msg_below h hb) hl
  have CA := Lib.hid fun (wx : World) (hb : Below w.heap.size w wx) (v' : Value) (h' : MsgAt 2 wx v' appM) => compile_any wx (hw.below hb) h' (by decide)
  have CK := Lib.hid fun (wx : World) (hb : Below w.heap.size w wx) => mwhole_any (f := f) wx (hw.below hb) (msg_below h hb) hl
  have S1 := Lib.hid fun (ua aa : Option Addr) (n c n' c' : Nat) (wx : World) (hb : Below w.heap.size w wx) (hc : CodeAt f wx (.slice ua n c) (.slice aa n' c') m) => csay_any lang t0 t1 t2 t3 t4 b wx (hw.below hb) (hE.below hb) hc (dp_msg f h) hl (args_below ha hb) hal hna htx hS hb0 CL
  have S2 := Lib.hid fun (ua aa : Option Addr) (n c n' c' : Nat) (wx : World) (hb : Below w.heap.size w wx) (hc : CodeAt f wx (.slice ua n c) (.slice aa n' c') m) => csay_any lang t0 t1 t2 t3 t4 b wx (hw.below hb) (hE.below hb) hc (dp_msg f h) hl (args_below ho hb) hol hno hto hS hb0 CL
  have E1 := Lib.hid fun (wx : World) (hb : Below w.heap.size w wx) => esay_any lang t0 t1 t2 t3 t4 b wx (hw.below hb) (hE.below hb) (msg_below h hb) hl (args_below ha hb) hal hna htx hS hb0 CL
  have E2 := Lib.hid fun (wx : World) (hb : Below w.heap.size w wx) => esay_any lang t0 t1 t2 t3 t4 b wx (hw.below hb) (hE.below hb) (msg_below h hb) hl (args_below ho hb) hol hno hto hS hb0 CL
  have TO := Lib.hid fun (k : Int) (wx : World) (hb : Below w.heap.size w wx) => told2_same (errNo_C k) (errNo_C k) wx (hH.below hb)
  obtain ⟨SA, hSA⟩ : ∃ X, X = sayT [t0, t1, t2, t3, t4] f m args := ⟨_, rfl⟩
  obtain ⟨EA, hEA⟩ : ∃ X, X = sayE [t0, t1, t2, t3, t4] f m args := ⟨_, rfl⟩
  obtain ⟨SO, hSO⟩ : ∃ X, X = sayT [t0, t1, t2, t3, t4] f m others := ⟨_, rfl⟩
  obtain ⟨EO, hEO⟩ : ∃ X, X = sayE [t0, t1, t2, t3, t4] f m others := ⟨_, rfl⟩
  rw [← hSA, ← hEA] at S1 E1
  rw [← hSO, ← hEO] at S2 E2
  obtain ⟨xA, xn, xc, rfl⟩ := h.isSlice
  obtain ⟨aA, an, ac, rfl⟩ := ha.isSlice
  obtain ⟨oA, on, oc, rfl⟩ := ho.isSlice
  clear hw hE hH h hl ha hal hna htx ho hol hno hto hS hb0 CL hSA hEA hSO hEO
  go_enter Tryz.func4, Tryz.ntmps4
  go_wp2_with fail
  refine (C0.out _).mono ?_
  rintro e w1 ⟨va0, rfl, hm0, hb⟩
  have W1 := Lib.hid hb
  have HM0 := Lib.hid hm0
  obtain ⟨pA, pn, pc, rfl⟩ := hm0.isSlice
  clear hb hm0 C0
  go_wp2_with fail
  refine (CA.out w1 W1.out _ HM0.out).mono ?_
  rintro e w2 ⟨A1, n1, c1, A1', n1', c1', rfl, hok1, _, hb⟩
  obtain ⟨_, hn1⟩ := hok1 app_fine.1
  rw [app_fine.2] at hn1
  subst hn1
  rw [app_fine.1, show errN 0 = .nilIface from rfl]
  have W2 := Lib.hid (blw_trans W1.out hb)
  clear hb hok1 CA HM0 W1
  have B3 := Lib.hid (Boxed.made w2 #[.slice A1 4 c1, .slice A1' n1' c1'] 26)
  have W3 := Lib.hid (blw_trans W2.out (blw_alloc w2 (.cells #[.slice A1 4 c1, .slice A1' n1' c1'] 26)))
  go_upto_region 2 with fail
  generalize w2.alloc (.cells #[.slice A1 4 c1, .slice A1' n1' c1'] 26) = w3 at *
  generalize w2.heap.size = p3 at *
  have x0 : w3.cell? ⟨p3, 0, none⟩ = some (.slice A1 4 c1) := B3.out.cell 0 _ rfl
  have x1 : w3.cell? ⟨p3, 1, none⟩ = some (.slice A1' n1' c1') := B3.out.cell 1 _ rfl
  have xl := B3.out.lt
  have CN := Lib.hid (len_any A1 A1' 4 c1 n1' c1' w3)
  clear W2 B3
  go_wp2_with fail
  refine CN.out.mono ?_
  rintro e w4 ⟨rfl, hb⟩
  have W4 := Lib.hid (blw_trans W3.out hb)
  clear hb CN W3 x0 x1 xl
  have ZW := Lib.hid (blw_trans W4.out (blw_alloc w4 (.cells #[.slice none 0 0, .slice none 0 0] 26)))
  have ZB := Lib.hid (Boxed.made w4 #[.slice none 0 0, .slice none 0 0] 26)
  go_upto_region 5 with fail
  generalize w4.alloc (.cells #[.slice none 0 0, .slice none 0 0] 26) = w5 at *
  generalize w4.heap.size = pz at *
  clear W4
  have z0 : w5.cell? ⟨pz, 0, none⟩ = some (.slice none 0 0) := ZB.out.cell 0 _ rfl
  have z1 : w5.cell? ⟨pz, 1, none⟩ = some (.slice none 0 0) := ZB.out.cell 1 _ rfl
  have zl := ZB.out.lt
  go_wp2_with fail
  refine (CZ.out _ ZW.out).mono ?_
  rintro e w6 ⟨rfl, hb⟩
  rw [show errN 0 = .nilIface from rfl]
  have W6 := Lib.hid (blw_trans ZW.out hb)
  have Z6 := Lib.hid (ZB.out.below hb)
  clear hb CZ ZW ZB z0 z1 zl
  go_wp2_with fail
  refine (CP.out _ W6.out).mono ?_
  rintro e w7 ⟨A2, n2, c2, A2', n2', c2', rfl, hok, hno, hb⟩
  have W7 := Lib.hid (blw_trans W6.out hb)
  have Z7 := Lib.hid (Z6.out.below hb)
  clear hb CP W6 Z6
  have B8 := Lib.hid (Boxed.made w7 #[.slice A2 n2 c2, .slice A2' n2' c2'] 26)
  have W8 := Lib.hid (blw_trans W7.out (blw_alloc w7 (.cells #[.slice A2 n2 c2, .slice A2' n2' c2'] 26)))
  have Z8 := Lib.hid (Z7.out.alloc (.cells #[.slice A2 n2 c2, .slice A2' n2' c2'] 26))
  have K8 := Lib.hid fun hm => ((hok hm).1.below (blw_alloc w7 (.cells #[.slice A2 n2 c2, .slice A2' n2' c2'] 26)))
  go_upto_region 7 with fail
  generalize w7.alloc (.cells #[.slice A2 n2 c2, .slice A2' n2' c2'] 26) = w8 at *
  generalize w7.heap.size = p8 at *
  clear W7 Z7 hok hno
  have z0 : w8.cell? ⟨pz, 0, none⟩ = some (.slice none 0 0) := Z8.out.cell 0 _ rfl
  have z1 : w8.cell? ⟨pz, 1, none⟩ = some (.slice none 0 0) := Z8.out.cell 1 _ rfl
  have zl := Z8.out.lt
  have CN := Lib.hid (len_any none none 0 0 0 0 w8)
  go_wp2_with fail
  refine CN.out.mono ?_
  rintro e w9 ⟨rfl, hb⟩
  have W9 := Lib.hid (blw_trans W8.out hb)
  have B9 := Lib.hid (B8.out.below hb)
  have K9 := Lib.hid fun hm => (K8.out hm).below hb
  clear hb CN W8 B8 K8 Z8 z0 z1 zl
  by_cases hm : msgE f m = 0
  · have KC := Lib.hid (K9.out hm)
    have e0 : errN (msgE f m) = .nilIface := by rw [hm]; rfl
    rw [e0]
    clear hm e0 K9 CK
    have k0 : w9.cell? ⟨p8, 0, none⟩ = some (.slice A2 n2 c2) := B9.out.cell 0 _ rfl
    have k1 : w9.cell? ⟨p8, 1, none⟩ = some (.slice A2' n2' c2') := B9.out.cell 1 _ rfl
    have kl := B9.out.lt
    go_wp2_with fail
    refine (S1.out _ _ _ _ _ _ _ W9.out KC.out).mono ?_
    rintro e w10 ⟨rfl, hb⟩
    have W10 := Lib.hid (blw_trans W9.out hb)
    have B10 := Lib.hid (B9.out.below hb)
    replace KC := Lib.hid (KC.out.below hb)
    clear hb W9 B9 k0 k1 kl
    go_wp2_with fail
    refine (E1.out _ W10.out).mono ?_
    rintro e w11 ⟨rfl, hb⟩
    have W11 := Lib.hid (blw_trans W10.out hb)
    have B11 := Lib.hid (B10.out.below hb)
    replace KC := Lib.hid (KC.out.below hb)
    clear hb W10 B10
    have k0 : w11.cell? ⟨p8, 0, none⟩ = some (.slice A2 n2 c2) := B11.out.cell 0 _ rfl
    have k1 : w11.cell? ⟨p8, 1, none⟩ = some (.slice A2' n2' c2') := B11.out.cell 1 _ rfl
    have kl := B11.out.lt
    go_wp2_with fail
    refine (S2.out _ _ _ _ _ _ _ W11.out KC.out).mono ?_
    rintro e w12 ⟨rfl, hb⟩
    have W12 := Lib.hid (blw_trans W11.out hb)
    have B12 := Lib.hid (B11.out.below hb)
    replace KC := Lib.hid (KC.out.below hb)
    clear hb W11 B11 k0 k1 kl
    go_wp2_with fail
    refine (E2.out _ W12.out).mono ?_
    rintro e w13 ⟨rfl, hb⟩
    have W13 := Lib.hid (blw_trans W12.out hb)
    have B13 := Lib.hid (B12.out.below hb)
    replace KC := Lib.hid (KC.out.below hb)
    clear hb W12 B12
    have k0 : w13.cell? ⟨p8, 0, none⟩ = some (.slice A2 n2 c2) := B13.out.cell 0 _ rfl
    have k1 : w13.cell? ⟨p8, 1, none⟩ = some (.slice A2' n2' c2') := B13.out.cell 1 _ rfl
    have kl := B13.out.lt
    go_wp2_with fail
    refine (S1.out _ _ _ _ _ _ _ W13.out KC.out).mono ?_
    rintro e w14 ⟨rfl, hb⟩
    have W14 := Lib.hid (blw_trans W13.out hb)
    have B14 := Lib.hid (B13.out.below hb)
    replace KC := Lib.hid (KC.out.below hb)
    clear hb W13 B13 k0 k1 kl
    go_wp2_with fail
    refine (TO.out EA _ W14.out).mono ?_
    rintro e w15 ⟨rfl, hb⟩
    have W15 := Lib.hid (blw_trans W14.out hb)
    have B15 := Lib.hid (B14.out.below hb)
    replace KC := Lib.hid (KC.out.below hb)
    clear hb W14 B14
    go_wp2_with fail
    refine (TO.out EO _ W15.out).mono ?_
    rintro e w16 ⟨rfl, hb⟩
    have W16 := Lib.hid (blw_trans W15.out hb)
    have B16 := Lib.hid (B15.out.below hb)
    replace KC := Lib.hid (KC.out.below hb)
    clear hb W15 B15
    go_wp2_with fail
    refine (TO.out EA _ W16.out).mono ?_
    rintro e w17 ⟨rfl, hb⟩
    have W17 := Lib.hid (blw_trans W16.out hb)
    have B17 := Lib.hid (B16.out.below hb)
    replace KC := Lib.hid (KC.out.below hb)
    clear hb W16 B16
    go_wp2_with fail
    go_ret
    exact ⟨rfl, W17.out⟩
  · have e0 : errN (msgE f m) = errV (msgE f m) := if_neg hm
    rw [e0] at CK
    rw [e0]
    clear hm e0 K9 S1 S2 E1 E2 TO
    generalize msgE f m = EE at *
    go_wp2_with fail
    refine (CK.out _ W9.out).mono ?_
    rintro e wz ⟨rfl, hb⟩
    have WZ := Lib.hid (blw_trans W9.out hb)
    clear hb W9 B9 CK
    go_wp2_with fail
    go_ret
    exact ⟨rfl, WZ.out⟩
end Go.Proofs.YtjlchookakbomaaGreatDoor
namespace Go.Proofs.YtjlchookakbomaaGreatDoor
open Go.RowKit Go.WideShapes Go.ChangeShapes Go.Deep Ms

theorem bulk_mem {H : Type} {x : DataW H} : ∀ {l : List (DataW H)}, x ∈ l → Rows.uptoBulk x ≤ Rows.uptoBulkAll l
  | y :: l, h => by
    rcases List.mem_cons.1 h with rfl | h
    · simp only [Rows.uptoBulkAll]; omega
    · have := bulk_mem h
      simp only [Rows.uptoBulkAll]; omega
theorem bulk_pos {H : Type} (d : DataW H) : 1 ≤ Rows.uptoBulk d := by
  cases d with
  | lit x => cases x <;> simp [Rows.uptoBulk]
  | _ => simp [Rows.uptoBulk]
theorem bulk_len {H : Type} : ∀ l : List (DataW H), l.length ≤ Rows.uptoBulkAll l
  | [] => by simp
  | d :: l => by
    have := bulk_len l
    have := bulk_pos d
    simp only [Rows.uptoBulkAll, List.length_cons]; omega
theorem list_by' {α : Type} {Q : Nat → α → Prop} : ∀ (n : Nat), (∀ i, i < n → ∃ t, Q i t) → ∃ L : List α, L.length = n ∧ ∀ i t, L[i]? = some t → Q i t
  | 0, _ => ⟨[], rfl, fun i t h => by simp at h⟩
  | n + 1, h => by
    obtain ⟨L, hl, hq⟩ := list_by' n fun i hi => h i (by omega)
    obtain ⟨t, ht⟩ := h n (by omega)
    refine ⟨L ++ [t], by simp [hl], fun i x hx => ?_⟩
    by_cases hi : i < n
    · rw [List.getElem?_append_left (by omega)] at hx; exact hq i x hx
    · rw [List.getElem?_append_right (by omega)] at hx
      have hk : i - L.length < 1 := (List.getElem?_eq_some_iff.1 hx).1
      obtain rfl : i = n := by omega
      rw [hl, Nat.sub_self] at hx
      obtain rfl : t = x := by simpa using hx
      exact ht
section
variable {H : Type} {enc : TypeId × Value → H} {P : Program} {w : World} {base : Nat} {sp : Nat → Bool} {held : Bool}
/-- a slice whose elements are smaller readings -/
theorem sl_less {α : Type} {fuel m : Nat} {t e : TypeId} {C : World → Nat → Nat → α → Prop} (K : Nat) (ht : P.underlying t = some (.slice e)) (hC : P.cellsOf e = m) (hm : 0 < m)
    (el : ∀ (b off : Nat) (cs : List Value) (n : Nat) (y : DataW H × List MemPlace), (∀ i, i < m → w.cell? ⟨b, off + i, none⟩ = cs[i]?) → cs.length = m → DataW.trod enc P w base sp held n e cs = some y → Rows.uptoBulk y.1 < K → ∃ x : α, C w b off x)
    {v : Value} {y : DataW H × List MemPlace} (h : DataW.trod enc P w base sp held fuel t [v] = some y) (hK : Rows.uptoBulk y.1 ≤ K) :
    ∃ a n c l, v = .slice a n c ∧ SlAt m C w (.slice a n c) l ∧ l.length < Rows.uptoBulk y.1 := by
  have hpos := bulk_pos y.1
  rcases open_slice ht h with ⟨hcs, _⟩ | ⟨a', len, cap, mm, nn, D, Pl, hcs, _, hl, hcm, hmm, hx, hi⟩
  · exact ⟨none, 0, 0, [], by simpa using hcs, .inl ⟨rfl, none, 0, rfl⟩, by simp; omega⟩
  · have e1 : v = .slice (some a') len cap := by simpa using hcs
    have hd : y.1 = .slice ((List.range len).map D) ((List.range (mm - len)).map fun j => D (len + j)) := congrArg Prod.fst hx
    by_cases hz : len = 0
    · subst hz
      exact ⟨some a', 0, cap, [], e1, .inl ⟨rfl, _, _, rfl⟩, by simp; omega⟩
    have hlm : len ≤ mm := by rw [hmm]; split <;> omega
    rw [hC] at hi
    obtain ⟨b, off, spot⟩ := a'
    have hsp : spot = none := by
      obtain ⟨cs0, q0, _⟩ := hi 0 (by omega)
      obtain ⟨_, q1, q2⟩ := World.cells?_some q0
      have q3 := q2 0 hm
      rw [List.getElem?_eq_getElem (by omega)] at q3
      simpa [Addr.add] using World.cell?_spot q3
    subst hsp
    have hbd : ∀ i, i < len → Rows.uptoBulk (D i) < K := by
      intro i hil
      have : D i ∈ (List.range len).map D := List.mem_map.2 ⟨i, by simpa using hil, rfl⟩
      have := bulk_mem this
      rw [hd] at hK
      simp only [Rows.uptoBulk] at hK
      omega
    obtain ⟨L, hL, hQ⟩ := list_by' (Q := fun i x => C w b (off + i * m) x) len fun i hil => by
      obtain ⟨cs', q0, q1⟩ := hi i (by omega)
      obtain ⟨_, q2, q3⟩ := World.cells?_some q0
      rw [Go.WideShapes.add_plain] at q3
      exact el b (off + i * m) cs' nn _ (fun j hj => by have := q3 j hj; rwa [Go.WideShapes.add_plain] at this) q2 q1 (hbd i hil)
    refine ⟨_, len, cap, L, e1, .inr ⟨b, off, cap, by rw [hL], by omega, by omega, hcm, fun j x hx => hQ j x hx⟩, ?_⟩
    have := bulk_len ((List.range len).map D)
    rw [hd, hL]
    simp only [Rows.uptoBulk]
    simp at this
    omega
section
variable {sN sC tN tC : TypeId} {f0 f1 f2 f3 g0 g1 : Field}
/-- a node that came in, and all that hangs on it: as deep as it is great -/
theorem node_up (hsN : P.underlying sN = some (.slice tN)) (hsC : P.underlying sC = some (.slice tC)) (htN : P.underlying tN = some (.struct #[f0, f1, f2, f3])) (htC : P.underlying tC = some (.struct #[g0, g1]))
    (cN : P.cellsOf tN = 4) (cC : P.cellsOf tC = 2) (k0 : P.underlying f0.type = some (.int .i64)) (k1 : P.underlying f1.type = some .string) (k2 : P.underlying f2.type = some (.int .i64)) (k3 : f3.type = sC) (j0 : P.underlying g0.type = some .string) (j1 : g1.type = sN)
    (hN : oneCellFields P #[f0, f1, f2, f3] = true) (hC : oneCellFields P #[g0, g1] = true) :
    ∀ K, K ≤ 1048576 → ∀ (b off : Nat) (cs : List Value) (n : Nat) (y : DataW H × List MemPlace), (∀ i, i < 4 → w.cell? ⟨b, off + i, none⟩ = cs[i]?) → cs.length = 4 → DataW.trod enc P w base sp held n tN cs = some y → Rows.uptoBulk y.1 ≤ K → ∃ x : Nd, NdC K w b off x := by
  intro K
  induction K with
  | zero => intro _ b off cs n y _ _ _ hK; have := bulk_pos y.1; omega
  | succ K ih =>
    intro hK' b off cs n y h1 h2 h hK
    obtain ⟨ys, n', _, hy, _, hyl, hf⟩ := DataW.trod_struct htN h
    obtain ⟨c0, c1, c2, c3, rfl⟩ : ∃ c0 c1 c2 c3, cs = [c0, c1, c2, c3] := by
      match cs, h2 with
      | [c0, c1, c2, c3], _ => exact ⟨c0, c1, c2, c3, rfl⟩
    obtain ⟨y0, y1, y2, y3, rfl⟩ : ∃ a0 a1 a2 a3, ys = [a0, a1, a2, a3] := by
      match ys, hyl with
      | [a0, a1, a2, a3], _ => exact ⟨a0, a1, a2, a3, rfl⟩
    have r0 : DataW.trod enc P w base sp held n' f0.type [c0] = some y0 := by have := hf 0 f0 rfl; rwa [(hone_of hN 0 f0 rfl).1, (hone_of hN 0 f0 rfl).2] at this
    have r1 : DataW.trod enc P w base sp held n' f1.type [c1] = some y1 := by have := hf 1 f1 rfl; rwa [(hone_of hN 1 f1 rfl).1, (hone_of hN 1 f1 rfl).2] at this
    have r2 : DataW.trod enc P w base sp held n' f2.type [c2] = some y2 := by have := hf 2 f2 rfl; rwa [(hone_of hN 2 f2 rfl).1, (hone_of hN 2 f2 rfl).2] at this
    have r3 : DataW.trod enc P w base sp held n' f3.type [c3] = some y3 := by have := hf 3 f3 rfl; rwa [(hone_of hN 3 f3 rfl).1, (hone_of hN 3 f3 rfl).2] at this
    rw [k3] at r3
    have hb : Rows.uptoBulk y1.1 + Rows.uptoBulk y3.1 ≤ K := by
      rw [hy] at hK
      simp only [List.map_cons, List.map_nil, Rows.uptoBulk, Rows.uptoBulkAll] at hK
      omega
    obtain ⟨a0, e0, _⟩ := DataW.trod_int k0 r0
    obtain ⟨t1, e1, ey1, _⟩ := DataW.trod_string k1 r1
    obtain ⟨a2, e2, _⟩ := DataW.trod_int k2 r2
    obtain rfl : c0 = .int .i64 a0 := by simpa using e0
    obtain rfl : c1 = .string t1 := by simpa using e1
    obtain rfl : c2 = .int .i64 a2 := by simpa using e2
    have hp1 := bulk_pos y1.1
    obtain ⟨a, m, c, l, rfl, hs, hl⟩ := sl_less (w := w) (C := fun w b k (y : List UInt8 × List Nd) => ∃ a n c, w.cell? ⟨b, k, none⟩ = some (.string ⟨y.1.toArray⟩) ∧ w.cell? ⟨b, k + 1, none⟩ = some (.slice a n c) ∧ SlAt 4 (NdC K) w (.slice a n c) y.2 ∧ y.1.length ≤ 2000000 ∧ y.2.length ≤ 2000000) K hsC cC (by omega) (fun b off cs n y u1 u2 u uK => by
      obtain ⟨ys, n', _, hy, _, hyl, hf⟩ := DataW.trod_struct htC u
      obtain ⟨c0, c1, rfl⟩ : ∃ c0 c1, cs = [c0, c1] := by
        match cs, u2 with
        | [c0, c1], _ => exact ⟨c0, c1, rfl⟩
      obtain ⟨y0, y1, rfl⟩ : ∃ a0 a1, ys = [a0, a1] := by
        match ys, hyl with
        | [a0, a1], _ => exact ⟨a0, a1, rfl⟩
      have r0 : DataW.trod enc P w base sp held n' g0.type [c0] = some y0 := by have := hf 0 g0 rfl; rwa [(hone_of hC 0 g0 rfl).1, (hone_of hC 0 g0 rfl).2] at this
      have r1 : DataW.trod enc P w base sp held n' g1.type [c1] = some y1 := by have := hf 1 g1 rfl; rwa [(hone_of hC 1 g1 rfl).1, (hone_of hC 1 g1 rfl).2] at this
      rw [j1] at r1
      have hb : Rows.uptoBulk y0.1 + Rows.uptoBulk y1.1 < K := by
        rw [hy] at uK
        simp only [List.map_cons, List.map_nil, Rows.uptoBulk, Rows.uptoBulkAll] at uK
        omega
      obtain ⟨t0, e0, ey0, _⟩ := DataW.trod_string j0 r0
      obtain rfl : c0 = .string t0 := by simpa using e0
      obtain ⟨a, m, c, l, rfl, hs, hl⟩ := sl_less (w := w) (C := NdC K) K hsN cN (by omega) (fun b off cs n y q1 q2 q qK => ih (by omega) b off cs n y q1 q2 q (by omega)) r1 (by omega)
      have ht : t0.data.toList.length + 1 ≤ Rows.uptoBulk y0.1 := by rw [ey0]; simp [Rows.uptoBulk]
      exact ⟨(t0.data.toList, l), a, m, c, u1 0 (by omega), u1 1 (by omega), hs, by show t0.data.toList.length ≤ _; omega, by show l.length ≤ _; omega⟩) r3 (by omega)
    have ht : t1.data.toList.length + 1 ≤ Rows.uptoBulk y1.1 := by rw [ey1]; simp [Rows.uptoBulk]
    exact ⟨.mk a0 t1.data.toList a2 l, a, m, c, h1 0 (by omega), h1 1 (by omega), h1 2 (by omega), h1 3 (by omega), hs, by show t1.data.toList.length ≤ _; omega, by show l.length ≤ _; omega⟩
theorem msg_open (hsN : P.underlying sN = some (.slice tN)) (hsC : P.underlying sC = some (.slice tC)) (htN : P.underlying tN = some (.struct #[f0, f1, f2, f3])) (htC : P.underlying tC = some (.struct #[g0, g1]))
    (cN : P.cellsOf tN = 4) (cC : P.cellsOf tC = 2) (k0 : P.underlying f0.type = some (.int .i64)) (k1 : P.underlying f1.type = some .string) (k2 : P.underlying f2.type = some (.int .i64)) (k3 : f3.type = sC) (j0 : P.underlying g0.type = some .string) (j1 : g1.type = sN)
    (hN : oneCellFields P #[f0, f1, f2, f3] = true) (hC : oneCellFields P #[g0, g1] = true) {fuel : Nat} {a : Option Addr} {n c : Nat} {d : DataW H} {p : List MemPlace} (h : DataW.trod enc P w base sp held fuel sN (Value.slice a n c).cells.toList = some (d, p)) (hK : Rows.uptoBulk d ≤ 1048576) :
    ∃ m : List Nd, MsgAt 1048576 w (.slice a n c) m ∧ m.length < Rows.uptoBulk d := by
  obtain ⟨a', n', c', l, e, hs, hl⟩ := sl_less (w := w) (C := NdC 1048576) 1048576 hsN cN (by omega) (fun b off cs n y q1 q2 q qK => node_up hsN hsC htN htC cN cC k0 k1 k2 k3 j0 j1 hN hC 1048576 (Nat.le_refl _) b off cs n y q1 q2 q (by omega)) (v := .slice a n c) (y := (d, p)) (by simpa [Value.cells] using h) hK
  rw [← e] at hs
  exact ⟨l, hs, hl⟩
end
section
variable {s t u : TypeId} {f0 f1 f2 f3 g0 g1 : Field}
end
end
end Go.Proofs.YtjlchookakbomaaGreatDoor
namespace Go.Proofs.YtjlchookakbomaaGreatDoor
open Go.RowKit Go.WideShapes Go.ChangeShapes

/-- the reading of these texts -/
def strsD {H : Type} (l : List (List UInt8)) (d : DataW H) : Prop := (d = .nil ∧ l = []) ∨ ∃ sp, d = .slice (l.map fun x => .lit (.string x)) sp
theorem strs_open {H : Type} {enc : TypeId × Value → H} {P : Program} {w : World} {base : Nat} {sp : Nat → Bool} {held : Bool} {fuel : Nat} {t e : TypeId} {a : Option Addr} {n c : Nat} {d : DataW H} {p : List MemPlace}
    (ht : P.underlying t = some (.slice e)) (he : P.underlying e = some .string) (hc : P.cellsOf e = 1) (h : DataW.trod enc P w base sp held fuel t (Value.slice a n c).cells.toList = some (d, p)) :
    ∃ l : List (List UInt8), StrsAt w (.slice a n c) l ∧ strsD l d := by
  rcases open_strings ht he hc h with ⟨hcs, hx⟩ | ⟨a', len', cap', ss, hcs, _, hl, hm, hz, hx, hcell, _⟩
  · have e1 : Value.slice a n c = .slice none 0 0 := by simpa [Value.cells] using hcs
    rw [e1]
    exact ⟨[], .inl ⟨rfl, none, 0, rfl⟩, .inl ⟨(congrArg Prod.fst hx), rfl⟩⟩
  · have e1 : Value.slice a n c = .slice (some a') len' cap' := by simpa [Value.cells] using hcs
    rw [e1]
    have hlen : (ss.take len').length = len' := by
      rw [List.length_take]
      split at hz <;> omega
    refine ⟨(ss.take len').map (·.data.toList), ?_, .inr ⟨strs (ss.drop len'), ?_⟩⟩
    · by_cases h0 : len' = 0
      · subst h0
        exact .inl ⟨by simp, _, _, rfl⟩
      · obtain ⟨b, off, spot⟩ := a'
        have hsp : spot = none := by simpa [Addr.add] using World.cell?_spot (hcell 0 (by split at hz <;> omega))
        subst hsp
        refine .inr ⟨b, off, cap', by rw [List.length_map, hlen], by rw [List.length_map, hlen]; omega, by rw [List.length_map, hlen]; exact hl, hm, fun j x hj => ?_⟩
        rw [List.getElem?_map] at hj
        obtain ⟨y, hy, rfl⟩ := Option.map_eq_some_iff.1 hj
        have hj' : j < (ss.take len').length := (List.getElem?_eq_some_iff.1 hy).1
        rw [List.getElem?_take, if_pos (by omega)] at hy
        have g := hcell j (List.getElem?_eq_some_iff.1 hy).1
        rw [Go.WideShapes.add_plain] at g
        rw [g, List.getD, hy]
        rfl
    · have e2 : (d : DataW H) = .slice (strs (ss.take len')) (strs (ss.drop len')) := congrArg Prod.fst hx
      rw [e2, List.map_map]
      rfl

end Go.Proofs.YtjlchookakbomaaGreatDoor
namespace Go.Proofs.YtjlchookakbomaaGreatDoor
open Go.RowKit Go.WideShapes Go.ChangeShapes Go.Deep Ms

theorem gKd : Tryz.prog.globalNamed "linguister/msg.kinds" = some 4 := by kernel_rfl
theorem gKdT : (Tryz.prog.globals[4]?).map (·.type) = some 97 := by kernel_rfl
theorem kdW_of {L : List (String × DataW Unit)} {W : World} (h : laidMetH Tryz.prog L W) (hf : L.filter (fun x => x.1 == "linguister/msg.kinds") = [("linguister/msg.kinds", Rows.laid_linguister_msg_kinds)]) : KdW W := by
  have g := laidMetH.filter (fun x => x.1 == "linguister/msg.kinds") h
  rw [hf, MakeChecks.laidMetH_plain _ _ _ (by kernel_rfl)] at g
  obtain ⟨ps, ⟨gg, t, cs, fuel, p, q, hg, ht, hvar, hd, _, _⟩, _⟩ := g
  obtain rfl := Option.some.inj (gKd.symm.trans hg)
  obtain rfl := Option.some.inj (gKdT.symm.trans ht)
  obtain ⟨a, n, c, e⟩ : ∃ a n c, cs.toList = [Value.slice a n c] := by
    rcases open_slice Tryz.underlying97 hd with ⟨hcs, _⟩ | ⟨a', len, cap, _, _, _, _, hcs, _⟩
    · exact ⟨_, _, _, hcs⟩
    · exact ⟨_, _, _, hcs⟩
  rw [e] at hd
  obtain ⟨l, hl, hD⟩ := strs_open (a := a) (n := n) (c := c) Tryz.underlying97 Tryz.underlying9 (by kernel_rfl) (by simpa [Value.cells] using hd)
  have el : l = Ms.six := by
    rcases hD with ⟨e, _⟩ | ⟨sp, e⟩
    · cases e
    · simp only [Rows.laid_linguister_msg_kinds] at e
      injection e with e _
      have e2 : l.map (fun x => (.lit (.string x) : DataW Unit)) = Ms.six.map (fun x => (.lit (.string x) : DataW Unit)) := e.symm
      exact (List.map_inj_right (fun a b h => by injection h with h; injection h)).1 e2
  subst el
  refine ⟨a, n, c, ?_, hl⟩
  have hv := World.var?_cell gKd hvar 0
  rw [hv]
  have : cs = #[Value.slice a n c] := by
    cases cs with | mk l => simp at e; rw [e]
  rw [this]; rfl

theorem cellsNode : Tryz.prog.cellsOf 51 = 4 := by kernel_rfl
theorem cellsCase : Tryz.prog.cellsOf 53 = 2 := by kernel_rfl
theorem cellsArg : Tryz.prog.cellsOf 70 = 5 := by kernel_rfl
section
variable {H : Type} {enc : TypeId × Value → H} {w : World} {base : Nat} {sp : Nat → Bool} {held : Bool} {fuel : Nat} {a : Option Addr} {n c : Nat} {d : DataW H} {p : List MemPlace}
theorem nodes_open (h : DataW.trod enc Tryz.prog w base sp held fuel 22 (Value.slice a n c).cells.toList = some (d, p)) (hK : Rows.uptoBulk d ≤ 1048576) : ∃ m : List Nd, MsgAt 1048576 w (.slice a n c) m ∧ m.length < Rows.uptoBulk d :=
  msg_open Tryz.underlying22 Tryz.underlying49 Tryz.underlying51 Tryz.underlying53 cellsNode cellsCase Tryz.underlying3 Tryz.underlying9 Tryz.underlying3 rfl Tryz.underlying9 rfl (by kernel_rfl) (by kernel_rfl) h hK
end
end Go.Proofs.YtjlchookakbomaaGreatDoor
namespace Go.Proofs.YtjlchookakbomaaGreatDoor
open Go.RowKit Go.WideShapes Go.ChangeShapes Go.Deep Ms
section
variable {H : Type} {enc : TypeId × Value → H} {P : Program} {w : World} {base : Nat} {sp : Nat → Bool} {held : Bool}
section
variable {s t u : TypeId} {f0 f1 f2 f3 g0 g1 : Field}
/-- args that came in -/
theorem argt_open (hs : P.underlying s = some (.slice t)) (ht : P.underlying t = some (.struct #[f0, f1, f2, f3])) (hc : P.cellsOf t = 5) (k0 : P.underlying f0.type = some .string) (k1 : P.underlying f1.type = some .bool) (k2 : P.underlying f2.type = some (.struct #[g0, g1])) (k3 : P.underlying f3.type = some .string)
    (j0 : P.underlying g0.type = some (.int .i64)) (j1 : P.underlying g1.type = some (.int .i64)) (o0 : f0.offset = 0 ∧ P.cellsOf f0.type = 1) (o1 : f1.offset = 1 ∧ P.cellsOf f1.type = 1) (o2 : f2.offset = 2 ∧ P.cellsOf f2.type = 2) (o3 : f3.offset = 4 ∧ P.cellsOf f3.type = 1) (hG : oneCellFields P #[g0, g1] = true)
    {fuel : Nat} {a : Option Addr} {n c : Nat} {d : DataW H} {p : List MemPlace} (h : DataW.trod enc P w base sp held fuel s (Value.slice a n c).cells.toList = some (d, p)) (hK : Rows.uptoBulk d ≤ 1048576) :
    ∃ l : List Ag, ArgsAt w (.slice a n c) l ∧ l.length < Rows.uptoBulk d ∧ ∀ x ∈ l, x.name.length ≤ 1048576 ∧ x.txt.length ≤ 1048576 := by
  have h' : DataW.trod enc P w base sp held fuel s [.slice a n c] = some (d, p) := by simpa [Value.cells] using h
  obtain ⟨a', n', c', l, e, hs, hl⟩ := sl_less (enc := enc) (P := P) (base := base) (sp := sp) (held := held) (fuel := fuel) (e := t) (t := s) (w := w) (C := fun w b k (x : Ag) => ArgC w b k x ∧ x.name.length ≤ 1048576 ∧ x.txt.length ≤ 1048576) 1048576 hs hc (by omega) (fun b off cs n y q1 q2 q qK => by
    obtain ⟨ys, n', _, hy, _, hyl, hf⟩ := DataW.trod_struct ht q
    obtain ⟨c0, c1, c2, c3, c4, rfl⟩ : ∃ c0 c1 c2 c3 c4, cs = [c0, c1, c2, c3, c4] := by
      match cs, q2 with
      | [c0, c1, c2, c3, c4], _ => exact ⟨c0, c1, c2, c3, c4, rfl⟩
    obtain ⟨y0, y1, y2, y3, rfl⟩ : ∃ a0 a1 a2 a3, ys = [a0, a1, a2, a3] := by
      match ys, hyl with
      | [a0, a1, a2, a3], _ => exact ⟨a0, a1, a2, a3, rfl⟩
    have r0 : DataW.trod enc P w base sp held n' f0.type [c0] = some y0 := by have := hf 0 f0 rfl; rwa [o0.1, o0.2] at this
    have r1 : DataW.trod enc P w base sp held n' f1.type [c1] = some y1 := by have := hf 1 f1 rfl; rwa [o1.1, o1.2] at this
    have r2 : DataW.trod enc P w base sp held n' f2.type [c2, c3] = some y2 := by have := hf 2 f2 rfl; rwa [o2.1, o2.2] at this
    have r3 : DataW.trod enc P w base sp held n' f3.type [c4] = some y3 := by have := hf 3 f3 rfl; rwa [o3.1, o3.2] at this
    have hb : Rows.uptoBulk y0.1 ≤ 1048576 ∧ Rows.uptoBulk y3.1 ≤ 1048576 := by
      rw [hy] at qK
      simp only [List.map_cons, List.map_nil, Rows.uptoBulk, Rows.uptoBulkAll] at qK
      omega
    obtain ⟨zs, n2, _, _, _, hzl, hg⟩ := DataW.trod_struct k2 r2
    obtain ⟨z0, z1, rfl⟩ : ∃ a0 a1, zs = [a0, a1] := by
      match zs, hzl with
      | [a0, a1], _ => exact ⟨a0, a1, rfl⟩
    have s0 : DataW.trod enc P w base sp held n2 g0.type [c2] = some z0 := by have := hg 0 g0 rfl; rwa [(hone_of hG 0 g0 rfl).1, (hone_of hG 0 g0 rfl).2] at this
    have s1 : DataW.trod enc P w base sp held n2 g1.type [c3] = some z1 := by have := hg 1 g1 rfl; rwa [(hone_of hG 1 g1 rfl).1, (hone_of hG 1 g1 rfl).2] at this
    obtain ⟨t0, e0, ey0, _⟩ := DataW.trod_string k0 r0
    obtain ⟨b1, e1, _⟩ := DataW.trod_bool k1 r1
    obtain ⟨i2, e2, _⟩ := DataW.trod_int j0 s0
    obtain ⟨i3, e3, _⟩ := DataW.trod_int j1 s1
    obtain ⟨t4, e4, ey4, _⟩ := DataW.trod_string k3 r3
    obtain rfl : c0 = .string t0 := by simpa using e0
    obtain rfl : c1 = .bool b1 := by simpa using e1
    obtain rfl : c2 = .int .i64 i2 := by simpa using e2
    obtain rfl : c3 = .int .i64 i3 := by simpa using e3
    obtain rfl : c4 = .string t4 := by simpa using e4
    have ht : t0.data.toList.length + 1 ≤ Rows.uptoBulk y0.1 := by rw [ey0]; simp [Rows.uptoBulk]
    have ht4 : t4.data.toList.length + 1 ≤ Rows.uptoBulk y3.1 := by rw [ey4]; simp [Rows.uptoBulk]
    exact ⟨⟨t0.data.toList, b1, i2, i3, t4.data.toList⟩, ⟨q1 0 (by omega), q1 1 (by omega), q1 2 (by omega), q1 3 (by omega), q1 4 (by omega)⟩, by show t0.data.toList.length ≤ _ ∧ t4.data.toList.length ≤ _; omega⟩) (v := .slice a n c) (y := (d, p)) h' hK
  rw [← e] at hs
  refine ⟨l, by rcases hs with h | ⟨b, off, cap, h1, h2, h3, h4, h5⟩; exact .inl h; exact .inr ⟨b, off, cap, h1, h2, h3, h4, fun j x hx => (h5 j x hx).1⟩, hl, fun x hx => ?_⟩
  obtain ⟨j, hj, ej⟩ := List.getElem_of_mem hx
  obtain ⟨A, cap, _, _, hh⟩ := hs.spread
  obtain ⟨b, off, _, hq⟩ := hh j x (by rw [List.getElem?_eq_getElem hj, ej])
  exact hq.2
end
end
section
variable {H : Type} {enc : TypeId × Value → H} {w : World} {base : Nat} {sp : Nat → Bool} {held : Bool} {fuel : Nat} {a : Option Addr} {n c : Nat} {d : DataW H} {p : List MemPlace}
theorem argx_open (h : DataW.trod enc Tryz.prog w base sp held fuel 23 (Value.slice a n c).cells.toList = some (d, p)) (hK : Rows.uptoBulk d ≤ 1048576) : ∃ l : List Ag, ArgsAt w (.slice a n c) l ∧ l.length < Rows.uptoBulk d ∧ ∀ x ∈ l, x.name.length ≤ 1048576 ∧ x.txt.length ≤ 1048576 :=
  argt_open Tryz.underlying23 Tryz.underlying70 cellsArg Tryz.underlying9 Tryz.underlying4 Tryz.underlying64 Tryz.underlying9 Tryz.underlying3 Tryz.underlying3 ⟨rfl, by kernel_rfl⟩ ⟨rfl, by kernel_rfl⟩ ⟨rfl, by kernel_rfl⟩ ⟨rfl, by kernel_rfl⟩ (by kernel_rfl) h hK
end
end Go.Proofs.YtjlchookakbomaaGreatDoor
namespace Go.Proofs.YtjlchookakbomaaGreatDoor
open Go.RowKit

theorem gPowT : (Tryz.prog.globals[6]?).map (·.type) = some 278 := by kernel_rfl
theorem cellsPow : Tryz.prog.cellsOf 278 = 20 := by kernel_rfl
theorem cellsU64 : Tryz.prog.cellsOf 222 = 1 := by kernel_rfl
theorem powW_of {L : List (String × DataW Unit)} {W : World} (h : laidMetH Tryz.prog L W) (hf : L.filter (fun x => x.1 == "internal/strconv.uint64pow10") = [("internal/strconv.uint64pow10", Rows.laid_internal_strconv_uint64pow10)]) : PowW W := by
  have g := laidMetH.filter (fun x => x.1 == "internal/strconv.uint64pow10") h
  rw [hf, MakeChecks.laidMetH_plain _ _ _ (by kernel_rfl)] at g
  exact Lib.tabIs_of_head gPow gPowT Tryz.underlying278 Tryz.underlying222 cellsU64 cellsPow g
end Go.Proofs.YtjlchookakbomaaGreatDoor
namespace Go.Proofs.YtjlchookakbomaaGreatDoor
open Go.RowKit Go.ChangeShapes Go.WideShapes

theorem gKinds : Tryz.prog.globalNamed "linguister/plural.kinds" = some 3 := by kernel_rfl
theorem gKindsT : (Tryz.prog.globals[3]?).map (·.type) = some 179 := by kernel_rfl
theorem cellsKinds : Tryz.prog.cellsOf 179 = 5 := by kernel_rfl
theorem cellsText : Tryz.prog.cellsOf 9 = 1 := by kernel_rfl
theorem kindsW_of {L : List (String × DataW Unit)} {W : World} (h : laidMetH Tryz.prog L W) (hf : L.filter (fun x => x.1 == "linguister/plural.kinds") = [("linguister/plural.kinds", Rows.laid_linguister_plural_kinds)]) : KindsW W := by
  have g := laidMetH.filter (fun x => x.1 == "linguister/plural.kinds") h
  rw [hf, MakeChecks.laidMetH_plain _ _ _ (by kernel_rfl)] at g
  obtain ⟨ps, ⟨gg, t, cs, fuel, p, q, hg, ht, hvar, hd, _, _⟩, _⟩ := g
  obtain rfl := Option.some.inj (gKinds.symm.trans hg)
  obtain rfl := Option.some.inj (gKindsT.symm.trans ht)
  obtain ⟨xs, m, _, hx, hl, hxl, hel⟩ := DataW.trod_array Tryz.underlying179 hd
  rw [cellsKinds] at hl
  rw [cellsText] at hel
  intro i s hs
  have hi : i < 5 := (List.getElem?_eq_some_iff.1 hs).1
  have h1 := hel i hi
  have hcl : i < cs.toList.length := by omega
  have hone : (cs.toList.drop (i * 1)).take 1 = [cs.toList[i]'hcl] := by
    rw [Nat.mul_one, List.drop_eq_getElem_cons hcl]
    rfl
  rw [hone, List.getElem?_eq_getElem (by omega)] at h1
  obtain ⟨b, e, hb, _⟩ := DataW.trod_string Tryz.underlying9 h1
  have e2 : cs.toList[i]'hcl = .string b := by simpa using e
  have hv := World.var?_cell gKinds hvar i
  rw [hv]
  have hget : cs[i]? = some (cs.toList[i]'hcl) := by
    rw [← Array.getElem?_toList]; exact List.getElem?_eq_getElem hcl
  rw [hget, e2]
  have hx1 : (xs.map (·.1))[i]? = some (.lit (.string b.data.toList)) := by
    rw [List.getElem?_map, List.getElem?_eq_getElem (by omega)]
    simp [hb]
  have hk : xs.map (·.1) = Rul.kindL.map fun s => (.lit (.string s) : DataW Unit) := by
    have := congrArg Prod.fst hx
    simp only [Rows.laid_linguister_plural_kinds] at this
    injection this with this
    rw [← this]
    rfl
  rw [hk, List.getElem?_map, hs] at hx1
  have e3 : s = b.data.toList := by simpa using hx1
  rw [e3]
end Go.Proofs.YtjlchookakbomaaGreatDoor
namespace Go.Proofs.YtjlchookakbomaaGreatDoor
open Go.RowKit Go.ChangeShapes Go.WideShapes
theorem gPat : Tryz.prog.globalNamed "linguister/eval.pattern" = some 0 := by kernel_rfl
theorem gPatT : (Tryz.prog.globals[0]?).map (·.type) = some 123 := by kernel_rfl
theorem gSgn : Tryz.prog.globalNamed "linguister/eval.signs" = some 1 := by kernel_rfl
theorem gSgnT : (Tryz.prog.globals[1]?).map (·.type) = some 125 := by kernel_rfl
theorem cellsPat : Tryz.prog.cellsOf 123 = 7 := by kernel_rfl
theorem cellsSgn : Tryz.prog.cellsOf 125 = 2 := by kernel_rfl
theorem numerW_of {L : List (String × DataW Unit)} {W : World} (h : laidMetH Tryz.prog L W) (hp : L.filter (fun x => x.1 == "linguister/eval.pattern") = [("linguister/eval.pattern", Rows.laid_linguister_eval_pattern)]) (hs : L.filter (fun x => x.1 == "linguister/eval.signs") = [("linguister/eval.signs", Rows.laid_linguister_eval_signs)]) : NumerW W := by
  have g1 := laidMetH.filter (fun x => x.1 == "linguister/eval.pattern") h
  rw [hp, MakeChecks.laidMetH_plain _ _ _ (by kernel_rfl)] at g1
  have g2 := laidMetH.filter (fun x => x.1 == "linguister/eval.signs") h
  rw [hs, MakeChecks.laidMetH_plain _ _ _ (by kernel_rfl)] at g2
  obtain ⟨ps, ⟨gg, t, cs, fuel, p, q, hg, ht, hvar, hd, _, _⟩, _⟩ := g1
  obtain rfl := Option.some.inj (gPat.symm.trans hg)
  obtain rfl := Option.some.inj (gPatT.symm.trans ht)
  obtain ⟨qs, ⟨gg, t, cz, fuel2, p2, q2, hg, ht, hvar2, hd2, _, _⟩, _⟩ := g2
  obtain rfl := Option.some.inj (gSgn.symm.trans hg)
  obtain rfl := Option.some.inj (gSgnT.symm.trans ht)
  obtain ⟨ys, n, _, hy, hcl, hyl, hf⟩ := DataW.trod_struct Tryz.underlying123 hd
  obtain ⟨zs, n2, _, hz, hzl, hzn, hz2⟩ := DataW.trod_struct Tryz.underlying125 hd2
  rw [cellsPat] at hcl
  rw [cellsSgn] at hzl
  obtain ⟨c0, c1, c2, c3, c4, c5, c6, hcs⟩ : ∃ c0 c1 c2 c3 c4 c5 c6, cs.toList = [c0, c1, c2, c3, c4, c5, c6] := by
    match hh : cs.toList, hcl with
    | [c0, c1, c2, c3, c4, c5, c6], _ => exact ⟨c0, c1, c2, c3, c4, c5, c6, rfl⟩
  obtain ⟨x0, x1, hcz⟩ : ∃ x0 x1, cz.toList = [x0, x1] := by
    match hh : cz.toList, hzl with
    | [x0, x1], _ => exact ⟨x0, x1, rfl⟩
  rw [hcs] at hf
  rw [hcz] at hz2
  obtain ⟨y0, y1, y2, y3, y4, y5, y6, rfl⟩ : ∃ a0 a1 a2 a3 a4 a5 a6, ys = [a0, a1, a2, a3, a4, a5, a6] := by
    match ys, hyl with
    | [a0, a1, a2, a3, a4, a5, a6], _ => exact ⟨a0, a1, a2, a3, a4, a5, a6, rfl⟩
  obtain ⟨z0, z1, rfl⟩ : ∃ a0 a1, zs = [a0, a1] := by
    match zs, hzn with
    | [a0, a1], _ => exact ⟨a0, a1, rfl⟩
  have ks : Tryz.prog.cellsOf 9 = 1 := by kernel_rfl
  have ki : Tryz.prog.cellsOf 3 = 1 := by kernel_rfl
  have ku : Tryz.prog.cellsOf 5 = 1 := by kernel_rfl
  have r0 : DataW.trod (fun _ => ()) Tryz.prog W 0 (fun _ => true) false n 9 [c0] = some y0 := by have := hf 0 _ rfl; change DataW.trod (fun _ => ()) Tryz.prog W 0 (fun _ => true) false n 9 (List.take (Tryz.prog.cellsOf 9) [c0, c1, c2, c3, c4, c5, c6]) = some y0 at this; rw [ks] at this; exact this
  have r1 : DataW.trod (fun _ => ()) Tryz.prog W 0 (fun _ => true) false n 9 [c1] = some y1 := by have := hf 1 _ rfl; change DataW.trod (fun _ => ()) Tryz.prog W 0 (fun _ => true) false n 9 (List.take (Tryz.prog.cellsOf 9) [c1, c2, c3, c4, c5, c6]) = some y1 at this; rw [ks] at this; exact this
  have r2 : DataW.trod (fun _ => ()) Tryz.prog W 0 (fun _ => true) false n 3 [c2] = some y2 := by have := hf 2 _ rfl; change DataW.trod (fun _ => ()) Tryz.prog W 0 (fun _ => true) false n 3 (List.take (Tryz.prog.cellsOf 3) [c2, c3, c4, c5, c6]) = some y2 at this; rw [ki] at this; exact this
  have r3 : DataW.trod (fun _ => ()) Tryz.prog W 0 (fun _ => true) false n 3 [c3] = some y3 := by have := hf 3 _ rfl; change DataW.trod (fun _ => ()) Tryz.prog W 0 (fun _ => true) false n 3 (List.take (Tryz.prog.cellsOf 3) [c3, c4, c5, c6]) = some y3 at this; rw [ki] at this; exact this
  have r4 : DataW.trod (fun _ => ()) Tryz.prog W 0 (fun _ => true) false n 3 [c4] = some y4 := by have := hf 4 _ rfl; change DataW.trod (fun _ => ()) Tryz.prog W 0 (fun _ => true) false n 3 (List.take (Tryz.prog.cellsOf 3) [c4, c5, c6]) = some y4 at this; rw [ki] at this; exact this
  have r5 : DataW.trod (fun _ => ()) Tryz.prog W 0 (fun _ => true) false n 3 [c5] = some y5 := by have := hf 5 _ rfl; change DataW.trod (fun _ => ()) Tryz.prog W 0 (fun _ => true) false n 3 (List.take (Tryz.prog.cellsOf 3) [c5, c6]) = some y5 at this; rw [ki] at this; exact this
  have r6 : DataW.trod (fun _ => ()) Tryz.prog W 0 (fun _ => true) false n 3 [c6] = some y6 := by have := hf 6 _ rfl; change DataW.trod (fun _ => ()) Tryz.prog W 0 (fun _ => true) false n 3 (List.take (Tryz.prog.cellsOf 3) [c6]) = some y6 at this; rw [ki] at this; exact this
  have u0 : DataW.trod (fun _ => ()) Tryz.prog W 0 (fun _ => true) false n2 5 [x0] = some z0 := by have := hz2 0 _ rfl; change DataW.trod (fun _ => ()) Tryz.prog W 0 (fun _ => true) false n2 5 (List.take (Tryz.prog.cellsOf 5) [x0, x1]) = some z0 at this; rw [ku] at this; exact this
  have u1 : DataW.trod (fun _ => ()) Tryz.prog W 0 (fun _ => true) false n2 5 [x1] = some z1 := by have := hz2 1 _ rfl; change DataW.trod (fun _ => ()) Tryz.prog W 0 (fun _ => true) false n2 5 (List.take (Tryz.prog.cellsOf 5) [x1]) = some z1 at this; rw [ku] at this; exact this
  obtain ⟨b0, e0, ey0, _⟩ := DataW.trod_string Tryz.underlying9 r0
  obtain ⟨b1, e1, ey1, _⟩ := DataW.trod_string Tryz.underlying9 r1
  obtain ⟨b2, e2, ey2, _⟩ := DataW.trod_int Tryz.underlying3 r2
  obtain ⟨b3, e3, ey3, _⟩ := DataW.trod_int Tryz.underlying3 r3
  obtain ⟨b4, e4, ey4, _⟩ := DataW.trod_int Tryz.underlying3 r4
  obtain ⟨b5, e5, ey5, _⟩ := DataW.trod_int Tryz.underlying3 r5
  obtain ⟨b6, e6, ey6, _⟩ := DataW.trod_int Tryz.underlying3 r6
  obtain ⟨k0, ez0, ek0, _⟩ := DataW.trod_int Tryz.underlying5 u0
  obtain ⟨k1, ez1, ek1, _⟩ := DataW.trod_int Tryz.underlying5 u1
  rw [ey0, ey1, ey2, ey3, ey4, ey5, ey6] at hy
  rw [ek0, ek1] at hz
  have hy1 := congrArg Prod.fst hy
  have hz1 := congrArg Prod.fst hz
  simp only [Rows.laid_linguister_eval_pattern, List.map_cons, List.map_nil, DataW.agg.injEq, List.cons.injEq, DataW.lit.injEq, Lit.string.injEq, Lit.int.injEq, true_and, and_true] at hy1
  simp only [Rows.laid_linguister_eval_signs, List.map_cons, List.map_nil, DataW.agg.injEq, List.cons.injEq, DataW.lit.injEq, Lit.int.injEq, true_and, and_true] at hz1
  obtain ⟨g0, g1, rfl, rfl, rfl, rfl, rfl⟩ := hy1
  obtain ⟨rfl, rfl⟩ := hz1
  have v : ∀ (i : Nat) (u : Value), cs.toList[i]? = some u → W.cell? ⟨0, i, none⟩ = some u := fun i u hu => by
    rw [World.var?_cell gPat hvar i, ← Array.getElem?_toList]; exact hu
  have v2 : ∀ (i : Nat) (u : Value), cz.toList[i]? = some u → W.cell? ⟨1, i, none⟩ = some u := fun i u hu => by
    rw [World.var?_cell gSgn hvar2 i, ← Array.getElem?_toList]; exact hu
  have em : ∀ b : ByteArray, [] = b.data.toList → b = ⟨#[]⟩ := fun b hb => by
    have : b.data = #[] := by rw [← Array.toList_inj]; exact hb.symm
    cases b; simp_all
  have h0 := em b0 g0
  have h1 := em b1 g1
  subst h0 h1
  refine ⟨v 0 _ ?_, v 1 _ ?_, v 2 _ ?_, v 3 _ ?_, v 4 _ ?_, v 5 _ ?_, v 6 _ ?_, v2 0 _ ?_, v2 1 _ ?_⟩
  · rw [hcs]; exact congrArg some (List.cons.inj e0).1
  · rw [hcs]; exact congrArg some (List.cons.inj e1).1
  · rw [hcs]; exact congrArg some (List.cons.inj e2).1
  · rw [hcs]; exact congrArg some (List.cons.inj e3).1
  · rw [hcs]; exact congrArg some (List.cons.inj e4).1
  · rw [hcs]; exact congrArg some (List.cons.inj e5).1
  · rw [hcs]; exact congrArg some (List.cons.inj e6).1
  · rw [hcz]; exact congrArg some (List.cons.inj ez0).1
  · rw [hcz]; exact congrArg some (List.cons.inj ez1).1
end Go.Proofs.YtjlchookakbomaaGreatDoor
namespace Go.Proofs.YtjlchookakbomaaGreatDoor
open Go.ChangeShapes Go.WideShapes Go.ChangeAt Go.RowKit

section
variable {H : Type} {enc : TypeId × Value → H} {P : Program}
theorem trodAll_below (hl : laidOutB P = true) {W W' : World} (hb : Below W.heap.size W W') : ∀ {ts : List TypeId} {vs : List Value} {ds : List (DataW H)} {ps : List MemPlace},
    ts.all (fun t => P.readableRec t && decide (t < P.types.size)) = true → DataW.TrodAll enc P W 0 (fun _ => true) true ts vs ds ps → (∀ x ∈ ps, x.block < W.heap.size) →
    DataW.TrodAll enc P W' 0 (fun b => decide (b < W.heap.size)) true ts vs ds ps := by
  intro ts
  induction ts with
  | nil =>
    intro vs ds ps _ h _
    obtain ⟨rfl, rfl, rfl⟩ := trodAll_nil h
    exact trodAll_mk0
  | cons t ts ih =>
    intro vs ds ps hr h hlt
    simp only [List.all_cons, Bool.and_eq_true, decide_eq_true_eq] at hr
    obtain ⟨v, vs', d, ds', p, q, rfl, rfl, rfl, h0, hs⟩ := trodAll_cons h
    exact trodAll_cons_mk (Below.trod hl hr.1.1 hr.1.2 h0 hb fun x hx => hlt x (List.mem_append.2 (.inl hx))) (ih hr.2 hs fun x hx => hlt x (List.mem_append.2 (.inr hx)))

theorem trodAll_length {W : World} {base : Nat} {spare : Nat → Bool} {held : Bool} : ∀ {ts : List TypeId} {vs : List Value} {ds : List (DataW H)} {ps : List MemPlace},
    DataW.TrodAll enc P W base spare held ts vs ds ps → ds.length = ts.length := by
  intro ts
  induction ts with
  | nil => intro vs ds ps h; obtain ⟨rfl, rfl, rfl⟩ := trodAll_nil h; rfl
  | cons t ts ih => intro vs ds ps h; obtain ⟨v, vs', d, ds', p, q, rfl, rfl, rfl, h0, hs⟩ := trodAll_cons h; simp [ih hs]

theorem law_post {fn : Func} {s : ChangeSpec} {tb : TypeId} (hl : laidOutB P = true) (hres : fn.resultTypes = #[tb]) (hbool : P.underlying tb = some .bool) (hv : s.vars = [])
    (hread : fn.params.toList.all (fun t => P.readableRec t && decide (t < P.types.size)) = true)
    (hs : ∀ ds : List (DataW H), ds.length = fn.params.toList.length → s.fn H ds = { results := [.lit (.bool true)], args := ds })
    {W W' : World} {args : Array Value} {ds gs : List (DataW H)} {before : List MemPlace} (hW : DataW.Whole enc P fn.params.toList s.vars false W args.toList ds gs before) (hb : Below W.heap.size W W') :
    s.post enc P fn false true false false W args (.bool true) W' := by
  have hW' := hW
  have hlt := hW.lt
  obtain ⟨p, q, hA, hV, rfl, hfz, hnd⟩ := hW
  rw [hv] at hV
  obtain ⟨rfl, rfl⟩ := trodVars_none hV
  have e := hs ds (trodAll_length hA)
  simp only [List.append_nil] at hlt hW'
  refine ⟨ds, [], _, [], p, [], hW', ?_, ?_, ?_, hb.frame _, fun h => by cases h⟩
  · rw [List.append_nil, e, hres]
    exact trodAll_mk1 (shut_bool hbool true)
  · rw [List.append_nil, e]
    exact trodAll_below hl hb hread hA fun x hx => hlt x (by simpa using hx)
  · rw [List.append_nil, e, hv]; rfl
end
end Go.Proofs.YtjlchookakbomaaGreatDoor
namespace Go.Proofs.YtjlchookakbomaaGreatDoor
open Go.RowKit

theorem hanEt : Tryz.prog.globalNamed "errors.errorType" = some 2 := by kernel_rfl
theorem hanRt : (Tryz.prog.cutTypes.find? (·.1 == "internal/reflectlite.rtype")).map (·.2) = some 188 := by kernel_rfl
theorem hanOne : ((List.range 336).filter fun t => Tryz.prog.rowNamed t [101, 114, 114, 111, 114]) = [28] := by kernel_rfl
theorem hanSize : Tryz.prog.types.size = 336 := by kernel_rfl
theorem hanW_of {L : List (String × DataW Unit)} {W : World} (hm : ("errors.errorType", Rows.laid_errors_errorType) ∈ L) (h : laidMetH Tryz.prog L W) : HanW W := by
  have hf : ("errors.errorType", Rows.laid_errors_errorType) ∈ L.filter (fun x => x.snd.handleName?.isSome) := List.mem_filter.2 ⟨hm, rfl⟩
  unfold laidMetH at h
  split at h
  · rename_i hE; rw [hE] at hf; cases hf
  rename_i hE
  rw [hE] at hf
  obtain ⟨name, u, ty, e1, e2, e3, e4, e5⟩ := h.2 _ hf
  have en : name = [101, 114, 114, 111, 114] := (Option.some.inj e1).symm
  subst en
  obtain rfl := Option.some.inj (hanRt.symm.trans e2)
  have hm : ty ∈ (List.range 336).filter fun t => Tryz.prog.rowNamed t [101, 114, 114, 111, 114] := List.mem_filter.2 ⟨List.mem_range.2 (by rw [← hanSize]; exact e3), e4⟩
  rw [hanOne] at hm
  obtain rfl := List.mem_singleton.1 hm
  have hh : typeHandle Tryz.prog 28 = .pointer (some ⟨13, 28, none⟩) := by kernel_rfl
  rw [hh] at e5
  simpa [HanW] using World.var?_cell hanEt e5 0
end Go.Proofs.YtjlchookakbomaaGreatDoor
namespace Go.Proofs.YtjlchookakbomaaGreatDoor
theorem laidMet_over {P : Program} {W : World} {L : List (String × DataW Unit)} (args : Array Value) (hf : W.layFits P L [] = true) (hi : W.layIfaces P L (W.layVars P L) = true) :
    laidMet P L ((W.layVars P L).forCall (fun _ _ => 0) ⟨#[], args, []⟩).memory := by
  have e1 : (L.filter fun x => (L.map (·.1)).contains x.1) = L := List.filter_eq_self.2 fun x hx => List.contains_iff_mem.2 (List.mem_map.2 ⟨x, hx, rfl⟩)
  have e2 : (L.filter fun x => !(L.map (·.1)).contains x.1) = [] := List.filter_eq_nil_iff.2 fun x hx => by rw [List.contains_iff_mem.2 (List.mem_map.2 ⟨x, hx, rfl⟩)]; simp
  have h : laidMet P L (W.layVars P L) := laidMet_layVars (w0 := W) (L.map (·.1)) [] (by rw [e1]) (by rw [e1]; exact hf) (by rw [e1]; exact hi) (by rw [e2]; exact LaidIn.none)
  exact h.of_heap (by simp [World.memory, World.forCall, Input.heap])
end Go.Proofs.YtjlchookakbomaaGreatDoor
