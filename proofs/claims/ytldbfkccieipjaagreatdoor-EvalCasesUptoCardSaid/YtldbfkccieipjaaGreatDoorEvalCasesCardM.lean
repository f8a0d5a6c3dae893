/- The law EvalCases, proved where what it reads is of bulk at most 1048576: the call returns true of every input, and turns nothing that was there. Conditions: the row's own (the listed variables hold what the program's text lays; the card ties them). -/
import Derived.Test.YtldbfkccieipjaaGreatDoorEvCa
import Derived.Test.YtldbfkccieipjaaGreatDoorEf23
import Derived.Test.YtldbfkccieipjaaGreatDoorEf3
import Derived.Test.YtldbfkccieipjaaGreatDoorEf7
import Derived.Test.YtldbfkccieipjaaGreatDoorEf4
import Derived.Test.YtldbfkccieipjaaGreatDoorEf12
import Derived.Test.YtldbfkccieipjaaGreatDoorRows
import Derived.Test.YtldbfkccieipjaaGreatDoorEf8
import Derived.OpenShut
import Derived.Deep.Slices
import Derived.Deep.Fields
import Derived.ChangeSame
import Derived.Test.YtldbfkccieipjaaGreatDoorCards
import Derived.Test.YtldbfkccieipjaaGreatDoorTie
import Derived.Deep.DeepHandedRow
import Derived.Deep.DeepWitnessRowRef
import Derived.Stop.Joined
import Derived.Test.YtldbfkccieipjaaGreatDoorEf16
namespace Go.Proofs.YtldbfkccieipjaaGreatDoor
open Go.RowKit Ms
open Dcm (okD)
theorem aof_lessC (c d o : Int) (hd : okD c d) (ho : 0 ≤ o ∧ o ≤ 9) : ∃ (A S : Int) (Z : Bool), (∀ w : World, Calls Tryz.prog 14 #[.agg #[.int .i64 c, .int .i64 d], .agg #[.int .i64 (-o), .int .i64 0]] w fun e w' => e = .returned (.tuple #[.agg #[.int .i64 A, .int .i64 S], .bool Z]) ∧ Below w.heap.size w w') ∧ (∀ L, (evS L).less c d o = if Z then some (A, S) else none) ∧ (Z = true → okD A S) := by
  by_cases h : addOk c d (-o) 0
  · exact ⟨_, _, true, fun w => aof_yes c d (-o) 0 w h, fun L => if_pos h, fun _ => less_okd (L := []) (c := c) (s := d) (o := o) (l := (_, _)) (if_pos h)⟩
  · exact ⟨0, 0, false, fun w => aof_bad c d (-o) 0 w hd ⟨by omega, by omega, by omega, by omega⟩ h, fun L => if_neg h, fun e => by cases e⟩
theorem SI.c3' {w0 : World} {q : Nat} {K : Int} {T : List UInt8} {O : Int} {v : Value} {l : List It} {w : World} (h : SI w0 q K T O v l w) : w.cell? ⟨q, 3, none⟩ = some v := by rw [Lib.cell_of_heap h.bx]; rfl
set_option maxRecDepth 100000 in
set_option maxHeartbeats 8000000 in
theorem ecases_out (vk : Value) (x o c d : Int) (lang : List UInt8) (w : World) (hw : MW w) (hE : EvW w) (h : ¬ ((0 ≤ x ∧ x ≤ 999) ∧ (0 ≤ o ∧ o ≤ 9) ∧ okD c d)) :
    Calls Tryz.prog 9 #[vk, .int .i64 x, .int .i64 o, .agg #[.int .i64 c, .int .i64 d], .string ⟨lang.toArray⟩] w fun e w' => e = .returned (.bool true) ∧ Below w.heap.size w w' := by
  have W0 := Lib.hid (blw_alloc w (.cells #[.int .i64 c, .int .i64 d] 31))
  have B0 := Lib.hid (Boxed.made w #[.int .i64 c, .int .i64 d] 31)
  have CC := Lib.hid (counted_any _ (hw.below W0.out) (hE.below W0.out))
  clear hw hE
  have key : decide (x < 0) = true ∨ (decide (x < 0) = false ∧ decide (999 < x) = true) ∨ (decide (x < 0) = false ∧ decide (999 < x) = false ∧ decide (o < 0) = true) ∨ (decide (x < 0) = false ∧ decide (999 < x) = false ∧ decide (o < 0) = false ∧ decide (9 < o) = true) ∨ (decide (x < 0) = false ∧ decide (999 < x) = false ∧ decide (o < 0) = false ∧ decide (9 < o) = false ∧ ¬ okD c d) := by
    by_cases h1 : x < 0
    · exact .inl (decide_eq_true h1)
    by_cases h2 : 999 < x
    · exact .inr (.inl ⟨decide_eq_false h1, decide_eq_true h2⟩)
    by_cases h3 : o < 0
    · exact .inr (.inr (.inl ⟨decide_eq_false h1, decide_eq_false h2, decide_eq_true h3⟩))
    by_cases h4 : 9 < o
    · exact .inr (.inr (.inr (.inl ⟨decide_eq_false h1, decide_eq_false h2, decide_eq_false h3, decide_eq_true h4⟩)))
    · exact .inr (.inr (.inr (.inr ⟨decide_eq_false h1, decide_eq_false h2, decide_eq_false h3, decide_eq_false h4, fun g => h ⟨by omega, by omega, g⟩⟩)))
  clear h
  rcases key with k1 | ⟨k1, k2⟩ | ⟨k1, k2, k3⟩ | ⟨k1, k2, k3, k4⟩ | ⟨k1, k2, k3, k4, hd⟩
  all_goals
    go_enter Tryz.func9, Tryz.ntmps9
    go_wp2_with fail
    refine CC.out.mono ?_
    rintro e w1 ⟨rfl, hb⟩
    have W1 := Lib.hid (blw_trans W0.out hb)
    have B1 := Lib.hid (B0.out.below hb)
    clear hb CC W0 B0
    have d0 : w1.cell? ⟨w.heap.size, 0, none⟩ = some (.int .i64 c) := B1.out.cell 0 _ rfl
    have d1 : w1.cell? ⟨w.heap.size, 1, none⟩ = some (.int .i64 d) := B1.out.cell 1 _ rfl
    have dl := B1.out.lt
    go_wp2_with fail
    first
      | (go_ret
         exact ⟨rfl, W1.out⟩)
      | (refine (dflt_yes c d _ hd).mono ?_
         rintro e w2 ⟨rfl, hb⟩
         have W2 := Lib.hid (blw_trans W1.out hb)
         clear hb
         go_wp2_with fail
         go_ret
         exact ⟨rfl, W2.out⟩)
set_option maxRecDepth 100000 in
set_option maxHeartbeats 40000000 in
theorem ecases_in {vk : Value} (ks : List Bool) (x o c d : Int) (lang : List UInt8) (w : World) (hw : MW w) (hE : EvW w) (hG : HanW w) (hk : SlAt 1 BoolC w vk ks) (hx : 0 ≤ x ∧ x ≤ 999) (ho : 0 ≤ o ∧ o ≤ 9) (hd : okD c d) :
    Calls Tryz.prog 9 #[vk, .int .i64 x, .int .i64 o, .agg #[.int .i64 c, .int .i64 d], .string ⟨lang.toArray⟩] w fun e w' => e = .returned (.bool true) ∧ Below w.heap.size w w' := by
  obtain ⟨t0, t1, t2, t3, t4, b, hS, hb0, CL, _⟩ := lang_set lang
  obtain ⟨iC, hiC, hC0, hC1, hC2⟩ := info_parts infoCase
  have W0 := Lib.hid (blw_alloc w (.cells #[.int .i64 c, .int .i64 d] 31))
  have B0 := Lib.hid (Boxed.made w #[.int .i64 c, .int .i64 d] 31)
  have CC := Lib.hid (counted_any _ (hw.below W0.out) (hE.below W0.out))
  have CD := Lib.hid fun w => dflt_no c d w hd
  obtain ⟨NX, rfl⟩ : ∃ n : Nat, x = (n : Int) := ⟨x.toNat, by omega⟩
  have hnx : NX ≤ 999 := by omega
  obtain ⟨DG, hDG⟩ : ∃ DG, DG = Lib.decDigits NX := ⟨_, rfl⟩
  have CG := Lib.hid fun wx => (show Calls Tryz.prog 25 #[.int .i64 (NX : Int), .int .i64 0] wx fun e w' => e = .returned (.string ⟨DG.toArray⟩) ∧ Below wx.heap.size wx w' from by
    have := digits_none (NX : Int) wx (by omega) (by omega)
    rw [Int.toNat_natCast, ← hDG] at this
    exact this)
  obtain ⟨OWN, hOW⟩ : ∃ OWN, OWN = ownK NX := ⟨_, rfl⟩
  have hol : OWN.length ≤ 4 := by rw [hOW]; exact own_len hnx
  have HOL := Lib.hid hol
  have AD : ∀ w, (Op.stringOp .add ⟨#[61]⟩ ⟨DG.toArray⟩).run Tryz.prog w = .ok (.string ⟨OWN.toArray⟩) w := fun w => by
    have e : OWN = 61 :: DG := by rw [hOW, hDG]; rfl
    rw [e]
    exact add_str (P := Tryz.prog) [61] DG (by rw [e] at hol; simp at *; omega) w
  obtain ⟨A1, C1, Z1, hc1, hl1, hk1⟩ := aof_lessC c d o hd ho
  have CA := Lib.hid hc1
  have CO := Lib.hid fun wx => order_any c d (NX : Int) 0 wx hd ⟨by omega, by omega, by omega, by omega⟩
  have HO := Lib.hid (Dcm.ordV_nrm hd (show okD (NX : Int) 0 from ⟨by omega, by omega, by omega, by omega⟩)).2
  have CK := Lib.hid fun (hz : okD A1 C1) (wx : World) (hb : Below w.heap.size w wx) => kind_ok t0 t1 t2 t3 t4 A1 C1 wx (hE.t.below hb) (hE.k.below hb) hS.2 hS.1 hz
  have CE := Lib.hid fun (wx : World) (hb : Below w.heap.size w wx) => sameErr_yes (ErrNo.no 1) wx (hG.below hb)
  have C5 := Lib.hid fun wx => five_any wx
  have CLh := Lib.hid CL
  unfold setV at CLh
  generalize (if b = true then Value.nilIface else errV 2) = EB at CLh
  have CS := Lib.hid fun (i : Nat) (v va : Value) (wx : World) (hb : Below w.heap.size w wx) (hm : MsgAt 2 wx v (caM o (OWN :: selK i ks))) (ha : ArgsAt wx va (caA c d)) => esay_any lang t0 t1 t2 t3 t4 b wx (hw.below hb) (hE.below hb) hm (by show 1 ≤ 2000000; omega) ha (by show 1 ≤ 2000000; omega) (fun a h => by
    obtain rfl : a = ⟨[110], true, c, d, []⟩ := by simpa [caA] using h
    show 1 ≤ 4000000000; omega) (fun a h => by
    obtain rfl : a = ⟨[110], true, c, d, []⟩ := by simpa [caA] using h
    show 0 ≤ 2000000; omega) hS hb0 CL
  have HS := Lib.hid fun (i : Nat) => (show (Z1 = true → sayE [t0, t1, t2, t3, t4] 2 (caM o (OWN :: selK i ks)) (caA c d) = 0 ∧ sayT [t0, t1, t2, t3, t4] 2 (caM o (OWN :: selK i ks)) (caA c d) = if Dcm.nrm c d = Dcm.nrm (NX : Int) 0 then OWN else if (selK i ks).contains (Rul.kindS [t0, t1, t2, t3, t4] (Rul.opsD A1 C1) 0) then Rul.kindS [t0, t1, t2, t3, t4] (Rul.opsD A1 C1) 0 else other) ∧ (Z1 = false → sayE [t0, t1, t2, t3, t4] 2 (caM o (OWN :: selK i ks)) (caA c d) = 1) from by
    have h := ec_said t0 t1 t2 t3 t4 (o := o) (c := c) (d := d) (n := NX) (i := i) ks ho hnx hd
    have hl := hl1 [t0, t1, t2, t3, t4]
    rw [hOW]
    refine ⟨fun hz => ?_, fun hz => ?_⟩
    · rw [hz, if_pos rfl] at hl
      exact h.1 (A1, C1) hl
    · rw [hz, if_neg (by decide)] at hl
      exact h.2 hl)
  generalize Rul.kindS [t0, t1, t2, t3, t4] (Rul.opsD A1 C1) 0 = KD at *
  obtain ⟨A, cap, rfl, hnk, HX⟩ : ∃ A cap, vk = .slice A ks.length cap ∧ ks.length ≤ 9223372036854775807 ∧ Hid (∀ (j : Nat) z, ks[j]? = some z → ∃ b off, A = some ⟨b, off, none⟩ ∧ w.cell? ⟨b, off + j, none⟩ = some (.bool z)) := by
    rcases hk with ⟨rfl, a, c, rfl⟩ | ⟨b, off, cap, rfl, hp, h3, h4, h5⟩
    · exact ⟨a, c, rfl, by simp, Lib.hid fun j x hx => by simp at hx⟩
    · refine ⟨_, cap, rfl, by unfold maxLen at h4; omega, Lib.hid fun j z hz => ⟨b, off, rfl, ?_⟩⟩
      have := h5 j z hz
      rw [Nat.mul_one] at this
      exact this
  have k1 : decide ((NX : Int) < 0) = false := decide_eq_false (by omega)
  have k2 : decide (999 < (NX : Int)) = false := decide_eq_false (by omega)
  have k3 : decide (o < 0) = false := decide_eq_false (by omega)
  have k4 : decide (9 < o) = false := decide_eq_false (by omega)
  have wo : IntKind.i64.wrap (-o) = -o := IntWalk.i64_in _ (by omega)
  have HZ := Lib.hid hk1
  clear hw hE hG hS hb0 CL hc1 hl1 hk1 hd hOW hDG hol hx
  generalize hN : ks.length = NK at *
  have HN := Lib.hid hN
  clear hN
  go_enter Tryz.func9, Tryz.ntmps9
  go_wp2_with fail
  refine CC.out.mono ?_
  rintro e w1 ⟨rfl, hb⟩
  have W1 := Lib.hid (blw_trans W0.out hb)
  have B1 := Lib.hid (B0.out.below hb)
  clear hb CC W0 B0
  have d0 : w1.cell? ⟨w.heap.size, 0, none⟩ = some (.int .i64 c) := B1.out.cell 0 _ rfl
  have d1 : w1.cell? ⟨w.heap.size, 1, none⟩ = some (.int .i64 d) := B1.out.cell 1 _ rfl
  have dl := B1.out.lt
  go_wp2_with fail
  refine (CD.out _).mono ?_
  rintro e w2 ⟨rfl, hb⟩
  have W2 := Lib.hid (blw_trans W1.out hb)
  have B2 := Lib.hid (B1.out.below hb)
  clear hb d0 d1 dl B1 W1 CD
  have S0 := Lib.hid (show SI w2 w2.heap.size 4 [110] o (.slice none 0 0) [] (w2.alloc (.cells #[.int .i64 4, .string ⟨#[110]⟩, .int .i64 o, .slice none 0 0] 34)) from ⟨CI.nil _ _, obj_made w2 _ _, by simp, Nat.le_refl _, blw_alloc _ _⟩)
  have hqd : w.heap.size < w2.heap.size := B2.out.lt
  go_wp2_with fail
  obtain ⟨q, hq⟩ : ∃ q, q = w2.heap.size := ⟨_, rfl⟩
  have S1 : Hid (SI w2 q 4 [110] o (.slice none 0 0) [] (w2.alloc (.cells #[.int .i64 4, .string ⟨#[110]⟩, .int .i64 o, .slice none 0 0] 34))) := by rw [hq]; exact S0
  have hqe : ¬ w.heap.size = q := by omega
  have hqe' : ¬ q = w.heap.size := by omega
  rw [← hq]
  generalize w2.alloc (.cells #[.int .i64 4, .string ⟨#[110]⟩, .int .i64 o, .slice none 0 0] 34) = w3 at *
  clear S0 hq hqd
  obtain ⟨v, l, S2, K2⟩ : ∃ v l, Hid (SI w2 q 4 [110] o v l w3) ∧ Hid (KeyW [] l) := ⟨_, [], S1, Lib.hid KeyW.nil⟩
  clear S1
  refine (CG.out _).mono ?_
  rintro e w4 ⟨rfl, hb⟩
  have S3 := Lib.hid (S2.out.below hb)
  clear hb S2 CG
  have hll := K2.out.len
  have HLL := Lib.hid (show l.length ≤ 5 from by rw [hll]; simp)
  clear hll
  have P11 := Lib.hid (S3.out.below (blw_alloc w4 (.cells #[.int .i64 1, .string ⟨OWN.toArray⟩, .int .i64 0, .slice none 0 0] 34)))
  have P1 := Lib.hid (P11.out.below (blw_alloc (w4.alloc (.cells #[.int .i64 1, .string ⟨OWN.toArray⟩, .int .i64 0, .slice none 0 0] 34)) (.cells #[.string ⟨OWN.toArray⟩, .slice (some ⟨w4.heap.size, 0, none⟩) 1 1] 41)))
  have B1 := Lib.hid (blw_trans (blw_alloc w4 (.cells #[.int .i64 1, .string ⟨OWN.toArray⟩, .int .i64 0, .slice none 0 0] 34)) (blw_alloc (w4.alloc (.cells #[.int .i64 1, .string ⟨OWN.toArray⟩, .int .i64 0, .slice none 0 0] 34)) (.cells #[.string ⟨OWN.toArray⟩, .slice (some ⟨w4.heap.size, 0, none⟩) 1 1] 41)))
  have HC1 := Lib.hid (Boxed.made (w4.alloc (.cells #[.int .i64 1, .string ⟨OWN.toArray⟩, .int .i64 0, .slice none 0 0] 34)) #[.string ⟨OWN.toArray⟩, .slice (some ⟨w4.heap.size, 0, none⟩) 1 1] 41)
  have HN1 := Lib.hid (((blw_alloc (w4.alloc (.cells #[.int .i64 1, .string ⟨OWN.toArray⟩, .int .i64 0, .slice none 0 0] 34)) (.cells #[.string ⟨OWN.toArray⟩, .slice (some ⟨w4.heap.size, 0, none⟩) 1 1] 41)).block w4.heap.size (by simp)).trans (obj_made w4 #[.int .i64 1, .string ⟨OWN.toArray⟩, .int .i64 0, .slice none 0 0] 34))
  simp only [World.size_alloc] at HC1
  have c3 := S3.out.c3'
  have ql := S3.out.lt
  go_wp2_with (at_builtin; go_loud (refine wpList_append_own_at _ rfl _ _ 32 rfl w2.heap.size 41 iC _ 2 40 Tryz.underlying32 hiC hC0 hC1 hC2 rfl (by decide) v l.length (itF l) rfl P1.out.ci.row ⟨_, 0, none⟩ 1 1 [.string ⟨OWN.toArray⟩, .slice (some ⟨w4.heap.size, 0, none⟩) 1 1] rfl rfl (boxed_add HC1.out) (fun u hu => by simp at hu; rcases hu with rfl | rfl <;> rfl) (by have := HLL.out; unfold maxLen; omega) (by have := HLL.out; omega) P1.out.bel.size ?_; intro v' w6 hown hgrow _ _; obtain ⟨av, nv, rfl⟩ := mrow_slice hown; have PZ := Lib.hid (S3.out.add (OWN, OWN, w4.heap.size) B1.out (Nat.le_refl _) HN1.out hown hgrow); have PB := Lib.hid (show Below w2.heap.size w2 w6 from P1.out.bel.grown hgrow P1.out.bel.size (fun k hk => (P1.out.ci.own hk).1)); have qc := Lib.hid (show w6.heap[q]? = some (.cells #[.int .i64 4, .string ⟨#[110]⟩, .int .i64 o, v] 34 (0, 0)) from by rw [hgrow.block q P1.out.lt (fun e => P1.out.ci.node_ne P1.out.bx e.symm)]; exact P1.out.bx); clear hown hgrow c3 ql; have c0 : World.cell? w6 ⟨q, 0, none⟩ = some (.int .i64 4) := (by first | (rw [Lib.cell_of_heap qc.out]; rfl) | rw [Lib.cell_of_heap qc.out]); have c1 : World.cell? w6 ⟨q, 1, none⟩ = some (.string ⟨#[110]⟩) := (by first | (rw [Lib.cell_of_heap qc.out]; rfl) | rw [Lib.cell_of_heap qc.out]); have c2 : World.cell? w6 ⟨q, 2, none⟩ = some (.int .i64 o) := (by first | (rw [Lib.cell_of_heap qc.out]; rfl) | rw [Lib.cell_of_heap qc.out]); have c3 : World.cell? w6 ⟨q, 3, none⟩ = some v := (by first | (rw [Lib.cell_of_heap qc.out]; rfl) | rw [Lib.cell_of_heap qc.out]); have f3 := Lib.frozen_of_heap qc.out 3; have ql := (Array.getElem?_eq_some_iff.1 qc.out).1))
  have S5 := PZ
  have K5 := Lib.hid (K2.out.add OWN w4.heap.size)
  generalize World.setCell w6 ⟨q, 3, none⟩ (.slice av (l.length + 1) nv) = w7 at *
  clear c0 c1 c2 c3 f3 ql HN1 B1 P1 P11 HC1 qc PB PZ S3 K2 HLL AD
  go_loopw [14] (fun v14 wr => ∃ (i : Nat) (v : Value) (l : List It), v14 = .int .i64 (i : Int) ∧ i ≤ 5 ∧ i ≤ NK ∧ Hid (SI w2 q 4 [110] o v l wr) ∧ Hid (KeyW (OWN :: selK i ks) l)) (fun v14 _ => 5 - (RowKit.intOf v14).toNat)
  case atStart => exact ⟨0, _, _, rfl, by omega, Nat.zero_le _, S5, K5⟩
  case round =>
    obtain ⟨i, v, l, rfl, hi5, hiN, HP, HK⟩ := hrel
    have hll := HK.out.len
    have hsl := selK_len i ks
    have HLL := Lib.hid (show l.length ≤ 6 from by rw [hll, List.length_cons]; omega)
    clear hll hsl
    have wi : IntKind.i64.wrap ((i : Int) + 1) = (i : Int) + 1 := IntWalk.i64_in _ (by omega)
    have hi0 : (0 : Int) ≤ (i : Int) := by omega
    by_cases hlt : i < 5 ∧ i < NK
    · obtain ⟨hl5, hlN⟩ := hlt
      have j5 : decide ((i : Int) < 5) = true := decide_eq_true (by omega)
      have jN : decide ((i : Int) < (NK : Int)) = true := decide_eq_true (by omega)
      have jN' : (i : Int) < (NK : Int) := by omega
      obtain ⟨kb, hkb⟩ : ∃ kb, ks[i]? = some kb := ⟨ks[i]'(by have := HN.out; omega), List.getElem?_eq_getElem (by have := HN.out; omega)⟩
      obtain ⟨KN, hKN⟩ : ∃ KN, five[i]? = some KN := ⟨five[i]'(by show i < 5; omega), List.getElem?_eq_getElem (by show i < 5; omega)⟩
      obtain ⟨bk, off, rfl, hg⟩ := HX.out i kb hkb
      have g := cell_keep hg (blw_trans W2.out HP.out.bel)
      have gl := World.block_lt_of_cell? _ _ g
      have HKn := Lib.hid (selK_step hKN hkb)
      have HKl := Lib.hid (five_fine (List.mem_of_getElem? hKN)).2.2.1
      clear hg hkb CS HS CA CO HO CK CE CLh HX
      cases kb with
      | false =>
        go_wp2_with fail
        go_roundw
        case rel => exact ⟨i + 1, v, l, by go_num, by omega, by omega, HP, Lib.hid (by rw [HKn.out]; exact HK.out)⟩
        case measure => simp [RowKit.intOf]; omega
      | true =>
        go_wp2_with fail
        refine (C5.out _).mono ?_
        rintro e w5 ⟨V5, rfl, h5, hb⟩
        have S3 := Lib.hid (HP.out.below hb)
        have hf : ∃ b5 o5 c5, V5 = .slice (some ⟨b5, o5, none⟩) 5 c5 ∧ w5.cell? ⟨b5, o5 + i, none⟩ = some (.string ⟨KN.toArray⟩) := by
          rcases h5 with ⟨h5, _⟩ | ⟨b5, o5, c5, rfl, _, _, _, h5⟩
          · cases h5
          · exact ⟨b5, o5, c5, rfl, h5 i KN hKN⟩
        obtain ⟨b5, o5, c5, rfl, g5⟩ := hf
        have gl5 := World.block_lt_of_cell? _ _ g5
        have jF : (i : Int) < 5 := by omega
        clear hb h5 HP C5 g gl hKN
        have P21 := Lib.hid (S3.out.below (blw_alloc w5 (.cells #[.int .i64 1, .string ⟨KN.toArray⟩, .int .i64 0, .slice none 0 0] 34)))
        have P2 := Lib.hid (P21.out.below (blw_alloc (w5.alloc (.cells #[.int .i64 1, .string ⟨KN.toArray⟩, .int .i64 0, .slice none 0 0] 34)) (.cells #[.string ⟨KN.toArray⟩, .slice (some ⟨w5.heap.size, 0, none⟩) 1 1] 41)))
        have B2' := Lib.hid (blw_trans (blw_alloc w5 (.cells #[.int .i64 1, .string ⟨KN.toArray⟩, .int .i64 0, .slice none 0 0] 34)) (blw_alloc (w5.alloc (.cells #[.int .i64 1, .string ⟨KN.toArray⟩, .int .i64 0, .slice none 0 0] 34)) (.cells #[.string ⟨KN.toArray⟩, .slice (some ⟨w5.heap.size, 0, none⟩) 1 1] 41)))
        have HC2 := Lib.hid (Boxed.made (w5.alloc (.cells #[.int .i64 1, .string ⟨KN.toArray⟩, .int .i64 0, .slice none 0 0] 34)) #[.string ⟨KN.toArray⟩, .slice (some ⟨w5.heap.size, 0, none⟩) 1 1] 41)
        have HN2 := Lib.hid (((blw_alloc (w5.alloc (.cells #[.int .i64 1, .string ⟨KN.toArray⟩, .int .i64 0, .slice none 0 0] 34)) (.cells #[.string ⟨KN.toArray⟩, .slice (some ⟨w5.heap.size, 0, none⟩) 1 1] 41)).block w5.heap.size (by simp)).trans (obj_made w5 #[.int .i64 1, .string ⟨KN.toArray⟩, .int .i64 0, .slice none 0 0] 34))
        simp only [World.size_alloc] at HC2
        have c3 := S3.out.c3'
        have ql := S3.out.lt
        go_wp2_with (at_builtin; go_loud (refine wpList_append_own_at _ rfl _ _ 32 rfl w2.heap.size 41 iC _ 2 40 Tryz.underlying32 hiC hC0 hC1 hC2 rfl (by decide) v l.length (itF l) rfl P2.out.ci.row ⟨_, 0, none⟩ 1 1 [.string ⟨KN.toArray⟩, .slice (some ⟨w5.heap.size, 0, none⟩) 1 1] rfl rfl (boxed_add HC2.out) (fun u hu => by simp at hu; rcases hu with rfl | rfl <;> rfl) (by have := HLL.out; unfold maxLen; omega) (by have := HLL.out; omega) P2.out.bel.size ?_; intro v' w6 hown hgrow _ _; obtain ⟨av, nv, rfl⟩ := mrow_slice hown; have PZ := Lib.hid (S3.out.add (KN, KN, w5.heap.size) B2'.out (Nat.le_refl _) HN2.out hown hgrow); have PB := Lib.hid (show Below w2.heap.size w2 w6 from P2.out.bel.grown hgrow P2.out.bel.size (fun k hk => (P2.out.ci.own hk).1)); have qc := Lib.hid (show w6.heap[q]? = some (.cells #[.int .i64 4, .string ⟨#[110]⟩, .int .i64 o, v] 34 (0, 0)) from by rw [hgrow.block q P2.out.lt (fun e => P2.out.ci.node_ne P2.out.bx e.symm)]; exact P2.out.bx); clear hown hgrow c3 ql; have c0 : World.cell? w6 ⟨q, 0, none⟩ = some (.int .i64 4) := (by first | (rw [Lib.cell_of_heap qc.out]; rfl) | rw [Lib.cell_of_heap qc.out]); have c1 : World.cell? w6 ⟨q, 1, none⟩ = some (.string ⟨#[110]⟩) := (by first | (rw [Lib.cell_of_heap qc.out]; rfl) | rw [Lib.cell_of_heap qc.out]); have c2 : World.cell? w6 ⟨q, 2, none⟩ = some (.int .i64 o) := (by first | (rw [Lib.cell_of_heap qc.out]; rfl) | rw [Lib.cell_of_heap qc.out]); have c3 : World.cell? w6 ⟨q, 3, none⟩ = some v := (by first | (rw [Lib.cell_of_heap qc.out]; rfl) | rw [Lib.cell_of_heap qc.out]); have f3 := Lib.frozen_of_heap qc.out 3; have ql := (Array.getElem?_eq_some_iff.1 qc.out).1))
        have K5 := Lib.hid (show KeyW (OWN :: selK (i + 1) ks) (l ++ [(KN, KN, w5.heap.size)]) from by rw [show selK (i + 1) ks = selK i ks ++ [KN] from HKn.out, ← List.cons_append]; exact HK.out.add KN w5.heap.size)
        generalize World.setCell w6 ⟨q, 3, none⟩ (.slice av (l.length + 1) nv) = w7 at *
        clear c0 c1 c2 c3 f3 ql HN2 B2' P2 P21 HC2 qc PB HLL
        go_roundw
        case rel => exact ⟨i + 1, _, _, by go_num, by omega, by omega, PZ, K5⟩
        case measure => simp [RowKit.intOf]; omega
    · have hex : decide ((i : Int) < 5) = false ∨ (decide ((i : Int) < 5) = true ∧ decide ((i : Int) < (NK : Int)) = false) := by
        by_cases h5 : i < 5
        · exact .inr ⟨decide_eq_true (by omega), decide_eq_false (by omega)⟩
        · exact .inl (decide_eq_false (by omega))
      have hmin : ∀ j : Nat, j ≤ 5 → j ≤ NK → j ≤ i := fun j h1 h2 => by omega
      have HMIN := Lib.hid hmin
      have LM := Lib.hid fun (x : It) (hx : x ∈ l) => (show x.1.length ≤ 2000000 ∧ x.2.1.length ≤ 2000000 from by
        obtain ⟨k, hk, e1, e2⟩ := HK.out.mem hx
        rw [e1, e2]
        rcases List.mem_cons.1 hk with rfl | hk
        · have := HOL.out; omega
        · have := (five_fine (selK_mem hk)).2.2.1; omega)
      have KC := Lib.hid fun p => HK.out.cases p
      have CSi := Lib.hid (CS.out i)
      have HSi := Lib.hid (HS.out i)
      clear HS CS hlt hmin HK
      have hex2 : decide ((i : Int) < 5) = false ∨ (decide ((i : Int) < 5) = true ∧ decide ((i : Int) < (NK : Int)) = false ∧ ¬ (i : Int) < (NK : Int) ∧ decide (i < NK) = false ∧ ¬ i < NK) := hex.imp_right fun h => ⟨h.1, h.2, of_decide_eq_false h.2, decide_eq_false (by have := of_decide_eq_false h.2; omega), by have := of_decide_eq_false h.2; omega⟩
      clear hex
      rcases hex2 with j5 | ⟨j5, jN, jA, jB, jC⟩
      all_goals
        obtain ⟨va, vn, rfl⟩ := mrow_slice HP.out.ci.row
        have P31 := Lib.hid (HP.out.below (blw_alloc wr (.cells #[.int .i64 1, .string ⟨#[111, 116, 104, 101, 114]⟩, .int .i64 0, .slice none 0 0] 34)))
        have P3 := Lib.hid (P31.out.below (blw_alloc (wr.alloc (.cells #[.int .i64 1, .string ⟨#[111, 116, 104, 101, 114]⟩, .int .i64 0, .slice none 0 0] 34)) (.cells #[.string ⟨#[111, 116, 104, 101, 114]⟩, .slice (some ⟨wr.heap.size, 0, none⟩) 1 1] 41)))
        have B3 := Lib.hid (blw_trans (blw_alloc wr (.cells #[.int .i64 1, .string ⟨#[111, 116, 104, 101, 114]⟩, .int .i64 0, .slice none 0 0] 34)) (blw_alloc (wr.alloc (.cells #[.int .i64 1, .string ⟨#[111, 116, 104, 101, 114]⟩, .int .i64 0, .slice none 0 0] 34)) (.cells #[.string ⟨#[111, 116, 104, 101, 114]⟩, .slice (some ⟨wr.heap.size, 0, none⟩) 1 1] 41)))
        have HC3 := Lib.hid (Boxed.made (wr.alloc (.cells #[.int .i64 1, .string ⟨#[111, 116, 104, 101, 114]⟩, .int .i64 0, .slice none 0 0] 34)) #[.string ⟨#[111, 116, 104, 101, 114]⟩, .slice (some ⟨wr.heap.size, 0, none⟩) 1 1] 41)
        have HN3 := Lib.hid (((blw_alloc (wr.alloc (.cells #[.int .i64 1, .string ⟨#[111, 116, 104, 101, 114]⟩, .int .i64 0, .slice none 0 0] 34)) (.cells #[.string ⟨#[111, 116, 104, 101, 114]⟩, .slice (some ⟨wr.heap.size, 0, none⟩) 1 1] 41)).block wr.heap.size (by simp)).trans (obj_made wr #[.int .i64 1, .string ⟨#[111, 116, 104, 101, 114]⟩, .int .i64 0, .slice none 0 0] 34))
        simp only [World.size_alloc] at HC3
        have c3 := HP.out.c3'
        have ql := HP.out.lt
        go_upto_region 13 with fail
        go_wp2_with (at_builtin; go_loud (refine wpList_append_own_at _ rfl _ _ 32 rfl w2.heap.size 41 iC _ 2 40 Tryz.underlying32 hiC hC0 hC1 hC2 rfl (by decide) (.slice va l.length vn) l.length (itF l) rfl P3.out.ci.row ⟨_, 0, none⟩ 1 1 [.string ⟨#[111, 116, 104, 101, 114]⟩, .slice (some ⟨wr.heap.size, 0, none⟩) 1 1] rfl rfl (boxed_add HC3.out) (fun u hu => by simp at hu; rcases hu with rfl | rfl <;> rfl) (by have := HLL.out; unfold maxLen; omega) (by have := HLL.out; omega) P3.out.bel.size ?_; intro v' w6 hown hgrow _ _; obtain ⟨av, nv, rfl⟩ := mrow_slice hown; have PZ := Lib.hid (HP.out.add (other, other, wr.heap.size) B3.out (Nat.le_refl _) HN3.out hown hgrow); have PB := Lib.hid (show Below w2.heap.size w2 w6 from P3.out.bel.grown hgrow P3.out.bel.size (fun k hk => (P3.out.ci.own hk).1)); have qc := Lib.hid (show w6.heap[q]? = some (.cells #[.int .i64 4, .string ⟨#[110]⟩, .int .i64 o, (.slice va l.length vn)] 34 (0, 0)) from by rw [hgrow.block q P3.out.lt (fun e => P3.out.ci.node_ne P3.out.bx e.symm)]; exact P3.out.bx); clear hown hgrow c3 ql; have c0 : World.cell? w6 ⟨q, 0, none⟩ = some (.int .i64 4) := (by first | (rw [Lib.cell_of_heap qc.out]; rfl) | rw [Lib.cell_of_heap qc.out]); have c1 : World.cell? w6 ⟨q, 1, none⟩ = some (.string ⟨#[110]⟩) := (by first | (rw [Lib.cell_of_heap qc.out]; rfl) | rw [Lib.cell_of_heap qc.out]); have c2 : World.cell? w6 ⟨q, 2, none⟩ = some (.int .i64 o) := (by first | (rw [Lib.cell_of_heap qc.out]; rfl) | rw [Lib.cell_of_heap qc.out]); have c3 : World.cell? w6 ⟨q, 3, none⟩ = some (.slice va l.length vn) := (by first | (rw [Lib.cell_of_heap qc.out]; rfl) | rw [Lib.cell_of_heap qc.out]); have f3 := Lib.frozen_of_heap qc.out 3; have ql := (Array.getElem?_eq_some_iff.1 qc.out).1; have d0 : World.cell? w6 ⟨w.heap.size, 0, none⟩ = some (.int .i64 c) := (B2.out.below PB.out).cell 0 _ rfl; have d1 : World.cell? w6 ⟨w.heap.size, 1, none⟩ = some (.int .i64 d) := (B2.out.below PB.out).cell 1 _ rfl; have dl := (B2.out.below PB.out).lt))
        have hs67 : (World.setCell w6 ⟨q, 3, none⟩ (.slice av (l.length + 1) nv)).heap.size = w6.heap.size := by simp
        generalize World.setCell w6 ⟨q, 3, none⟩ (.slice av (l.length + 1) nv) = w7 at *
        rw [← hs67]
        clear hs67
        (try clear c0); (try clear c1); (try clear c2); (try clear c3); (try clear f3); (try clear ql); (try clear d0); (try clear d1); (try clear dl)
        (try clear qc); (try clear PB)
        clear HN3 B3 P3 P31 HC3
        have B8 := Lib.hid (blw_trans (blw_alloc w7 (.cells #[.int .i64 4, .string ⟨#[110]⟩, .int .i64 o, .slice av (l.length + 1) nv] 34)) (blw_alloc (w7.alloc (.cells #[.int .i64 4, .string ⟨#[110]⟩, .int .i64 o, .slice av (l.length + 1) nv] 34)) (.cells #[.string ⟨#[110]⟩, .bool true, .int .i64 c, .int .i64 d, .string ⟨#[]⟩] 36)))
        have W8 := Lib.hid (blw_trans (blw_trans W2.out PZ.out.bel) B8.out)
        have P8 := Lib.hid (PZ.out.below B8.out)
        have BN := Lib.hid ((Boxed.made w7 #[.int .i64 4, .string ⟨#[110]⟩, .int .i64 o, .slice av (l.length + 1) nv] 34).alloc (.cells #[.string ⟨#[110]⟩, .bool true, .int .i64 c, .int .i64 d, .string ⟨#[]⟩] 36))
        have M8 := Lib.hid (show MsgAt 2 ((w7.alloc (.cells #[.int .i64 4, .string ⟨#[110]⟩, .int .i64 o, .slice av (l.length + 1) nv] 34)).alloc (.cells #[.string ⟨#[110]⟩, .bool true, .int .i64 c, .int .i64 d, .string ⟨#[]⟩] 36)) (.slice (some ⟨w7.heap.size, 0, none⟩) 1 1) (caM o (OWN :: selK i ks)) from by
          have hh : caM o (OWN :: selK i ks) = [.mk 4 [110] o (itC (l ++ [(other, other, wr.heap.size)]))] := by unfold caM; rw [KC.out]
          rw [hh]
          refine msg_one (nd_cases (f := 1) (BN.out.cell 0 _ rfl) (BN.out.cell 1 _ rfl) (BN.out.cell 2 _ rfl) (BN.out.cell 3 _ rfl) (by decide) (P8.out.ci.cass fun x hx => ?_) ?_)
          · rcases List.mem_append.1 hx with hx | hx
            · exact LM.out x hx
            · obtain rfl : x = (other, other, wr.heap.size) := by simpa using hx
              exact ⟨(by show other.length ≤ 2000000; decide), (by show other.length ≤ 2000000; decide)⟩
          · have := HLL.out; unfold itC; simp; omega)
        have A8 := Lib.hid (show ArgsAt ((w7.alloc (.cells #[.int .i64 4, .string ⟨#[110]⟩, .int .i64 o, .slice av (l.length + 1) nv] 34)).alloc (.cells #[.string ⟨#[110]⟩, .bool true, .int .i64 c, .int .i64 d, .string ⟨#[]⟩] 36)) (.slice (some ⟨(w7.alloc (.cells #[.int .i64 4, .string ⟨#[110]⟩, .int .i64 o, .slice av (l.length + 1) nv] 34)).heap.size, 0, none⟩) 1 1) (caA c d) from args_box (l := caA c d) (Boxed.made _ _ _) (by show 0 < 1; omega) (by show 1 ≤ 1000; omega))
        simp only [World.size_alloc] at A8
        have CSj := Lib.hid (CSi.out _ _ _ W8.out M8.out A8.out)
        have B9 := Lib.hid ((B2.out.below PZ.out.bel).below B8.out)
        clear CSi M8 A8 BN P8 PZ HP KC LM B8 B2 HLL HOL
        generalize (w7.alloc (.cells #[.int .i64 4, .string ⟨#[110]⟩, .int .i64 o, .slice av (l.length + 1) nv] 34)).alloc (.cells #[.string ⟨#[110]⟩, .bool true, .int .i64 c, .int .i64 d, .string ⟨#[]⟩] 36) = w8 at *
        cases hZ : Z1 with
        | false =>
          have he := HSi.out.2 hZ
          rw [he] at CSj
          generalize sayT [t0, t1, t2, t3, t4] 2 (caM o (OWN :: selK i ks)) (caA c d) = TX at *
          rw [hZ] at CA
          rw [errN_one] at CSj
          clear HSi HZ hZ he CO HO CK CLh C5 HX HMIN
          refine CSj.out.mono ?_
          rintro e w9 ⟨rfl, hb⟩
          have W9 := Lib.hid (blw_trans W8.out hb)
          have Bx := Lib.hid (B9.out.below hb)
          clear hb CSj W8 B9
          have d0 : w9.cell? ⟨w.heap.size, 0, none⟩ = some (.int .i64 c) := Bx.out.cell 0 _ rfl
          have d1 : w9.cell? ⟨w.heap.size, 1, none⟩ = some (.int .i64 d) := Bx.out.cell 1 _ rfl
          have dl := Bx.out.lt
          go_wp2_with fail
          refine (CA.out _).mono ?_
          rintro e w10 ⟨rfl, hb⟩
          have W10 := Lib.hid (blw_trans (blw_trans W9.out hb) (blw_alloc w10 (.cells #[.int .i64 A1, .int .i64 C1] 31)))
          clear hb CA W9 d0 d1 dl Bx
          have CEi := Lib.hid (CE.out _ W10.out)
          go_wp2_with fail
          refine CEi.out.mono ?_
          rintro e w11 ⟨rfl, hb⟩
          have W11 := Lib.hid (blw_trans W10.out hb)
          clear hb CEi CE W10
          go_wp2_with fail
          go_ret
          exact ⟨ret_bool (by simp), W11.out⟩
        | true =>
          obtain ⟨he, ht⟩ := HSi.out.1 hZ
          rw [he] at CSj
          have CKi := Lib.hid (CK.out (HZ.out hZ))
          obtain ⟨TX, hTX⟩ : ∃ TX, TX = sayT [t0, t1, t2, t3, t4] 2 (caM o (OWN :: selK i ks)) (caA c d) := ⟨_, rfl⟩
          rw [← hTX] at CSj ht
          rw [hZ] at CA
          rw [errN_zero] at CSj
          have HT := Lib.hid ht
          clear HSi HZ hZ he CK CE hTX ht
          refine CSj.out.mono ?_
          rintro e w9 ⟨rfl, hb⟩
          have W9 := Lib.hid (blw_trans W8.out hb)
          have Bx := Lib.hid (B9.out.below hb)
          clear hb CSj W8 B9
          have d0 : w9.cell? ⟨w.heap.size, 0, none⟩ = some (.int .i64 c) := Bx.out.cell 0 _ rfl
          have d1 : w9.cell? ⟨w.heap.size, 1, none⟩ = some (.int .i64 d) := Bx.out.cell 1 _ rfl
          have dl := Bx.out.lt
          go_wp2_with fail
          refine (CA.out _).mono ?_
          rintro e w10 ⟨rfl, hb⟩
          have W10 := Lib.hid (blw_trans (blw_trans W9.out hb) (blw_alloc w10 (.cells #[.int .i64 A1, .int .i64 C1] 31)))
          have By := Lib.hid ((Bx.out.below hb).below (blw_alloc w10 (.cells #[.int .i64 A1, .int .i64 C1] 31)))
          have BA := Lib.hid (Boxed.made w10 #[.int .i64 A1, .int .i64 C1] 31)
          clear hb CA W9 d0 d1 dl Bx
          go_wp2_with fail
          refine (CLh.out _).mono ?_
          rintro e w11 ⟨rfl, hb⟩
          have W11 := Lib.hid (blw_trans (blw_trans W10.out hb) (blw_alloc w11 (.cells #[.string ⟨t0.toArray⟩, .string ⟨t1.toArray⟩, .string ⟨t2.toArray⟩, .string ⟨t3.toArray⟩, .string ⟨t4.toArray⟩] 54)))
          have By1 := Lib.hid ((By.out.below hb).below (blw_alloc w11 (.cells #[.string ⟨t0.toArray⟩, .string ⟨t1.toArray⟩, .string ⟨t2.toArray⟩, .string ⟨t3.toArray⟩, .string ⟨t4.toArray⟩] 54)))
          have BA1 := Lib.hid ((BA.out.below hb).below (blw_alloc w11 (.cells #[.string ⟨t0.toArray⟩, .string ⟨t1.toArray⟩, .string ⟨t2.toArray⟩, .string ⟨t3.toArray⟩, .string ⟨t4.toArray⟩] 54)))
          have BS := Lib.hid (Boxed.made w11 #[.string ⟨t0.toArray⟩, .string ⟨t1.toArray⟩, .string ⟨t2.toArray⟩, .string ⟨t3.toArray⟩, .string ⟨t4.toArray⟩] 54)
          have CKj := Lib.hid (CKi.out _ W11.out)
          have a0 : w11.cell? ⟨w10.heap.size, 0, none⟩ = some (.int .i64 A1) := (BA.out.below hb).cell 0 _ rfl
          have a1 : w11.cell? ⟨w10.heap.size, 1, none⟩ = some (.int .i64 C1) := (BA.out.below hb).cell 1 _ rfl
          have al := (BA.out.below hb).lt
          clear hb CLh CKi W10 By BA
          go_wp2_with fail
          refine CKj.out.mono ?_
          rintro e w12 ⟨rfl, hb⟩
          have W12 := Lib.hid (blw_trans W11.out hb)
          have Bz := Lib.hid (By1.out.below hb)
          clear hb CKj W11 By1 BA1 BS a0 a1 al
          have d0 : w12.cell? ⟨w.heap.size, 0, none⟩ = some (.int .i64 c) := Bz.out.cell 0 _ rfl
          have d1 : w12.cell? ⟨w.heap.size, 1, none⟩ = some (.int .i64 d) := Bz.out.cell 1 _ rfl
          have dl := Bz.out.lt
          go_wp2_with fail
          refine (CO.out _).mono ?_
          rintro e w13 ⟨rfl, hb⟩
          have W13 := Lib.hid (blw_trans W12.out hb)
          clear hb CO W12 Bz d0 d1 dl
          by_cases hq : Dcm.nrm c d = Dcm.nrm (NX : Int) 0
          · have q0 : Dcm.ordV c d (NX : Int) 0 = 0 := HO.out.2 hq
            obtain rfl : TX = OWN := by rw [HT.out, if_pos hq]
            rw [q0]
            clear q0 HO hq HT HMIN C5 HX
            go_wp2_with fail
            go_ret
            exact ⟨ret_bool (by simp), W13.out⟩
          · have q0 : Dcm.ordV c d (NX : Int) 0 ≠ 0 := fun e => hq (HO.out.1 e)
            have hT2 := HT.out
            rw [if_neg hq] at hT2
            have HT2 := Lib.hid hT2
            generalize Dcm.ordV c d (NX : Int) 0 = OV at *
            have q1 : (OV == 0) = false := beq_no q0
            clear HO hq HT hT2 q0
            go_wp2_with fail
            clear q1
            go_loopw [25] (fun v25 wx => ∃ m : Nat, v25 = .int .i64 (m : Int) ∧ m ≤ 5 ∧ m ≤ NK ∧ Hid (KD ∉ selK m ks) ∧ Hid (Below w.heap.size w wx)) (fun v25 _ => 5 - (RowKit.intOf v25).toNat)
            case atStart => exact ⟨0, rfl, by omega, Nat.zero_le _, Lib.hid (by simp [selK_zero]), W13⟩
            case round =>
              obtain ⟨m, rfl, hm5, hmN, HQ, HW⟩ := hrel
              have wm : IntKind.i64.wrap ((m : Int) + 1) = (m : Int) + 1 := IntWalk.i64_in _ (by omega)
              have hm0 : (0 : Int) ≤ (m : Int) := by omega
              by_cases hlt : m < 5 ∧ m < NK
              · obtain ⟨hl5, hlN⟩ := hlt
                have y5 : decide ((m : Int) < 5) = true := decide_eq_true (by omega)
                have yN : decide ((m : Int) < (NK : Int)) = true := decide_eq_true (by omega)
                have yN' : (m : Int) < (NK : Int) := by omega
                obtain ⟨kb, hkb⟩ : ∃ kb, ks[m]? = some kb := ⟨ks[m]'(by have := HN.out; omega), List.getElem?_eq_getElem (by have := HN.out; omega)⟩
                obtain ⟨KN, hKN⟩ : ∃ KN, five[m]? = some KN := ⟨five[m]'(by show m < 5; omega), List.getElem?_eq_getElem (by show m < 5; omega)⟩
                obtain ⟨bk, off, rfl, hg⟩ := HX.out m kb hkb
                have g := cell_keep hg HW.out
                have gl := World.block_lt_of_cell? _ _ g
                have HKn := Lib.hid (selK_step hKN hkb)
                clear hg hkb HX
                cases kb with
                | false =>
                  go_wp2_with fail
                  go_roundw
                  case rel => exact ⟨m + 1, by go_num, by omega, by omega, Lib.hid (by rw [HKn.out]; exact HQ.out), HW⟩
                  case measure => simp [RowKit.intOf]; omega
                | true =>
                  go_wp2_with fail
                  refine (C5.out _).mono ?_
                  rintro e w5 ⟨V5, rfl, h5, hb⟩
                  have W5 := Lib.hid (blw_trans HW.out hb)
                  have hf : ∃ b5 o5 c5, V5 = .slice (some ⟨b5, o5, none⟩) 5 c5 ∧ w5.cell? ⟨b5, o5 + m, none⟩ = some (.string ⟨KN.toArray⟩) := by
                    rcases h5 with ⟨h5, _⟩ | ⟨b5, o5, c5, rfl, _, _, _, h5⟩
                    · cases h5
                    · exact ⟨b5, o5, c5, rfl, h5 m KN hKN⟩
                  obtain ⟨b5, o5, c5, rfl, g5⟩ := hf
                  have gl5 := World.block_lt_of_cell? _ _ g5
                  have jF : (m : Int) < 5 := by omega
                  clear hb h5 HW C5 g gl
                  cases he : KN == KD with
                  | true =>
                    obtain rfl : KN = KD := by simpa using he
                    obtain rfl : TX = KN := by
                      rw [HT2.out, if_pos]
                      rw [List.contains_eq_mem]
                      exact decide_eq_true (selK_mono (i := m + 1) (by rw [HKn.out]; simp) (HMIN.out (m + 1) (by omega) (by omega)))
                    clear he HT2 HKn HQ hKN HMIN
                    go_wp2_with fail
                    go_ret
                    exact ⟨ret_bool (by simp), W5.out⟩
                  | false =>
                    have hne : KD ≠ KN := fun e => by rw [e] at he; simp at he
                    have HQ2 := Lib.hid (show KD ∉ selK (m + 1) ks from by
                      rw [show selK (m + 1) ks = selK m ks ++ [KN] from HKn.out]
                      intro h
                      rcases List.mem_append.1 h with h | h
                      · exact HQ.out h
                      · exact hne (by simpa using h))
                    clear HKn HQ hne hKN
                    go_wp2_with fail
                    go_roundw
                    case rel => exact ⟨m + 1, by go_num, by omega, by omega, HQ2, W5⟩
                    case measure => simp [RowKit.intOf]; omega
              · have hey : decide ((m : Int) < 5) = false ∨ (decide ((m : Int) < 5) = true ∧ decide ((m : Int) < (NK : Int)) = false) := by
                  by_cases h5 : m < 5
                  · exact .inr ⟨decide_eq_true (by omega), decide_eq_false (by omega)⟩
                  · exact .inl (decide_eq_false (by omega))
                have hnot : KD ∉ selK i ks := fun h => HQ.out (selK_mono h (by omega))
                obtain rfl : TX = other := by
                  rw [HT2.out, if_neg]
                  rw [List.contains_eq_mem]
                  simpa using hnot
                unfold other at *
                clear hnot HQ HT2 HMIN C5 HX hlt
                have hey2 : decide ((m : Int) < 5) = false ∨ (decide ((m : Int) < 5) = true ∧ decide ((m : Int) < (NK : Int)) = false ∧ ¬ (m : Int) < (NK : Int) ∧ decide (m < NK) = false ∧ ¬ m < NK) := hey.imp_right fun h => ⟨h.1, h.2, of_decide_eq_false h.2, decide_eq_false (by have := of_decide_eq_false h.2; omega), by have := of_decide_eq_false h.2; omega⟩
                clear hey
                rcases hey2 with y5 | ⟨y5, yN, yA, yB, yC⟩
                all_goals
                  go_wp2_with fail
                  go_ret
                  exact ⟨ret_bool (by simp), HW.out⟩
theorem ecases_any {vk : Value} (ks : List Bool) (x o c d : Int) (lang : List UInt8) (w : World) (hw : MW w) (hE : EvW w) (hG : HanW w) (hk : SlAt 1 BoolC w vk ks) :
    Calls Tryz.prog 9 #[vk, .int .i64 x, .int .i64 o, .agg #[.int .i64 c, .int .i64 d], .string ⟨lang.toArray⟩] w fun e w' => e = .returned (.bool true) ∧ Below w.heap.size w w' := by
  by_cases h : (0 ≤ x ∧ x ≤ 999) ∧ (0 ≤ o ∧ o ≤ 9) ∧ okD c d
  · exact ecases_in ks x o c d lang w hw hE hG hk h.1 h.2.1 h.2.2
  · exact ecases_out vk x o c d lang w hw hE h
end Go.Proofs.YtldbfkccieipjaaGreatDoor
namespace Go.Proofs.YtldbfkccieipjaaGreatDoor
open Go.RowKit Go.WideShapes Go.ChangeShapes Go.Deep

theorem list_by {α : Type} {Q : Nat → α → Prop} : ∀ (n : Nat), (∀ i, i < n → ∃ t, Q i t) → ∃ L : List α, L.length = n ∧ ∀ i t, L[i]? = some t → Q i t
  | 0, _ => ⟨[], rfl, fun i t h => by simp at h⟩
  | n + 1, h => by
    obtain ⟨L, hl, hq⟩ := list_by n fun i hi => h i (by omega)
    obtain ⟨t, ht⟩ := h n (by omega)
    refine ⟨L ++ [t], by simp [hl], fun i x hx => ?_⟩
    by_cases hi : i < n
    · rw [List.getElem?_append_left (by omega)] at hx; exact hq i x hx
    · rw [List.getElem?_append_right (by omega)] at hx
      have hk : i - L.length < 1 := (List.getElem?_eq_some_iff.1 hx).1
      obtain rfl : i = n := by omega
      rw [hl, Nat.sub_self] at hx
      obtain rfl : t = x := by simpa using hx
      exact ht
theorem bulk_sum {H : Type} {α : Type} (bulk : α → Nat) : ∀ (L : List α) (D : Nat → DataW H) (k : Nat), (∀ i x, L[i]? = some x → bulk x + 1 ≤ Rows.uptoBulk (D (k + i))) → (L.map bulk).sum + L.length ≤ Rows.uptoBulkAll ((List.range' k L.length).map D)
  | [], _, _, _ => by simp [Rows.uptoBulkAll]
  | x :: r, D, k, h => by
    have a := h 0 x rfl
    have b := bulk_sum bulk r D (k + 1) fun i y hy => by
      have := h (i + 1) y (by simpa using hy)
      rwa [show k + 1 + i = k + (i + 1) by omega]
    rw [List.length_cons, List.range'_succ, List.map_cons, List.map_cons, List.sum_cons]
    simp only [Rows.uptoBulkAll]
    simp only [Nat.add_zero] at a
    omega
section
variable {H : Type} {enc : TypeId × Value → H} {P : Program} {w : World} {base : Nat} {sp : Nat → Bool} {held : Bool}
theorem sl_open {α : Type} {fuel m : Nat} {t e : TypeId} {C : World → Nat → Nat → α → Prop} (bulk : α → Nat) (ht : P.underlying t = some (.slice e)) (hC : P.cellsOf e = m) (hm : 0 < m)
    (el : ∀ (b off : Nat) (cs : List Value) (n : Nat) (y : DataW H × List MemPlace), (∀ i, i < m → w.cell? ⟨b, off + i, none⟩ = cs[i]?) → cs.length = m → DataW.trod enc P w base sp held n e cs = some y → ∃ x : α, C w b off x ∧ bulk x + 1 ≤ Rows.uptoBulk y.1)
    {a : Option Addr} {n c : Nat} {d : DataW H} {p : List MemPlace} (h : DataW.trod enc P w base sp held fuel t (Value.slice a n c).cells.toList = some (d, p)) :
    ∃ l : List α, SlAt m C w (.slice a n c) l ∧ (l.map bulk).sum + l.length + 1 ≤ Rows.uptoBulk d := by
  rcases open_slice ht h with ⟨hcs, hx⟩ | ⟨a', len, cap, mm, nn, D, Pl, hcs, _, hl, hcm, hmm, hx, hi⟩
  · have e1 : Value.slice a n c = .slice none 0 0 := by simpa [Value.cells] using hcs
    rw [e1]
    refine ⟨[], .inl ⟨rfl, none, 0, rfl⟩, ?_⟩
    rw [show d = .nil from congrArg Prod.fst hx]
    simp [Rows.uptoBulk]
  · have e1 : Value.slice a n c = .slice (some a') len cap := by simpa [Value.cells] using hcs
    rw [e1]
    have hd : d = .slice ((List.range len).map D) ((List.range (mm - len)).map fun j => D (len + j)) := congrArg Prod.fst hx
    by_cases hz : len = 0
    · subst hz
      refine ⟨[], .inl ⟨rfl, _, _, rfl⟩, ?_⟩
      rw [hd]
      simp only [List.map_nil, List.sum_nil, List.length_nil, Rows.uptoBulk]
      omega
    have hlm : len ≤ mm := by rw [hmm]; split <;> omega
    rw [hC] at hi
    obtain ⟨b, off, spot⟩ := a'
    have hsp : spot = none := by
      obtain ⟨cs0, q0, _⟩ := hi 0 (by omega)
      obtain ⟨_, q1, q2⟩ := World.cells?_some q0
      have q3 := q2 0 hm
      rw [List.getElem?_eq_getElem (by omega)] at q3
      simpa [Addr.add] using World.cell?_spot q3
    subst hsp
    obtain ⟨L, hL, hQ⟩ := list_by (Q := fun i x => C w b (off + i * m) x ∧ bulk x + 1 ≤ Rows.uptoBulk (D i)) len fun i hil => by
      obtain ⟨cs', q0, q1⟩ := hi i (by omega)
      obtain ⟨_, q2, q3⟩ := World.cells?_some q0
      rw [Go.WideShapes.add_plain] at q3
      exact el b (off + i * m) cs' nn _ (fun j hj => by have := q3 j hj; rwa [Go.WideShapes.add_plain] at this) q2 q1
    refine ⟨L, .inr ⟨b, off, cap, by rw [hL], by omega, by omega, hcm, fun j x hx => (hQ j x hx).1⟩, ?_⟩
    have s := bulk_sum bulk L D 0 (fun i x hx => by have := (hQ i x hx).2; rwa [Nat.zero_add])
    rw [hL, ← List.range_eq_range'] at s
    rw [hd, hL]
    simp only [Rows.uptoBulk]
    omega
end
end Go.Proofs.YtldbfkccieipjaaGreatDoor
namespace Go.Proofs.YtldbfkccieipjaaGreatDoor
open Go.RowKit Go.WideShapes Go.ChangeShapes
theorem bools_open {H : Type} {enc : TypeId × Value → H} {P : Program} {w : World} {base : Nat} {sp : Nat → Bool} {held : Bool} {fuel : Nat} {t e : TypeId} {a : Option Addr} {n c : Nat} {d : DataW H} {p : List MemPlace}
    (ht : P.underlying t = some (.slice e)) (he : P.underlying e = some .bool) (hC : P.cellsOf e = 1) (h : DataW.trod enc P w base sp held fuel t (Value.slice a n c).cells.toList = some (d, p)) : ∃ l : List Bool, SlAt 1 BoolC w (.slice a n c) l := by
  obtain ⟨l, h1, _⟩ := sl_open (C := BoolC) (fun _ => 0) ht hC (by decide) (fun b off cs n y hcs _ hy => by
    obtain ⟨x, rfl, rfl⟩ := DataW.trod_bool he hy
    refine ⟨x, ?_, by simp [Rows.uptoBulk]⟩
    have := hcs 0 (by decide)
    rw [Nat.add_zero] at this
    exact this) h
  exact ⟨l, h1⟩
end Go.Proofs.YtldbfkccieipjaaGreatDoor
namespace Go.Proofs.YtldbfkccieipjaaGreatDoor.lawEvalCases
open Go.ChangeShapes Go.WideShapes Go.ChangeAt Go.RowKit Go.Joins

theorem own : ownKnob Tryz.prog.godebug = none := by kernel_rfl
theorem laidOut : laidOutB Tryz.prog = true := by kernel_rfl
theorem cellsDec : Tryz.prog.cellsOf 31 = 2 := by kernel_rfl

set_option maxRecDepth 100000 in
theorem contract (H : Type) (enc : TypeId × Value → H) (W : World) (base : Nat) (args : Array Value) (ds gs : List (DataW H)) (before : List MemPlace)
    (hval : ∀ (j : Nat) t v, Tryz.f9.params[j]? = some t → args[j]? = some v → Value.okWide Tryz.prog W .any base t v)
    (hW : DataW.Whole enc Tryz.prog Tryz.f9.params.toList Rows.evalCasesSpec.vars false W args.toList ds gs before) (hL : laidMetH Tryz.prog Rows.evalCasesUptoRow.laid W) (hS : W.ShapedOpen Tryz.prog) :
    Calls Tryz.prog 9 args W fun e W' => ∃ v, e = .returned v ∧ Rows.evalCasesSpec.post enc Tryz.prog Tryz.f9 false true false false W args v W' := by
  have hpost : ∀ W', Below W.heap.size W W' → Rows.evalCasesSpec.post enc Tryz.prog Tryz.f9 false true false false W args (.bool true) W' := fun W' hb =>
    law_post (tb := 4) laidOut rfl Tryz.underlying4 rfl (by kernel_rfl) (fun ds h => by match ds, h with | [x0, x1, x2, x3, x4], _ => rfl) hW hb
  obtain ⟨p, q, hA0, hV, _, hfz, hnd⟩ := hW
  have hA : DataW.TrodAll enc Tryz.prog W 0 (fun _ => true) true Tryz.f9.params.toList args.toList ds p := hA0
  obtain ⟨rfl, rfl⟩ := trodVars_none hV
  rw [Tryz.params9] at hA hval
  obtain ⟨v0, vs0, d0, ds0, p0, q0, hargs, rfl, hp0, h0, r0⟩ := trodAll_cons hA
  obtain ⟨v1, vs1, d1, ds1, p1, q1, rfl, rfl, hp1, h1, r1⟩ := trodAll_cons r0
  obtain ⟨v2, vs2, d2, ds2, p2, q2, rfl, rfl, hp2, h2, r2⟩ := trodAll_cons r1
  obtain ⟨v3, vs3, d3, ds3, p3, q3, rfl, rfl, hp3, h3, r3⟩ := trodAll_cons r2
  obtain ⟨v4, vs4, d4, ds4, p4, q4, rfl, rfl, hp4, h4, r4⟩ := trodAll_cons r3
  obtain ⟨rfl, rfl, hp⟩ := trodAll_nil r4
  obtain rfl : args = #[v0, v1, v2, v3, v4] := by cases args; simp_all
  obtain ⟨kinds_a, kinds_n, kinds_c, rfl⟩ := okWide_slice Tryz.underlying49 (hval 0 49 v0 rfl rfl)
  obtain ⟨kinds_f, kinds_h⟩ := h0
  obtain ⟨exact, rfl, rfl, rfl, w_exact⟩ := open_int Tryz.underlying3 (hval 1 3 v1 rfl rfl) h1
  have b_exact := bounds_i64 w_exact
  obtain ⟨offset, rfl, rfl, rfl, w_offset⟩ := open_int Tryz.underlying3 (hval 2 3 v2 rfl rfl) h2
  have b_offset := bounds_i64 w_offset
  obtain ⟨c3_0, c3_1, y3_0, y3_1, m3, rfl, rfl, rfl, hy3_0, hy3_1⟩ := open_agg2 Tryz.underlying31 (by kernel_rfl) cellsDec (hval 3 31 v3 rfl rfl) h3
  obtain ⟨d_c, e3_0, _, w_d_c⟩ := DataW.trod_int Tryz.underlying3 hy3_0
  obtain ⟨d_s, e3_1, _, w_d_s⟩ := DataW.trod_int Tryz.underlying3 hy3_1
  simp at e3_0 e3_1
  subst e3_0 e3_1
  have b_d_c := bounds_i64 w_d_c
  have b_d_s := bounds_i64 w_d_s
  obtain ⟨lang, rfl, rfl, rfl, w_lang⟩ := ChangeMaps.open_string Tryz.underlying9 (hval 4 9 v4 rfl rfl) h4
  clear hA0 hfz hnd hval
  have hm : MaxW W := Go.Proofs.cell_of_shapedOpen_int (zero := #[.int .i64 0]) (t := 3) hS (of_decide_eq_true (by kernel_rfl)) (by kernel_rfl) rfl (by kernel_rfl) (by kernel_rfl) Tryz.underlying3
  have hT : TR W := ⟨powW_of hL (by kernel_rfl), numW_of hL (by kernel_rfl) (by kernel_rfl), hm⟩
  have hM : MW W := ⟨powW_of hL (by kernel_rfl), numW_of hL (by kernel_rfl) (by kernel_rfl), kdW_of hL (by kernel_rfl)⟩
  have hE : EvW W := ⟨hT, kindsW_of hL (by kernel_rfl), numerW_of hL (by kernel_rfl) (by kernel_rfl)⟩
  have hH : HanW W := hanW_of (by repeat (first | exact List.Mem.head _ | refine List.Mem.tail _ ?_)) hL
  obtain ⟨ks, ks_at⟩ := bools_open Tryz.underlying49 Tryz.underlying4 (by kernel_rfl) kinds_h
  refine Calls.mono (?_ : Calls Tryz.prog 9 #[.slice kinds_a kinds_n kinds_c, .int .i64 exact, .int .i64 offset, .agg #[.int .i64 d_c, .int .i64 d_s], .string lang] W fun e w' => e = .returned (.bool true) ∧ Below W.heap.size W w') fun e W' ⟨he, hb⟩ => ⟨_, he, hpost W' hb⟩
  obtain ⟨ll, rfl⟩ : ∃ x : List UInt8, lang = ⟨x.toArray⟩ := ⟨lang.data.toList, rfl⟩
  exact ecases_any ks exact offset d_c d_s ll W hM hE hH ks_at

theorem start_met (os : Os) : laidMetH Tryz.prog Rows.evalCasesUptoRow.laid (((World.doorLaid Tryz.prog 99 os).layVars Tryz.prog (Rows.evalCasesUptoRow.laid.filter fun x => x.2.handleName?.isNone)).forCall (fun _ _ => 0) ⟨#[], #[.slice none 0 0, .int .i64 0, .int .i64 0, .agg #[.int .i64 0, .int .i64 0], .string ⟨#[]⟩], []⟩).memory :=
  laidMetH_of_parts3 (fuel := 8) (laidMet_over _ (by kernel_rfl) (by kernel_rfl)) (by kernel_rfl) (by kernel_rfl)
theorem start_reads (os : Os) {H : Type} (enc : TypeId × Value → H) : ∃ places, DataW.whole enc Tryz.prog (((World.doorLaid Tryz.prog 99 os).layVars Tryz.prog (Rows.evalCasesUptoRow.laid.filter fun x => x.2.handleName?.isNone)).forCall (fun _ _ => 0) ⟨#[], #[.slice none 0 0, .int .i64 0, .int .i64 0, .agg #[.int .i64 0, .int .i64 0], .string ⟨#[]⟩], []⟩).memory Tryz.f9.params.toList Rows.evalCasesSpec.vars false (#[.slice none 0 0, .int .i64 0, .int .i64 0, .agg #[.int .i64 0, .int .i64 0], .string ⟨#[]⟩] : Array Value).toList 8 = some ([.nil, .lit (.int .i64 0), .lit (.int .i64 0), .agg [.lit (.int .i64 0), .lit (.int .i64 0)], .lit (.string [])], [], places) :=
  ⟨[], by kernel_rfl⟩

set_option maxRecDepth 100000 in
theorem lifted (os : Os) (started : os.Started) (H : Type) (enc : TypeId × Value → H) (F : Stop.Interp) :
    ReturnsInHanded {} Tryz.checked os 9 .any ((Rows.OpenSpec.upto Rows.evalCasesSpec).preRow enc Tryz.prog Tryz.f9 Rows.evalCasesUptoRow.domain false Rows.evalCasesUptoRow.laid) (((Rows.OpenSpec.upto Rows.evalCasesSpec).at F).post enc Tryz.prog Tryz.f9 false true false false) := by
  obtain ⟨places, hx⟩ := start_reads os enc
  refine returnsInHanded_of_row (C := Tryz.checked) (s := Rows.OpenSpec.upto Rows.evalCasesSpec) own started (by kernel_rfl) Tryz.func9
    (witness_row_atRef (enc := enc) (C := Tryz.checked) false ((World.doorLaid Tryz.prog 99 os).layVars Tryz.prog (Rows.evalCasesUptoRow.laid.filter fun x => x.2.handleName?.isNone)) #[.slice none 0 0, .int .i64 0, .int .i64 0, .agg #[.int .i64 0, .int .i64 0], .string ⟨#[]⟩] (World.layVars_os _ _ _) (by kernel_rfl) (by kernel_rfl) (by kernel_rfl)
      (OpenSpec.preRow_of_cond 8 hx (by kernel_rfl) (fun k hk => by cases hk; kernel_rfl) (by kernel_rfl) (start_met os))) ?_
  intro W base args ds gs before hval hW _ _ _ hL hS _
  exact contract H enc W base args ds gs before hval hW hL hS

theorem cl1 : (Rows.evalCasesUptoRow.inPlace == Tryz.pinned.checked.prog.inPlace 9) = true := by kernel_rfl
theorem cl2 : (Rows.evalCasesUptoRow.unfollowed == Tryz.pinned.checked.prog.unfollowed 9) = true := by kernel_rfl
theorem cl3 : (Rows.evalCasesUptoRow.recurses == Tryz.pinned.checked.prog.recurses 9) = true := by kernel_rfl
theorem cl4 : (Rows.evalCasesUptoRow.named == Tryz.pinned.checked.prog.varsNamed 9) = true := by kernel_rfl
theorem closed : joinedFacts Tryz.pinned.checked.prog 9 Tryz.f9 (Rows.OpenSpec.upto Rows.evalCasesSpec).bare Rows.evalCasesUptoRow = true := by
  unfold joinedFacts
  rw [cl1, cl2, cl3, cl4]
  kernel_rfl

theorem said : Rows.EvalCasesUptoSaid :=
  OpenClaim.holds_of_cond 9 Tryz.f9 rfl rfl rfl rfl rfl rfl rfl ⟨rfl, rfl, rfl, rfl, rfl⟩ rfl rfl rfl rfl rfl (by kernel_rfl) Tryz.func9 closed
    (of_decide_eq_true (by kernel_rfl)) (by unfold Func.isWrapper; first | (rw [if_pos (by decide +kernel)]; kernel_rfl) | (rw [if_neg (by decide +kernel)]; exact ⟨rfl, rfl⟩))
    (fun os started H enc _ F => by rw [OpenClaim.pre_eq_preRow]; exact lifted os started H enc F)

theorem plain (f : FuncId) (fn : Func) (hf : Tryz.pinned.checked.prog.funcNamed "linguister/linguisterlaw3.EvalCases" = some f) (hfn : Tryz.pinned.checked.prog.funcs[f]? = some fn) :
    true = Tryz.pinned.checked.prog.looks [] ∧ ∀ (j : Nat) t, fn.params[j]? = some t → Tryz.pinned.checked.prog.wantsStandIn t = false := by
  obtain rfl : f = 9 := Option.some.inj ((show Tryz.prog.funcNamed "linguister/linguisterlaw3.EvalCases" = some 9 by kernel_rfl).symm.trans hf) |>.symm
  obtain rfl : fn = Tryz.f9 := (Option.some.inj (Tryz.func9.symm.trans hfn)).symm
  refine ⟨by kernel_rfl, fun j t ht => ?_⟩
  rw [Tryz.params9] at ht
  have hm : t ∈ [49, 3, 3, 31, 9] := by simpa using Array.mem_of_getElem? ht
  have hall : ([49, 3, 3, 31, 9].all fun u => !Tryz.prog.wantsStandIn u) = true := by kernel_rfl
  exact (show Tryz.prog.wantsStandIn t = false by simpa using List.all_eq_true.1 hall t hm)

theorem proved : Rows.EvalCasesUptoCardSaid :=
  Claim7.holds_tied_plain_at .later [] _ _ _ _ said (fun _ h => by cases h) (by kernel_rfl) (fun _ h => by cases h) evalCasesUpto_row_tie rfl ⟨rfl, rfl⟩ (by kernel_rfl) rfl plain (by kernel_rfl)
#print axioms proved
end Go.Proofs.YtldbfkccieipjaaGreatDoor.lawEvalCases
