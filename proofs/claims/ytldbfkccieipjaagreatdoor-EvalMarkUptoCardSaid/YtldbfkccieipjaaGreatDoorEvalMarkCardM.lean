/- The law EvalMark, proved where what it reads is of bulk at most 1048576: the call returns true of every input, and turns nothing that was there. Conditions: the row's own (the listed variables hold what the program's text lays; the card ties them). -/
import Derived.Test.YtldbfkccieipjaaGreatDoorEf23
import Derived.Test.YtldbfkccieipjaaGreatDoorEf25
import Derived.Test.YtldbfkccieipjaaGreatDoorEf4
import Derived.Test.YtldbfkccieipjaaGreatDoorCards
import Derived.Test.YtldbfkccieipjaaGreatDoorTie
import Derived.Deep.DeepHandedRow
import Derived.Deep.DeepWitnessRowRef
import Derived.Stop.Joined
import Derived.Lay
import Derived.Test.YtldbfkccieipjaaGreatDoorEf8
import Derived.Test.YtldbfkccieipjaaGreatDoorEf12
import Derived.Test.YtldbfkccieipjaaGreatDoorEf16
namespace Go.Proofs.YtldbfkccieipjaaGreatDoor
open Go.RowKit Ms
open Dcm (okD)
theorem mk_at {w : World} {p0 p1 p2 p3 p4 p5 p6 : Nat} {o i : Int} (h0 : Boxed w p0 #[.int .i64 6, .string ⟨#[]⟩, .int .i64 0, .slice none 0 0]) (h1 : Boxed w p1 #[.string ⟨#[111, 116, 104, 101, 114]⟩, .slice (some ⟨p0, 0, none⟩) 1 1]) (h2 : Boxed w p2 #[.int .i64 5, .string ⟨#[115]⟩, .int .i64 0, .slice (some ⟨p1, 0, none⟩) 1 1]) (h3 : Boxed w p3 #[.string ⟨#[111, 116, 104, 101, 114]⟩, .slice (some ⟨p2, 0, none⟩) 1 1]) (h4 : Boxed w p4 #[.int .i64 6, .string ⟨#[]⟩, .int .i64 0, .slice none 0 0, .int .i64 4, .string ⟨#[110]⟩, .int .i64 i, .slice (some ⟨p3, 0, none⟩) 1 1, .int .i64 6, .string ⟨#[]⟩, .int .i64 0, .slice none 0 0]) (h5 : Boxed w p5 #[.string ⟨#[111, 116, 104, 101, 114]⟩, .slice (some ⟨p4, 0, none⟩) 3 3]) (h6 : Boxed w p6 #[.int .i64 4, .string ⟨#[110]⟩, .int .i64 o, .slice (some ⟨p5, 0, none⟩) 1 1]) : MsgAt 4 w (.slice (some ⟨p6, 0, none⟩) 1 1) (mkM o i) := by
  have k : other.length ≤ 2000000 := by decide
  have m0 : MsgAt 1 w (.slice (some ⟨p0, 0, none⟩) 1 1) [.mk 6 [] 0 []] := msg_one (nd_plain (h0.cell 0 _ rfl) (h0.cell 1 _ rfl) (h0.cell 2 _ rfl) (h0.cell 3 _ rfl) (by decide))
  have m1 : CassAt 1 w (.slice (some ⟨p1, 0, none⟩) 1 1) [(other, [.mk 6 [] 0 []])] := cas_one (h1.cell 0 _ rfl) (h1.cell 1 _ rfl) m0 k (by simp)
  have m2 : MsgAt 2 w (.slice (some ⟨p2, 0, none⟩) 1 1) [.mk 5 [115] 0 [(other, [.mk 6 [] 0 []])]] := msg_one (nd_cases (h2.cell 0 _ rfl) (h2.cell 1 _ rfl) (h2.cell 2 _ rfl) (h2.cell 3 _ rfl) (by decide) m1 (by simp))
  have m3 : CassAt 2 w (.slice (some ⟨p3, 0, none⟩) 1 1) [(other, [.mk 5 [115] 0 [(other, [.mk 6 [] 0 []])]])] := cas_one (h3.cell 0 _ rfl) (h3.cell 1 _ rfl) m2 k (by simp)
  have m4 : MsgAt 3 w (.slice (some ⟨p4, 0, none⟩) 3 3) [.mk 6 [] 0 [], .mk 4 [110] i [(other, [.mk 5 [115] 0 [(other, [.mk 6 [] 0 []])]])], .mk 6 [] 0 []] := by
    refine .inr ⟨p4, 0, 3, rfl, by simp, Nat.le_refl _, by unfold maxLen; omega, fun j y hy => ?_⟩
    match j, hy with
    | 0, hy => obtain rfl : Nd.mk 6 [] 0 [] = y := by simpa using hy
               exact nd_plain (h4.cell 0 _ rfl) (h4.cell 1 _ rfl) (h4.cell 2 _ rfl) (h4.cell 3 _ rfl) (by decide)
    | 1, hy => obtain rfl : Nd.mk 4 [110] i [(other, [.mk 5 [115] 0 [(other, [.mk 6 [] 0 []])]])] = y := by simpa using hy
               exact nd_cases (h4.cell 4 _ rfl) (h4.cell 5 _ rfl) (h4.cell 6 _ rfl) (h4.cell 7 _ rfl) (by decide) m3 (by simp)
    | 2, hy => obtain rfl : Nd.mk 6 [] 0 [] = y := by simpa using hy
               exact nd_plain (h4.cell 8 _ rfl) (h4.cell 9 _ rfl) (h4.cell 10 _ rfl) (h4.cell 11 _ rfl) (by decide)
  have m5 := cas_one (h5.cell 0 _ rfl) (h5.cell 1 _ rfl) m4 k (by simp)
  exact msg_one (nd_cases (h6.cell 0 _ rfl) (h6.cell 1 _ rfl) (h6.cell 2 _ rfl) (h6.cell 3 _ rfl) (by decide) m5 (by simp))
/-- AddOf, uniformly: what is less, if there is room -/
theorem aof_less (c d o : Int) (hd : okD c d) (ho : 0 ≤ o ∧ o ≤ 9) : ∃ (A S : Int) (Z : Bool), (∀ w : World, Calls Tryz.prog 14 #[.agg #[.int .i64 c, .int .i64 d], .agg #[.int .i64 (-o), .int .i64 0]] w fun e w' => e = .returned (.tuple #[.agg #[.int .i64 A, .int .i64 S], .bool Z]) ∧ Below w.heap.size w w') ∧ (∀ L, (evS L).less c d o = if Z then some (A, S) else none) ∧ (Z = true → okD A S) := by
  by_cases h : addOk c d (-o) 0
  · exact ⟨_, _, true, fun w => aof_yes c d (-o) 0 w h, fun L => if_pos h, fun _ => less_okd (L := []) (c := c) (s := d) (o := o) (l := (_, _)) (if_pos h)⟩
  · exact ⟨0, 0, false, fun w => aof_bad c d (-o) 0 w hd ⟨by omega, by omega, by omega, by omega⟩ h, fun L => if_neg h, fun e => by cases e⟩

set_option maxRecDepth 100000 in
set_option maxHeartbeats 8000000 in
theorem emark_out (c d o i : Int) (lang : List UInt8) (w : World) (hw : MW w) (hE : EvW w) (h : ¬ (0 ≤ o ∧ o ≤ 9 ∧ 0 ≤ i ∧ i ≤ 9 ∧ okD c d)) :
    Calls Tryz.prog 5 #[.agg #[.int .i64 c, .int .i64 d], .int .i64 o, .int .i64 i, .string ⟨lang.toArray⟩] w fun e w' => e = .returned (.bool true) ∧ Below w.heap.size w w' := by
  have W0 := Lib.hid (blw_alloc w (.cells #[.int .i64 c, .int .i64 d] 31))
  have B0 := Lib.hid (Boxed.made w #[.int .i64 c, .int .i64 d] 31)
  have CC := Lib.hid (counted_any _ (hw.below W0.out) (hE.below W0.out))
  clear hw hE
  by_cases h1 : o < 0
  · have k1 : decide (o < 0) = true := decide_eq_true h1
    go_enter Tryz.func5, Tryz.ntmps5
    go_wp2_with fail
    refine CC.out.mono ?_
    rintro e w1 ⟨rfl, hb⟩
    have W1 := Lib.hid (blw_trans W0.out hb)
    have B1 := Lib.hid (B0.out.below hb)
    clear hb CC W0 B0
    go_wp2_with fail
    go_ret
    exact ⟨rfl, W1.out⟩
  have k1 : decide (o < 0) = false := decide_eq_false h1
  by_cases h2 : 9 < o
  · have k2 : decide (9 < o) = true := decide_eq_true h2
    go_enter Tryz.func5, Tryz.ntmps5
    go_wp2_with fail
    refine CC.out.mono ?_
    rintro e w1 ⟨rfl, hb⟩
    have W1 := Lib.hid (blw_trans W0.out hb)
    have B1 := Lib.hid (B0.out.below hb)
    clear hb CC W0 B0
    go_wp2_with fail
    go_ret
    exact ⟨rfl, W1.out⟩
  have k2 : decide (9 < o) = false := decide_eq_false h2
  by_cases h3 : i < 0
  · have k3 : decide (i < 0) = true := decide_eq_true h3
    go_enter Tryz.func5, Tryz.ntmps5
    go_wp2_with fail
    refine CC.out.mono ?_
    rintro e w1 ⟨rfl, hb⟩
    have W1 := Lib.hid (blw_trans W0.out hb)
    have B1 := Lib.hid (B0.out.below hb)
    clear hb CC W0 B0
    go_wp2_with fail
    go_ret
    exact ⟨rfl, W1.out⟩
  have k3 : decide (i < 0) = false := decide_eq_false h3
  by_cases h4 : 9 < i
  · have k4 : decide (9 < i) = true := decide_eq_true h4
    go_enter Tryz.func5, Tryz.ntmps5
    go_wp2_with fail
    refine CC.out.mono ?_
    rintro e w1 ⟨rfl, hb⟩
    have W1 := Lib.hid (blw_trans W0.out hb)
    have B1 := Lib.hid (B0.out.below hb)
    clear hb CC W0 B0
    go_wp2_with fail
    go_ret
    exact ⟨rfl, W1.out⟩
  have k4 : decide (9 < i) = false := decide_eq_false h4
  have hd : ¬ okD c d := fun hd => h ⟨by omega, by omega, by omega, by omega, hd⟩
  have CD := Lib.hid fun w => dflt_yes c d w hd
  go_enter Tryz.func5, Tryz.ntmps5
  go_wp2_with fail
  refine CC.out.mono ?_
  rintro e w1 ⟨rfl, hb⟩
  have W1 := Lib.hid (blw_trans W0.out hb)
  have B1 := Lib.hid (B0.out.below hb)
  clear hb CC W0 B0
  have d0 : w1.cell? ⟨w.heap.size, 0, none⟩ = some (.int .i64 c) := B1.out.cell 0 _ rfl
  have d1 : w1.cell? ⟨w.heap.size, 1, none⟩ = some (.int .i64 d) := B1.out.cell 1 _ rfl
  have dl := B1.out.lt
  go_wp2_with fail
  refine (CD.out _).mono ?_
  rintro e w2 ⟨rfl, hb⟩
  have W2 := Lib.hid (blw_trans W1.out hb)
  clear hb d0 d1 dl B1 W1 CD
  go_wp2_with fail
  go_ret
  exact ⟨rfl, W2.out⟩
set_option maxRecDepth 100000 in
set_option maxHeartbeats 8000000 in
theorem emark_in (c d o i : Int) (lang : List UInt8) (w : World) (hw : MW w) (hE : EvW w) (ho : 0 ≤ o ∧ o ≤ 9) (hi : 0 ≤ i ∧ i ≤ 9) (hd : okD c d) :
    Calls Tryz.prog 5 #[.agg #[.int .i64 c, .int .i64 d], .int .i64 o, .int .i64 i, .string ⟨lang.toArray⟩] w fun e w' => e = .returned (.bool true) ∧ Below w.heap.size w w' := by
  obtain ⟨t0, t1, t2, t3, t4, b, hS, hb0, CL, _⟩ := lang_set lang
  have W0 := Lib.hid (blw_alloc w (.cells #[.int .i64 c, .int .i64 d] 31))
  have B0 := Lib.hid (Boxed.made w #[.int .i64 c, .int .i64 d] 31)
  have CC := Lib.hid (counted_any _ (hw.below W0.out) (hE.below W0.out))
  have CD := Lib.hid fun w => dflt_no c d w hd
  have CS := Lib.hid fun (v va : Value) (wx : World) (hb : Below w.heap.size w wx) (hm : MsgAt 4 wx v (mkM o i)) (ha : ArgsAt wx va (mkA c d)) => esay_any lang t0 t1 t2 t3 t4 b wx (hw.below hb) (hE.below hb) hm (by show 1 ≤ 2000000; omega) ha (by show 2 ≤ 2000000; omega) (fun a h => by
    have : a.name.length = 1 := by
      rcases List.mem_cons.1 h with rfl | h
      · rfl
      · obtain rfl : a = ⟨[115], false, 0, 0, []⟩ := by simpa using h
        rfl
    omega) (fun a h => by
    rcases List.mem_cons.1 h with rfl | h
    · show 0 ≤ 2000000; omega
    · obtain rfl : a = ⟨[115], false, 0, 0, []⟩ := by simpa using h
      show 0 ≤ 2000000; omega) hS hb0 CL
  obtain ⟨A1, C1, Z1, hc1, hl1, hk1⟩ := aof_less c d o hd ho
  obtain ⟨A2, C2, Z2, hc2, hl2, hk2⟩ := aof_less c d i hd hi
  have CA1 := Lib.hid hc1
  have CA2 := Lib.hid hc2
  have hfit := mk_fit (c := c) (d := d) ho hi hd
  have hsaid : sayO [t0, t1, t2, t3, t4] 4 (mkM o i) (mkA c d) = if Z1 && Z2 then some (numM A1 C1 ++ (numM A2 C2 ++ numM A1 C1)) else none := by
    have h := mk_said (evS [t0, t1, t2, t3, t4]) o i c d
    rw [hl1, hl2] at h
    show saidM (evS [t0, t1, t2, t3, t4]) (valA (mkA c d)) 4 0 0 (mkM o i) = _
    rw [h]
    cases Z1 <;> cases Z2 <;> rfl
  have e1 : sayE [t0, t1, t2, t3, t4] 4 (mkM o i) (mkA c d) = if Z1 && Z2 then 0 else 1 := by unfold sayE; rw [if_pos hfit, hsaid]; cases Z1 <;> cases Z2 <;> rfl
  have e2 : sayT [t0, t1, t2, t3, t4] 4 (mkM o i) (mkA c d) = if Z1 && Z2 then numM A1 C1 ++ (numM A2 C2 ++ numM A1 C1) else [] := by unfold sayT; rw [if_pos hfit, hsaid]; cases Z1 <;> cases Z2 <;> rfl
  rw [e1, e2] at CS
  obtain ⟨EV, hEV⟩ : ∃ EV, EV = errN (if (Z1 && Z2) = true then 0 else 1) := ⟨_, rfl⟩
  obtain ⟨TX, hTX⟩ : ∃ TX, TX = (if (Z1 && Z2) = true then numM A1 C1 ++ (numM A2 C2 ++ numM A1 C1) else []) := ⟨_, rfl⟩
  rw [← hEV, ← hTX] at CS
  have HEV := Lib.hid hEV
  have HTX := Lib.hid hTX
  clear hEV hTX
  have k1 : decide (o < 0) = false := decide_eq_false (by omega)
  have k2 : decide (9 < o) = false := decide_eq_false (by omega)
  have k3 : decide (i < 0) = false := decide_eq_false (by omega)
  have k4 : decide (9 < i) = false := decide_eq_false (by omega)
  have wo : IntKind.i64.wrap (-o) = -o := IntWalk.i64_in _ (by omega)
  have wi : IntKind.i64.wrap (-i) = -i := IntWalk.i64_in _ (by omega)
  have HK1 := Lib.hid hk1
  have HK2 := Lib.hid hk2
  clear hS hb0 CL hc1 hc2 hl1 hl2 hfit hsaid e1 e2 hd hw hE hk1 hk2
  go_enter Tryz.func5, Tryz.ntmps5
  go_wp2_with fail
  refine CC.out.mono ?_
  rintro e w1 ⟨rfl, hb⟩
  have W1 := Lib.hid (blw_trans W0.out hb)
  have B1 := Lib.hid (B0.out.below hb)
  clear hb CC W0 B0
  have d0 : w1.cell? ⟨w.heap.size, 0, none⟩ = some (.int .i64 c) := B1.out.cell 0 _ rfl
  have d1 : w1.cell? ⟨w.heap.size, 1, none⟩ = some (.int .i64 d) := B1.out.cell 1 _ rfl
  have dl := B1.out.lt
  go_wp2_with fail
  refine (CD.out _).mono ?_
  rintro e w2 ⟨rfl, hb⟩
  have W2 := Lib.hid (blw_trans W1.out hb)
  have B2 := Lib.hid (B1.out.below hb)
  clear hb d0 d1 dl B1 W1 CD
  have d0 : w2.cell? ⟨w.heap.size, 0, none⟩ = some (.int .i64 c) := B2.out.cell 0 _ rfl
  have d1 : w2.cell? ⟨w.heap.size, 1, none⟩ = some (.int .i64 d) := B2.out.cell 1 _ rfl
  have dl := B2.out.lt
  have b0 := ((((((((Boxed.made w2 #[.int .i64 6, .string ⟨#[]⟩, .int .i64 0, .slice none 0 0] 34).alloc (.cells #[.string ⟨#[111, 116, 104, 101, 114]⟩, .slice (some ⟨w2.heap.size, 0, none⟩) 1 1] 41)).alloc (.cells #[.int .i64 5, .string ⟨#[115]⟩, .int .i64 0, .slice (some ⟨w2.heap.size + 1, 0, none⟩) 1 1] 34)).alloc (.cells #[.string ⟨#[111, 116, 104, 101, 114]⟩, .slice (some ⟨w2.heap.size + 1 + 1, 0, none⟩) 1 1] 41)).alloc (.cells #[.int .i64 6, .string ⟨#[]⟩, .int .i64 0, .slice none 0 0, .int .i64 4, .string ⟨#[110]⟩, .int .i64 i, .slice (some ⟨w2.heap.size + 1 + 1 + 1, 0, none⟩) 1 1, .int .i64 6, .string ⟨#[]⟩, .int .i64 0, .slice none 0 0] 34)).alloc (.cells #[.string ⟨#[111, 116, 104, 101, 114]⟩, .slice (some ⟨w2.heap.size + 1 + 1 + 1 + 1, 0, none⟩) 3 3] 41)).alloc (.cells #[.int .i64 4, .string ⟨#[110]⟩, .int .i64 o, .slice (some ⟨w2.heap.size + 1 + 1 + 1 + 1 + 1, 0, none⟩) 1 1] 34)).alloc (.cells #[.string ⟨#[110]⟩, .bool true, .int .i64 c, .int .i64 d, .string ⟨#[]⟩, .string ⟨#[115]⟩, .bool false, .int .i64 0, .int .i64 0, .string ⟨#[]⟩] 36))
  have b1 := (((((((Boxed.made (World.alloc w2 (.cells #[.int .i64 6, .string ⟨#[]⟩, .int .i64 0, .slice none 0 0] 34)) #[.string ⟨#[111, 116, 104, 101, 114]⟩, .slice (some ⟨w2.heap.size, 0, none⟩) 1 1] 41).alloc (.cells #[.int .i64 5, .string ⟨#[115]⟩, .int .i64 0, .slice (some ⟨w2.heap.size + 1, 0, none⟩) 1 1] 34)).alloc (.cells #[.string ⟨#[111, 116, 104, 101, 114]⟩, .slice (some ⟨w2.heap.size + 1 + 1, 0, none⟩) 1 1] 41)).alloc (.cells #[.int .i64 6, .string ⟨#[]⟩, .int .i64 0, .slice none 0 0, .int .i64 4, .string ⟨#[110]⟩, .int .i64 i, .slice (some ⟨w2.heap.size + 1 + 1 + 1, 0, none⟩) 1 1, .int .i64 6, .string ⟨#[]⟩, .int .i64 0, .slice none 0 0] 34)).alloc (.cells #[.string ⟨#[111, 116, 104, 101, 114]⟩, .slice (some ⟨w2.heap.size + 1 + 1 + 1 + 1, 0, none⟩) 3 3] 41)).alloc (.cells #[.int .i64 4, .string ⟨#[110]⟩, .int .i64 o, .slice (some ⟨w2.heap.size + 1 + 1 + 1 + 1 + 1, 0, none⟩) 1 1] 34)).alloc (.cells #[.string ⟨#[110]⟩, .bool true, .int .i64 c, .int .i64 d, .string ⟨#[]⟩, .string ⟨#[115]⟩, .bool false, .int .i64 0, .int .i64 0, .string ⟨#[]⟩] 36))
  simp only [World.size_alloc] at b1
  have b2 := ((((((Boxed.made (World.alloc (World.alloc w2 (.cells #[.int .i64 6, .string ⟨#[]⟩, .int .i64 0, .slice none 0 0] 34)) (.cells #[.string ⟨#[111, 116, 104, 101, 114]⟩, .slice (some ⟨w2.heap.size, 0, none⟩) 1 1] 41)) #[.int .i64 5, .string ⟨#[115]⟩, .int .i64 0, .slice (some ⟨w2.heap.size + 1, 0, none⟩) 1 1] 34).alloc (.cells #[.string ⟨#[111, 116, 104, 101, 114]⟩, .slice (some ⟨w2.heap.size + 1 + 1, 0, none⟩) 1 1] 41)).alloc (.cells #[.int .i64 6, .string ⟨#[]⟩, .int .i64 0, .slice none 0 0, .int .i64 4, .string ⟨#[110]⟩, .int .i64 i, .slice (some ⟨w2.heap.size + 1 + 1 + 1, 0, none⟩) 1 1, .int .i64 6, .string ⟨#[]⟩, .int .i64 0, .slice none 0 0] 34)).alloc (.cells #[.string ⟨#[111, 116, 104, 101, 114]⟩, .slice (some ⟨w2.heap.size + 1 + 1 + 1 + 1, 0, none⟩) 3 3] 41)).alloc (.cells #[.int .i64 4, .string ⟨#[110]⟩, .int .i64 o, .slice (some ⟨w2.heap.size + 1 + 1 + 1 + 1 + 1, 0, none⟩) 1 1] 34)).alloc (.cells #[.string ⟨#[110]⟩, .bool true, .int .i64 c, .int .i64 d, .string ⟨#[]⟩, .string ⟨#[115]⟩, .bool false, .int .i64 0, .int .i64 0, .string ⟨#[]⟩] 36))
  simp only [World.size_alloc] at b2
  have b3 := (((((Boxed.made (World.alloc (World.alloc (World.alloc w2 (.cells #[.int .i64 6, .string ⟨#[]⟩, .int .i64 0, .slice none 0 0] 34)) (.cells #[.string ⟨#[111, 116, 104, 101, 114]⟩, .slice (some ⟨w2.heap.size, 0, none⟩) 1 1] 41)) (.cells #[.int .i64 5, .string ⟨#[115]⟩, .int .i64 0, .slice (some ⟨w2.heap.size + 1, 0, none⟩) 1 1] 34)) #[.string ⟨#[111, 116, 104, 101, 114]⟩, .slice (some ⟨w2.heap.size + 1 + 1, 0, none⟩) 1 1] 41).alloc (.cells #[.int .i64 6, .string ⟨#[]⟩, .int .i64 0, .slice none 0 0, .int .i64 4, .string ⟨#[110]⟩, .int .i64 i, .slice (some ⟨w2.heap.size + 1 + 1 + 1, 0, none⟩) 1 1, .int .i64 6, .string ⟨#[]⟩, .int .i64 0, .slice none 0 0] 34)).alloc (.cells #[.string ⟨#[111, 116, 104, 101, 114]⟩, .slice (some ⟨w2.heap.size + 1 + 1 + 1 + 1, 0, none⟩) 3 3] 41)).alloc (.cells #[.int .i64 4, .string ⟨#[110]⟩, .int .i64 o, .slice (some ⟨w2.heap.size + 1 + 1 + 1 + 1 + 1, 0, none⟩) 1 1] 34)).alloc (.cells #[.string ⟨#[110]⟩, .bool true, .int .i64 c, .int .i64 d, .string ⟨#[]⟩, .string ⟨#[115]⟩, .bool false, .int .i64 0, .int .i64 0, .string ⟨#[]⟩] 36))
  simp only [World.size_alloc] at b3
  have b4 := ((((Boxed.made (World.alloc (World.alloc (World.alloc (World.alloc w2 (.cells #[.int .i64 6, .string ⟨#[]⟩, .int .i64 0, .slice none 0 0] 34)) (.cells #[.string ⟨#[111, 116, 104, 101, 114]⟩, .slice (some ⟨w2.heap.size, 0, none⟩) 1 1] 41)) (.cells #[.int .i64 5, .string ⟨#[115]⟩, .int .i64 0, .slice (some ⟨w2.heap.size + 1, 0, none⟩) 1 1] 34)) (.cells #[.string ⟨#[111, 116, 104, 101, 114]⟩, .slice (some ⟨w2.heap.size + 1 + 1, 0, none⟩) 1 1] 41)) #[.int .i64 6, .string ⟨#[]⟩, .int .i64 0, .slice none 0 0, .int .i64 4, .string ⟨#[110]⟩, .int .i64 i, .slice (some ⟨w2.heap.size + 1 + 1 + 1, 0, none⟩) 1 1, .int .i64 6, .string ⟨#[]⟩, .int .i64 0, .slice none 0 0] 34).alloc (.cells #[.string ⟨#[111, 116, 104, 101, 114]⟩, .slice (some ⟨w2.heap.size + 1 + 1 + 1 + 1, 0, none⟩) 3 3] 41)).alloc (.cells #[.int .i64 4, .string ⟨#[110]⟩, .int .i64 o, .slice (some ⟨w2.heap.size + 1 + 1 + 1 + 1 + 1, 0, none⟩) 1 1] 34)).alloc (.cells #[.string ⟨#[110]⟩, .bool true, .int .i64 c, .int .i64 d, .string ⟨#[]⟩, .string ⟨#[115]⟩, .bool false, .int .i64 0, .int .i64 0, .string ⟨#[]⟩] 36))
  simp only [World.size_alloc] at b4
  have b5 := (((Boxed.made (World.alloc (World.alloc (World.alloc (World.alloc (World.alloc w2 (.cells #[.int .i64 6, .string ⟨#[]⟩, .int .i64 0, .slice none 0 0] 34)) (.cells #[.string ⟨#[111, 116, 104, 101, 114]⟩, .slice (some ⟨w2.heap.size, 0, none⟩) 1 1] 41)) (.cells #[.int .i64 5, .string ⟨#[115]⟩, .int .i64 0, .slice (some ⟨w2.heap.size + 1, 0, none⟩) 1 1] 34)) (.cells #[.string ⟨#[111, 116, 104, 101, 114]⟩, .slice (some ⟨w2.heap.size + 1 + 1, 0, none⟩) 1 1] 41)) (.cells #[.int .i64 6, .string ⟨#[]⟩, .int .i64 0, .slice none 0 0, .int .i64 4, .string ⟨#[110]⟩, .int .i64 i, .slice (some ⟨w2.heap.size + 1 + 1 + 1, 0, none⟩) 1 1, .int .i64 6, .string ⟨#[]⟩, .int .i64 0, .slice none 0 0] 34)) #[.string ⟨#[111, 116, 104, 101, 114]⟩, .slice (some ⟨w2.heap.size + 1 + 1 + 1 + 1, 0, none⟩) 3 3] 41).alloc (.cells #[.int .i64 4, .string ⟨#[110]⟩, .int .i64 o, .slice (some ⟨w2.heap.size + 1 + 1 + 1 + 1 + 1, 0, none⟩) 1 1] 34)).alloc (.cells #[.string ⟨#[110]⟩, .bool true, .int .i64 c, .int .i64 d, .string ⟨#[]⟩, .string ⟨#[115]⟩, .bool false, .int .i64 0, .int .i64 0, .string ⟨#[]⟩] 36))
  simp only [World.size_alloc] at b5
  have b6 := ((Boxed.made (World.alloc (World.alloc (World.alloc (World.alloc (World.alloc (World.alloc w2 (.cells #[.int .i64 6, .string ⟨#[]⟩, .int .i64 0, .slice none 0 0] 34)) (.cells #[.string ⟨#[111, 116, 104, 101, 114]⟩, .slice (some ⟨w2.heap.size, 0, none⟩) 1 1] 41)) (.cells #[.int .i64 5, .string ⟨#[115]⟩, .int .i64 0, .slice (some ⟨w2.heap.size + 1, 0, none⟩) 1 1] 34)) (.cells #[.string ⟨#[111, 116, 104, 101, 114]⟩, .slice (some ⟨w2.heap.size + 1 + 1, 0, none⟩) 1 1] 41)) (.cells #[.int .i64 6, .string ⟨#[]⟩, .int .i64 0, .slice none 0 0, .int .i64 4, .string ⟨#[110]⟩, .int .i64 i, .slice (some ⟨w2.heap.size + 1 + 1 + 1, 0, none⟩) 1 1, .int .i64 6, .string ⟨#[]⟩, .int .i64 0, .slice none 0 0] 34)) (.cells #[.string ⟨#[111, 116, 104, 101, 114]⟩, .slice (some ⟨w2.heap.size + 1 + 1 + 1 + 1, 0, none⟩) 3 3] 41)) #[.int .i64 4, .string ⟨#[110]⟩, .int .i64 o, .slice (some ⟨w2.heap.size + 1 + 1 + 1 + 1 + 1, 0, none⟩) 1 1] 34).alloc (.cells #[.string ⟨#[110]⟩, .bool true, .int .i64 c, .int .i64 d, .string ⟨#[]⟩, .string ⟨#[115]⟩, .bool false, .int .i64 0, .int .i64 0, .string ⟨#[]⟩] 36))
  simp only [World.size_alloc] at b6
  have b7 := (Boxed.made (World.alloc (World.alloc (World.alloc (World.alloc (World.alloc (World.alloc (World.alloc w2 (.cells #[.int .i64 6, .string ⟨#[]⟩, .int .i64 0, .slice none 0 0] 34)) (.cells #[.string ⟨#[111, 116, 104, 101, 114]⟩, .slice (some ⟨w2.heap.size, 0, none⟩) 1 1] 41)) (.cells #[.int .i64 5, .string ⟨#[115]⟩, .int .i64 0, .slice (some ⟨w2.heap.size + 1, 0, none⟩) 1 1] 34)) (.cells #[.string ⟨#[111, 116, 104, 101, 114]⟩, .slice (some ⟨w2.heap.size + 1 + 1, 0, none⟩) 1 1] 41)) (.cells #[.int .i64 6, .string ⟨#[]⟩, .int .i64 0, .slice none 0 0, .int .i64 4, .string ⟨#[110]⟩, .int .i64 i, .slice (some ⟨w2.heap.size + 1 + 1 + 1, 0, none⟩) 1 1, .int .i64 6, .string ⟨#[]⟩, .int .i64 0, .slice none 0 0] 34)) (.cells #[.string ⟨#[111, 116, 104, 101, 114]⟩, .slice (some ⟨w2.heap.size + 1 + 1 + 1 + 1, 0, none⟩) 3 3] 41)) (.cells #[.int .i64 4, .string ⟨#[110]⟩, .int .i64 o, .slice (some ⟨w2.heap.size + 1 + 1 + 1 + 1 + 1, 0, none⟩) 1 1] 34)) #[.string ⟨#[110]⟩, .bool true, .int .i64 c, .int .i64 d, .string ⟨#[]⟩, .string ⟨#[115]⟩, .bool false, .int .i64 0, .int .i64 0, .string ⟨#[]⟩] 36)
  simp only [World.size_alloc] at b7
  have WX := Lib.hid (show Below w.heap.size w (World.alloc (World.alloc (World.alloc (World.alloc (World.alloc (World.alloc (World.alloc (World.alloc w2 (.cells #[.int .i64 6, .string ⟨#[]⟩, .int .i64 0, .slice none 0 0] 34)) (.cells #[.string ⟨#[111, 116, 104, 101, 114]⟩, .slice (some ⟨w2.heap.size, 0, none⟩) 1 1] 41)) (.cells #[.int .i64 5, .string ⟨#[115]⟩, .int .i64 0, .slice (some ⟨w2.heap.size + 1, 0, none⟩) 1 1] 34)) (.cells #[.string ⟨#[111, 116, 104, 101, 114]⟩, .slice (some ⟨w2.heap.size + 1 + 1, 0, none⟩) 1 1] 41)) (.cells #[.int .i64 6, .string ⟨#[]⟩, .int .i64 0, .slice none 0 0, .int .i64 4, .string ⟨#[110]⟩, .int .i64 i, .slice (some ⟨w2.heap.size + 1 + 1 + 1, 0, none⟩) 1 1, .int .i64 6, .string ⟨#[]⟩, .int .i64 0, .slice none 0 0] 34)) (.cells #[.string ⟨#[111, 116, 104, 101, 114]⟩, .slice (some ⟨w2.heap.size + 1 + 1 + 1 + 1, 0, none⟩) 3 3] 41)) (.cells #[.int .i64 4, .string ⟨#[110]⟩, .int .i64 o, .slice (some ⟨w2.heap.size + 1 + 1 + 1 + 1 + 1, 0, none⟩) 1 1] 34)) (.cells #[.string ⟨#[110]⟩, .bool true, .int .i64 c, .int .i64 d, .string ⟨#[]⟩, .string ⟨#[115]⟩, .bool false, .int .i64 0, .int .i64 0, .string ⟨#[]⟩] 36)) from (blw_trans (blw_trans (blw_trans (blw_trans (blw_trans (blw_trans (blw_trans (blw_trans W2.out (blw_alloc w2 (.cells #[.int .i64 6, .string ⟨#[]⟩, .int .i64 0, .slice none 0 0] 34))) (blw_alloc (World.alloc w2 (.cells #[.int .i64 6, .string ⟨#[]⟩, .int .i64 0, .slice none 0 0] 34)) (.cells #[.string ⟨#[111, 116, 104, 101, 114]⟩, .slice (some ⟨w2.heap.size, 0, none⟩) 1 1] 41))) (blw_alloc (World.alloc (World.alloc w2 (.cells #[.int .i64 6, .string ⟨#[]⟩, .int .i64 0, .slice none 0 0] 34)) (.cells #[.string ⟨#[111, 116, 104, 101, 114]⟩, .slice (some ⟨w2.heap.size, 0, none⟩) 1 1] 41)) (.cells #[.int .i64 5, .string ⟨#[115]⟩, .int .i64 0, .slice (some ⟨w2.heap.size + 1, 0, none⟩) 1 1] 34))) (blw_alloc (World.alloc (World.alloc (World.alloc w2 (.cells #[.int .i64 6, .string ⟨#[]⟩, .int .i64 0, .slice none 0 0] 34)) (.cells #[.string ⟨#[111, 116, 104, 101, 114]⟩, .slice (some ⟨w2.heap.size, 0, none⟩) 1 1] 41)) (.cells #[.int .i64 5, .string ⟨#[115]⟩, .int .i64 0, .slice (some ⟨w2.heap.size + 1, 0, none⟩) 1 1] 34)) (.cells #[.string ⟨#[111, 116, 104, 101, 114]⟩, .slice (some ⟨w2.heap.size + 1 + 1, 0, none⟩) 1 1] 41))) (blw_alloc (World.alloc (World.alloc (World.alloc (World.alloc w2 (.cells #[.int .i64 6, .string ⟨#[]⟩, .int .i64 0, .slice none 0 0] 34)) (.cells #[.string ⟨#[111, 116, 104, 101, 114]⟩, .slice (some ⟨w2.heap.size, 0, none⟩) 1 1] 41)) (.cells #[.int .i64 5, .string ⟨#[115]⟩, .int .i64 0, .slice (some ⟨w2.heap.size + 1, 0, none⟩) 1 1] 34)) (.cells #[.string ⟨#[111, 116, 104, 101, 114]⟩, .slice (some ⟨w2.heap.size + 1 + 1, 0, none⟩) 1 1] 41)) (.cells #[.int .i64 6, .string ⟨#[]⟩, .int .i64 0, .slice none 0 0, .int .i64 4, .string ⟨#[110]⟩, .int .i64 i, .slice (some ⟨w2.heap.size + 1 + 1 + 1, 0, none⟩) 1 1, .int .i64 6, .string ⟨#[]⟩, .int .i64 0, .slice none 0 0] 34))) (blw_alloc (World.alloc (World.alloc (World.alloc (World.alloc (World.alloc w2 (.cells #[.int .i64 6, .string ⟨#[]⟩, .int .i64 0, .slice none 0 0] 34)) (.cells #[.string ⟨#[111, 116, 104, 101, 114]⟩, .slice (some ⟨w2.heap.size, 0, none⟩) 1 1] 41)) (.cells #[.int .i64 5, .string ⟨#[115]⟩, .int .i64 0, .slice (some ⟨w2.heap.size + 1, 0, none⟩) 1 1] 34)) (.cells #[.string ⟨#[111, 116, 104, 101, 114]⟩, .slice (some ⟨w2.heap.size + 1 + 1, 0, none⟩) 1 1] 41)) (.cells #[.int .i64 6, .string ⟨#[]⟩, .int .i64 0, .slice none 0 0, .int .i64 4, .string ⟨#[110]⟩, .int .i64 i, .slice (some ⟨w2.heap.size + 1 + 1 + 1, 0, none⟩) 1 1, .int .i64 6, .string ⟨#[]⟩, .int .i64 0, .slice none 0 0] 34)) (.cells #[.string ⟨#[111, 116, 104, 101, 114]⟩, .slice (some ⟨w2.heap.size + 1 + 1 + 1 + 1, 0, none⟩) 3 3] 41))) (blw_alloc (World.alloc (World.alloc (World.alloc (World.alloc (World.alloc (World.alloc w2 (.cells #[.int .i64 6, .string ⟨#[]⟩, .int .i64 0, .slice none 0 0] 34)) (.cells #[.string ⟨#[111, 116, 104, 101, 114]⟩, .slice (some ⟨w2.heap.size, 0, none⟩) 1 1] 41)) (.cells #[.int .i64 5, .string ⟨#[115]⟩, .int .i64 0, .slice (some ⟨w2.heap.size + 1, 0, none⟩) 1 1] 34)) (.cells #[.string ⟨#[111, 116, 104, 101, 114]⟩, .slice (some ⟨w2.heap.size + 1 + 1, 0, none⟩) 1 1] 41)) (.cells #[.int .i64 6, .string ⟨#[]⟩, .int .i64 0, .slice none 0 0, .int .i64 4, .string ⟨#[110]⟩, .int .i64 i, .slice (some ⟨w2.heap.size + 1 + 1 + 1, 0, none⟩) 1 1, .int .i64 6, .string ⟨#[]⟩, .int .i64 0, .slice none 0 0] 34)) (.cells #[.string ⟨#[111, 116, 104, 101, 114]⟩, .slice (some ⟨w2.heap.size + 1 + 1 + 1 + 1, 0, none⟩) 3 3] 41)) (.cells #[.int .i64 4, .string ⟨#[110]⟩, .int .i64 o, .slice (some ⟨w2.heap.size + 1 + 1 + 1 + 1 + 1, 0, none⟩) 1 1] 34))) (blw_alloc (World.alloc (World.alloc (World.alloc (World.alloc (World.alloc (World.alloc (World.alloc w2 (.cells #[.int .i64 6, .string ⟨#[]⟩, .int .i64 0, .slice none 0 0] 34)) (.cells #[.string ⟨#[111, 116, 104, 101, 114]⟩, .slice (some ⟨w2.heap.size, 0, none⟩) 1 1] 41)) (.cells #[.int .i64 5, .string ⟨#[115]⟩, .int .i64 0, .slice (some ⟨w2.heap.size + 1, 0, none⟩) 1 1] 34)) (.cells #[.string ⟨#[111, 116, 104, 101, 114]⟩, .slice (some ⟨w2.heap.size + 1 + 1, 0, none⟩) 1 1] 41)) (.cells #[.int .i64 6, .string ⟨#[]⟩, .int .i64 0, .slice none 0 0, .int .i64 4, .string ⟨#[110]⟩, .int .i64 i, .slice (some ⟨w2.heap.size + 1 + 1 + 1, 0, none⟩) 1 1, .int .i64 6, .string ⟨#[]⟩, .int .i64 0, .slice none 0 0] 34)) (.cells #[.string ⟨#[111, 116, 104, 101, 114]⟩, .slice (some ⟨w2.heap.size + 1 + 1 + 1 + 1, 0, none⟩) 3 3] 41)) (.cells #[.int .i64 4, .string ⟨#[110]⟩, .int .i64 o, .slice (some ⟨w2.heap.size + 1 + 1 + 1 + 1 + 1, 0, none⟩) 1 1] 34)) (.cells #[.string ⟨#[110]⟩, .bool true, .int .i64 c, .int .i64 d, .string ⟨#[]⟩, .string ⟨#[115]⟩, .bool false, .int .i64 0, .int .i64 0, .string ⟨#[]⟩] 36))))
  have BX := Lib.hid (show Boxed (World.alloc (World.alloc (World.alloc (World.alloc (World.alloc (World.alloc (World.alloc (World.alloc w2 (.cells #[.int .i64 6, .string ⟨#[]⟩, .int .i64 0, .slice none 0 0] 34)) (.cells #[.string ⟨#[111, 116, 104, 101, 114]⟩, .slice (some ⟨w2.heap.size, 0, none⟩) 1 1] 41)) (.cells #[.int .i64 5, .string ⟨#[115]⟩, .int .i64 0, .slice (some ⟨w2.heap.size + 1, 0, none⟩) 1 1] 34)) (.cells #[.string ⟨#[111, 116, 104, 101, 114]⟩, .slice (some ⟨w2.heap.size + 1 + 1, 0, none⟩) 1 1] 41)) (.cells #[.int .i64 6, .string ⟨#[]⟩, .int .i64 0, .slice none 0 0, .int .i64 4, .string ⟨#[110]⟩, .int .i64 i, .slice (some ⟨w2.heap.size + 1 + 1 + 1, 0, none⟩) 1 1, .int .i64 6, .string ⟨#[]⟩, .int .i64 0, .slice none 0 0] 34)) (.cells #[.string ⟨#[111, 116, 104, 101, 114]⟩, .slice (some ⟨w2.heap.size + 1 + 1 + 1 + 1, 0, none⟩) 3 3] 41)) (.cells #[.int .i64 4, .string ⟨#[110]⟩, .int .i64 o, .slice (some ⟨w2.heap.size + 1 + 1 + 1 + 1 + 1, 0, none⟩) 1 1] 34)) (.cells #[.string ⟨#[110]⟩, .bool true, .int .i64 c, .int .i64 d, .string ⟨#[]⟩, .string ⟨#[115]⟩, .bool false, .int .i64 0, .int .i64 0, .string ⟨#[]⟩] 36)) w.heap.size #[.int .i64 c, .int .i64 d] from ((((((((B2.out.alloc (.cells #[.int .i64 6, .string ⟨#[]⟩, .int .i64 0, .slice none 0 0] 34)).alloc (.cells #[.string ⟨#[111, 116, 104, 101, 114]⟩, .slice (some ⟨w2.heap.size, 0, none⟩) 1 1] 41)).alloc (.cells #[.int .i64 5, .string ⟨#[115]⟩, .int .i64 0, .slice (some ⟨w2.heap.size + 1, 0, none⟩) 1 1] 34)).alloc (.cells #[.string ⟨#[111, 116, 104, 101, 114]⟩, .slice (some ⟨w2.heap.size + 1 + 1, 0, none⟩) 1 1] 41)).alloc (.cells #[.int .i64 6, .string ⟨#[]⟩, .int .i64 0, .slice none 0 0, .int .i64 4, .string ⟨#[110]⟩, .int .i64 i, .slice (some ⟨w2.heap.size + 1 + 1 + 1, 0, none⟩) 1 1, .int .i64 6, .string ⟨#[]⟩, .int .i64 0, .slice none 0 0] 34)).alloc (.cells #[.string ⟨#[111, 116, 104, 101, 114]⟩, .slice (some ⟨w2.heap.size + 1 + 1 + 1 + 1, 0, none⟩) 3 3] 41)).alloc (.cells #[.int .i64 4, .string ⟨#[110]⟩, .int .i64 o, .slice (some ⟨w2.heap.size + 1 + 1 + 1 + 1 + 1, 0, none⟩) 1 1] 34)).alloc (.cells #[.string ⟨#[110]⟩, .bool true, .int .i64 c, .int .i64 d, .string ⟨#[]⟩, .string ⟨#[115]⟩, .bool false, .int .i64 0, .int .i64 0, .string ⟨#[]⟩] 36)))
  have MX := Lib.hid (mk_at b0 b1 b2 b3 b4 b5 b6)
  have AX := Lib.hid (show ArgsAt (World.alloc (World.alloc (World.alloc (World.alloc (World.alloc (World.alloc (World.alloc (World.alloc w2 (.cells #[.int .i64 6, .string ⟨#[]⟩, .int .i64 0, .slice none 0 0] 34)) (.cells #[.string ⟨#[111, 116, 104, 101, 114]⟩, .slice (some ⟨w2.heap.size, 0, none⟩) 1 1] 41)) (.cells #[.int .i64 5, .string ⟨#[115]⟩, .int .i64 0, .slice (some ⟨w2.heap.size + 1, 0, none⟩) 1 1] 34)) (.cells #[.string ⟨#[111, 116, 104, 101, 114]⟩, .slice (some ⟨w2.heap.size + 1 + 1, 0, none⟩) 1 1] 41)) (.cells #[.int .i64 6, .string ⟨#[]⟩, .int .i64 0, .slice none 0 0, .int .i64 4, .string ⟨#[110]⟩, .int .i64 i, .slice (some ⟨w2.heap.size + 1 + 1 + 1, 0, none⟩) 1 1, .int .i64 6, .string ⟨#[]⟩, .int .i64 0, .slice none 0 0] 34)) (.cells #[.string ⟨#[111, 116, 104, 101, 114]⟩, .slice (some ⟨w2.heap.size + 1 + 1 + 1 + 1, 0, none⟩) 3 3] 41)) (.cells #[.int .i64 4, .string ⟨#[110]⟩, .int .i64 o, .slice (some ⟨w2.heap.size + 1 + 1 + 1 + 1 + 1, 0, none⟩) 1 1] 34)) (.cells #[.string ⟨#[110]⟩, .bool true, .int .i64 c, .int .i64 d, .string ⟨#[]⟩, .string ⟨#[115]⟩, .bool false, .int .i64 0, .int .i64 0, .string ⟨#[]⟩] 36)) (.slice (some ⟨w2.heap.size + 1 + 1 + 1 + 1 + 1 + 1 + 1, 0, none⟩) 2 2) (mkA c d) from args_box (l := mkA c d) b7 (by show 0 < 2; omega) (by show 2 ≤ 1000; omega))
  have CSi := Lib.hid (CS.out _ _ _ WX.out MX.out AX.out)
  have BZ := Lib.hid (show Boxed (World.alloc (World.alloc (World.alloc (World.alloc (World.alloc (World.alloc (World.alloc w2 (.cells #[.int .i64 6, .string ⟨#[]⟩, .int .i64 0, .slice none 0 0] 34)) (.cells #[.string ⟨#[111, 116, 104, 101, 114]⟩, .slice (some ⟨w2.heap.size, 0, none⟩) 1 1] 41)) (.cells #[.int .i64 5, .string ⟨#[115]⟩, .int .i64 0, .slice (some ⟨w2.heap.size + 1, 0, none⟩) 1 1] 34)) (.cells #[.string ⟨#[111, 116, 104, 101, 114]⟩, .slice (some ⟨w2.heap.size + 1 + 1, 0, none⟩) 1 1] 41)) (.cells #[.int .i64 6, .string ⟨#[]⟩, .int .i64 0, .slice none 0 0, .int .i64 4, .string ⟨#[110]⟩, .int .i64 i, .slice (some ⟨w2.heap.size + 1 + 1 + 1, 0, none⟩) 1 1, .int .i64 6, .string ⟨#[]⟩, .int .i64 0, .slice none 0 0] 34)) (.cells #[.string ⟨#[111, 116, 104, 101, 114]⟩, .slice (some ⟨w2.heap.size + 1 + 1 + 1 + 1, 0, none⟩) 3 3] 41)) (.cells #[.int .i64 4, .string ⟨#[110]⟩, .int .i64 o, .slice (some ⟨w2.heap.size + 1 + 1 + 1 + 1 + 1, 0, none⟩) 1 1] 34)) w.heap.size #[.int .i64 c, .int .i64 d] from (((((((B2.out.alloc (.cells #[.int .i64 6, .string ⟨#[]⟩, .int .i64 0, .slice none 0 0] 34)).alloc (.cells #[.string ⟨#[111, 116, 104, 101, 114]⟩, .slice (some ⟨w2.heap.size, 0, none⟩) 1 1] 41)).alloc (.cells #[.int .i64 5, .string ⟨#[115]⟩, .int .i64 0, .slice (some ⟨w2.heap.size + 1, 0, none⟩) 1 1] 34)).alloc (.cells #[.string ⟨#[111, 116, 104, 101, 114]⟩, .slice (some ⟨w2.heap.size + 1 + 1, 0, none⟩) 1 1] 41)).alloc (.cells #[.int .i64 6, .string ⟨#[]⟩, .int .i64 0, .slice none 0 0, .int .i64 4, .string ⟨#[110]⟩, .int .i64 i, .slice (some ⟨w2.heap.size + 1 + 1 + 1, 0, none⟩) 1 1, .int .i64 6, .string ⟨#[]⟩, .int .i64 0, .slice none 0 0] 34)).alloc (.cells #[.string ⟨#[111, 116, 104, 101, 114]⟩, .slice (some ⟨w2.heap.size + 1 + 1 + 1 + 1, 0, none⟩) 3 3] 41)).alloc (.cells #[.int .i64 4, .string ⟨#[110]⟩, .int .i64 o, .slice (some ⟨w2.heap.size + 1 + 1 + 1 + 1 + 1, 0, none⟩) 1 1] 34)))
  have z0 : World.cell? (World.alloc (World.alloc (World.alloc (World.alloc (World.alloc (World.alloc (World.alloc w2 (.cells #[.int .i64 6, .string ⟨#[]⟩, .int .i64 0, .slice none 0 0] 34)) (.cells #[.string ⟨#[111, 116, 104, 101, 114]⟩, .slice (some ⟨w2.heap.size, 0, none⟩) 1 1] 41)) (.cells #[.int .i64 5, .string ⟨#[115]⟩, .int .i64 0, .slice (some ⟨w2.heap.size + 1, 0, none⟩) 1 1] 34)) (.cells #[.string ⟨#[111, 116, 104, 101, 114]⟩, .slice (some ⟨w2.heap.size + 1 + 1, 0, none⟩) 1 1] 41)) (.cells #[.int .i64 6, .string ⟨#[]⟩, .int .i64 0, .slice none 0 0, .int .i64 4, .string ⟨#[110]⟩, .int .i64 i, .slice (some ⟨w2.heap.size + 1 + 1 + 1, 0, none⟩) 1 1, .int .i64 6, .string ⟨#[]⟩, .int .i64 0, .slice none 0 0] 34)) (.cells #[.string ⟨#[111, 116, 104, 101, 114]⟩, .slice (some ⟨w2.heap.size + 1 + 1 + 1 + 1, 0, none⟩) 3 3] 41)) (.cells #[.int .i64 4, .string ⟨#[110]⟩, .int .i64 o, .slice (some ⟨w2.heap.size + 1 + 1 + 1 + 1 + 1, 0, none⟩) 1 1] 34)) ⟨w.heap.size, 0, none⟩ = some (.int .i64 c) := BZ.out.cell 0 _ rfl
  have z1 : World.cell? (World.alloc (World.alloc (World.alloc (World.alloc (World.alloc (World.alloc (World.alloc w2 (.cells #[.int .i64 6, .string ⟨#[]⟩, .int .i64 0, .slice none 0 0] 34)) (.cells #[.string ⟨#[111, 116, 104, 101, 114]⟩, .slice (some ⟨w2.heap.size, 0, none⟩) 1 1] 41)) (.cells #[.int .i64 5, .string ⟨#[115]⟩, .int .i64 0, .slice (some ⟨w2.heap.size + 1, 0, none⟩) 1 1] 34)) (.cells #[.string ⟨#[111, 116, 104, 101, 114]⟩, .slice (some ⟨w2.heap.size + 1 + 1, 0, none⟩) 1 1] 41)) (.cells #[.int .i64 6, .string ⟨#[]⟩, .int .i64 0, .slice none 0 0, .int .i64 4, .string ⟨#[110]⟩, .int .i64 i, .slice (some ⟨w2.heap.size + 1 + 1 + 1, 0, none⟩) 1 1, .int .i64 6, .string ⟨#[]⟩, .int .i64 0, .slice none 0 0] 34)) (.cells #[.string ⟨#[111, 116, 104, 101, 114]⟩, .slice (some ⟨w2.heap.size + 1 + 1 + 1 + 1, 0, none⟩) 3 3] 41)) (.cells #[.int .i64 4, .string ⟨#[110]⟩, .int .i64 o, .slice (some ⟨w2.heap.size + 1 + 1 + 1 + 1 + 1, 0, none⟩) 1 1] 34)) ⟨w.heap.size, 1, none⟩ = some (.int .i64 d) := BZ.out.cell 1 _ rfl
  clear b0 b1 b2 b3 b4 b5 b6 b7 CS MX AX B2 W2
  go_wp2_with fail
  refine CSi.out.mono ?_
  rintro e w4 ⟨rfl, hb⟩
  have W4 := Lib.hid (blw_trans WX.out hb)
  have B4 := Lib.hid (BX.out.below hb)
  clear hb CSi WX BX BZ z0 z1 d0 d1 dl
  have d0 : w4.cell? ⟨w.heap.size, 0, none⟩ = some (.int .i64 c) := B4.out.cell 0 _ rfl
  have d1 : w4.cell? ⟨w.heap.size, 1, none⟩ = some (.int .i64 d) := B4.out.cell 1 _ rfl
  have dl := B4.out.lt
  go_wp2_with fail
  refine (CA1.out _).mono ?_
  rintro e w5 ⟨rfl, hb⟩
  have hne : w.heap.size ≠ w5.heap.size := Nat.ne_of_lt (B4.out.below hb).lt
  have W5 := Lib.hid (blw_trans (blw_trans W4.out hb) (blw_alloc w5 (.cells #[.int .i64 A1, .int .i64 C1] 31)))
  have B5 := Lib.hid ((B4.out.below hb).alloc (.cells #[.int .i64 A1, .int .i64 C1] 31))
  have L5 := Lib.hid (Boxed.made w5 #[.int .i64 A1, .int .i64 C1] 31)
  clear hb W4 B4 d0 d1 dl CA1
  have d0 : (w5.alloc (.cells #[.int .i64 A1, .int .i64 C1] 31)).cell? ⟨w.heap.size, 0, none⟩ = some (.int .i64 c) := B5.out.cell 0 _ rfl
  have d1 : (w5.alloc (.cells #[.int .i64 A1, .int .i64 C1] 31)).cell? ⟨w.heap.size, 1, none⟩ = some (.int .i64 d) := B5.out.cell 1 _ rfl
  have dl := B5.out.lt
  go_wp2_with fail
  refine (CA2.out _).mono ?_
  rintro e w6 ⟨rfl, hb⟩
  have W6 := Lib.hid (blw_trans (blw_trans W5.out hb) (blw_alloc w6 (.cells #[.int .i64 A2, .int .i64 C2] 31)))
  have L7 := Lib.hid ((L5.out.below hb).alloc (.cells #[.int .i64 A2, .int .i64 C2] 31))
  have M6 := Lib.hid (Boxed.made w6 #[.int .i64 A2, .int .i64 C2] 31)
  clear hb W5 B5 L5 d0 d1 dl CA2 hne
  generalize w5.heap.size = p5 at *
  go_upto_region 11 with fail
  generalize w6.heap.size = p6 at *
  generalize w6.alloc (.cells #[.int .i64 A2, .int .i64 C2] 31) = w7 at *
  have OUT : Z1 = true ∧ Z2 = true ∨ (Z1 && Z2) = false := by cases Z1 <;> cases Z2 <;> simp
  cases Z1 with
  | false =>
    have hv : EV = errV 1 := HEV.out.trans errN_one
    have ht : TX = [] := HTX.out
    subst hv ht
    clear HEV HTX OUT
    go_wp2_with fail
    go_ret
    exact ⟨ret_bool (by simp), W6.out⟩
  | true =>
  cases Z2 with
  | false =>
    have hv : EV = errV 1 := HEV.out.trans errN_one
    have ht : TX = [] := HTX.out
    subst hv ht
    clear HEV HTX OUT
    go_wp2_with fail
    go_ret
    exact ⟨ret_bool (by simp), W6.out⟩
  | true =>
  have hv : EV = .nilIface := HEV.out
  have HT := Lib.hid (show TX = numM A1 C1 ++ (numM A2 C2 ++ numM A1 C1) from HTX.out)
  subst hv
  have hd1 := HK1.out rfl
  have hd2 := HK2.out rfl
  have n1 := numM_len A1 C1 hd1
  have n2 := numM_len A2 C2 hd2
  have CQ1 := Lib.hid fun w => qnumeral_any A1 C1 w hd1
  have CQ2 := Lib.hid fun w => qnumeral_any A2 C2 w hd2
  clear HEV HTX OUT HK1 HK2 hd1 hd2
  generalize numM A1 C1 = x1 at *
  generalize numM A2 C2 = x2 at *
  obtain ⟨Y1, hY1⟩ : ∃ Y1, Y1 = x1 ++ x2 := ⟨_, rfl⟩
  have m1 : Y1.length ≤ 2000 := by rw [hY1]; simp; omega
  have S1 : ∀ w, (Op.stringOp .add ⟨x1.toArray⟩ ⟨x2.toArray⟩).run Tryz.prog w = .ok (.string ⟨Y1.toArray⟩) w := fun w => by rw [hY1]; exact add_str (P := Tryz.prog) x1 x2 (by omega) w
  have S2 : ∀ w, (Op.stringOp .add ⟨Y1.toArray⟩ ⟨x1.toArray⟩).run Tryz.prog w = .ok (.string ⟨TX.toArray⟩) w := fun w => by rw [HT.out, ← List.append_assoc, ← hY1]; exact add_str (P := Tryz.prog) Y1 x1 (by omega) w
  clear hY1 HT
  go_upto_region 13 with fail
  have l0 : w7.cell? ⟨p5, 0, none⟩ = some (.int .i64 A1) := L7.out.cell 0 _ rfl
  have l1 : w7.cell? ⟨p5, 1, none⟩ = some (.int .i64 C1) := L7.out.cell 1 _ rfl
  have l2 : w7.cell? ⟨p6, 0, none⟩ = some (.int .i64 A2) := M6.out.cell 0 _ rfl
  have l3 : w7.cell? ⟨p6, 1, none⟩ = some (.int .i64 C2) := M6.out.cell 1 _ rfl
  refine wp_region_held_drew (S := fun w' => w'.cell? ⟨p5, 0, none⟩ = some (.int .i64 A1) ∧ w'.cell? ⟨p5, 1, none⟩ = some (.int .i64 C1) ∧ w'.cell? ⟨p6, 0, none⟩ = some (.int .i64 A2) ∧ w'.cell? ⟨p6, 1, none⟩ = some (.int .i64 C2) ∧ Hid (Below w.heap.size w w')) (by kernel_rfl) (⟨l0, l1, l2, l3, Lib.hid (Below.drew W6.out)⟩) (fun hHeld => ?_)
  refine take_run (d := (some 102)) (v := ?v1) 0 rfl rfl (by kernel_rfl) (by kernel_rfl) (by kernel_rfl) (fun _ _ _ h => h) (by rfl) hHeld ?hy1 ?rs1
  case hy1 => (intro w hSw; (try dsimp only at hSw); go_simp) <;> (try with_reducible rfl)
  (try simp only [Act.put, List.setIfInBounds_toArray, List.set_cons_zero, List.set_cons_succ])
  refine take_run (d := (some 103)) (v := ?v2) 1 rfl rfl (by kernel_rfl) (by kernel_rfl) (by kernel_rfl) (fun _ _ _ h => h) (by rfl) hHeld ?hy2 ?rs2
  case hy2 => (intro w hSw; (try dsimp only at hSw); go_simp) <;> (try with_reducible rfl)
  (try simp only [Act.put, List.setIfInBounds_toArray, List.set_cons_zero, List.set_cons_succ])
  refine take_run (d := (some 104)) (v := ?v3) 2 rfl rfl (by kernel_rfl) (by kernel_rfl) (by kernel_rfl) (fun _ _ _ h => h) (by rfl) hHeld ?hy3 ?rs3
  case hy3 => (intro w hSw; (try dsimp only at hSw); go_simp) <;> (try with_reducible rfl)
  (try simp only [Act.put, List.setIfInBounds_toArray, List.set_cons_zero, List.set_cons_succ])
  refine take_run (d := (some 105)) (v := ?v4) 3 rfl rfl (by kernel_rfl) (by kernel_rfl) (by kernel_rfl) (fun _ _ _ h => h) (by rfl) hHeld ?hy4 ?rs4
  case hy4 => (intro w hSw; (try dsimp only at hSw); go_simp) <;> (try with_reducible rfl)
  (try simp only [Act.put, List.setIfInBounds_toArray, List.set_cons_zero, List.set_cons_succ])
  refine take_run (d := (some 106)) (v := ?v5) 4 rfl rfl (by kernel_rfl) (by kernel_rfl) (by kernel_rfl) (fun _ _ _ h => h) (by rfl) hHeld ?hy5 ?rs5
  case hy5 => (intro w hSw; (try dsimp only at hSw); go_simp) <;> (try with_reducible rfl)
  (try simp only [Act.put, List.setIfInBounds_toArray, List.set_cons_zero, List.set_cons_succ])
  refine take_run (d := (some 107)) (v := ?v6) 5 rfl rfl (by kernel_rfl) (by kernel_rfl) (by kernel_rfl) (fun _ _ _ h => h) (by rfl) hHeld ?hy6 ?rs6
  case hy6 => (intro w hSw; (try dsimp only at hSw); go_simp) <;> (try with_reducible rfl)
  (try simp only [Act.put, List.setIfInBounds_toArray, List.set_cons_zero, List.set_cons_succ])
  refine take_run (d := (some 108)) (v := ?v7) 6 rfl rfl (by kernel_rfl) (by kernel_rfl) (by kernel_rfl) (fun _ _ _ h => h) (by rfl) hHeld ?hy7 ?rs7
  case hy7 => (intro w hSw; (try dsimp only at hSw); go_simp) <;> (try with_reducible rfl)
  (try simp only [Act.put, List.setIfInBounds_toArray, List.set_cons_zero, List.set_cons_succ])
  refine take_run (d := (some 109)) (v := ?v8) 7 rfl rfl (by kernel_rfl) (by kernel_rfl) (by kernel_rfl) (fun _ _ _ h => h) (by rfl) hHeld ?hy8 ?rs8
  case hy8 => (intro w hSw; (try dsimp only at hSw); go_simp) <;> (try with_reducible rfl)
  (try simp only [Act.put, List.setIfInBounds_toArray, List.set_cons_zero, List.set_cons_succ])
  refine take_run (d := (some 111)) (v := ?v9) 9 rfl rfl (by kernel_rfl) (by kernel_rfl) (by kernel_rfl) (fun _ _ _ h => h) (by rfl) hHeld ?hy9 ?rs9
  case hy9 => (intro w hSw; (try dsimp only at hSw); go_simp) <;> (try with_reducible rfl)
  (try simp only [Act.put, List.setIfInBounds_toArray, List.set_cons_zero, List.set_cons_succ])
  refine take_run (d := (some 114)) (v := ?v10) 12 rfl rfl (by kernel_rfl) (by kernel_rfl) (by kernel_rfl) (fun _ _ _ h => h) (by rfl) hHeld ?hy10 ?rs10
  case hy10 => (intro w hSw; (try dsimp only at hSw); go_simp) <;> (try with_reducible rfl)
  (try simp only [Act.put, List.setIfInBounds_toArray, List.set_cons_zero, List.set_cons_succ])
  refine take_call 8 rfl (by kernel_rfl) (by rfl) (fun K hK => ?_)
  go_simp
  refine (CQ1.out _).mono ?_
  rintro e w' ⟨rfl, hb⟩
  refine hK.out _ _ (by obtain ⟨h0, h1, h2, h3, hw⟩ := hHeld; exact ⟨cell_keep h0 hb, cell_keep h1 hb, cell_keep h2 hb, cell_keep h3 hb, Lib.hid (blw_trans hw.out hb)⟩) (fun hHeld => ?_)
  clear hK K
  (try simp only [Act.put, List.setIfInBounds_toArray, List.set_cons_zero, List.set_cons_succ])
  refine take_call 10 rfl (by kernel_rfl) (by rfl) (fun K hK => ?_)
  go_simp
  refine (CQ2.out _).mono ?_
  rintro e w' ⟨rfl, hb⟩
  refine hK.out _ _ (by obtain ⟨h0, h1, h2, h3, hw⟩ := hHeld; exact ⟨cell_keep h0 hb, cell_keep h1 hb, cell_keep h2 hb, cell_keep h3 hb, Lib.hid (blw_trans hw.out hb)⟩) (fun hHeld => ?_)
  clear hK K
  (try simp only [Act.put, List.setIfInBounds_toArray, List.set_cons_zero, List.set_cons_succ])
  refine take_run (d := (some 113)) (v := ?v13) 11 rfl rfl (by kernel_rfl) (by kernel_rfl) (by kernel_rfl) (fun _ _ _ h => h) (by rfl) hHeld ?hy13 ?rs13
  case hy13 => (intro w hSw; (try dsimp only at hSw); go_simp) <;> (try with_reducible rfl)
  (try simp only [Act.put, List.setIfInBounds_toArray, List.set_cons_zero, List.set_cons_succ])
  refine take_call 13 rfl (by kernel_rfl) (by rfl) (fun K hK => ?_)
  go_simp
  refine (CQ1.out _).mono ?_
  rintro e w' ⟨rfl, hb⟩
  refine hK.out _ _ (by obtain ⟨h0, h1, h2, h3, hw⟩ := hHeld; exact ⟨cell_keep h0 hb, cell_keep h1 hb, cell_keep h2 hb, cell_keep h3 hb, Lib.hid (blw_trans hw.out hb)⟩) (fun hHeld => ?_)
  clear hK K
  (try simp only [Act.put, List.setIfInBounds_toArray, List.set_cons_zero, List.set_cons_succ])
  refine take_run (d := (some 116)) (v := ?v15) 14 rfl rfl (by kernel_rfl) (by kernel_rfl) (by kernel_rfl) (fun _ _ _ h => h) (by rfl) hHeld ?hy15 ?rs15
  case hy15 => (intro w hSw; (try dsimp only at hSw); go_simp) <;> (try with_reducible rfl)
  (try simp only [Act.put, List.setIfInBounds_toArray, List.set_cons_zero, List.set_cons_succ])
  refine take_run (d := (some 117)) (v := ?v16) 15 rfl rfl (by kernel_rfl) (by kernel_rfl) (by kernel_rfl) (fun _ _ _ h => h) (by rfl) hHeld ?hy16 ?rs16
  case hy16 => (intro w hSw; (try dsimp only at hSw); go_simp) <;> (try with_reducible rfl)
  (try simp only [Act.put, List.setIfInBounds_toArray, List.set_cons_zero, List.set_cons_succ])
  refine take_run (d := (some 118)) (v := ?v17) 16 rfl rfl (by kernel_rfl) (by kernel_rfl) (by kernel_rfl) (fun _ _ _ h => h) (by rfl) hHeld ?hy17 ?rs17
  case hy17 => (intro w hSw; (try dsimp only at hSw); go_simp) <;> (try with_reducible rfl)
  (try simp only [Act.put, List.setIfInBounds_toArray, List.set_cons_zero, List.set_cons_succ])
  refine take_run (d := (some 8)) (v := ?v18) 17 rfl rfl (by kernel_rfl) (by kernel_rfl) (by kernel_rfl) (fun _ _ _ h => h) (by rfl) hHeld ?hy18 ?rs18
  case hy18 => (intro w hSw; (try dsimp only at hSw); go_simp) <;> (try with_reducible rfl)
  (try simp only [Act.put, List.setIfInBounds_toArray, List.set_cons_zero, List.set_cons_succ])
  refine wpAnyH_done (by kernel_rfl) ?_ _
  obtain ⟨z0, z1, z2, z3, zW⟩ := hHeld
  go_wp2_with fail
  go_ret
  exact ⟨ret_bool (by simp), zW.out⟩
theorem emark_any (c d o i : Int) (lang : List UInt8) (w : World) (hw : MW w) (hE : EvW w) :
    Calls Tryz.prog 5 #[.agg #[.int .i64 c, .int .i64 d], .int .i64 o, .int .i64 i, .string ⟨lang.toArray⟩] w fun e w' => e = .returned (.bool true) ∧ Below w.heap.size w w' := by
  by_cases h : 0 ≤ o ∧ o ≤ 9 ∧ 0 ≤ i ∧ i ≤ 9 ∧ okD c d
  · exact emark_in c d o i lang w hw hE ⟨h.1, h.2.1⟩ ⟨h.2.2.1, h.2.2.2.1⟩ h.2.2.2.2
  · exact emark_out c d o i lang w hw hE h
end Go.Proofs.YtldbfkccieipjaaGreatDoor
namespace Go.Proofs.YtldbfkccieipjaaGreatDoor.lawEvalMark
open Go.ChangeShapes Go.WideShapes Go.ChangeAt Go.RowKit Go.Joins

theorem own : ownKnob Tryz.prog.godebug = none := by kernel_rfl
theorem laidOut : laidOutB Tryz.prog = true := by kernel_rfl
theorem cellsDec : Tryz.prog.cellsOf 31 = 2 := by kernel_rfl

set_option maxRecDepth 100000 in
theorem contract (H : Type) (enc : TypeId × Value → H) (W : World) (base : Nat) (args : Array Value) (ds gs : List (DataW H)) (before : List MemPlace)
    (hval : ∀ (j : Nat) t v, Tryz.f5.params[j]? = some t → args[j]? = some v → Value.okWide Tryz.prog W .any base t v)
    (hW : DataW.Whole enc Tryz.prog Tryz.f5.params.toList Rows.evalMarkSpec.vars false W args.toList ds gs before) (hL : laidMetH Tryz.prog Rows.evalMarkUptoRow.laid W) (hS : W.ShapedOpen Tryz.prog) :
    Calls Tryz.prog 5 args W fun e W' => ∃ v, e = .returned v ∧ Rows.evalMarkSpec.post enc Tryz.prog Tryz.f5 false true false false W args v W' := by
  have hpost : ∀ W', Below W.heap.size W W' → Rows.evalMarkSpec.post enc Tryz.prog Tryz.f5 false true false false W args (.bool true) W' := fun W' hb =>
    law_post (tb := 4) laidOut rfl Tryz.underlying4 rfl (by kernel_rfl) (fun ds h => by match ds, h with | [x0, x1, x2, x3], _ => rfl) hW hb
  obtain ⟨p, q, hA0, hV, _, hfz, hnd⟩ := hW
  have hA : DataW.TrodAll enc Tryz.prog W 0 (fun _ => true) true Tryz.f5.params.toList args.toList ds p := hA0
  obtain ⟨rfl, rfl⟩ := trodVars_none hV
  rw [Tryz.params5] at hA hval
  obtain ⟨v0, vs0, d0, ds0, p0, q0, hargs, rfl, hp0, h0, r0⟩ := trodAll_cons hA
  obtain ⟨v1, vs1, d1, ds1, p1, q1, rfl, rfl, hp1, h1, r1⟩ := trodAll_cons r0
  obtain ⟨v2, vs2, d2, ds2, p2, q2, rfl, rfl, hp2, h2, r2⟩ := trodAll_cons r1
  obtain ⟨v3, vs3, d3, ds3, p3, q3, rfl, rfl, hp3, h3, r3⟩ := trodAll_cons r2
  obtain ⟨rfl, rfl, hp⟩ := trodAll_nil r3
  obtain rfl : args = #[v0, v1, v2, v3] := by cases args; simp_all
  obtain ⟨c0_0, c0_1, y0_0, y0_1, m0, rfl, rfl, rfl, hy0_0, hy0_1⟩ := open_agg2 Tryz.underlying31 (by kernel_rfl) cellsDec (hval 0 31 v0 rfl rfl) h0
  obtain ⟨d_c, e0_0, _, w_d_c⟩ := DataW.trod_int Tryz.underlying3 hy0_0
  obtain ⟨d_s, e0_1, _, w_d_s⟩ := DataW.trod_int Tryz.underlying3 hy0_1
  simp at e0_0 e0_1
  subst e0_0 e0_1
  have b_d_c := bounds_i64 w_d_c
  have b_d_s := bounds_i64 w_d_s
  obtain ⟨o, rfl, rfl, rfl, w_o⟩ := open_int Tryz.underlying3 (hval 1 3 v1 rfl rfl) h1
  have b_o := bounds_i64 w_o
  obtain ⟨i, rfl, rfl, rfl, w_i⟩ := open_int Tryz.underlying3 (hval 2 3 v2 rfl rfl) h2
  have b_i := bounds_i64 w_i
  obtain ⟨l, rfl, rfl, rfl, w_l⟩ := ChangeMaps.open_string Tryz.underlying9 (hval 3 9 v3 rfl rfl) h3
  clear hA0 hfz hnd hval
  have hm : MaxW W := Go.Proofs.cell_of_shapedOpen_int (zero := #[.int .i64 0]) (t := 3) hS (of_decide_eq_true (by kernel_rfl)) (by kernel_rfl) rfl (by kernel_rfl) (by kernel_rfl) Tryz.underlying3
  have hT : TR W := ⟨powW_of hL (by kernel_rfl), numW_of hL (by kernel_rfl) (by kernel_rfl), hm⟩
  have hM : MW W := ⟨powW_of hL (by kernel_rfl), numW_of hL (by kernel_rfl) (by kernel_rfl), kdW_of hL (by kernel_rfl)⟩
  have hE : EvW W := ⟨hT, kindsW_of hL (by kernel_rfl), numerW_of hL (by kernel_rfl) (by kernel_rfl)⟩
  refine Calls.mono (?_ : Calls Tryz.prog 5 #[.agg #[.int .i64 d_c, .int .i64 d_s], .int .i64 o, .int .i64 i, .string l] W fun e w' => e = .returned (.bool true) ∧ Below W.heap.size W w') fun e W' ⟨he, hb⟩ => ⟨_, he, hpost W' hb⟩
  obtain ⟨ll, rfl⟩ : ∃ x : List UInt8, l = ⟨x.toArray⟩ := ⟨l.data.toList, rfl⟩
  exact emark_any d_c d_s o i ll W hM hE

theorem start_met (os : Os) : laidMetH Tryz.prog Rows.evalMarkUptoRow.laid ((World.laidAll Tryz.prog os Rows.evalMarkUptoRow.laid).forCall (fun _ _ => 0) ⟨#[], #[.agg #[.int .i64 0, .int .i64 0], .int .i64 0, .int .i64 0, .string ⟨#[]⟩], []⟩).memory :=
  by rw [MakeChecks.laidMetH_plain _ _ _ (by kernel_rfl)]; exact laidMet_laidAll _ (by kernel_rfl) (by kernel_rfl)
theorem start_reads (os : Os) {H : Type} (enc : TypeId × Value → H) : ∃ places, DataW.whole enc Tryz.prog ((World.laidAll Tryz.prog os Rows.evalMarkUptoRow.laid).forCall (fun _ _ => 0) ⟨#[], #[.agg #[.int .i64 0, .int .i64 0], .int .i64 0, .int .i64 0, .string ⟨#[]⟩], []⟩).memory Tryz.f5.params.toList Rows.evalMarkSpec.vars false (#[.agg #[.int .i64 0, .int .i64 0], .int .i64 0, .int .i64 0, .string ⟨#[]⟩] : Array Value).toList 8 = some ([.agg [.lit (.int .i64 0), .lit (.int .i64 0)], .lit (.int .i64 0), .lit (.int .i64 0), .lit (.string [])], [], places) :=
  ⟨[], by kernel_rfl⟩

set_option maxRecDepth 100000 in
theorem lifted (os : Os) (started : os.Started) (H : Type) (enc : TypeId × Value → H) (F : Stop.Interp) :
    ReturnsInHanded {} Tryz.checked os 5 .any ((Rows.OpenSpec.upto Rows.evalMarkSpec).preRow enc Tryz.prog Tryz.f5 Rows.evalMarkUptoRow.domain false Rows.evalMarkUptoRow.laid) (((Rows.OpenSpec.upto Rows.evalMarkSpec).at F).post enc Tryz.prog Tryz.f5 false true false false) := by
  obtain ⟨places, hx⟩ := start_reads os enc
  refine returnsInHanded_of_row (C := Tryz.checked) (s := Rows.OpenSpec.upto Rows.evalMarkSpec) own started (by kernel_rfl) Tryz.func5
    (witness_row_atRef (enc := enc) (C := Tryz.checked) false (World.laidAll Tryz.prog os Rows.evalMarkUptoRow.laid) #[.agg #[.int .i64 0, .int .i64 0], .int .i64 0, .int .i64 0, .string ⟨#[]⟩] (World.laidAll_os _ _ _) (by kernel_rfl) (by kernel_rfl) (by kernel_rfl)
      (OpenSpec.preRow_of_cond 8 hx (by kernel_rfl) (fun k hk => by cases hk; kernel_rfl) (by kernel_rfl) (start_met os))) ?_
  intro W base args ds gs before hval hW _ _ _ hL hS _
  exact contract H enc W base args ds gs before hval hW hL hS

theorem cl1 : (Rows.evalMarkUptoRow.inPlace == Tryz.pinned.checked.prog.inPlace 5) = true := by kernel_rfl
theorem cl2 : (Rows.evalMarkUptoRow.unfollowed == Tryz.pinned.checked.prog.unfollowed 5) = true := by kernel_rfl
theorem cl3 : (Rows.evalMarkUptoRow.recurses == Tryz.pinned.checked.prog.recurses 5) = true := by kernel_rfl
theorem cl4 : (Rows.evalMarkUptoRow.named == Tryz.pinned.checked.prog.varsNamed 5) = true := by kernel_rfl
theorem closed : joinedFacts Tryz.pinned.checked.prog 5 Tryz.f5 (Rows.OpenSpec.upto Rows.evalMarkSpec).bare Rows.evalMarkUptoRow = true := by
  unfold joinedFacts
  rw [cl1, cl2, cl3, cl4]
  kernel_rfl

theorem said : Rows.EvalMarkUptoSaid :=
  OpenClaim.holds_of_cond 5 Tryz.f5 rfl rfl rfl rfl rfl rfl rfl ⟨rfl, rfl, rfl, rfl, rfl⟩ rfl rfl rfl rfl rfl (by kernel_rfl) Tryz.func5 closed
    (of_decide_eq_true (by kernel_rfl)) (by unfold Func.isWrapper; first | (rw [if_pos (by decide +kernel)]; kernel_rfl) | (rw [if_neg (by decide +kernel)]; exact ⟨rfl, rfl⟩))
    (fun os started H enc _ F => by rw [OpenClaim.pre_eq_preRow]; exact lifted os started H enc F)

theorem plain (f : FuncId) (fn : Func) (hf : Tryz.pinned.checked.prog.funcNamed "linguister/linguisterlaw3.EvalMark" = some f) (hfn : Tryz.pinned.checked.prog.funcs[f]? = some fn) :
    true = Tryz.pinned.checked.prog.looks [] ∧ ∀ (j : Nat) t, fn.params[j]? = some t → Tryz.pinned.checked.prog.wantsStandIn t = false := by
  obtain rfl : f = 5 := Option.some.inj ((show Tryz.prog.funcNamed "linguister/linguisterlaw3.EvalMark" = some 5 by kernel_rfl).symm.trans hf) |>.symm
  obtain rfl : fn = Tryz.f5 := (Option.some.inj (Tryz.func5.symm.trans hfn)).symm
  refine ⟨by kernel_rfl, fun j t ht => ?_⟩
  rw [Tryz.params5] at ht
  have hm : t ∈ [31, 3, 3, 9] := by simpa using Array.mem_of_getElem? ht
  have hall : ([31, 3, 3, 9].all fun u => !Tryz.prog.wantsStandIn u) = true := by kernel_rfl
  exact (show Tryz.prog.wantsStandIn t = false by simpa using List.all_eq_true.1 hall t hm)

theorem proved : Rows.EvalMarkUptoCardSaid :=
  Claim7.holds_tied_plain_at .later [] _ _ _ _ said (fun _ h => by cases h) (by kernel_rfl) (fun _ h => by cases h) evalMarkUpto_row_tie rfl ⟨rfl, rfl⟩ (by kernel_rfl) rfl plain (by kernel_rfl)
#print axioms proved
end Go.Proofs.YtldbfkccieipjaaGreatDoor.lawEvalMark
