/- The law EvalPlain, proved where what it reads is of bulk at most 1048576: the call returns true of every input, and turns nothing that was there. Conditions: the row's own (the listed variables hold what the program's text lays; the card ties them). -/
import Derived.Test.YtldbfkccieipjaaGreatDoorEf23
import Derived.Test.YtldbfkccieipjaaGreatDoorEf25
import Derived.Test.YtldbfkccieipjaaGreatDoorEf4
import Derived.Test.YtldbfkccieipjaaGreatDoorCards
import Derived.Test.YtldbfkccieipjaaGreatDoorTie
import Derived.Deep.DeepHandedRow
import Derived.Deep.DeepWitnessRowRef
import Derived.Stop.Joined
import Derived.Lay
import Derived.Test.YtldbfkccieipjaaGreatDoorEf8
import Derived.Test.YtldbfkccieipjaaGreatDoorEf12
import Derived.Test.YtldbfkccieipjaaGreatDoorEf16
namespace Go.Proofs.YtldbfkccieipjaaGreatDoor
open Go.RowKit Ms
open Dcm (okD)
theorem pl_at {w : World} {p : Nat} {T : List UInt8} (h : Boxed w p #[.int .i64 1, .string ⟨T.toArray⟩, .int .i64 0, .slice none 0 0, .int .i64 2, .string ⟨#[97]⟩, .int .i64 0, .slice none 0 0, .int .i64 1, .string ⟨#[62]⟩, .int .i64 0, .slice none 0 0, .int .i64 3, .string ⟨#[98]⟩, .int .i64 0, .slice none 0 0]) (hT : T.length ≤ 2000000) : MsgAt 1 w (.slice (some ⟨p, 0, none⟩) 4 4) [.mk 1 T 0 [], .mk 2 [97] 0 [], .mk 1 [62] 0 [], .mk 3 [98] 0 []] := by
  refine .inr ⟨p, 0, 4, rfl, by simp, Nat.le_refl _, by unfold maxLen; omega, fun j y hy => ?_⟩
  match j, hy with
  | 0, hy => obtain rfl : Nd.mk 1 T 0 [] = y := by simpa using hy
             exact nd_plain (h.cell 0 _ rfl) (h.cell 1 _ rfl) (h.cell 2 _ rfl) (h.cell 3 _ rfl) hT
  | 1, hy => obtain rfl : Nd.mk 2 [97] 0 [] = y := by simpa using hy
             exact nd_plain (h.cell 4 _ rfl) (h.cell 5 _ rfl) (h.cell 6 _ rfl) (h.cell 7 _ rfl) (by decide)
  | 2, hy => obtain rfl : Nd.mk 1 [62] 0 [] = y := by simpa using hy
             exact nd_plain (h.cell 8 _ rfl) (h.cell 9 _ rfl) (h.cell 10 _ rfl) (h.cell 11 _ rfl) (by decide)
  | 3, hy => obtain rfl : Nd.mk 3 [98] 0 [] = y := by simpa using hy
             exact nd_plain (h.cell 12 _ rfl) (h.cell 13 _ rfl) (h.cell 14 _ rfl) (h.cell 15 _ rfl) (by decide)
set_option maxRecDepth 100000 in
set_option maxHeartbeats 4000000 in
theorem eplain_any (s t lang : List UInt8) (c d : Int) (w : World) (hw : MW w) (hE : EvW w) (hs : s.length ≤ 1500000) (ht : t.length ≤ 1500000) :
    Calls Tryz.prog 4 #[.string ⟨s.toArray⟩, .string ⟨t.toArray⟩, .agg #[.int .i64 c, .int .i64 d], .string ⟨lang.toArray⟩] w fun e w' => e = .returned (.bool true) ∧ Below w.heap.size w w' := by
  obtain ⟨t0, t1, t2, t3, t4, b, hS, hb0, CL, _⟩ := lang_set lang
  have CC := Lib.hid fun (wx : World) (hb : Below w.heap.size w wx) => counted_any wx (hw.below hb) (hE.below hb)
  have CS := Lib.hid fun (v va : Value) (wx : World) (hb : Below w.heap.size w wx) (hm : MsgAt 1 wx v (plM s)) (ha : ArgsAt wx va (plA t c d)) => esay_any lang t0 t1 t2 t3 t4 b wx (hw.below hb) (hE.below hb) hm (by show 4 ≤ 2000000; omega) ha (by show 2 ≤ 2000000; omega) (fun a h => by
    have : a.name.length = 1 := by
      rcases List.mem_cons.1 h with rfl | h
      · rfl
      · obtain rfl : a = ⟨[97], false, 0, 0, t⟩ := by simpa using h
        rfl
    omega) (fun a h => by
    rcases List.mem_cons.1 h with rfl | h
    · show 0 ≤ 2000000; omega
    · obtain rfl : a = ⟨[97], false, 0, 0, t⟩ := by simpa using h
      show t.length ≤ 2000000; omega) hS hb0 CL
  have hfit := pl_fit s t c d
  have hsaid : sayO [t0, t1, t2, t3, t4] 1 (plM s) (plA t c d) = some ((60 :: s) ++ (t ++ ([62] ++ (numM c d ++ [])))) := pl_said _ s t c d
  obtain ⟨Y1, hY1⟩ : ∃ Y1, Y1 = [60] ++ s := ⟨_, rfl⟩
  obtain ⟨Y2, hY2⟩ : ∃ Y2, Y2 = Y1 ++ t := ⟨_, rfl⟩
  obtain ⟨Y3, hY3⟩ : ∃ Y3, Y3 = Y2 ++ [62] := ⟨_, rfl⟩
  obtain ⟨F, hF⟩ : ∃ F, F = Y3 ++ numM c d := ⟨_, rfl⟩
  have hsaid2 : sayO [t0, t1, t2, t3, t4] 1 (plM s) (plA t c d) = some F := by rw [hsaid, hF, hY3, hY2, hY1]; simp
  have m1 : Y1.length ≤ 1600000 := by rw [hY1]; simp; omega
  have m2 : Y2.length ≤ 3200000 := by rw [hY2]; simp; omega
  have m3 : Y3.length ≤ 3300000 := by rw [hY3]; simp; omega
  have A1 : ∀ w, (Op.stringOp .add ⟨#[60]⟩ ⟨s.toArray⟩).run Tryz.prog w = .ok (.string ⟨Y1.toArray⟩) w := fun w => by rw [hY1]; exact add_str (P := Tryz.prog) [60] s (by simp; omega) w
  have A2 : ∀ w, (Op.stringOp .add ⟨Y1.toArray⟩ ⟨t.toArray⟩).run Tryz.prog w = .ok (.string ⟨Y2.toArray⟩) w := fun w => by rw [hY2]; exact add_str (P := Tryz.prog) Y1 t (by omega) w
  have A3 : ∀ w, (Op.stringOp .add ⟨Y2.toArray⟩ ⟨#[62]⟩).run Tryz.prog w = .ok (.string ⟨Y3.toArray⟩) w := fun w => by rw [hY3]; exact add_str (P := Tryz.prog) Y2 [62] (by simp; omega) w
  have hY1' : plM s = [.mk 1 Y1 0 [], .mk 2 [97] 0 [], .mk 1 [62] 0 [], .mk 3 [98] 0 []] := by rw [hY1]; rfl
  have HPM := Lib.hid hY1'
  have W0 := Lib.hid (blw_alloc w (.cells #[.int .i64 c, .int .i64 d] 31))
  have B0 := Lib.hid (Boxed.made w #[.int .i64 c, .int .i64 d] 31)
  by_cases hd : okD c d
  · have hn := numM_len c d hd
    have A4 : ∀ w, (Op.stringOp .add ⟨Y3.toArray⟩ ⟨(numM c d).toArray⟩).run Tryz.prog w = .ok (.string ⟨F.toArray⟩) w := fun w => by rw [hF]; exact add_str (P := Tryz.prog) Y3 (numM c d) (by omega) w
    rw [if_pos hd] at hfit
    have e1 : sayE [t0, t1, t2, t3, t4] 1 (plM s) (plA t c d) = 0 := by unfold sayE; rw [if_pos hfit, hsaid2]; rfl
    have e2 : sayT [t0, t1, t2, t3, t4] 1 (plM s) (plA t c d) = F := by unfold sayT; rw [if_pos hfit, hsaid2]; rfl
    rw [e1, e2, errN_zero] at CS
    have CD := Lib.hid fun w => dflt_no c d w hd
    have CQ := Lib.hid fun w => qnumeral_any c d w hd
    clear hY1 hY2 hY3 hF hsaid hsaid2 hfit e1 e2 hY1' hb0 hS CL hd hw hE
    generalize numM c d = nm at *
    go_enter Tryz.func4, Tryz.ntmps4
    go_wp2_with fail
    refine (CC.out _ W0.out).mono ?_
    rintro e w1 ⟨rfl, hb⟩
    have W1 := Lib.hid (blw_trans W0.out hb)
    have B1 := Lib.hid (B0.out.below hb)
    clear hb CC W0 B0
    have W2 := Lib.hid (blw_trans W1.out (blw_alloc w1 (.cells #[.int .i64 1, .string ⟨Y1.toArray⟩, .int .i64 0, .slice none 0 0, .int .i64 2, .string ⟨#[97]⟩, .int .i64 0, .slice none 0 0, .int .i64 1, .string ⟨#[62]⟩, .int .i64 0, .slice none 0 0, .int .i64 3, .string ⟨#[98]⟩, .int .i64 0, .slice none 0 0] 34)))
    have B2 := Lib.hid (B1.out.alloc (.cells #[.int .i64 1, .string ⟨Y1.toArray⟩, .int .i64 0, .slice none 0 0, .int .i64 2, .string ⟨#[97]⟩, .int .i64 0, .slice none 0 0, .int .i64 1, .string ⟨#[62]⟩, .int .i64 0, .slice none 0 0, .int .i64 3, .string ⟨#[98]⟩, .int .i64 0, .slice none 0 0] 34))
    have M2 := Lib.hid (pl_at (Boxed.made w1 #[.int .i64 1, .string ⟨Y1.toArray⟩, .int .i64 0, .slice none 0 0, .int .i64 2, .string ⟨#[97]⟩, .int .i64 0, .slice none 0 0, .int .i64 1, .string ⟨#[62]⟩, .int .i64 0, .slice none 0 0, .int .i64 3, .string ⟨#[98]⟩, .int .i64 0, .slice none 0 0] 34) (by omega))
    rw [← HPM.out] at M2
    have d0 : (w1.alloc (.cells #[.int .i64 1, .string ⟨Y1.toArray⟩, .int .i64 0, .slice none 0 0, .int .i64 2, .string ⟨#[97]⟩, .int .i64 0, .slice none 0 0, .int .i64 1, .string ⟨#[62]⟩, .int .i64 0, .slice none 0 0, .int .i64 3, .string ⟨#[98]⟩, .int .i64 0, .slice none 0 0] 34)).cell? ⟨w.heap.size, 0, none⟩ = some (.int .i64 c) := B2.out.cell 0 _ rfl
    have d1 : (w1.alloc (.cells #[.int .i64 1, .string ⟨Y1.toArray⟩, .int .i64 0, .slice none 0 0, .int .i64 2, .string ⟨#[97]⟩, .int .i64 0, .slice none 0 0, .int .i64 1, .string ⟨#[62]⟩, .int .i64 0, .slice none 0 0, .int .i64 3, .string ⟨#[98]⟩, .int .i64 0, .slice none 0 0] 34)).cell? ⟨w.heap.size, 1, none⟩ = some (.int .i64 d) := B2.out.cell 1 _ rfl
    have dl := B1.out.lt
    have g0 : w1.cell? ⟨w.heap.size, 0, none⟩ = some (.int .i64 c) := B1.out.cell 0 _ rfl
    have g1 : w1.cell? ⟨w.heap.size, 1, none⟩ = some (.int .i64 d) := B1.out.cell 1 _ rfl
    go_wp2_with fail
    have W3 := Lib.hid (blw_trans W2.out (blw_alloc (w1.alloc (.cells #[.int .i64 1, .string ⟨Y1.toArray⟩, .int .i64 0, .slice none 0 0, .int .i64 2, .string ⟨#[97]⟩, .int .i64 0, .slice none 0 0, .int .i64 1, .string ⟨#[62]⟩, .int .i64 0, .slice none 0 0, .int .i64 3, .string ⟨#[98]⟩, .int .i64 0, .slice none 0 0] 34)) (.cells #[.string ⟨#[98]⟩, .bool true, .int .i64 c, .int .i64 d, .string ⟨#[]⟩, .string ⟨#[97]⟩, .bool false, .int .i64 0, .int .i64 0, .string ⟨t.toArray⟩] 36)))
    have B3 := Lib.hid (B2.out.alloc (.cells #[.string ⟨#[98]⟩, .bool true, .int .i64 c, .int .i64 d, .string ⟨#[]⟩, .string ⟨#[97]⟩, .bool false, .int .i64 0, .int .i64 0, .string ⟨t.toArray⟩] 36))
    have M3 := Lib.hid (msg_below M2.out (blw_alloc (w1.alloc (.cells #[.int .i64 1, .string ⟨Y1.toArray⟩, .int .i64 0, .slice none 0 0, .int .i64 2, .string ⟨#[97]⟩, .int .i64 0, .slice none 0 0, .int .i64 1, .string ⟨#[62]⟩, .int .i64 0, .slice none 0 0, .int .i64 3, .string ⟨#[98]⟩, .int .i64 0, .slice none 0 0] 34)) (.cells #[.string ⟨#[98]⟩, .bool true, .int .i64 c, .int .i64 d, .string ⟨#[]⟩, .string ⟨#[97]⟩, .bool false, .int .i64 0, .int .i64 0, .string ⟨t.toArray⟩] 36)))
    have A3' := Lib.hid (show ArgsAt ((w1.alloc (.cells #[.int .i64 1, .string ⟨Y1.toArray⟩, .int .i64 0, .slice none 0 0, .int .i64 2, .string ⟨#[97]⟩, .int .i64 0, .slice none 0 0, .int .i64 1, .string ⟨#[62]⟩, .int .i64 0, .slice none 0 0, .int .i64 3, .string ⟨#[98]⟩, .int .i64 0, .slice none 0 0] 34)).alloc (.cells #[.string ⟨#[98]⟩, .bool true, .int .i64 c, .int .i64 d, .string ⟨#[]⟩, .string ⟨#[97]⟩, .bool false, .int .i64 0, .int .i64 0, .string ⟨t.toArray⟩] 36)) (.slice (some ⟨(w1.alloc (.cells #[.int .i64 1, .string ⟨Y1.toArray⟩, .int .i64 0, .slice none 0 0, .int .i64 2, .string ⟨#[97]⟩, .int .i64 0, .slice none 0 0, .int .i64 1, .string ⟨#[62]⟩, .int .i64 0, .slice none 0 0, .int .i64 3, .string ⟨#[98]⟩, .int .i64 0, .slice none 0 0] 34)).heap.size, 0, none⟩) 2 2) (plA t c d) from args_box (l := plA t c d) (Boxed.made _ _ _) (by show 0 < 2; omega) (by show 2 ≤ 1000; omega))
    simp only [World.size_alloc] at A3'
    have CSi := Lib.hid (CS.out _ _ _ W3.out M3.out A3'.out)
    clear CS d0 d1 dl g0 g1 W2 B2 M2 M3 A3' W1 B1
    refine CSi.out.mono ?_
    rintro e w4 ⟨rfl, hb⟩
    have W4 := Lib.hid (blw_trans W3.out hb)
    have B4 := Lib.hid (B3.out.below hb)
    clear hb CSi W3 B3
    have d0 : w4.cell? ⟨w.heap.size, 0, none⟩ = some (.int .i64 c) := B4.out.cell 0 _ rfl
    have d1 : w4.cell? ⟨w.heap.size, 1, none⟩ = some (.int .i64 d) := B4.out.cell 1 _ rfl
    have dl := B4.out.lt
    go_wp2_with fail
    refine (CD.out _).mono ?_
    rintro e w5 ⟨rfl, hb⟩
    have W5 := Lib.hid (blw_trans W4.out hb)
    have B5 := Lib.hid (B4.out.below hb)
    clear hb W4 B4 d0 d1 dl CD
    have d0 : w5.cell? ⟨w.heap.size, 0, none⟩ = some (.int .i64 c) := B5.out.cell 0 _ rfl
    have d1 : w5.cell? ⟨w.heap.size, 1, none⟩ = some (.int .i64 d) := B5.out.cell 1 _ rfl
    have dl := B5.out.lt
    go_wp2_with fail
    refine (CQ.out _).mono ?_
    rintro e w6 ⟨rfl, hb⟩
    have W6 := Lib.hid (blw_trans W5.out hb)
    clear hb W5 B5 d0 d1 dl CQ
    go_wp2_with fail
    go_ret
    exact ⟨ret_bool (by simp), W6.out⟩
  · rw [if_neg hd] at hfit
    have e1 : sayE [t0, t1, t2, t3, t4] 1 (plM s) (plA t c d) = 1 := by unfold sayE; rw [if_neg (by rw [hfit]; decide), hfit]
    have e2 : sayT [t0, t1, t2, t3, t4] 1 (plM s) (plA t c d) = [] := by unfold sayT; rw [if_neg (by rw [hfit]; decide)]
    rw [e1, e2, errN_one] at CS
    have CD := Lib.hid fun w => dflt_yes c d w hd
    clear hY1 hY2 hY3 hF hsaid hsaid2 hfit e1 e2 hY1' hb0 hS CL hd hw hE
    go_enter Tryz.func4, Tryz.ntmps4
    go_wp2_with fail
    refine (CC.out _ W0.out).mono ?_
    rintro e w1 ⟨rfl, hb⟩
    have W1 := Lib.hid (blw_trans W0.out hb)
    have B1 := Lib.hid (B0.out.below hb)
    clear hb CC W0 B0
    have W2 := Lib.hid (blw_trans W1.out (blw_alloc w1 (.cells #[.int .i64 1, .string ⟨Y1.toArray⟩, .int .i64 0, .slice none 0 0, .int .i64 2, .string ⟨#[97]⟩, .int .i64 0, .slice none 0 0, .int .i64 1, .string ⟨#[62]⟩, .int .i64 0, .slice none 0 0, .int .i64 3, .string ⟨#[98]⟩, .int .i64 0, .slice none 0 0] 34)))
    have B2 := Lib.hid (B1.out.alloc (.cells #[.int .i64 1, .string ⟨Y1.toArray⟩, .int .i64 0, .slice none 0 0, .int .i64 2, .string ⟨#[97]⟩, .int .i64 0, .slice none 0 0, .int .i64 1, .string ⟨#[62]⟩, .int .i64 0, .slice none 0 0, .int .i64 3, .string ⟨#[98]⟩, .int .i64 0, .slice none 0 0] 34))
    have M2 := Lib.hid (pl_at (Boxed.made w1 #[.int .i64 1, .string ⟨Y1.toArray⟩, .int .i64 0, .slice none 0 0, .int .i64 2, .string ⟨#[97]⟩, .int .i64 0, .slice none 0 0, .int .i64 1, .string ⟨#[62]⟩, .int .i64 0, .slice none 0 0, .int .i64 3, .string ⟨#[98]⟩, .int .i64 0, .slice none 0 0] 34) (by omega))
    rw [← HPM.out] at M2
    have d0 : (w1.alloc (.cells #[.int .i64 1, .string ⟨Y1.toArray⟩, .int .i64 0, .slice none 0 0, .int .i64 2, .string ⟨#[97]⟩, .int .i64 0, .slice none 0 0, .int .i64 1, .string ⟨#[62]⟩, .int .i64 0, .slice none 0 0, .int .i64 3, .string ⟨#[98]⟩, .int .i64 0, .slice none 0 0] 34)).cell? ⟨w.heap.size, 0, none⟩ = some (.int .i64 c) := B2.out.cell 0 _ rfl
    have d1 : (w1.alloc (.cells #[.int .i64 1, .string ⟨Y1.toArray⟩, .int .i64 0, .slice none 0 0, .int .i64 2, .string ⟨#[97]⟩, .int .i64 0, .slice none 0 0, .int .i64 1, .string ⟨#[62]⟩, .int .i64 0, .slice none 0 0, .int .i64 3, .string ⟨#[98]⟩, .int .i64 0, .slice none 0 0] 34)).cell? ⟨w.heap.size, 1, none⟩ = some (.int .i64 d) := B2.out.cell 1 _ rfl
    have dl := B1.out.lt
    have g0 : w1.cell? ⟨w.heap.size, 0, none⟩ = some (.int .i64 c) := B1.out.cell 0 _ rfl
    have g1 : w1.cell? ⟨w.heap.size, 1, none⟩ = some (.int .i64 d) := B1.out.cell 1 _ rfl
    go_wp2_with fail
    have W3 := Lib.hid (blw_trans W2.out (blw_alloc (w1.alloc (.cells #[.int .i64 1, .string ⟨Y1.toArray⟩, .int .i64 0, .slice none 0 0, .int .i64 2, .string ⟨#[97]⟩, .int .i64 0, .slice none 0 0, .int .i64 1, .string ⟨#[62]⟩, .int .i64 0, .slice none 0 0, .int .i64 3, .string ⟨#[98]⟩, .int .i64 0, .slice none 0 0] 34)) (.cells #[.string ⟨#[98]⟩, .bool true, .int .i64 c, .int .i64 d, .string ⟨#[]⟩, .string ⟨#[97]⟩, .bool false, .int .i64 0, .int .i64 0, .string ⟨t.toArray⟩] 36)))
    have B3 := Lib.hid (B2.out.alloc (.cells #[.string ⟨#[98]⟩, .bool true, .int .i64 c, .int .i64 d, .string ⟨#[]⟩, .string ⟨#[97]⟩, .bool false, .int .i64 0, .int .i64 0, .string ⟨t.toArray⟩] 36))
    have M3 := Lib.hid (msg_below M2.out (blw_alloc (w1.alloc (.cells #[.int .i64 1, .string ⟨Y1.toArray⟩, .int .i64 0, .slice none 0 0, .int .i64 2, .string ⟨#[97]⟩, .int .i64 0, .slice none 0 0, .int .i64 1, .string ⟨#[62]⟩, .int .i64 0, .slice none 0 0, .int .i64 3, .string ⟨#[98]⟩, .int .i64 0, .slice none 0 0] 34)) (.cells #[.string ⟨#[98]⟩, .bool true, .int .i64 c, .int .i64 d, .string ⟨#[]⟩, .string ⟨#[97]⟩, .bool false, .int .i64 0, .int .i64 0, .string ⟨t.toArray⟩] 36)))
    have A3' := Lib.hid (show ArgsAt ((w1.alloc (.cells #[.int .i64 1, .string ⟨Y1.toArray⟩, .int .i64 0, .slice none 0 0, .int .i64 2, .string ⟨#[97]⟩, .int .i64 0, .slice none 0 0, .int .i64 1, .string ⟨#[62]⟩, .int .i64 0, .slice none 0 0, .int .i64 3, .string ⟨#[98]⟩, .int .i64 0, .slice none 0 0] 34)).alloc (.cells #[.string ⟨#[98]⟩, .bool true, .int .i64 c, .int .i64 d, .string ⟨#[]⟩, .string ⟨#[97]⟩, .bool false, .int .i64 0, .int .i64 0, .string ⟨t.toArray⟩] 36)) (.slice (some ⟨(w1.alloc (.cells #[.int .i64 1, .string ⟨Y1.toArray⟩, .int .i64 0, .slice none 0 0, .int .i64 2, .string ⟨#[97]⟩, .int .i64 0, .slice none 0 0, .int .i64 1, .string ⟨#[62]⟩, .int .i64 0, .slice none 0 0, .int .i64 3, .string ⟨#[98]⟩, .int .i64 0, .slice none 0 0] 34)).heap.size, 0, none⟩) 2 2) (plA t c d) from args_box (l := plA t c d) (Boxed.made _ _ _) (by show 0 < 2; omega) (by show 2 ≤ 1000; omega))
    simp only [World.size_alloc] at A3'
    have CSi := Lib.hid (CS.out _ _ _ W3.out M3.out A3'.out)
    clear CS d0 d1 dl g0 g1 W2 B2 M2 M3 A3' W1 B1
    refine CSi.out.mono ?_
    rintro e w4 ⟨rfl, hb⟩
    have W4 := Lib.hid (blw_trans W3.out hb)
    have B4 := Lib.hid (B3.out.below hb)
    clear hb CSi W3 B3
    have d0 : w4.cell? ⟨w.heap.size, 0, none⟩ = some (.int .i64 c) := B4.out.cell 0 _ rfl
    have d1 : w4.cell? ⟨w.heap.size, 1, none⟩ = some (.int .i64 d) := B4.out.cell 1 _ rfl
    have dl := B4.out.lt
    go_wp2_with fail
    refine (CD.out _).mono ?_
    rintro e w5 ⟨rfl, hb⟩
    have W5 := Lib.hid (blw_trans W4.out hb)
    have B5 := Lib.hid (B4.out.below hb)
    clear hb W4 B4 d0 d1 dl CD
    go_wp2_with fail
    go_ret
    exact ⟨ret_bool (by simp), W5.out⟩
end Go.Proofs.YtldbfkccieipjaaGreatDoor
namespace Go.Proofs.YtldbfkccieipjaaGreatDoor.lawEvalPlain
open Go.ChangeShapes Go.WideShapes Go.ChangeAt Go.RowKit Go.Joins

theorem own : ownKnob Tryz.prog.godebug = none := by kernel_rfl
theorem laidOut : laidOutB Tryz.prog = true := by kernel_rfl
theorem cellsDec : Tryz.prog.cellsOf 31 = 2 := by kernel_rfl

set_option maxRecDepth 100000 in
theorem contract (H : Type) (enc : TypeId × Value → H) (W : World) (base : Nat) (args : Array Value) (ds gs : List (DataW H)) (before : List MemPlace)
    (hval : ∀ (j : Nat) t v, Tryz.f4.params[j]? = some t → args[j]? = some v → Value.okWide Tryz.prog W .any base t v)
    (hW : DataW.Whole enc Tryz.prog Tryz.f4.params.toList Rows.evalPlainSpec.vars false W args.toList ds gs before) (hk : Rows.uptoSmall H (ds ++ gs) = true) (hL : laidMetH Tryz.prog Rows.evalPlainUptoRow.laid W) (hS : W.ShapedOpen Tryz.prog) :
    Calls Tryz.prog 4 args W fun e W' => ∃ v, e = .returned v ∧ Rows.evalPlainSpec.post enc Tryz.prog Tryz.f4 false true false false W args v W' := by
  have hpost : ∀ W', Below W.heap.size W W' → Rows.evalPlainSpec.post enc Tryz.prog Tryz.f4 false true false false W args (.bool true) W' := fun W' hb =>
    law_post (tb := 4) laidOut rfl Tryz.underlying4 rfl (by kernel_rfl) (fun ds h => by match ds, h with | [x0, x1, x2, x3], _ => rfl) hW hb
  obtain ⟨p, q, hA0, hV, _, hfz, hnd⟩ := hW
  have hA : DataW.TrodAll enc Tryz.prog W 0 (fun _ => true) true Tryz.f4.params.toList args.toList ds p := hA0
  obtain ⟨rfl, rfl⟩ := trodVars_none hV
  rw [Tryz.params4] at hA hval
  obtain ⟨v0, vs0, d0, ds0, p0, q0, hargs, rfl, hp0, h0, r0⟩ := trodAll_cons hA
  obtain ⟨v1, vs1, d1, ds1, p1, q1, rfl, rfl, hp1, h1, r1⟩ := trodAll_cons r0
  obtain ⟨v2, vs2, d2, ds2, p2, q2, rfl, rfl, hp2, h2, r2⟩ := trodAll_cons r1
  obtain ⟨v3, vs3, d3, ds3, p3, q3, rfl, rfl, hp3, h3, r3⟩ := trodAll_cons r2
  obtain ⟨rfl, rfl, hp⟩ := trodAll_nil r3
  obtain rfl : args = #[v0, v1, v2, v3] := by cases args; simp_all
  obtain ⟨s, rfl, rfl, rfl, w_s⟩ := ChangeMaps.open_string Tryz.underlying9 (hval 0 9 v0 rfl rfl) h0
  obtain ⟨t, rfl, rfl, rfl, w_t⟩ := ChangeMaps.open_string Tryz.underlying9 (hval 1 9 v1 rfl rfl) h1
  obtain ⟨c2_0, c2_1, y2_0, y2_1, m2, rfl, rfl, rfl, hy2_0, hy2_1⟩ := open_agg2 Tryz.underlying31 (by kernel_rfl) cellsDec (hval 2 31 v2 rfl rfl) h2
  obtain ⟨d_c, e2_0, _, w_d_c⟩ := DataW.trod_int Tryz.underlying3 hy2_0
  obtain ⟨d_s, e2_1, _, w_d_s⟩ := DataW.trod_int Tryz.underlying3 hy2_1
  simp at e2_0 e2_1
  subst e2_0 e2_1
  have b_d_c := bounds_i64 w_d_c
  have b_d_s := bounds_i64 w_d_s
  obtain ⟨l, rfl, rfl, rfl, w_l⟩ := ChangeMaps.open_string Tryz.underlying9 (hval 3 9 v3 rfl rfl) h3
  clear hA0 hfz hnd hval
  have hm : MaxW W := Go.Proofs.cell_of_shapedOpen_int (zero := #[.int .i64 0]) (t := 3) hS (of_decide_eq_true (by kernel_rfl)) (by kernel_rfl) rfl (by kernel_rfl) (by kernel_rfl) Tryz.underlying3
  have hT : TR W := ⟨powW_of hL (by kernel_rfl), numW_of hL (by kernel_rfl) (by kernel_rfl), hm⟩
  have hM : MW W := ⟨powW_of hL (by kernel_rfl), numW_of hL (by kernel_rfl) (by kernel_rfl), kdW_of hL (by kernel_rfl)⟩
  have hE : EvW W := ⟨hT, kindsW_of hL (by kernel_rfl), numerW_of hL (by kernel_rfl) (by kernel_rfl)⟩
  have hq : Rows.uptoBulkAll _ ≤ 1048576 := of_decide_eq_true hk
  simp only [List.append_nil, Rows.uptoBulkAll, Rows.uptoBulk, Array.length_toList, *] at hq
  have hz : ∀ x : ByteArray, x.data.size = x.size := fun _ => rfl
  simp only [hz] at hq
  have hsz1 : s.size ≤ 1048576 := by omega
  have hsz2 : t.size ≤ 1048576 := by omega
  refine Calls.mono (?_ : Calls Tryz.prog 4 #[.string s, .string t, .agg #[.int .i64 d_c, .int .i64 d_s], .string l] W fun e w' => e = .returned (.bool true) ∧ Below W.heap.size W w') fun e W' ⟨he, hb⟩ => ⟨_, he, hpost W' hb⟩
  obtain ⟨ls, rfl⟩ : ∃ l : List UInt8, s = ⟨l.toArray⟩ := ⟨s.data.toList, rfl⟩
  obtain ⟨lt, rfl⟩ : ∃ l : List UInt8, t = ⟨l.toArray⟩ := ⟨t.data.toList, rfl⟩
  obtain ⟨ll, rfl⟩ : ∃ x : List UInt8, l = ⟨x.toArray⟩ := ⟨l.data.toList, rfl⟩
  simp only [size_mkl] at hsz1 hsz2
  exact eplain_any ls lt ll d_c d_s W hM hE (by omega) (by omega)

theorem start_met (os : Os) : laidMetH Tryz.prog Rows.evalPlainUptoRow.laid ((World.laidAll Tryz.prog os Rows.evalPlainUptoRow.laid).forCall (fun _ _ => 0) ⟨#[], #[.string ⟨#[]⟩, .string ⟨#[]⟩, .agg #[.int .i64 0, .int .i64 0], .string ⟨#[]⟩], []⟩).memory :=
  by rw [MakeChecks.laidMetH_plain _ _ _ (by kernel_rfl)]; exact laidMet_laidAll _ (by kernel_rfl) (by kernel_rfl)
theorem start_reads (os : Os) {H : Type} (enc : TypeId × Value → H) : ∃ places, DataW.whole enc Tryz.prog ((World.laidAll Tryz.prog os Rows.evalPlainUptoRow.laid).forCall (fun _ _ => 0) ⟨#[], #[.string ⟨#[]⟩, .string ⟨#[]⟩, .agg #[.int .i64 0, .int .i64 0], .string ⟨#[]⟩], []⟩).memory Tryz.f4.params.toList Rows.evalPlainSpec.vars false (#[.string ⟨#[]⟩, .string ⟨#[]⟩, .agg #[.int .i64 0, .int .i64 0], .string ⟨#[]⟩] : Array Value).toList 8 = some ([.lit (.string []), .lit (.string []), .agg [.lit (.int .i64 0), .lit (.int .i64 0)], .lit (.string [])], [], places) :=
  ⟨[], by kernel_rfl⟩

set_option maxRecDepth 100000 in
theorem lifted (os : Os) (started : os.Started) (H : Type) (enc : TypeId × Value → H) (F : Stop.Interp) :
    ReturnsInHanded {} Tryz.checked os 4 .any ((Rows.OpenSpec.upto Rows.evalPlainSpec).preRow enc Tryz.prog Tryz.f4 Rows.evalPlainUptoRow.domain false Rows.evalPlainUptoRow.laid) (((Rows.OpenSpec.upto Rows.evalPlainSpec).at F).post enc Tryz.prog Tryz.f4 false true false false) := by
  obtain ⟨places, hx⟩ := start_reads os enc
  refine returnsInHanded_of_row (C := Tryz.checked) (s := Rows.OpenSpec.upto Rows.evalPlainSpec) own started (by kernel_rfl) Tryz.func4
    (witness_row_atRef (enc := enc) (C := Tryz.checked) false (World.laidAll Tryz.prog os Rows.evalPlainUptoRow.laid) #[.string ⟨#[]⟩, .string ⟨#[]⟩, .agg #[.int .i64 0, .int .i64 0], .string ⟨#[]⟩] (World.laidAll_os _ _ _) (by kernel_rfl) (by kernel_rfl) (by kernel_rfl)
      (OpenSpec.preRow_of_cond 8 hx (by kernel_rfl) (fun k hk => by cases hk; kernel_rfl) (by kernel_rfl) (start_met os))) ?_
  intro W base args ds gs before hval hW _ hcond _ hL hS _
  exact contract H enc W base args ds gs before hval hW (hcond _ rfl) hL hS

theorem cl1 : (Rows.evalPlainUptoRow.inPlace == Tryz.pinned.checked.prog.inPlace 4) = true := by kernel_rfl
theorem cl2 : (Rows.evalPlainUptoRow.unfollowed == Tryz.pinned.checked.prog.unfollowed 4) = true := by kernel_rfl
theorem cl3 : (Rows.evalPlainUptoRow.recurses == Tryz.pinned.checked.prog.recurses 4) = true := by kernel_rfl
theorem cl4 : (Rows.evalPlainUptoRow.named == Tryz.pinned.checked.prog.varsNamed 4) = true := by kernel_rfl
theorem closed : joinedFacts Tryz.pinned.checked.prog 4 Tryz.f4 (Rows.OpenSpec.upto Rows.evalPlainSpec).bare Rows.evalPlainUptoRow = true := by
  unfold joinedFacts
  rw [cl1, cl2, cl3, cl4]
  kernel_rfl

theorem said : Rows.EvalPlainUptoSaid :=
  OpenClaim.holds_of_cond 4 Tryz.f4 rfl rfl rfl rfl rfl rfl rfl ⟨rfl, rfl, rfl, rfl, rfl⟩ rfl rfl rfl rfl rfl (by kernel_rfl) Tryz.func4 closed
    (of_decide_eq_true (by kernel_rfl)) (by unfold Func.isWrapper; first | (rw [if_pos (by decide +kernel)]; kernel_rfl) | (rw [if_neg (by decide +kernel)]; exact ⟨rfl, rfl⟩))
    (fun os started H enc _ F => by rw [OpenClaim.pre_eq_preRow]; exact lifted os started H enc F)

theorem plain (f : FuncId) (fn : Func) (hf : Tryz.pinned.checked.prog.funcNamed "linguister/linguisterlaw3.EvalPlain" = some f) (hfn : Tryz.pinned.checked.prog.funcs[f]? = some fn) :
    true = Tryz.pinned.checked.prog.looks [] ∧ ∀ (j : Nat) t, fn.params[j]? = some t → Tryz.pinned.checked.prog.wantsStandIn t = false := by
  obtain rfl : f = 4 := Option.some.inj ((show Tryz.prog.funcNamed "linguister/linguisterlaw3.EvalPlain" = some 4 by kernel_rfl).symm.trans hf) |>.symm
  obtain rfl : fn = Tryz.f4 := (Option.some.inj (Tryz.func4.symm.trans hfn)).symm
  refine ⟨by kernel_rfl, fun j t ht => ?_⟩
  rw [Tryz.params4] at ht
  have hm : t ∈ [9, 9, 31, 9] := by simpa using Array.mem_of_getElem? ht
  have hall : ([9, 9, 31, 9].all fun u => !Tryz.prog.wantsStandIn u) = true := by kernel_rfl
  exact (show Tryz.prog.wantsStandIn t = false by simpa using List.all_eq_true.1 hall t hm)

theorem proved : Rows.EvalPlainUptoCardSaid :=
  Claim7.holds_tied_plain_at .later [] _ _ _ _ said (fun _ h => by cases h) (by kernel_rfl) (fun _ h => by cases h) evalPlainUpto_row_tie rfl ⟨rfl, rfl⟩ (by kernel_rfl) rfl plain (by kernel_rfl)
#print axioms proved
end Go.Proofs.YtldbfkccieipjaaGreatDoor.lawEvalPlain
