/- The walk of eval.Say: whatever the message, the language and the args. Conditions: the listed variables; the message is one, of lists of at most 2000000; the args lie in memory as they say, of texts of at most 2000000 bytes; what the language's rules are. -/
import Derived.Test.YtjlchookakbomaaGreatDoorEh20
import Derived.Test.YtjlchookakbomaaGreatDoorEh3
import Derived.Test.YtjlchookakbomaaGreatDoorEh19
import Derived.Test.YtjlchookakbomaaGreatDoorEh17
import Derived.Deep.DeepCutAuto
import Derived.Deep.CutRange
import Derived.Test.YtjlchookakbomaaGreatDoorEh2
namespace Go.Proofs.YtjlchookakbomaaGreatDoor
open Go.RowKit Ms

theorem argE_step {d : List Ag} {a : Ag} {r : List Ag} : argE d (a :: r) = if !nameB a.name then 3 else if a.num && badA a then 1 else if hasA d a.name then 5 else argE (d ++ [a]) r := rfl
theorem drop_step {α : Type} {l : List α} {k : Nat} {y : α} (h : l[k]? = some y) : l.drop k = y :: l.drop (k + 1) ∧ l.take (k + 1) = l.take k ++ [y] := by
  obtain ⟨hi, e⟩ := List.getElem?_eq_some_iff.1 h
  exact ⟨by rw [List.drop_eq_getElem_cons hi, e], by rw [List.take_add_one, h]; rfl⟩
/-- what the map tells of args -/
def kin (l : List Ag) : List (List UInt8 × Bool) := l.map fun a => (a.name, a.num)
theorem kin_add (l : List Ag) (a : Ag) : kin (l ++ [a]) = kin l ++ [(a.name, a.num)] := by unfold kin; rw [List.map_append]; rfl
theorem kin_find (l : List Ag) (t : List UInt8) : (kin l).find? (fun p => p.1 == t) = (l.find? (fun a => a.name == t)).map fun a => (a.name, a.num) := by
  unfold kin
  rw [List.find?_map]
  rfl
theorem kin_has {l : List Ag} {t : List UInt8} (h : hasA l t = true) : ∃ p, (kin l).find? (fun p => p.1 == t) = some p := by
  obtain ⟨a, ha, e⟩ := List.any_eq_true.1 h
  rw [kin_find]
  cases hf : l.find? (fun a => a.name == t) with
  | none => rw [List.find?_eq_none] at hf; exact absurd e (hf a ha)
  | some x => exact ⟨_, rfl⟩
theorem kin_not {l : List Ag} {t : List UInt8} (h : hasA l t = false) : (kin l).find? (fun p => p.1 == t) = none := by
  rw [kin_find, List.find?_eq_none.2]
  · rfl
  · intro a ha e
    unfold hasA at h
    rw [List.any_eq_true.2 ⟨a, ha, e⟩] at h; cases h
theorem dcheck_any (a : Ag) (w : World) : Calls Tryz.prog 52 #[.agg #[.int .i64 a.co, .int .i64 a.sc]] w fun e w' => e = .returned (if badA a then errV 1 else .nilIface) ∧ Below w.heap.size w w' := by
  by_cases h : Dcm.okD a.co a.sc
  · rw [show badA a = false by unfold badA; simp [h]]
    exact dchk_yes _ _ w h
  · rw [show badA a = true by unfold badA; simp [h]]
    exact dchk_no _ _ w h
theorem zero_bool (w : World) : (zeroValue 4).run Tryz.prog w = .ok (.bool false) w := by kernel_rfl

set_option maxRecDepth 100000 in
set_option maxHeartbeats 4000000 in
theorem fits_any {f : Nat} {v va : Value} {m : List Nd} {args : List Ag} (w : World) (hw : MW w) (h : MsgAt f w v m) (hl : m.length ≤ 2000000) (ha : ArgsAt w va args) (hal : args.length ≤ 2000000) (hna : ∀ a ∈ args, a.name.length ≤ 4000000000) :
    Calls Tryz.prog 23 #[v, va] w fun e w' => e = .returned (errN (fitE f m args)) ∧ Below w.heap.size w w' := by
  have CK := Lib.hid (nof_any w hw h hl)
  have HE := Lib.hid (show fitE f m args = if namE f m ≠ 0 then namE f m else if argE [] args ≠ 0 then argE [] args else askE args (allN f [] m) from rfl)
  have HL := Lib.hid (show lstN f m = if namE f m = 0 then allN f [] m else [] from rfl)
  have HLL := Lib.hid (lstN_len f m)
  obtain ⟨a, n, c, rfl⟩ := h.isSlice
  obtain ⟨A, cap, rfl, _, hel⟩ := ha.spread
  have hcap : args.length ≤ cap ∨ args.length = 0 := by
    rcases ha with ⟨e, _⟩ | ⟨_, _, _, e, _, q, _, _⟩
    · exact .inr (by rw [e]; rfl)
    · injection e with _ _ e; exact .inl (by omega)
  have HX := Lib.hid hel
  have CN := Lib.hid fun (x : Ag) (hx : x ∈ args) (wx : World) => mname_any x.name wx (hna x hx)
  clear h hw hl ha hel hna
  generalize lstN f m = LS at *
  generalize namE f m = NE at *
  generalize allN f [] m = AL at *
  generalize fitE f m args = FE at *
  by_cases h0 : NE = 0
  case neg =>
    obtain rfl : FE = NE := by rw [HE.out, if_pos h0]
    have HV := Lib.hid (show errN FE = errV FE from if_neg h0)
    rw [HV.out] at CK
    clear h0 HL HE CN HX
    generalize hN : args.length = N at *
    go_enter Tryz.func23, Tryz.ntmps23
    go_wp2_with fail
    refine CK.out.mono ?_
    rintro e w1 ⟨u, rfl, hr, hb⟩
    have W1 := Lib.hid hb
    obtain ⟨ua, uc, rfl⟩ := mrow_slice hr
    clear hb CK hr
    go_wp2_with fail
    go_ret
    exact ⟨by rw [HV.out]; rfl, W1.out⟩
  subst h0
  obtain rfl : LS = AL := HL.out
  rw [show errN 0 = .nilIface from rfl] at CK
  have HE := Lib.hid (show FE = if argE [] args ≠ 0 then argE [] args else askE args LS from HE.out)
  clear HL
  have hll := HLL.out
  clear HLL
  obtain ⟨AE, hAE⟩ : ∃ AE, AE = argE [] args := ⟨_, rfl⟩
  rw [← hAE] at HE
  have HAE := Lib.hid (show argE (args.take 0) (args.drop 0) = AE by rw [hAE]; rfl)
  clear hAE
  generalize hN : args.length = N at *
  have MM := Lib.hid fun wx => (run_makeMap (P := Tryz.prog) (w := wx) 113)
  go_enter Tryz.func23, Tryz.ntmps23
  go_wp2_with fail
  refine CK.out.mono ?_
  rintro e w1 ⟨u, rfl, hr, hb⟩
  have W1 := Lib.hid hb
  have hsz := hb.size
  obtain ⟨ua, uc, rfl⟩ := mrow_slice hr
  have HR := Lib.hid hr
  have MMh := MM.out w1
  have KM := Lib.hid (kinds_new w1)
  have WM := Lib.hid (blw_alloc w1 (.map #[] 0))
  clear hb CK hr MM
  go_wp2_with fail
  generalize hw2 : w1.alloc (.map #[] 0) = w2 at *
  obtain ⟨B, hBe⟩ : ∃ B, B = w1.heap.size := ⟨_, rfl⟩
  rw [← hBe] at KM
  have hB : w1.heap.size ≤ B := by omega
  rw [← hBe]
  clear hw2 hBe MMh
  go_loopw [28] (fun vi wr => ∃ i : Nat, vi = .int .i64 (i : Int) ∧ i ≤ N ∧ Hid (KindsAt B (kin (args.take i)) wr) ∧ Hid (argE (args.take i) (args.drop i) = AE) ∧ Hid (Below w1.heap.size w1 wr)) (fun vi _ => N - (RowKit.intOf vi).toNat)
  case atStart => exact ⟨0, rfl, Nat.zero_le _, KM, HAE, WM⟩
  case round =>
    obtain ⟨i, rfl, hi, HK, HS, HB⟩ := hrel
    clear HAE KM WM
    by_cases hlt : i < N
    · have hi' : (i : Int) < (N : Int) := by omega
      have hcc : N ≤ cap := by omega
      obtain ⟨x, hxi⟩ : ∃ x, args[i]? = some x := ⟨args[i]'(by omega), List.getElem?_eq_getElem (by omega)⟩
      obtain ⟨b, off, rfl, p0, p1, p2, p3, p4⟩ := HX.out i x hxi
      have WB := Lib.hid (blw_trans W1.out HB.out)
      have g0 := cell_keep p0 WB.out
      have g1 := cell_keep p1 WB.out
      have g2 := cell_keep p2 WB.out
      have g3 := cell_keep p3 WB.out
      have g4 := cell_keep p4 WB.out
      have lb := World.block_lt_of_cell? _ _ g0
      have wi : IntKind.i64.wrap ((i : Int) + 1) = (i : Int) + 1 := IntWalk.i64_in _ (by omega)
      have CNh := Lib.hid (CN.out x (List.mem_of_getElem? hxi))
      have HT := Lib.hid (drop_step hxi).2
      have hst := HS.out
      rw [(drop_step hxi).1, argE_step] at hst
      have CD := Lib.hid (dcheck_any x)
      clear HS p0 p1 p2 p3 p4 hxi CN WB
      generalize badA x = Z at *
      obtain ⟨T, bn, co, sc, tx⟩ := x
      have BX := Lib.hid (Boxed.made wr #[.string ⟨T.toArray⟩, .bool bn, .int .i64 co, .int .i64 sc, .string ⟨tx.toArray⟩] 70)
      have hs0 := HB.out.size
      have HKa := Lib.hid (HK.out.below (blw_alloc wr (.cells #[.string ⟨T.toArray⟩, .bool bn, .int .i64 co, .int .i64 sc, .string ⟨tx.toArray⟩] 70)))
      have HBa := Lib.hid (HB.out.alloc hs0 (.cells #[.string ⟨T.toArray⟩, .bool bn, .int .i64 co, .int .i64 sc, .string ⟨tx.toArray⟩] 70))
      have HST := Lib.hid (show (if !nameB T then 3 else if bn && Z then 1 else if hasA (args.take i) T then 5 else argE (args.take i ++ [⟨T, bn, co, sc, tx⟩]) (args.drop (i + 1))) = AE from hst)
      clear hst
      generalize nameB T = NB at *
      go_wp2_with fail
      refine (CNh.out _).mono ?_
      rintro e w3 ⟨rfl, hb⟩
      have BX3 := Lib.hid (BX.out.below hb)
      have HK3 := Lib.hid (HKa.out.below hb)
      have HB3 := Lib.hid (HBa.out.trans (hb.mono HBa.out.size))
      clear hb CNh BX HKa HBa HK HB g0 g1 g2 g3 g4 lb
      generalize wr.heap.size = q at *
      cases NB with
      | false =>
        obtain rfl : 3 = AE := HST.out
        obtain rfl : FE = 3 := HE.out
        clear CD HT
        go_wp2_with fail
        go_ret
        exact ⟨rfl, blw_trans W1.out HB3.out⟩
      | true =>
        have z1 : w3.cell? ⟨q, 1, none⟩ = some (.bool bn) := BX3.out.cell 1 _ rfl
        have zl := BX3.out.lt
        cases bn with
        | false =>
          have HS := Lib.hid (show (if hasA (args.take i) T then 5 else argE (args.take i ++ [⟨T, false, co, sc, tx⟩]) (args.drop (i + 1))) = AE from HST.out)
          clear HST CD
          have y0 : World.cell? w3 ⟨q, 0, none⟩ = some (.string ⟨T.toArray⟩) := BX3.out.cell 0 _ rfl
          have y1 : World.cell? w3 ⟨q, 1, none⟩ = some (.bool false) := BX3.out.cell 1 _ rfl
          cases hH : hasA (args.take i) T with
          | true =>
            have hst := HS.out
            rw [hH] at hst
            obtain rfl : 5 = AE := hst
            obtain rfl : FE = 5 := HE.out
            obtain ⟨p, hp⟩ := kin_has hH
            have LK := HK3.out.look (P := Tryz.prog) 113 9 4 Tryz.underlying113 Tryz.underlying9 hp
            clear HS
            go_wp2_with fail
            go_ret
            exact ⟨rfl, blw_trans W1.out HB3.out⟩
          | false =>
            have hst := HS.out
            rw [hH] at hst
            have HS2 := Lib.hid (show argE (args.take (i + 1)) (args.drop (i + 1)) = AE by rw [HT.out]; exact hst)
            have LK := HK3.out.none (P := Tryz.prog) 113 9 4 Tryz.underlying113 Tryz.underlying9 (zero_bool _) (kin_not hH)
            obtain ⟨w5, MU, HK5, HB5⟩ := HK3.out.put (P := Tryz.prog) 113 9 4 Tryz.underlying113 Tryz.underlying9 false (kin_not hH)
            have K5 := Lib.hid (show KindsAt B (kin (args.take (i + 1))) w5 by rw [HT.out, kin_add]; exact HK5)
            have W5 := Lib.hid (HB5 w1.heap.size w1 hB HB3.out)
            clear hst HS HK5 HB5
            go_wp2_with fail
            go_roundw
            case rel => exact ⟨i + 1, by go_num, by omega, K5, HS2, W5⟩
            case measure => simp [RowKit.intOf]; omega
        | true =>
          have z2 : w3.cell? ⟨q, 2, none⟩ = some (.int .i64 co) := BX3.out.cell 2 _ rfl
          have z3 : w3.cell? ⟨q, 3, none⟩ = some (.int .i64 sc) := BX3.out.cell 3 _ rfl
          have CDh := Lib.hid (CD.out w3)
          clear CD
          go_wp2_with fail
          refine CDh.out.mono ?_
          rintro e w4 ⟨rfl, hb⟩
          have BX4 := Lib.hid (BX3.out.below hb)
          have HK4 := Lib.hid (HK3.out.below hb)
          have HB4 := Lib.hid (HB3.out.trans (hb.mono HB3.out.size))
          have zl4 := BX4.out.lt
          clear hb CDh BX3 HK3 HB3 z1 z2 z3 zl
          cases Z with
          | true =>
            obtain rfl : 1 = AE := HST.out
            obtain rfl : FE = 1 := HE.out
            clear HT
            go_wp2_with fail
            go_ret
            exact ⟨rfl, blw_trans W1.out HB4.out⟩
          | false =>
            have HS := Lib.hid (show (if hasA (args.take i) T then 5 else argE (args.take i ++ [⟨T, true, co, sc, tx⟩]) (args.drop (i + 1))) = AE from HST.out)
            clear HST
            have y0 : World.cell? w4 ⟨q, 0, none⟩ = some (.string ⟨T.toArray⟩) := BX4.out.cell 0 _ rfl
            have y1 : World.cell? w4 ⟨q, 1, none⟩ = some (.bool true) := BX4.out.cell 1 _ rfl
            cases hH : hasA (args.take i) T with
            | true =>
              have hst := HS.out
              rw [hH] at hst
              obtain rfl : 5 = AE := hst
              obtain rfl : FE = 5 := HE.out
              obtain ⟨p, hp⟩ := kin_has hH
              have LK := HK4.out.look (P := Tryz.prog) 113 9 4 Tryz.underlying113 Tryz.underlying9 hp
              clear HS
              go_wp2_with fail
              go_ret
              exact ⟨rfl, blw_trans W1.out HB4.out⟩
            | false =>
              have hst := HS.out
              rw [hH] at hst
              have HS2 := Lib.hid (show argE (args.take (i + 1)) (args.drop (i + 1)) = AE by rw [HT.out]; exact hst)
              have LK := HK4.out.none (P := Tryz.prog) 113 9 4 Tryz.underlying113 Tryz.underlying9 (zero_bool _) (kin_not hH)
              obtain ⟨w5, MU, HK5, HB5⟩ := HK4.out.put (P := Tryz.prog) 113 9 4 Tryz.underlying113 Tryz.underlying9 true (kin_not hH)
              have K5 := Lib.hid (show KindsAt B (kin (args.take (i + 1))) w5 by rw [HT.out, kin_add]; exact HK5)
              have W5 := Lib.hid (HB5 w1.heap.size w1 hB HB4.out)
              clear hst HS HK5 HB5
              go_wp2_with fail
              go_roundw
              case rel => exact ⟨i + 1, by go_num, by omega, K5, HS2, W5⟩
              case measure => simp [RowKit.intOf]; omega
    · have hi' : ¬ (i : Int) < (N : Int) := by omega
      have hst := HS.out
      rw [List.drop_of_length_le (by omega)] at hst
      obtain rfl : 0 = AE := hst
      have hk := HK.out
      rw [List.take_of_length_le (by omega)] at hk
      have HK0 := Lib.hid hk
      have HE2 := Lib.hid (show askE args (LS.drop 0) = FE from HE.out.symm)
      obtain ⟨A3, cap3, e3, _, hel3⟩ := (needs_of_row HR.out).spread
      injection e3 with e4 e5 e6
      subst e4 e6
      have hcapu : LS.length ≤ uc ∨ LS.length = 0 := by
        rcases HR.out.2 with ⟨e, h0⟩ | ⟨g, cap, cur, e, _, q, _⟩
        · exact .inr h0
        · injection e with _ _ e; exact .inl (by omega)
      have HX3 := Lib.hid hel3
      have HB0 := Lib.hid HB.out
      clear hk hel3 e5 HR HK HB HE HS CN HX
      generalize hM : LS.length = M at *
      go_wp2_with fail
      go_loopw [62] (fun vk wx => ∃ k : Nat, vk = .int .i64 (k : Int) ∧ k ≤ M ∧ Hid (KindsAt B (kin args) wx) ∧ Hid (askE args (LS.drop k) = FE) ∧ Hid (Below w1.heap.size w1 wx)) (fun vk _ => M - (RowKit.intOf vk).toNat)
      case atStart => exact ⟨0, rfl, Nat.zero_le _, HK0, HE2, HB0⟩
      case round =>
        obtain ⟨k, rfl, hk, HK, HS, HB⟩ := hrel
        clear HK0 HE2 HB0
        by_cases hltk : k < M
        · have hk' : (k : Int) < (M : Int) := by omega
          have hccu : M ≤ uc := by omega
          obtain ⟨x, hxk⟩ : ∃ x, LS[k]? = some x := ⟨LS[k]'(by omega), List.getElem?_eq_getElem (by omega)⟩
          obtain ⟨b, off, rfl, p0, p1, p2⟩ := HX3.out k x hxk
          have g0 := cell_keep p0 HB.out
          have g1 := cell_keep p1 HB.out
          have g2 := cell_keep p2 HB.out
          have lb := World.block_lt_of_cell? _ _ g0
          have wk : IntKind.i64.wrap ((k : Int) + 1) = (k : Int) + 1 := IntWalk.i64_in _ (by omega)
          have hst := HS.out
          rw [(drop_step hxk).1, askE_cons] at hst
          clear HS p0 p1 p2 hxk
          obtain ⟨T, bn, bt⟩ := x
          have hs0 := HB.out.size
          have HKa := Lib.hid (HK.out.below (blw_alloc wr (.cells #[.string ⟨T.toArray⟩, .bool bn, .bool bt] 117)))
          have HBa := Lib.hid (HB.out.alloc hs0 (.cells #[.string ⟨T.toArray⟩, .bool bn, .bool bt] 117))
          have KF := kin_find args T
          cases hf : args.find? (fun a => a.name == T) with
          | none =>
            rw [hf] at hst KF
            obtain rfl : 2 = FE := hst
            have LK := HKa.out.none (P := Tryz.prog) 113 9 4 Tryz.underlying113 Tryz.underlying9 (zero_bool _) KF
            clear hf KF HK HB
            go_wp2_with fail
            go_ret
            exact ⟨rfl, blw_trans W1.out HBa.out⟩
          | some y =>
            rw [hf] at hst KF
            obtain ⟨y1, yn, y3, y4, y5⟩ := y
            have LK : (Instr.lookup 113 (.map (some B)) (.string ⟨T.toArray⟩) true).run Tryz.prog (wr.alloc (.cells #[.string ⟨T.toArray⟩, .bool bn, .bool bt] 117)) = .ok (.tuple #[.bool yn, .bool true]) (wr.alloc (.cells #[.string ⟨T.toArray⟩, .bool bn, .bool bt] 117)) := HKa.out.look (P := Tryz.prog) 113 9 4 Tryz.underlying113 Tryz.underlying9 KF
            have HST := Lib.hid (show (if (bn && !yn) || (bt && yn) then 7 else askE args (LS.drop (k + 1))) = FE from hst)
            clear hst hf KF HK HB
            have BXk := Lib.hid (Boxed.made wr #[.string ⟨T.toArray⟩, .bool bn, .bool bt] 117)
            go_upto_region 25 with fail
            go_cut [88] from 76 to 88 (fun s wx => s = .bool ((bn && !yn) || (bt && yn)) ∧ wx = wr.alloc (.cells #[.string ⟨T.toArray⟩, .bool bn, .bool bt] 117))
            case first =>
              clear HST
              cases bn <;> cases yn <;> cases bt <;> (go_wp2_with fail; go_meet; exact ⟨rfl, rfl⟩)
            case rest =>
            obtain ⟨rfl, rfl⟩ := hcut
            generalize ((bn && !yn) || (bt && yn)) = Z at *
            cases Z with
            | true =>
              obtain rfl : 7 = FE := HST.out
              go_wp2_with fail
              go_ret
              exact ⟨rfl, blw_trans W1.out HBa.out⟩
            | false =>
              have HS2 := Lib.hid (show askE args (LS.drop (k + 1)) = FE from HST.out)
              clear HST
              go_wp2_with fail
              go_roundw
              case rel => exact ⟨k + 1, by go_num, by omega, HKa, HS2, HBa⟩
              case measure => simp [RowKit.intOf]; omega
        · have hk' : ¬ (k : Int) < (M : Int) := by omega
          have hst := HS.out
          rw [List.drop_of_length_le (by omega)] at hst
          obtain rfl : 0 = FE := hst
          go_wp2_with fail
          go_ret
          exact ⟨rfl, blw_trans W1.out HB.out⟩
end Go.Proofs.YtjlchookakbomaaGreatDoor
namespace Go.Proofs.YtjlchookakbomaaGreatDoor
open Go.RowKit Ms
open Dcm (okD)
namespace Ms
def sayO (L : List (List UInt8)) (f : Nat) (m : List Nd) (args : List Ag) : Option (List UInt8) := saidM (evS L) (valA args) f 0 0 m
/-- what is wrong -/
def sayE (L : List (List UInt8)) (f : Nat) (m : List Nd) (args : List Ag) : Int := if fitE f m args = 0 then roomE (sayO L f m args) else fitE f m args
/-- what is said -/
def sayT (L : List (List UInt8)) (f : Nat) (m : List Nd) (args : List Ag) : List UInt8 := if fitE f m args = 0 then (sayO L f m args).getD [] else []
/-- the args of a right message are right -/
theorem args_fine {args : List Ag} (h : argE [] args = 0) (ht : ∀ a ∈ args, a.txt.length ≤ 2000000) : ArgsFine args := ⟨fun a ha hn => arg_okd args [] h a ha hn, ht⟩
theorem ahead_none : ∀ {args : List Ag} {i : Nat} {x : Ag}, (args.map (·.name)).Nodup → args[i]? = some x → (args.take i).find? (fun a => a.name == x.name) = none
  | [], i, x, _, h => by simp at h
  | a :: r, 0, x, _, _ => rfl
  | a :: r, i + 1, x, hd, h => by
    rw [List.map_cons, List.nodup_cons] at hd
    have hm : x ∈ r := List.mem_of_getElem? (i := i) (by simpa using h)
    rw [List.take_succ_cons, List.find?_cons]
    have hne : (a.name == x.name) = false := by
      rw [beq_eq_false_iff_ne]
      intro e
      exact hd.1 (List.mem_map.2 ⟨x, hm, e.symm⟩)
    rw [hne]
    exact ahead_none hd.2 (by simpa using h)
theorem not_ahead {args : List Ag} (h : (args.map (·.name)).Nodup) {i : Nat} {x : Ag} (hx : args[i]? = some x) : (mapOf (args.take i)).find? (fun p => p.1 == x.name) = none := by
  rw [find_mapOf, ahead_none h hx]
  rfl
end Ms
theorem Talk.put {S : Spk} {W0 : World} {args : List Ag} {l : List UInt8} {w : World} (h : Talk S W0 args l w) (x : Ag) (hx : (mapOf args).find? (fun p => p.1 == x.name) = none) :
    ∃ w', (Instr.mapUpdate 68 (.map (some S.B)) (.string ⟨x.name.toArray⟩) (argV x)).run Tryz.prog w = .ok () w' ∧ (W0.heap.size ≤ S.B → Talk S W0 (args ++ [x]) l w') ∧ (∀ base W, base ≤ S.B → Below base W w → Below base W w') := by
  obtain ⟨w', h1, h2, h3, _, h5⟩ := h.map.put (P := Tryz.prog) 68 9 70 Tryz.underlying68 Tryz.underlying9 x hx
  refine ⟨w', h1, fun hB => ⟨?_, ?_, h5 _ _ hB h.base, h.sb, h.ne⟩, h5⟩
  · obtain ⟨k0, p, v, k1, k2, k3, k4⟩ := h.spk
    refine ⟨k0, p, v, k1, (h3 S.q fun e => h.ne e.symm).trans k2, ?_, k4⟩
    refine ⟨k3.1, ?_⟩
    rcases k3.2 with q | ⟨g, cap, cur, q1, q2, q3, q4⟩
    · exact .inl q
    · refine .inr ⟨g, cap, cur, q1, q2, (h3 g fun e => ?_).trans q3, q4⟩
      obtain ⟨es, c, m1, _⟩ := h.map
      rw [e, m1] at q3
      cases q3
  · unfold mapOf at *
    rw [List.map_append]
    exact h2
/-- five cells of a block are laid -/
abbrev set5 (w : World) (q : Nat) (x0 x1 x2 x3 x4 : Value) : World := ((((w.setCell ⟨q, 0, none⟩ x0).setCell ⟨q, 1, none⟩ x1).setCell ⟨q, 2, none⟩ x2).setCell ⟨q, 3, none⟩ x3).setCell ⟨q, 4, none⟩ x4
theorem set5_at {w : World} {q : Nat} {a0 a1 a2 a3 a4 c5 p v x0 x1 x2 x3 x4 : Value} {T : TypeId} (h : w.heap[q]? = some (.cells #[a0, a1, a2, a3, a4, c5, p, v] T (0, 0))) : (set5 w q x0 x1 x2 x3 x4).heap[q]? = some (.cells #[x0, x1, x2, x3, x4, c5, p, v] T (0, 0)) := by
  simp [set5, World.setCell, Array.getElem?_modify, h]
theorem set5_far {w : World} {q k : Nat} {x0 x1 x2 x3 x4 : Value} (h : k ≠ q) : (set5 w q x0 x1 x2 x3 x4).heap[k]? = w.heap[k]? := by
  have h' : ∀ (w : World) (j : Nat) (x : Value), (w.setCell ⟨q, j, none⟩ x).heap[k]? = w.heap[k]? := fun w j x => Below.heap_setCell _ _ _ _ h
  unfold set5
  rw [h', h', h', h', h']
theorem set5_below {w w0 : World} {B q : Nat} {x0 x1 x2 x3 x4 : Value} (hb : Below B w0 w) (hq : B ≤ q) : Below B w0 (set5 w q x0 x1 x2 x3 x4) :=
  ((((hb.setCell (p := ⟨q, 0, none⟩) hq _).setCell (p := ⟨q, 1, none⟩) hq _).setCell (p := ⟨q, 2, none⟩) hq _).setCell (p := ⟨q, 3, none⟩) hq _).setCell (p := ⟨q, 4, none⟩) hq _
set_option maxRecDepth 100000 in
set_option maxHeartbeats 4000000 in
theorem esay_bad {f : Nat} {v va : Value} {m : List Nd} {args : List Ag} (lang : List UInt8) (w : World) (hw : MW w) (h : MsgAt f w v m) (hl : m.length ≤ 2000000) (ha : ArgsAt w va args) (hal : args.length ≤ 2000000) (hna : ∀ a ∈ args, a.name.length ≤ 4000000000) (hF : ¬ fitE f m args = 0) :
    Calls Tryz.prog 14 #[v, .string ⟨lang.toArray⟩, va] w fun e w' => e = .returned (.tuple #[.string ⟨#[]⟩, errV (fitE f m args)]) ∧ Below w.heap.size w w' := by
  have CF := Lib.hid (fits_any w hw h hl ha hal hna)
  rw [show errN (fitE f m args) = errV (fitE f m args) from if_neg hF] at CF
  generalize fitE f m args = FE at *
  clear hw h hl ha hal hna hF
  go_enter Tryz.func14, Tryz.ntmps14
  go_wp2_with fail
  refine CF.out.mono ?_
  rintro e w1 ⟨rfl, hb⟩
  have W1 := Lib.hid hb
  clear hb CF
  go_wp2_with fail
  go_ret2
  exact ⟨rfl, W1.out⟩
set_option maxRecDepth 100000 in
set_option maxHeartbeats 4000000 in
theorem esay_fit {f : Nat} {v va : Value} {m : List Nd} {args : List Ag} (lang t0 t1 t2 t3 t4 : List UInt8) (b : Bool) (w : World) (hw : MW w) (hE : EvW w) (h : MsgAt f w v m) (hl : m.length ≤ 2000000) (ha : ArgsAt w va args) (hal : args.length ≤ 2000000) (hna : ∀ a ∈ args, a.name.length ≤ 4000000000) (htx : ∀ a ∈ args, a.txt.length ≤ 2000000)
    (hS : SetFine t0 t1 t2 t3 t4) (hb0 : b = false → t0 = [] ∧ t1 = [] ∧ t2 = [] ∧ t3 = [] ∧ t4 = [])
    (CL : ∀ w : World, Calls Tryz.prog 24 #[.string ⟨lang.toArray⟩] w fun e w' => e = .returned (.tuple #[setV t0 t1 t2 t3 t4, if b then .nilIface else errV 2]) ∧ Below w.heap.size w w') (hF : fitE f m args = 0) :
    Calls Tryz.prog 14 #[v, .string ⟨lang.toArray⟩, va] w fun e w' => e = .returned (.tuple #[.string ⟨((sayO [t0, t1, t2, t3, t4] f m args).getD []).toArray⟩, errN (roomE (sayO [t0, t1, t2, t3, t4] f m args))]) ∧ Below w.heap.size w w' := by
  have CF := Lib.hid (fits_any w hw h hl ha hal hna)
  rw [hF] at CF
  obtain ⟨hwf, hae, hcn⟩ := wf_fit hF
  have HND := Lib.hid (arg_once args [] hae).2
  have HAF := Lib.hid (args_fine hae htx)
  obtain ⟨R, hR⟩ : ∃ R, R = sayO [t0, t1, t2, t3, t4] f m args := ⟨_, rfl⟩
  rw [← hR]
  obtain ⟨NN, hNN⟩ : ∃ NN, NN = cnt f m * 4000000 := ⟨_, rfl⟩
  have CS := Lib.hid fun (S : Spk) (hSE : S.t0 = t0 ∧ S.t1 = t1 ∧ S.t2 = t2 ∧ S.t3 = t3 ∧ S.t4 = t4) (w1 : World) (hT : Talk S w args [] w1) => (show Calls Tryz.prog 34 #[.pointer (some ⟨S.q, 0, none⟩), v, .agg #[.int .i64 0, .int .i64 0]] w1 fun e w' => OneP S w args [] w1 R NN e w' from by
    obtain ⟨rfl, rfl, rfl, rfl, rfl⟩ := hSE
    rw [hR, hNN]
    refine say_any S w args hE hS HAF.out f v m w1 [] 0 0 h hl hwf hT (by decide) ?_
    have := Nat.mul_le_mul_right 4000000 hcn
    simp only [List.length_nil, Nat.zero_add]
    exact Nat.le_trans this (by decide))
  have CLh := Lib.hid CL
  have hlen : NN ≤ 60 * 4000000 := by rw [hNN]; exact Nat.mul_le_mul_right 4000000 hcn
  obtain ⟨AV, acap, rfl, _, hel⟩ := ha.spread
  have hcap : args.length ≤ acap ∨ args.length = 0 := by
    rcases ha with ⟨e, _⟩ | ⟨_, _, _, e, _, q, _, _⟩
    · exact .inr (by rw [e]; rfl)
    · injection e with _ _ e; exact .inl (by omega)
  have HX := Lib.hid hel
  clear hw hE h ha hna htx CL hF hwf hae hcn hel hR hNN
  generalize hN : args.length = N at *
  unfold setV at CLh
  go_enter Tryz.func14, Tryz.ntmps14
  go_wp2_with fail
  refine CF.out.mono ?_
  rintro e w1 ⟨rfl, hb⟩
  have W1 := Lib.hid hb
  clear hb CF
  rw [errN_zero]
  have MM := run_makeMap (P := Tryz.prog) (w := w1) 68
  have WM := Lib.hid (blw_alloc w1 (.map #[] 0))
  have KM := Lib.hid (map_made (val := argV) w1)
  go_wp2_with fail
  clear MM
  obtain ⟨B, hBe⟩ : ∃ B, B = w1.heap.size := ⟨_, rfl⟩
  rw [← hBe] at KM
  have hB0 : w.heap.size ≤ B := by have := W1.out.size; omega
  have hBm : B < (w1.alloc (.map #[] 0)).heap.size := KM.out.lt
  simp only [← hBe]
  have hsz : (w1.alloc (.map #[] 0)).heap.size = B + 1 := by simp [hBe]
  have O3 := Lib.hid (obj_made (w1.alloc (.map #[] 0)) #[.string ⟨#[]⟩, .string ⟨#[]⟩, .string ⟨#[]⟩, .string ⟨#[]⟩, .string ⟨#[]⟩, .map (some B), .pointer none, .slice none 0 0] 93)
  rw [hsz] at O3
  have W3 := Lib.hid (blw_trans (blw_trans W1.out WM.out) (blw_alloc (w1.alloc (.map #[] 0)) (.cells #[.string ⟨#[]⟩, .string ⟨#[]⟩, .string ⟨#[]⟩, .string ⟨#[]⟩, .string ⟨#[]⟩, .map (some B), .pointer none, .slice none 0 0] 93)))
  have K3 := Lib.hid (KM.out.below (blw_alloc (w1.alloc (.map #[] 0)) (.cells #[.string ⟨#[]⟩, .string ⟨#[]⟩, .string ⟨#[]⟩, .string ⟨#[]⟩, .string ⟨#[]⟩, .map (some B), .pointer none, .slice none 0 0] 93)))
  generalize (w1.alloc (.map #[] 0)).alloc (.cells #[.string ⟨#[]⟩, .string ⟨#[]⟩, .string ⟨#[]⟩, .string ⟨#[]⟩, .string ⟨#[]⟩, .map (some B), .pointer none, .slice none 0 0] 93) = w3 at *
  clear hsz hBm KM WM W1 hBe
  obtain ⟨q, hqe⟩ : ∃ q, q = B + 1 := ⟨_, rfl⟩
  rw [← hqe] at O3
  simp only [← hqe]
  have HQ := Lib.hid (show w.heap.size ≤ q ∧ B ≠ q from ⟨by omega, by omega⟩)
  clear hqe
  obtain ⟨ev, hev⟩ : ∃ ev, ev = (if b then Value.nilIface else errV 2) := ⟨_, rfl⟩
  have CL2 := Lib.hid (CLh.out w3)
  rw [← hev] at CL2
  have HEV := Lib.hid hev
  clear hev
  refine CL2.out.mono ?_
  rintro e w4 ⟨rfl, hb⟩
  have W4 := Lib.hid (blw_trans W3.out hb)
  have K4 := Lib.hid (K3.out.below hb)
  have O4 := Lib.hid ((hb.block q (Array.getElem?_eq_some_iff.1 O3.out).1).trans O3.out)
  obtain ⟨S, hS5⟩ : ∃ S : Spk, S = ⟨t0, t1, t2, t3, t4, B, q, w.heap.size⟩ := ⟨_, rfl⟩
  have TK : Hid (∀ wx, Below w.heap.size w wx → wx.heap[q]? = some (.cells #[.string ⟨t0.toArray⟩, .string ⟨t1.toArray⟩, .string ⟨t2.toArray⟩, .string ⟨t3.toArray⟩, .string ⟨t4.toArray⟩, .map (some B), .pointer none, .slice none 0 0] 93 (0, 0)) → MapAt argV B (mapOf []) wx → Talk S w [] [] wx) := Lib.hid fun wx hb ho hm => by
    rw [hS5]
    exact ⟨⟨HQ.out.1, .pointer none, .slice none 0 0, .inl rfl, ho, World.ownsRow_nil _ _ _ _, by simp [Value.ownBlock]⟩, hm, hb, rfl, HQ.out.2⟩
  clear hb W3 K3 O3 CLh CL2
  go_upto_region 6 with fail
  have W5 := Lib.hid (blw_trans W4.out (blw_alloc w4 (.cells #[.string ⟨t0.toArray⟩, .string ⟨t1.toArray⟩, .string ⟨t2.toArray⟩, .string ⟨t3.toArray⟩, .string ⟨t4.toArray⟩] 58)))
  have K5 := Lib.hid (K4.out.below (blw_alloc w4 (.cells #[.string ⟨t0.toArray⟩, .string ⟨t1.toArray⟩, .string ⟨t2.toArray⟩, .string ⟨t3.toArray⟩, .string ⟨t4.toArray⟩] 58)))
  have O5 := Lib.hid (((blw_alloc w4 (.cells #[.string ⟨t0.toArray⟩, .string ⟨t1.toArray⟩, .string ⟨t2.toArray⟩, .string ⟨t3.toArray⟩, .string ⟨t4.toArray⟩] 58)).block q (Array.getElem?_eq_some_iff.1 O4.out).1).trans O4.out)
  have B5 := Lib.hid (Boxed.made w4 #[.string ⟨t0.toArray⟩, .string ⟨t1.toArray⟩, .string ⟨t2.toArray⟩, .string ⟨t3.toArray⟩, .string ⟨t4.toArray⟩] 58)
  generalize w4.alloc (.cells #[.string ⟨t0.toArray⟩, .string ⟨t1.toArray⟩, .string ⟨t2.toArray⟩, .string ⟨t3.toArray⟩, .string ⟨t4.toArray⟩] 58) = w5 at *
  go_cut [11, 30] from 24 to 30 (fun _ v30 wx => v30 = .bool b ∧ wx = w5)
  case first =>
    cases b with
    | false =>
      have hv : ev = errV 2 := HEV.out
      subst hv
      go_wp2_with fail
      go_meet
      exact ⟨rfl, rfl⟩
    | true =>
      have hv : ev = Value.nilIface := HEV.out
      subst hv
      go_wp2_with fail
      go_meet
      exact ⟨rfl, rfl⟩
  case rest =>
  obtain ⟨rfl, hwc⟩ := hcut
  subst hwc
  clear HEV
  go_upto_if 30 with fail
  generalize wc = w5 at *
  go_cut [] from 31 to 34 (fun wx => Hid (Talk S w [] [] wx))
  case first =>
    cases b with
    | false =>
      obtain ⟨rfl, rfl, rfl, rfl, rfl⟩ := hb0 rfl
      go_wp2_with fail
      go_meet
      exact Lib.hid (TK.out _ W5.out O5.out K5.out)
    | true =>
      have c0 : w5.cell? ⟨q, 0, none⟩ = some (.string ⟨#[]⟩) := by rw [Lib.cell_of_heap O5.out]; rfl
      have c1 : w5.cell? ⟨q, 1, none⟩ = some (.string ⟨#[]⟩) := by rw [Lib.cell_of_heap O5.out]; rfl
      have c2 : w5.cell? ⟨q, 2, none⟩ = some (.string ⟨#[]⟩) := by rw [Lib.cell_of_heap O5.out]; rfl
      have c3 : w5.cell? ⟨q, 3, none⟩ = some (.string ⟨#[]⟩) := by rw [Lib.cell_of_heap O5.out]; rfl
      have c4 : w5.cell? ⟨q, 4, none⟩ = some (.string ⟨#[]⟩) := by rw [Lib.cell_of_heap O5.out]; rfl
      have f0 := Lib.frozen_of_heap O5.out 0
      have f1 := Lib.frozen_of_heap O5.out 1
      have f2 := Lib.frozen_of_heap O5.out 2
      have f3 := Lib.frozen_of_heap O5.out 3
      have f4 := Lib.frozen_of_heap O5.out 4
      have b0 : w5.cell? ⟨w4.heap.size, 0, none⟩ = some (.string ⟨t0.toArray⟩) := B5.out.cell 0 _ rfl
      have b1 : w5.cell? ⟨w4.heap.size, 1, none⟩ = some (.string ⟨t1.toArray⟩) := B5.out.cell 1 _ rfl
      have b2 : w5.cell? ⟨w4.heap.size, 2, none⟩ = some (.string ⟨t2.toArray⟩) := B5.out.cell 2 _ rfl
      have b3 : w5.cell? ⟨w4.heap.size, 3, none⟩ = some (.string ⟨t3.toArray⟩) := B5.out.cell 3 _ rfl
      have b4 : w5.cell? ⟨w4.heap.size, 4, none⟩ = some (.string ⟨t4.toArray⟩) := B5.out.cell 4 _ rfl
      go_wp2_with fail
      go_meet
      exact Lib.hid (TK.out _ (set5_below W5.out HQ.out.1) (set5_at O5.out) (K5.out.kept (set5_far HQ.out.2)))
  case rest =>
  have T5 := hcut
  clear hcut W5 K5 O5 B5 W4 K4 O4 TK hb0
  generalize w4.heap.size = qz at *
  have HSE := Lib.hid (show S.t0 = t0 ∧ S.t1 = t1 ∧ S.t2 = t2 ∧ S.t3 = t3 ∧ S.t4 = t4 from by rw [hS5]; exact ⟨rfl, rfl, rfl, rfl, rfl⟩)
  have hSB : S.B = B := by rw [hS5]
  have hSq : S.q = q := by rw [hS5]
  clear hS5
  subst hSB hSq
  go_wp2_with fail
  go_loopw [37] (fun vi wr => ∃ i : Nat, vi = .int .i64 (i : Int) ∧ i ≤ N ∧ Hid (Talk S w (args.take i) [] wr)) (fun vi _ => N - (RowKit.intOf vi).toNat)
  case atStart => exact ⟨0, rfl, Nat.zero_le _, T5⟩
  case round =>
    obtain ⟨i, rfl, hi, HT⟩ := hrel
    clear T5
    by_cases hlt : i < N
    · have hi' : (i : Int) < (N : Int) := by omega
      have hcc : N ≤ acap := by omega
      obtain ⟨x, hxi⟩ : ∃ x, args[i]? = some x := ⟨args[i]'(by omega), List.getElem?_eq_getElem (by omega)⟩
      obtain ⟨bk, off, rfl, p0, p1, p2, p3, p4⟩ := HX.out i x hxi
      have g0 := cell_keep p0 HT.out.base
      have g1 := cell_keep p1 HT.out.base
      have g2 := cell_keep p2 HT.out.base
      have g3 := cell_keep p3 HT.out.base
      have g4 := cell_keep p4 HT.out.base
      have lb := World.block_lt_of_cell? _ _ g0
      have wi : IntKind.i64.wrap ((i : Int) + 1) = (i : Int) + 1 := IntWalk.i64_in _ (by omega)
      have HNA := Lib.hid (not_ahead HND.out hxi)
      have HTK := Lib.hid (show args.take (i + 1) = args.take i ++ [x] from by rw [List.take_add_one, hxi]; rfl)
      obtain ⟨T, bn, co, sc, tx⟩ := x
      have TA := Lib.hid ((HT.out.below (blw_alloc wr (.cells #[.string ⟨T.toArray⟩, .bool bn, .int .i64 co, .int .i64 sc, .string ⟨tx.toArray⟩] 70))).below (Below.drew (Below.refl _ _)))
      have BA := Lib.hid (Boxed.made wr #[.string ⟨T.toArray⟩, .bool bn, .int .i64 co, .int .i64 sc, .string ⟨tx.toArray⟩] 70)
      clear p0 p1 p2 p3 p4 hxi HX HT
      go_wp2_with fail
      generalize wr.alloc (.cells #[.string ⟨T.toArray⟩, .bool bn, .int .i64 co, .int .i64 sc, .string ⟨tx.toArray⟩] 70) = w6 at *
      generalize wr.heap.size = pa at *
      obtain ⟨pp, pv, _, hbk, _, _⟩ := TA.out.spk.2
      have c5 : w6.drew.cell? ⟨S.q, 5, none⟩ = some (.map (some S.B)) := by rw [Lib.cell_of_heap hbk]; rfl
      have c5' : w6.cell? ⟨S.q, 5, none⟩ = some (.map (some S.B)) := c5
      have sl : S.q < w6.heap.size := TA.out.spk.lt.2
      have a0 : w6.cell? ⟨pa, 0, none⟩ = some (.string ⟨T.toArray⟩) := BA.out.cell 0 _ rfl
      have a1 : w6.cell? ⟨pa, 1, none⟩ = some (.bool bn) := BA.out.cell 1 _ rfl
      have a2 : w6.cell? ⟨pa, 2, none⟩ = some (.int .i64 co) := BA.out.cell 2 _ rfl
      have a3 : w6.cell? ⟨pa, 3, none⟩ = some (.int .i64 sc) := BA.out.cell 3 _ rfl
      have a4 : w6.cell? ⟨pa, 4, none⟩ = some (.string ⟨tx.toArray⟩) := BA.out.cell 4 _ rfl
      have al := BA.out.lt
      obtain ⟨w7, MU, HP, _⟩ := TA.out.put ⟨T, bn, co, sc, tx⟩ HNA.out
      have T7 := Lib.hid (show Talk S w (args.take (i + 1)) [] w7 by rw [HTK.out]; exact HP hB0)
      have MU' : (Instr.mapUpdate 68 (.map (some S.B)) (.string ⟨T.toArray⟩) (.agg #[.string ⟨T.toArray⟩, .bool bn, .int .i64 co, .int .i64 sc, .string ⟨tx.toArray⟩])).run Tryz.prog w6.drew = .ok () w7 := MU
      clear hbk HP MU TA BA HTK HNA g0 g1 g2 g3 g4 lb
      go_region
      go_wp2_with fail
      go_roundw
      case rel => exact ⟨i + 1, by go_num, by omega, T7⟩
      case measure => simp [RowKit.intOf]; omega
    · have ei : i = N := by omega
      subst ei
      have hi' : ¬ (i : Int) < (i : Int) := by omega
      have TZ := Lib.hid (show Talk S w args [] wr by have := HT.out; rwa [List.take_of_length_le (by omega)] at this)
      have CSi := Lib.hid (CS.out S HSE.out wr TZ.out)
      clear HX HT TZ
      go_wp2_with fail
      refine CSi.out.mono ?_
      rintro e w8 ⟨rfl, l8, ht, hk, hs, hln⟩
      have T8 := Lib.hid ht
      clear ht hk CSi CS
      cases R with
      | none =>
        rw [room_none, errN_one]
        go_wp2_with fail
        go_ret2
        exact ⟨rfl, T8.out.base⟩
      | some t =>
        obtain rfl : l8 = t := hs t rfl
        have CB := Lib.hid (btext_any S l8 w8 T8.out.spk (by simp only [List.length_nil, Nat.zero_add] at hln; omega))
        rw [room_some, errN_zero]
        have W8 := Lib.hid T8.out.base
        have sb := T8.out.sb
        clear hs T8
        go_wp2_with fail
        refine CB.out.mono ?_
        rintro e w9 ⟨rfl, hb⟩
        rw [sb] at hb
        have W9 := Lib.hid (W8.out.trans hb)
        clear hb CB W8
        go_wp2_with fail
        go_ret2
        exact ⟨rfl, W9.out⟩
theorem esay_any {f : Nat} {v va : Value} {m : List Nd} {args : List Ag} (lang t0 t1 t2 t3 t4 : List UInt8) (b : Bool) (w : World) (hw : MW w) (hE : EvW w) (h : MsgAt f w v m) (hl : m.length ≤ 2000000) (ha : ArgsAt w va args) (hal : args.length ≤ 2000000) (hna : ∀ a ∈ args, a.name.length ≤ 4000000000) (htx : ∀ a ∈ args, a.txt.length ≤ 2000000)
    (hS : SetFine t0 t1 t2 t3 t4) (hb0 : b = false → t0 = [] ∧ t1 = [] ∧ t2 = [] ∧ t3 = [] ∧ t4 = [])
    (CL : ∀ w : World, Calls Tryz.prog 24 #[.string ⟨lang.toArray⟩] w fun e w' => e = .returned (.tuple #[setV t0 t1 t2 t3 t4, if b then .nilIface else errV 2]) ∧ Below w.heap.size w w') :
    Calls Tryz.prog 14 #[v, .string ⟨lang.toArray⟩, va] w fun e w' => e = .returned (.tuple #[.string ⟨(sayT [t0, t1, t2, t3, t4] f m args).toArray⟩, errN (sayE [t0, t1, t2, t3, t4] f m args)]) ∧ Below w.heap.size w w' := by
  unfold sayT sayE
  by_cases hF : fitE f m args = 0
  · rw [if_pos hF, if_pos hF]
    exact esay_fit lang t0 t1 t2 t3 t4 b w hw hE h hl ha hal hna htx hS hb0 CL hF
  · rw [if_neg hF, if_neg hF, show errN (fitE f m args) = errV (fitE f m args) from if_neg hF]
    exact esay_bad lang w hw h hl ha hal hna hF
end Go.Proofs.YtjlchookakbomaaGreatDoor
