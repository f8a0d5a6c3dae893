/- The walk of the reference's FitsFault. Conditions: the message is one, of lists of at most 2000000; the args lie in memory as they say, of names of at most 4000000000 bytes. -/
import Derived.Test.YtainindkndjkbaaGreatDoorNmC
import Derived.Test.YtainindkndjkbaaGreatDoorNmA
import Derived.Deep.DeepCutAuto
import Derived.Deep.CutRange
import Derived.BigQuiet
import Derived.Test.YtainindkndjkbaaGreatDoorNmB
import Derived.Test.YtainindkndjkbaaGreatDoorNeedF
import Derived.Laws.StructEq
import Derived.Test.YtainindkndjkbaaGreatDoorMapK
import Derived.Test.YtainindkndjkbaaGreatDoorDchkA
import Derived.Test.YtainindkndjkbaaGreatDoorHeld
import Derived.Test.YtainindkndjkbaaGreatDoorDflt
namespace Go.Proofs.YtainindkndjkbaaGreatDoor
open Go.RowKit Ms

theorem chs_step (f : Nat) {m : List Nd} {i : Nat} {x : Nd} (h : m[i]? = some x) (t : List UInt8) : chs (f + 1) (m.drop i) t = ((x.kind == 5 && x.text == t) || ((casesOf x).any fun y => chs f y.2 t) || chs (f + 1) (m.drop (i + 1)) t) := by
  obtain ⟨hi, e⟩ := List.getElem?_eq_some_iff.1 h
  rw [List.drop_eq_getElem_cons hi, e]
  rfl
theorem any_step {α : Type} {l : List α} {k : Nat} {y : α} (h : l[k]? = some y) (p : α → Bool) : (l.drop k).any p = (p y || (l.drop (k + 1)).any p) := by
  obtain ⟨hi, e⟩ := List.getElem?_eq_some_iff.1 h
  rw [List.drop_eq_getElem_cons hi, e]
  rfl

set_option maxRecDepth 100000 in
set_option maxHeartbeats 2000000 in
theorem chosen_any (f : Nat) : ∀ (v : Value) (m : List Nd) (t : List UInt8) (w : World), MsgAt f w v m → m.length ≤ 2000000 →
    Calls Tryz.prog 23 #[v, .string ⟨t.toArray⟩] w fun e w' => e = .returned (.bool (chs f m t)) ∧ Below w.heap.size w w' := by
  induction f with
  | zero =>
    intro v m t w h hl
    rcases h with ⟨rfl, A, cap, rfl⟩ | ⟨b, off, cap, _, hpos, _, _, hx⟩
    · rw [show chs 0 [] t = false from rfl]
      go_enter Tryz.func23, Tryz.ntmps23
      go_wp2_with fail
      go_loopw [5] (fun vi wr => vi = .int .i64 0 ∧ w = wr) (fun _ _ => 0)
      case atStart => exact ⟨rfl, rfl⟩
      case round =>
        obtain ⟨rfl, rfl⟩ := hrel
        go_wp2_with fail
        go_ret
        exact ⟨rfl, Below.refl _ _⟩
    · exact absurd (hx 0 _ (List.getElem?_eq_getElem hpos)) (by simp [NdC])
  | succ f ih =>
    intro v m t w h hl
    have IH := Lib.hid ih
    obtain ⟨RES, hRES⟩ : ∃ RES, RES = chs (f + 1) m t := ⟨_, rfl⟩
    rw [← hRES]
    have HRES := Lib.hid (show chs (f + 1) (m.drop 0) t = RES by rw [List.drop_zero, hRES])
    clear hRES ih
    obtain ⟨A, cap, rfl, _, hel⟩ := h.spread
    have hcap : m.length ≤ cap ∨ m.length = 0 := by
      rcases h with ⟨e, _⟩ | ⟨_, _, _, e, _, q, _, _⟩
      · exact .inr (by rw [e]; rfl)
      · injection e with _ _ e; exact .inl (by omega)
    have HX := Lib.hid hel
    clear hel h
    generalize hlm : m.length = L at *
    go_enter Tryz.func23, Tryz.ntmps23
    go_wp2_with fail
    go_loopw [5] (fun vi wr => ∃ i : Nat, vi = .int .i64 (i : Int) ∧ i ≤ L ∧ Hid (chs (f + 1) (m.drop i) t = RES) ∧ Hid (Below w.heap.size w wr)) (fun vi _ => L - (RowKit.intOf vi).toNat)
    case atStart => exact ⟨0, rfl, Nat.zero_le _, HRES, Lib.hid (Below.refl _ _)⟩
    case round =>
      obtain ⟨i, rfl, hi, HL, HB⟩ := hrel
      clear HRES
      by_cases hlt : i < L
      · have hi' : (i : Int) < (L : Int) := by omega
        have hcc : L ≤ cap := by omega
        obtain ⟨x, hxi⟩ : ∃ x, m[i]? = some x := ⟨m[i]'(by omega), List.getElem?_eq_getElem (by omega)⟩
        obtain ⟨b, off, rfl, hnd⟩ := HX.out i x hxi
        obtain ⟨a0, n0, c0, p0, p1, p2, p3, p4, p5, p6⟩ := hnd
        have g0 := cell_keep p0 HB.out
        have g1 := cell_keep p1 HB.out
        have g2 := cell_keep p2 HB.out
        have g3 := cell_keep p3 HB.out
        have HL2 := Lib.hid ((chs_step f hxi t).symm.trans HL.out)
        have wi : IntKind.i64.wrap ((i : Int) + 1) = (i : Int) + 1 := IntWalk.i64_in _ (by omega)
        have h4 : CassAt f w (.slice a0 n0 c0) x.cases := p4
        have CC := Lib.hid fun (wx : World) (hb : Below w.heap.size w wx) => qcases_to (f := f) x wx (cass_below h4 hb)
        have H4 := Lib.hid h4
        have lcs : (casesOf x).length ≤ 2000000 := by
          unfold casesOf; split
          · exact p6
          · simp
        clear HL p0 p1 p2 p3 p4 p5 p6 h4 hxi
        generalize casesOf x = cs at *
        generalize x.kind = K at *
        generalize x.text = T at *
        generalize x.off = O at *
        obtain ⟨Z, hZ⟩ : ∃ Z, Z = (K == 5 && T == t) := ⟨_, rfl⟩
        rw [← hZ] at HL2
        go_upto_region 4 with fail
        go_cut [28] from 14 to 28 (fun s28 wx => s28 = .bool Z ∧ wx = wr)
        case first =>
          by_cases k5 : K = 5
          · have b5 : (K == 5) = true := beq_yes k5
            have HE := Lib.hid (show Z = (T == t) by rw [hZ, b5]; rfl)
            clear hZ HL2 k5
            go_wp2_with fail
            go_meet
            exact ⟨by rw [HE.out], rfl⟩
          · have b5 : (K == 5) = false := beq_no k5
            have HE := Lib.hid (show Z = false by rw [hZ, b5]; rfl)
            clear hZ HL2 k5
            go_wp2_with fail
            go_meet
            exact ⟨by rw [HE.out], rfl⟩
        case rest =>
        obtain ⟨rfl, rfl⟩ := hcut
        clear hZ
        cases Z with
        | true =>
          obtain rfl : true = RES := by rw [← HL2.out]; simp
          go_wp2_with fail
          go_ret
          exact ⟨rfl, HB.out⟩
        | false =>
          go_wp2_with fail
          refine (CC.out wc HB.out).mono ?_
          rintro e w2 ⟨A1, C1, rfl, hto, hb⟩
          have W2 := Lib.hid (HB.out.trans (hb.mono HB.out.size))
          have HCS := hto w H4.out
          clear hto hb CC H4 g0 g1 g2 g3 HB
          obtain ⟨A2, C2, e2, _, hel⟩ := HCS.spread
          injection e2 with e3 e4 e5
          subst e3 e5
          have hcapc : cs.length ≤ C1 ∨ cs.length = 0 := by
            rcases HCS with ⟨e, _⟩ | ⟨_, _, _, e, _, q, _, _⟩
            · exact .inr (by rw [e]; rfl)
            · injection e with _ _ e; exact .inl (by omega)
          have HEL := Lib.hid hel
          clear hel HCS
          have HL3 := Lib.hid (show (((cs.drop 0).any fun y => chs f y.2 t) || chs (f + 1) (m.drop (i + 1)) t) = RES by rw [List.drop_zero]; have := HL2.out; rwa [Bool.false_or] at this)
          clear HL2
          generalize hlc : cs.length = LC at *
          go_wp2_with fail
          go_loopw [7] (fun vk wx => ∃ k : Nat, vk = .int .i64 (k : Int) ∧ k ≤ LC ∧ Hid ((((cs.drop k).any fun y => chs f y.2 t) || chs (f + 1) (m.drop (i + 1)) t) = RES) ∧ Hid (Below w.heap.size w wx)) (fun vk _ => LC - (RowKit.intOf vk).toNat)
          case atStart => exact ⟨0, rfl, Nat.zero_le _, HL3, W2⟩
          case round =>
            obtain ⟨k, rfl, hk, HL, HB⟩ := hrel
            clear HL3 W2
            by_cases hltk : k < LC
            · have hk' : (k : Int) < (LC : Int) := by omega
              have hccc : LC ≤ C1 := by omega
              obtain ⟨y, hyk⟩ : ∃ y, cs[k]? = some y := ⟨cs[k]'(by omega), List.getElem?_eq_getElem (by omega)⟩
              obtain ⟨bb, oo, rfl, a9, n9, c9, q0, q1, q2, q3, q4⟩ := HEL.out k y hyk
              have j1 := cell_keep q1 HB.out
              have hst := HL.out
              rw [any_step hyk, Bool.or_assoc] at hst
              have HL4 := Lib.hid hst
              have wk : IntKind.i64.wrap ((k : Int) + 1) = (k : Int) + 1 := IntWalk.i64_in _ (by omega)
              have CR := Lib.hid (IH.out (.slice a9 n9 c9) y.2 t wr (msg_below q2 HB.out) q4)
              generalize chs f y.2 t = Y at *
              clear HL hst q0 q1 q2 q3 q4 hyk
              go_wp2_with fail
              refine CR.out.mono ?_
              rintro e w3 ⟨rfl, hb⟩
              have W3 := Lib.hid (HB.out.trans (hb.mono HB.out.size))
              clear hb CR j1
              cases Y with
              | true =>
                obtain rfl : true = RES := HL4.out
                go_wp2_with fail
                go_ret
                exact ⟨rfl, W3.out⟩
              | false =>
                have HL5 := Lib.hid (show (((cs.drop (k + 1)).any fun y => chs f y.2 t) || chs (f + 1) (m.drop (i + 1)) t) = RES from HL4.out)
                clear HL4
                go_wp2_with fail
                go_roundw
                case rel => exact ⟨k + 1, by go_num, by omega, HL5, W3⟩
                case measure => simp [RowKit.intOf]; omega
            · have hk' : ¬ (k : Int) < (LC : Int) := by omega
              have hst := HL.out
              rw [List.drop_of_length_le (by omega)] at hst
              have HL4 := Lib.hid (show chs (f + 1) (m.drop (i + 1)) t = RES from hst)
              clear hst HL
              go_wp2_with fail
              go_roundw
              case rel => exact ⟨i + 1, by go_num, by omega, HL4, HB⟩
              case measure => simp [RowKit.intOf]; omega
      · have hi' : ¬ (i : Int) < (L : Int) := by omega
        have hst := HL.out
        rw [List.drop_of_length_le (by omega)] at hst
        obtain rfl : false = RES := hst
        go_wp2_with fail
        go_ret
        exact ⟨rfl, HB.out⟩
end Go.Proofs.YtainindkndjkbaaGreatDoor
namespace Go.Proofs.YtainindkndjkbaaGreatDoor
open Go.RowKit Ms

theorem AI.drewN {B q : Nat} {bx : Array Value} {u : Value} {xs : List Need} {A : World} (h : AI B q bx u xs A) (n : Nat) : AI B q bx u xs (A.drewN n) := h.below (blw_drewN (Below.refl _ _) n)

set_option maxRecDepth 100000 in
set_option maxHeartbeats 4000000 in
theorem asked_any (f : Nat) : ∀ (v : Value) (m : List Nd) (W0 w : World) (u : Value) (xs : List Need), MsgAt f W0 v m → m.length ≤ 2000000 → w.ownsRow W0.heap.size 39 5 u xs.length (nafl xs) → Below W0.heap.size W0 w → xs.length + cnt f m ≤ 1000000 →
    Calls Tryz.prog 9 #[v, u] w fun e w' => ∃ u', e = .returned u' ∧ w'.ownsRow W0.heap.size 39 5 u' (allN f xs m).length (nafl (allN f xs m)) ∧ Below W0.heap.size W0 w' := by
  induction f with
  | zero =>
    intro v m W0 w u xs h hl hP hb hc
    rcases h with ⟨rfl, A, cap, rfl⟩ | ⟨b, off, cap, _, hpos, _, _, hx⟩
    · rw [show allN 0 xs [] = xs from rfl]
      obtain ⟨ua, uc, rfl⟩ := mrow_slice hP
      go_enter Tryz.func9, Tryz.ntmps9
      go_wp2_with fail
      go_loopw [1, 5] (fun vu vi wr => vi = .int .i64 0 ∧ vu = .slice ua xs.length uc ∧ w = wr) (fun _ _ _ => 0)
      case atStart => exact ⟨rfl, rfl, rfl⟩
      case round =>
        obtain ⟨rfl, rfl, rfl⟩ := hrel
        go_wp2_with fail
        go_ret
        exact ⟨_, rfl, hP, hb⟩
    · exact absurd (hx 0 _ (List.getElem?_eq_getElem hpos)) (by simp [NdC])
  | succ f ih =>
    intro v m W0 w u xs h hl hP hb hc
    obtain ⟨iN, hiN, hN0, hN1, hN2⟩ := info_parts infoArg
    have IH := Lib.hid ih
    have AL := Lib.hid (allN_len f)
    obtain ⟨RES, hRES⟩ : ∃ RES, RES = allN (f + 1) xs m := ⟨_, rfl⟩
    rw [← hRES]
    have HRES := Lib.hid (show allN (f + 1) xs (m.drop 0) = RES by rw [List.drop_zero, hRES])
    have HCN := Lib.hid (show xs.length + cnt (f + 1) (m.drop 0) ≤ 1000000 by rw [List.drop_zero]; exact hc)
    clear hRES ih hc
    obtain ⟨A, cap, rfl, _, hel⟩ := h.spread
    have hcap : m.length ≤ cap ∨ m.length = 0 := by
      rcases h with ⟨e, _⟩ | ⟨_, _, _, e, _, q, _, _⟩
      · exact .inr (by rw [e]; rfl)
      · injection e with _ _ e; exact .inl (by omega)
    have HX := Lib.hid hel
    clear hel h
    obtain ⟨ua, uc, rfl⟩ := mrow_slice hP
    have HP0 := Lib.hid hP
    have HB0 := Lib.hid hb
    clear hP hb
    generalize hlm : m.length = L at *
    go_enter Tryz.func9, Tryz.ntmps9
    go_wp2_with fail
    go_loopw [1, 5] (fun vu vi wr => ∃ (i : Nat) (ys : List Need) (ua : Option Addr) (uc : Nat), vi = .int .i64 (i : Int) ∧ vu = .slice ua ys.length uc ∧ i ≤ L ∧ Hid (wr.ownsRow W0.heap.size 39 5 (.slice ua ys.length uc) ys.length (nafl ys)) ∧ Hid (allN (f + 1) ys (m.drop i) = RES) ∧ Hid (ys.length + cnt (f + 1) (m.drop i) ≤ 1000000) ∧ Hid (Below W0.heap.size W0 wr)) (fun _ vi _ => L - (RowKit.intOf vi).toNat)
    case atStart => exact ⟨0, xs, ua, uc, rfl, rfl, Nat.zero_le _, HP0, HRES, HCN, HB0⟩
    case round =>
      obtain ⟨i, ys, va, vc, rfl, rfl, hi, HP, HL, HC, HB⟩ := hrel
      clear HP0 HRES HCN HB0
      by_cases hlt : i < L
      · have hi' : (i : Int) < (L : Int) := by omega
        have hcc : L ≤ cap := by omega
        obtain ⟨x, hxi⟩ : ∃ x, m[i]? = some x := ⟨m[i]'(by omega), List.getElem?_eq_getElem (by omega)⟩
        obtain ⟨b, off, rfl, hnd⟩ := HX.out i x hxi
        obtain ⟨a0, n0, c0, p0, p1, p2, p3, p4, p5, p6⟩ := hnd
        have g0 := cell_keep p0 HB.out
        have g1 := cell_keep p1 HB.out
        have g2 := cell_keep p2 HB.out
        have g3 := cell_keep p3 HB.out
        have lb := World.block_lt_of_cell? _ _ g0
        have HL2 := Lib.hid ((allN_step f hxi ys).symm.trans HL.out)
        have HC2 := Lib.hid (show ys.length + (1 + (((casesOf x).map (·.2)).map (cnt f)).sum + cnt (f + 1) (m.drop (i + 1))) ≤ 1000000 by have := HC.out; rw [cnt_step f hxi] at this; exact this)
        have wi : IntKind.i64.wrap ((i : Int) + 1) = (i : Int) + 1 := IntWalk.i64_in _ (by omega)
        have HB1 := Lib.hid (HB.out.alloc (HB.out.size) (.cells #[.int .i64 x.kind, .string ⟨x.text.toArray⟩, .int .i64 x.off, .slice a0 n0 c0] 60))
        have XB := Lib.hid (show AI W0.heap.size wr.heap.size #[.int .i64 x.kind, .string ⟨x.text.toArray⟩, .int .i64 x.off, .slice a0 n0 c0] (.slice va ys.length vc) ys (wr.alloc (.cells #[.int .i64 x.kind, .string ⟨x.text.toArray⟩, .int .i64 x.off, .slice a0 n0 c0] 60)) from ⟨HP.out.alloc _, Boxed.made _ _ _, fun e => by have := (HP.out.lt _ e).2; omega⟩)
        have HAL := Lib.hid (show (addN ys x).length ≤ ys.length + 1 from addN_len ys x)
        have h4 : CassAt f W0 (.slice a0 n0 c0) x.cases := p4
        have CC := Lib.hid fun (wx : World) (hb : Below W0.heap.size W0 wx) => qcases_to (f := f) x wx (cass_below h4 hb)
        have H4 := Lib.hid h4
        have lcs : (casesOf x).length ≤ 2000000 := by
          unfold casesOf; split
          · exact p6
          · simp
        have HAD := Lib.hid (show addN ys x = if x.kind = 1 ∨ x.kind = 6 then ys else (grownN ys x.text).modify (ys.findIdx (fun n => n.1 == x.text)) (orN (decide (x.kind = 3) || decide (x.kind = 4)) (decide (x.kind = 5))) from rfl)
        have hyl : ys.length ≤ 1000000 := by have := HC.out; omega
        generalize addN ys x = zs at *
        clear HL HC p0 p1 p2 p3 p4 p5 p6 h4 hxi HP
        have hq := XB.out.box.lt
        have hszB := HB.out.size
        generalize hK : x.kind = K at *
        generalize hT : x.text = T at *
        generalize hO : x.off = O at *
        obtain ⟨bk, hbk⟩ : ∃ bk, bk = (!(K == 1) && !(K == 6)) := ⟨_, rfl⟩
        go_upto_region 5 with fail
        generalize World.alloc wr (.cells #[.int .i64 K, .string ⟨T.toArray⟩, .int .i64 O, .slice a0 n0 c0] 60) = w1 at *
        generalize wr.heap.size = q at *
        clear g0 g1 g2 g3 lb
        have x0 : w1.cell? ⟨q, 0, none⟩ = some (.int .i64 K) := XB.out.box.cell 0 _ rfl
        go_cut [27] from 19 to 26 (fun s27 wx => s27 = .bool bk ∧ wx = w1)
        case first =>
          by_cases k1 : K = 1
          · have b1 : (K != 1) = false := by rw [k1]; rfl
            have HE := Lib.hid (show bk = false by rw [hbk, k1]; rfl)
            clear hbk k1
            go_wp2_with fail
            go_meet
            exact ⟨by rw [HE.out], rfl⟩
          · have b1 : (K != 1) = true := by rw [bne, beq_no k1]; rfl
            by_cases k6 : K = 6
            · have b6 : (K != 6) = false := by rw [k6]; rfl
              have HE := Lib.hid (show bk = false by rw [hbk, k6]; rfl)
              clear hbk k1 k6
              go_wp2_with fail
              go_meet
              exact ⟨by rw [HE.out], rfl⟩
            · have b6 : (K != 6) = true := by rw [bne, beq_no k6]; rfl
              have HE := Lib.hid (show bk = true by rw [hbk, beq_no k1, beq_no k6]; rfl)
              clear hbk k1 k6
              go_wp2_with fail
              go_meet
              exact ⟨by rw [HE.out], rfl⟩
        case rest =>
        obtain ⟨rfl, rfl⟩ := hcut
        go_upto_if 27 with fail
        go_cut [1] from 7 to 65 (fun s1 wx => ∃ ua uc, s1 = .slice ua zs.length uc ∧ Hid (AI W0.heap.size q #[.int .i64 K, .string ⟨T.toArray⟩, .int .i64 O, .slice a0 n0 c0] (.slice ua zs.length uc) zs wx) ∧ Hid (Below W0.heap.size W0 wx))
        case first =>
          cases bk with
          | false =>
            have hz : zs = ys := by
              rw [HAD.out, if_pos]
              cases h1 : K == 1 with
              | true => exact .inl (by simpa using h1)
              | false =>
                cases h6 : K == 6 with
                | true => exact .inr (by simpa using h6)
                | false => rw [h1, h6] at hbk; cases hbk
            subst hz
            clear hbk HAD
            go_wp2_with fail
            go_meet
            exact ⟨va, vc, rfl, XB, HB1⟩
          | true =>
            have hk : ¬ (K = 1 ∨ K = 6) := by
              rintro (h | h) <;> rw [h] at hbk <;> cases hbk
            obtain ⟨IX, hIX⟩ : ∃ IX, IX = ys.findIdx (fun n => n.1 == T) := ⟨_, rfl⟩
            have HZ := Lib.hid (show zs = (grownN ys T).modify IX (orN (decide (K = 3) || decide (K = 4)) (decide (K = 5))) by rw [HAD.out, if_neg hk, hIX])
            have HIF := Lib.hid fun (k : Nat) (nd : Need) (h : ys[k]? = some nd) (h0 : (ys.take k).any (fun n => n.1 == T) = false) (h1 : (nd.1 == T) = true) => (show IX = k from hIX.trans (idx_first h h0 h1))
            have HIN := Lib.hid fun (h : ys.any (fun n => n.1 == T) = false) => (show IX = ys.length from hIX.trans (idx_none h))
            have HG := Lib.hid (show grownN ys T = if IX < ys.length then ys else ys ++ [(T, false, false)] by rw [hIX]; rfl)
            have HGI := Lib.hid (show IX < (grownN ys T).length ∧ (grownN ys T).length ≤ ys.length + 1 ∧ ∃ n, (grownN ys T)[IX]? = some n by rw [hIX]; exact grownN_idx ys T)
            clear hIX hbk hk HAD CC
            generalize hN : ys.length = N at *
            go_wp2_with fail
            go_loopw [7] (fun vk wx => ∃ (k : Nat), vk = .int .i64 (k : Int) ∧ k ≤ N ∧ Hid ((ys.take k).any (fun n => n.1 == T) = false) ∧ Hid (AI W0.heap.size q #[.int .i64 K, .string ⟨T.toArray⟩, .int .i64 O, .slice a0 n0 c0] (.slice va N vc) ys wx) ∧ Hid (Below W0.heap.size W0 wx)) (fun vk _ => N - (RowKit.intOf vk).toNat)
            case atStart => exact ⟨0, rfl, Nat.zero_le _, Lib.hid rfl, XB, HB1⟩
            case round =>
              obtain ⟨k, rfl, hk, HA, XA, WA⟩ := hrel
              clear XB HB1
              by_cases hltk : k < N
              · obtain ⟨nd, hnd⟩ : ∃ nd, ys[k]? = some nd := ⟨ys[k]'(by omega), List.getElem?_eq_getElem (by omega)⟩
                obtain ⟨g, e⟩ : ∃ g, va = some ⟨g, 0, none⟩ := by
                  obtain ⟨g, cp, e⟩ := nrow_some XA.out.row (by omega)
                  injection e with e _ _
                  exact ⟨g, e⟩
                subst e
                have k0 : wr.cell? ⟨g, k * 5, none⟩ = some (.string ⟨nd.1.toArray⟩) := by
                  have hr := XA.out.row
                  rw [hN] at hr
                  have q := (afl_at (l := ys.map ofN) (j := k) (n := ofN nd) (by rw [List.getElem?_map, hnd]; rfl)).1
                  exact nrow_cells hr q
                have t1 : wr.cell? ⟨q, 1, none⟩ = some (.string ⟨T.toArray⟩) := XA.out.box.cell 1 _ rfl
                have k1 : (k : Int) < (N : Int) := by omega
                have k2 : (0 : Int) ≤ (k : Int) := by omega
                have wk : IntKind.i64.wrap ((k : Int) + 1) = (k : Int) + 1 := IntWalk.i64_in _ (by omega)
                have HAN := Lib.hid fun (h : (nd.1 == T) = false) => (show (ys.take (k + 1)).any (fun n => n.1 == T) = false by rw [any_take' hnd, HA.out, h]; rfl)
                have HIK := Lib.hid (HIF.out k nd hnd HA.out)
                clear hnd HIF
                obtain ⟨t, bn, bt⟩ := nd
                go_wp2_with fail
                go_big_quiet (fail)
                rename Nat => nq
                have XA2 := Lib.hid (XA.out.drewN nq)
                have WA2 := Lib.hid (blw_drewN WA.out nq)
                clear XA WA k0 t1
                generalize wr.drewN nq = w2 at *
                cases ht : t == T with
                | true =>
                  obtain rfl : IX = k := HIK.out ht
                  have hl2 : IX < N := hltk
                  have HGY := Lib.hid (show grownN ys T = ys by rw [HG.out, if_pos hl2])
                  have HUL := Lib.hid (show ys.length = N from hN)
                  have HZU := Lib.hid (show zs = ys.modify IX (orN (decide (K = 3) || decide (K = 4)) (decide (K = 5))) by rw [HZ.out, HGY.out])
                  have HZL := Lib.hid (show zs.length = N by rw [HZU.out, modify_len, hN])
                  obtain ⟨_, _, nn, hnn⟩ := HGI.out
                  rw [HGY.out] at hnn
                  have HNU := Lib.hid hnn
                  have hgB := (XA2.out.row.lt g rfl).1
                  have c1 : w2.cell? ⟨g, IX * 5 + 1, none⟩ = some (.bool nn.2.1) := by
                    have hr := XA2.out.row
                    rw [hN] at hr
                    have q := (afl_at (l := ys.map ofN) (j := IX) (n := ofN nn) (by rw [List.getElem?_map, hnn]; rfl)).2.1
                    exact nrow_cells hr q
                  have f1 : w2.frozen? ⟨g, IX * 5 + 1, none⟩ = false := by
                    have hr := XA2.out.row
                    rw [hN] at hr
                    exact hr.frozenAt _
                  have bN : ((IX : Int) == (N : Int)) = false := beq_no (by omega)
                  clear HIK HAN HIN HA HG HGI HGY HZ hnn ht
                  simp only [Bool.not_true]
                  have x0 : World.cell? w2 ⟨q, 0, none⟩ = some (.int .i64 K) := XA2.out.box.cell 0 _ rfl
                  by_cases k3 : K = 3
                  · have b3 : (K == 3) = true := by rw [k3]; rfl
                    have b4 : (K == 4) = false := by rw [k3]; rfl
                    have HZ3 := Lib.hid (show zs = (ys).modify IX (orN true (decide (K = 5))) by rw [HZU.out, k3]; rfl)
                    clear k3 HZU
                    go_wp2_with fail
                    go_meet
                    exact ⟨some ⟨g, 0, none⟩, vc, by rw [HZL.out], Lib.hid (by have HX := XA2.out; rw [HZ3.out, modify_len]; have HH := AI.yes (xs := ys) (by rw [HUL.out]; exact HX) HNU.out (decide (K = 5)); rw [HUL.out] at HH ⊢; exact HH), Lib.hid (by exact WA2.out.setCell (p := ⟨g, IX * 5 + 1, none⟩) hgB _)⟩
                  by_cases k4 : K = 4
                  · have b3 : (K == 3) = false := by rw [k4]; rfl
                    have b4 : (K == 4) = true := by rw [k4]; rfl
                    have HZ3 := Lib.hid (show zs = (ys).modify IX (orN true (decide (K = 5))) by rw [HZU.out, k4]; rfl)
                    clear k4 HZU
                    go_wp2_with fail
                    go_meet
                    exact ⟨some ⟨g, 0, none⟩, vc, by rw [HZL.out], Lib.hid (by have HX := XA2.out; rw [HZ3.out, modify_len]; have HH := AI.yes (xs := ys) (by rw [HUL.out]; exact HX) HNU.out (decide (K = 5)); rw [HUL.out] at HH ⊢; exact HH), Lib.hid (by exact WA2.out.setCell (p := ⟨g, IX * 5 + 1, none⟩) hgB _)⟩
                  have b3 : (K == 3) = false := beq_no k3
                  have b4 : (K == 4) = false := beq_no k4
                  have HZ3 := Lib.hid (show zs = (ys).modify IX (orN false (decide (K = 5))) by rw [HZU.out, dec_no k3, dec_no k4]; rfl)
                  clear k3 k4 HZU
                  go_wp2_with fail
                  go_meet
                  exact ⟨some ⟨g, 0, none⟩, vc, by rw [HZL.out], Lib.hid (by have HX := XA2.out; have HH := AI.no HX IX (decide (K = 5)); rw [HZ3.out, modify_len, HUL.out]; exact HH), WA2⟩
                | false =>
                  have HA2 := Lib.hid (HAN.out ht)
                  simp only [Bool.not_false]
                  clear HIK HAN HIN HA HG HGI HZ ht
                  go_wp2_with fail
                  go_roundw
                  case rel => exact ⟨k + 1, by go_num, by omega, HA2, XA2, WA2⟩
                  case measure => simp [RowKit.intOf]; omega
              · obtain rfl : k = N := by omega
                have hnone : ys.any (fun n => n.1 == T) = false := by have := HA.out; rwa [List.take_of_length_le (by omega)] at this
                obtain rfl : IX = k := HIN.out hnone
                have HGY := Lib.hid (show grownN ys T = ys ++ [(T, false, false)] by rw [HG.out, if_neg (Nat.lt_irrefl _)])
                have HUL := Lib.hid (show (ys ++ [(T, false, false)]).length = IX + 1 by rw [List.length_append, hN]; rfl)
                have HZU := Lib.hid (show zs = (ys ++ [(T, false, false)]).modify IX (orN (decide (K = 3) || decide (K = 4)) (decide (K = 5))) by rw [HZ.out, HGY.out])
                have HZL := Lib.hid (show zs.length = IX + 1 by rw [HZU.out, modify_len]; exact HUL.out)
                have HNU := Lib.hid (show (ys ++ [(T, false, false)])[IX]? = some (T, false, false) by rw [← hN]; simp)
                have bN : ((IX : Int) == (IX : Int)) = true := beq_yes rfl
                have hk' : ¬ (IX : Int) < (IX : Int) := by omega
                clear HIN HA HG HGI HGY HZ HIF hnone
                go_wp2_with fail
                go_big_quiet (fail)
                rename Nat => nq
                have XA2 := Lib.hid (XA.out.drewN nq)
                have WA2 := Lib.hid (blw_drewN WA.out nq)
                have hs2 := WA2.out.size
                have t1 : (wr.drewN nq).cell? ⟨q, 1, none⟩ = some (.string ⟨T.toArray⟩) := XA2.out.box.cell 1 _ rfl
                clear XA WA
                generalize wr.drewN nq = w2 at *
                have hown : w2.ownsRow W0.heap.size 39 5 (.slice va IX vc) IX (nafl ys) := by have := XA2.out.row; rwa [hN] at this
                by_cases k3 : K = 3
                · have b3 : (K == 3) = true := by rw [k3]; rfl
                  have b4 : (K == 4) = false := by rw [k3]; rfl
                  have HZ3 := Lib.hid (show zs = (ys ++ [(T, false, false)]).modify IX (orN true (decide (K = 5))) by rw [HZU.out, k3]; rfl)
                  clear k3 HZU
                  go_wp2_with (at_builtin; refine wpList_append_own_at _ rfl _ _ 23 rfl W0.heap.size 39 iN _ 5 56 Tryz.underlying23 hiN hN0 hN1 hN2 rfl (by decide) _ IX (nafl ys) rfl (hown.alloc _) ⟨w2.heap.size, 0, none⟩ 1 1 (acells (ofN (T, false, false))) rfl rfl (ncells_at _ (acells (ofN (T, false, false))) _ _ rfl) (acells_one _) (by unfold maxLen; omega) (by omega) (by simp; omega) ?_; intro v' w3 hown' hgrow _ hat; have XA3 := Lib.hid (AI.app (C := w3) (v' := v') (t := T) (XA2.out.below (blw_alloc _ _)) (by rw [hN]; exact hown') hgrow hat); have WA3 := Lib.hid ((WA2.out.alloc hs2 _).grown hgrow (by simp; omega) (fun k hk => (hown.lt k hk).1)); obtain ⟨g', cap', rfl⟩ := nrow_some hown' (by omega); have hcp : IX + 1 ≤ cap' := (by rcases hown'.2 with ⟨e, _⟩ | ⟨_, _, _, e, _, _, h, _⟩; cases e; injection e with _ _ e; omega); have c1 : w3.cell? ⟨g', IX * 5 + 1, none⟩ = some (.bool false) := (by have q := (afl_at (l := (ys ++ [(T, false, false)]).map ofN) (j := IX) (n := ofN (T, false, false)) (by rw [List.getElem?_map, HNU.out]; rfl)).2.1; exact nrow_cells hown' (by have e := nafl_add ys (T, false, false); rw [← e]; exact q)); have f1 := hown'.frozenAt (IX * 5 + 1); have hgB := (hown'.lt g' rfl).1; have x0 : w3.cell? ⟨q, 0, none⟩ = some (.int .i64 K) := XA3.out.box.cell 0 _ rfl; clear hown hown' hgrow hat t1 XA2 WA2)
                  go_meet
                  exact ⟨some ⟨g', 0, none⟩, cap', by rw [HZL.out], Lib.hid (by have HX := XA3.out; rw [HZ3.out, modify_len]; have HH := AI.yes (xs := ys ++ [(T, false, false)]) (by rw [HUL.out]; exact HX) HNU.out (decide (K = 5)); rw [HUL.out] at HH ⊢; exact HH), Lib.hid (by exact WA3.out.setCell (p := ⟨g', IX * 5 + 1, none⟩) hgB _)⟩
                by_cases k4 : K = 4
                · have b3 : (K == 3) = false := by rw [k4]; rfl
                  have b4 : (K == 4) = true := by rw [k4]; rfl
                  have HZ3 := Lib.hid (show zs = (ys ++ [(T, false, false)]).modify IX (orN true (decide (K = 5))) by rw [HZU.out, k4]; rfl)
                  clear k4 HZU
                  go_wp2_with (at_builtin; refine wpList_append_own_at _ rfl _ _ 23 rfl W0.heap.size 39 iN _ 5 56 Tryz.underlying23 hiN hN0 hN1 hN2 rfl (by decide) _ IX (nafl ys) rfl (hown.alloc _) ⟨w2.heap.size, 0, none⟩ 1 1 (acells (ofN (T, false, false))) rfl rfl (ncells_at _ (acells (ofN (T, false, false))) _ _ rfl) (acells_one _) (by unfold maxLen; omega) (by omega) (by simp; omega) ?_; intro v' w3 hown' hgrow _ hat; have XA3 := Lib.hid (AI.app (C := w3) (v' := v') (t := T) (XA2.out.below (blw_alloc _ _)) (by rw [hN]; exact hown') hgrow hat); have WA3 := Lib.hid ((WA2.out.alloc hs2 _).grown hgrow (by simp; omega) (fun k hk => (hown.lt k hk).1)); obtain ⟨g', cap', rfl⟩ := nrow_some hown' (by omega); have hcp : IX + 1 ≤ cap' := (by rcases hown'.2 with ⟨e, _⟩ | ⟨_, _, _, e, _, _, h, _⟩; cases e; injection e with _ _ e; omega); have c1 : w3.cell? ⟨g', IX * 5 + 1, none⟩ = some (.bool false) := (by have q := (afl_at (l := (ys ++ [(T, false, false)]).map ofN) (j := IX) (n := ofN (T, false, false)) (by rw [List.getElem?_map, HNU.out]; rfl)).2.1; exact nrow_cells hown' (by have e := nafl_add ys (T, false, false); rw [← e]; exact q)); have f1 := hown'.frozenAt (IX * 5 + 1); have hgB := (hown'.lt g' rfl).1; have x0 : w3.cell? ⟨q, 0, none⟩ = some (.int .i64 K) := XA3.out.box.cell 0 _ rfl; clear hown hown' hgrow hat t1 XA2 WA2)
                  go_meet
                  exact ⟨some ⟨g', 0, none⟩, cap', by rw [HZL.out], Lib.hid (by have HX := XA3.out; rw [HZ3.out, modify_len]; have HH := AI.yes (xs := ys ++ [(T, false, false)]) (by rw [HUL.out]; exact HX) HNU.out (decide (K = 5)); rw [HUL.out] at HH ⊢; exact HH), Lib.hid (by exact WA3.out.setCell (p := ⟨g', IX * 5 + 1, none⟩) hgB _)⟩
                have b3 : (K == 3) = false := beq_no k3
                have b4 : (K == 4) = false := beq_no k4
                have HZ3 := Lib.hid (show zs = (ys ++ [(T, false, false)]).modify IX (orN false (decide (K = 5))) by rw [HZU.out, dec_no k3, dec_no k4]; rfl)
                clear k3 k4 HZU
                go_wp2_with (at_builtin; refine wpList_append_own_at _ rfl _ _ 23 rfl W0.heap.size 39 iN _ 5 56 Tryz.underlying23 hiN hN0 hN1 hN2 rfl (by decide) _ IX (nafl ys) rfl (hown.alloc _) ⟨w2.heap.size, 0, none⟩ 1 1 (acells (ofN (T, false, false))) rfl rfl (ncells_at _ (acells (ofN (T, false, false))) _ _ rfl) (acells_one _) (by unfold maxLen; omega) (by omega) (by simp; omega) ?_; intro v' w3 hown' hgrow _ hat; have XA3 := Lib.hid (AI.app (C := w3) (v' := v') (t := T) (XA2.out.below (blw_alloc _ _)) (by rw [hN]; exact hown') hgrow hat); have WA3 := Lib.hid ((WA2.out.alloc hs2 _).grown hgrow (by simp; omega) (fun k hk => (hown.lt k hk).1)); obtain ⟨g', cap', rfl⟩ := nrow_some hown' (by omega); have hcp : IX + 1 ≤ cap' := (by rcases hown'.2 with ⟨e, _⟩ | ⟨_, _, _, e, _, _, h, _⟩; cases e; injection e with _ _ e; omega); have c1 : w3.cell? ⟨g', IX * 5 + 1, none⟩ = some (.bool false) := (by have q := (afl_at (l := (ys ++ [(T, false, false)]).map ofN) (j := IX) (n := ofN (T, false, false)) (by rw [List.getElem?_map, HNU.out]; rfl)).2.1; exact nrow_cells hown' (by have e := nafl_add ys (T, false, false); rw [← e]; exact q)); have f1 := hown'.frozenAt (IX * 5 + 1); have hgB := (hown'.lt g' rfl).1; have x0 : w3.cell? ⟨q, 0, none⟩ = some (.int .i64 K) := XA3.out.box.cell 0 _ rfl; clear hown hown' hgrow hat t1 XA2 WA2)
                go_meet
                exact ⟨some ⟨g', 0, none⟩, cap', by rw [HZL.out], Lib.hid (by have HX := XA3.out; have HH := AI.no HX IX (decide (K = 5)); rw [HZ3.out, modify_len, HUL.out]; exact HH), WA3⟩
        case rest =>
          obtain ⟨ua, uc, rfl, XA, WA⟩ := hcut
          have x0 : wc.cell? ⟨q, 0, none⟩ = some (.int .i64 K) := XA.out.box.cell 0 _ rfl
          have x1 : wc.cell? ⟨q, 1, none⟩ = some (.string ⟨T.toArray⟩) := XA.out.box.cell 1 _ rfl
          have x2 : wc.cell? ⟨q, 2, none⟩ = some (.int .i64 O) := XA.out.box.cell 2 _ rfl
          have x3 : wc.cell? ⟨q, 3, none⟩ = some (.slice a0 n0 c0) := XA.out.box.cell 3 _ rfl
          clear HAD hbk XB HB1
          go_wp2_with fail
          refine (CC.out wc WA.out).mono ?_
          rintro e w2 ⟨A1, C1, rfl, hto, hb⟩
          have P2 := Lib.hid ((XA.out.below hb).row)
          have W2 := Lib.hid (WA.out.trans (hb.mono WA.out.size))
          have HCS := hto W0 H4.out
          clear hto hb CC XA WA H4 x0 x1 x2 x3
          generalize casesOf x = cs at *
          obtain ⟨A2, C2, e2, _, hel⟩ := HCS.spread
          injection e2 with e3 e4 e5
          subst e3 e5
          have hcapc : cs.length ≤ C1 ∨ cs.length = 0 := by
            rcases HCS with ⟨e, _⟩ | ⟨_, _, _, e, _, q, _, _⟩
            · exact .inr (by rw [e]; rfl)
            · injection e with _ _ e; exact .inl (by omega)
          have HEL := Lib.hid hel
          clear hel HCS
          have HL3 := Lib.hid (show allN (f + 1) (goN (allN f) zs ((cs.drop 0).map (·.2))) (m.drop (i + 1)) = RES by rw [List.drop_zero]; exact HL2.out)
          have HC3 := Lib.hid (show zs.length + ((((cs.drop 0).map (·.2)).map (cnt f)).sum + cnt (f + 1) (m.drop (i + 1))) ≤ 1000000 by rw [List.drop_zero]; have := HC2.out; have := HAL.out; omega)
          clear HL2 HC2 HAL
          generalize hlc : cs.length = LC at *
          go_wp2_with fail
          go_loopw [1, 9] (fun vu vk wx => ∃ (k : Nat) (ts : List Need) (ua : Option Addr) (uc : Nat), vk = .int .i64 (k : Int) ∧ vu = .slice ua ts.length uc ∧ k ≤ LC ∧ Hid (wx.ownsRow W0.heap.size 39 5 (.slice ua ts.length uc) ts.length (nafl ts)) ∧ Hid (allN (f + 1) (goN (allN f) ts ((cs.drop k).map (·.2))) (m.drop (i + 1)) = RES) ∧ Hid (ts.length + ((((cs.drop k).map (·.2)).map (cnt f)).sum + cnt (f + 1) (m.drop (i + 1))) ≤ 1000000) ∧ Hid (Below W0.heap.size W0 wx)) (fun _ vk _ => LC - (RowKit.intOf vk).toNat)
          case atStart => exact ⟨0, zs, ua, uc, rfl, rfl, Nat.zero_le _, P2, HL3, HC3, W2⟩
          case round =>
            obtain ⟨k, ts, ta, tc, rfl, rfl, hk, HP, HL, HC, HB⟩ := hrel
            clear P2 HL3 HC3 W2
            by_cases hltk : k < LC
            · have hk' : (k : Int) < (LC : Int) := by omega
              have hccc : LC ≤ C1 := by omega
              obtain ⟨y, hyk⟩ : ∃ y, cs[k]? = some y := ⟨cs[k]'(by omega), List.getElem?_eq_getElem (by omega)⟩
              obtain ⟨bb, oo, rfl, a9, n9, c9, q0, q1, q2, q3, q4⟩ := HEL.out k y hyk
              have j1 := cell_keep q1 HB.out
              have hst := HL.out
              have hct := HC.out
              rw [cases_step hyk] at hst hct
              rw [List.map_cons, List.sum_cons] at hct
              have wk : IntKind.i64.wrap ((k : Int) + 1) = (k : Int) + 1 := IntWalk.i64_in _ (by omega)
              have CR := Lib.hid (IH.out (.slice a9 n9 c9) y.2 W0 wr (.slice ta ts.length tc) ts q2 q4 HP.out HB.out (by omega))
              have HAL := AL.out ts y.2
              have HL4 := Lib.hid (show allN (f + 1) (goN (allN f) (allN f ts y.2) ((cs.drop (k + 1)).map (·.2))) (m.drop (i + 1)) = RES from hst)
              have HC4 := Lib.hid (show (allN f ts y.2).length + ((((cs.drop (k + 1)).map (·.2)).map (cnt f)).sum + cnt (f + 1) (m.drop (i + 1))) ≤ 1000000 by omega)
              generalize allN f ts y.2 = ts' at *
              clear HL HC HAL hst hct q0 q1 q2 q3 q4 hyk HP HB
              go_wp2_with fail
              refine CR.out.mono ?_
              rintro e w3 ⟨u', rfl, hni, hb⟩
              have P3 := Lib.hid hni
              have W3 := Lib.hid hb
              obtain ⟨ta', tc', rfl⟩ := mrow_slice hni
              clear hni hb CR j1
              go_wp2_with fail
              go_roundw
              case rel => exact ⟨k + 1, ts', ta', tc', by go_num, rfl, by omega, P3, HL4, HC4, W3⟩
              case measure => simp [RowKit.intOf]; omega
            · have hk' : ¬ (k : Int) < (LC : Int) := by omega
              have hst := HL.out
              have hct := HC.out
              rw [List.drop_of_length_le (by omega)] at hst hct
              have HL4 := Lib.hid (show allN (f + 1) ts (m.drop (i + 1)) = RES from hst)
              have HC4 := Lib.hid (show ts.length + cnt (f + 1) (m.drop (i + 1)) ≤ 1000000 by simpa using hct)
              clear hst hct HL HC
              go_wp2_with fail
              go_roundw
              case rel => exact ⟨i + 1, ts, ta, tc, by go_num, rfl, by omega, HP, HL4, HC4, HB⟩
              case measure => simp [RowKit.intOf]; omega
      · have hi' : ¬ (i : Int) < (L : Int) := by omega
        have hst := HL.out
        rw [List.drop_of_length_le (by omega)] at hst
        have hst' : ys = RES := hst
        subst hst'
        clear hst HL
        go_wp2_with fail
        go_ret
        exact ⟨_, rfl, HP.out, HB.out⟩
end Go.Proofs.YtainindkndjkbaaGreatDoor
namespace Go.Proofs.YtainindkndjkbaaGreatDoor
open Go.RowKit Ms

set_option maxRecDepth 100000 in
set_option maxHeartbeats 2000000 in
theorem nfault_any {f : Nat} {v : Value} {m : List Nd} (w : World) (h : MsgAt f w v m) (hl : m.length ≤ 2000000) :
    Calls Tryz.prog 8 #[v] w fun e w' => e = .returned (.int .i64 (namE f m)) ∧ Below w.heap.size w w' := by
  have CM := Lib.hid fun wx (hb : Below w.heap.size w wx) => mfault_any (f := f) (v := v) (m := m) wx (msg_below h hb) hl
  have HN := Lib.hid (show namE f m = if msgE f m ≠ 0 then msgE f m else if (allN f [] m).any (fun n => n.2.1 && n.2.2) then 7 else 0 from rfl)
  have HA := Lib.hid (any_sel (names_dist f m))
  have HC := Lib.hid (fun h => cnt_small (f := f) (m := m) h)
  have CA := Lib.hid fun (wx : World) (hb : Below w.heap.size w wx) (hc : cnt f m ≤ 60) => asked_any f v m w wx (.slice none 0 0) [] h hl ⟨rfl, .inl ⟨rfl, rfl⟩⟩ hb (by simp; omega)
  have CS := Lib.hid fun (wx : World) (t : List UInt8) (hb : Below w.heap.size w wx) => (show Calls Tryz.prog 23 #[v, .string ⟨t.toArray⟩] wx fun e w' => e = .returned (.bool (selB (allN f [] m) t)) ∧ Below wx.heap.size wx w' from by rw [← sel_chs]; exact chosen_any f v m t wx (msg_below h hb) hl)
  have HLL := Lib.hid (fun h => show (allN f [] m).length ≤ 60 from Nat.le_trans (by simpa using allN_len f [] m) (cnt_small (f := f) (m := m) h))
  obtain ⟨a, n, c, rfl⟩ := h.isSlice
  clear h hl
  generalize namE f m = NE at *
  generalize msgE f m = ME at *
  generalize allN f [] m = AL at *
  by_cases h0 : ME = 0
  case neg =>
    obtain rfl : NE = ME := by rw [HN.out, if_pos h0]
    have b0 : (NE != 0) = true := by rw [bne, beq_no h0]; rfl
    clear h0 HN HA HC CA CS HLL
    go_enter Tryz.func8, Tryz.ntmps8
    go_wp2_with fail
    refine (CM.out w (Below.refl _ _)).mono ?_
    rintro e w1 ⟨rfl, hb⟩
    have W1 := Lib.hid hb
    clear hb
    go_wp2_with fail
    refine (CM.out w1 W1.out).mono ?_
    rintro e w2 ⟨rfl, hb⟩
    have W2 := Lib.hid (blw_trans W1.out hb)
    clear hb CM
    go_wp2_with fail
    go_ret
    exact ⟨rfl, W2.out⟩
  subst h0
  have hcn := HC.out rfl
  have hll := HLL.out rfl
  replace HN := Lib.hid (show NE = if AL.any (fun n => n.2.1 && selB AL n.1) then 7 else 0 by rw [← HA.out]; exact HN.out)
  clear HA HC HLL
  go_enter Tryz.func8, Tryz.ntmps8
  go_wp2_with fail
  refine (CM.out w (Below.refl _ _)).mono ?_
  rintro e w1 ⟨rfl, hb⟩
  have W1 := Lib.hid hb
  clear hb CM
  go_wp2_with fail
  refine (CA.out w1 W1.out hcn).mono ?_
  rintro e w2 ⟨u, rfl, hr, hb⟩
  have W2 := Lib.hid hb
  obtain ⟨ua, uc, eu, _, hel⟩ := (args_of_row (l := AL.map ofN) (by rw [List.length_map]; exact hr)).spread
  rw [List.length_map] at eu
  subst eu
  have HR := Lib.hid hr
  have hcap : AL.length ≤ uc ∨ AL.length = 0 := by
    rcases hr.2 with ⟨e, h0⟩ | ⟨g, cap, cur, e, _, q, _⟩
    · exact .inr h0
    · injection e with _ _ e; exact .inl (by omega)
  have HX := Lib.hid hel
  clear hb CA hr hel
  generalize hN : AL.length = N at *
  go_wp2_with fail
  go_loopw [4] (fun vi wr => ∃ i : Nat, vi = .int .i64 (i : Int) ∧ i ≤ N ∧ Hid ((AL.take i).any (fun n => n.2.1 && selB AL n.1) = false) ∧ Hid (Below w2.heap.size w2 wr)) (fun vi _ => N - (RowKit.intOf vi).toNat)
  case atStart => exact ⟨0, rfl, Nat.zero_le _, Lib.hid rfl, Lib.hid (Below.refl _ _)⟩
  case round =>
    obtain ⟨i, rfl, hi, HA, HB⟩ := hrel
    by_cases hlt : i < N
    · have hi' : (i : Int) < (N : Int) := by omega
      have hcc : N ≤ uc := by omega
      obtain ⟨x, hxi⟩ : ∃ x, AL[i]? = some x := ⟨AL[i]'(by omega), List.getElem?_eq_getElem (by omega)⟩
      obtain ⟨b, off, rfl, p0, p1, _⟩ := HX.out i (ofN x) (by rw [List.getElem?_map, hxi]; rfl)
      have g0 : wr.cell? ⟨b, off + i * 5, none⟩ = some (.string ⟨x.1.toArray⟩) := cell_keep p0 HB.out
      have g1 : wr.cell? ⟨b, off + i * 5 + 1, none⟩ = some (.bool x.2.1) := cell_keep p1 HB.out
      have HAN := Lib.hid fun (h : (x.2.1 && selB AL x.1) = false) => (show (AL.take (i + 1)).any (fun n => n.2.1 && selB AL n.1) = false by rw [any_take' hxi, HA.out, h]; rfl)
      have HAY := Lib.hid fun (h : (x.2.1 && selB AL x.1) = true) => (show NE = 7 by rw [HN.out, if_pos (List.any_eq_true.2 ⟨x, List.mem_of_getElem? hxi, h⟩)])
      have wi : IntKind.i64.wrap ((i : Int) + 1) = (i : Int) + 1 := IntWalk.i64_in _ (by omega)
      have WB := Lib.hid (W2.out.trans (HB.out.mono W2.out.size))
      clear p0 p1 hxi HN
      obtain ⟨T, bn, bt⟩ := x
      have CSh := Lib.hid (CS.out wr T WB.out)
      generalize hS : selB AL T = S at *
      have HAN2 := Lib.hid (show (bn && S) = false → (AL.take (i + 1)).any (fun n => n.2.1 && selB AL n.1) = false from HAN.out)
      have HAY2 := Lib.hid (show (bn && S) = true → NE = 7 from HAY.out)
      clear HAN HAY hS CS HX
      cases bn with
      | false =>
        have HA2 := Lib.hid (HAN2.out rfl)
        clear HAN2 HAY2
        go_wp2_with fail
        go_roundw
        case rel => exact ⟨i + 1, by go_num, by omega, HA2, HB⟩
        case measure => simp [RowKit.intOf]; omega
      | true =>
        go_wp2_with fail
        refine CSh.out.mono ?_
        rintro e w3 ⟨rfl, hb⟩
        have W3 := Lib.hid (HB.out.trans (hb.mono HB.out.size))
        have V3 := Lib.hid (blw_trans WB.out hb)
        clear hb CSh
        cases S with
        | true =>
          obtain rfl := HAY2.out rfl
          go_wp2_with fail
          go_ret
          exact ⟨rfl, V3.out⟩
        | false =>
          have HA2 := Lib.hid (HAN2.out rfl)
          clear HAN2 HAY2
          go_wp2_with fail
          go_roundw
          case rel => exact ⟨i + 1, by go_num, by omega, HA2, W3⟩
          case measure => simp [RowKit.intOf]; omega
    · have hi' : ¬ (i : Int) < (N : Int) := by omega
      have hA := HA.out
      rw [List.take_of_length_le (by omega)] at hA
      obtain rfl : NE = 0 := by rw [HN.out, hA]; rfl
      go_wp2_with fail
      go_ret
      exact ⟨rfl, W2.out.trans (HB.out.mono W2.out.size)⟩
end Go.Proofs.YtainindkndjkbaaGreatDoor
namespace Go.Proofs.YtainindkndjkbaaGreatDoor
open Go.RowKit Ms

theorem eq_arg (a : Ag) (w : World) : (Op.equalIn 10000 39 (.agg (acells a).toArray) (.agg (acells a).toArray)).run Tryz.prog w = .ok true w := by
  have u3 := Tryz.underlying3
  have u9 := Tryz.underlying9
  have u4 := Tryz.underlying4
  have u5 := Tryz.underlying37
  have a3 := Tryz.isAgg3
  have z3 := Tryz.sizeOf3
  have a9 := Tryz.isAgg9
  have z9 := Tryz.sizeOf9
  have a4 := Tryz.isAgg4
  have z4 := Tryz.sizeOf4
  have a5 := Tryz.isAgg37
  have z5 := Tryz.sizeOf37
  unfold acells
  go_simp
set_option maxRecDepth 100000 in
set_option maxHeartbeats 1000000 in
theorem qargof_any (l : List Ag) (t : List UInt8) (v : Value) (w : World) (h : ArgsAt w v l) (hl : l.length ≤ 2000000) :
    Calls Tryz.prog 14 #[v, .string ⟨t.toArray⟩] w fun e w' => e = .returned (.int .i64 (idxA l t)) ∧ w' = w := by
  have HIF := Lib.hid fun (k : Nat) (x : Ag) (hx : l[k]? = some x) (h0 : (l.take k).any (fun a => a.name == t) = false) (h1 : (x.name == t) = true) => (show idxA l t = (k : Int) by
    unfold idxA
    rw [idx_first hx h0 h1, if_pos (List.getElem?_eq_some_iff.1 hx).1])
  have HIN := Lib.hid fun (h : l.any (fun a => a.name == t) = false) => (show idxA l t = -1 by
    unfold idxA
    rw [idx_none h, if_neg (Nat.lt_irrefl _)])
  obtain ⟨A, cap, rfl, _, hel⟩ := h.spread
  have hcap : l.length ≤ cap ∨ l.length = 0 := by
    rcases h with ⟨e, _⟩ | ⟨_, _, _, e, _, q, _, _⟩
    · exact .inr (by rw [e]; rfl)
    · injection e with _ _ e; exact .inl (by omega)
  have HX := Lib.hid hel
  clear h hel
  generalize idxA l t = I at *
  generalize hN : l.length = N at *
  go_enter Tryz.func14, Tryz.ntmps14
  go_wp2_with fail
  go_loopw [5] (fun vi wr => ∃ k : Nat, vi = .int .i64 (k : Int) ∧ k ≤ N ∧ Hid ((l.take k).any (fun a => a.name == t) = false) ∧ w = wr) (fun vi _ => N - (RowKit.intOf vi).toNat)
  case atStart => exact ⟨0, rfl, Nat.zero_le _, Lib.hid rfl, rfl⟩
  case round =>
    obtain ⟨k, rfl, hk, HA, rfl⟩ := hrel
    by_cases hlt : k < N
    · have hk' : (k : Int) < (N : Int) := by omega
      have hcc : N ≤ cap := by omega
      obtain ⟨x, hxk⟩ : ∃ x, l[k]? = some x := ⟨l[k]'(by omega), List.getElem?_eq_getElem (by omega)⟩
      obtain ⟨b, off, rfl, p0, _⟩ := HX.out k x hxk
      have HIK := Lib.hid (HIF.out k x hxk HA.out)
      have HAN := Lib.hid fun (h : (x.name == t) = false) => (show (l.take (k + 1)).any (fun a => a.name == t) = false by rw [any_take' hxk, HA.out, h]; rfl)
      have wk : IntKind.i64.wrap ((k : Int) + 1) = (k : Int) + 1 := IntWalk.i64_in _ (by omega)
      generalize x.name = T at *
      clear hxk HIF HIN HX
      cases ht : T == t with
      | true =>
        obtain rfl := HIK.out ht
        go_wp2_with fail
        go_ret
        exact ⟨rfl, rfl⟩
      | false =>
        have HA2 := Lib.hid (HAN.out ht)
        clear HIK HAN HA
        go_wp2_with fail
        go_roundw
        case rel => exact ⟨k + 1, by go_num, by omega, HA2, trivial⟩
        case measure => simp [RowKit.intOf]; omega
    · have hk' : ¬ (k : Int) < (N : Int) := by omega
      have hA := HA.out
      rw [List.take_of_length_le (by omega)] at hA
      obtain rfl := HIN.out hA
      go_wp2_with fail
      go_ret
      exact ⟨rfl, rfl⟩

set_option maxRecDepth 100000 in
set_option maxHeartbeats 2000000 in
theorem sargs_same (l : List Ag) (v v' : Value) (w : World) (h : ArgsAt w v l) (h' : ArgsAt w v' l) (hl : l.length ≤ 2000000) :
    Calls Tryz.prog 11 #[v, v'] w fun e w' => e = .returned (.bool true) ∧ Below w.heap.size w w' := by
  obtain ⟨A, cap, rfl, _, hel⟩ := h.spread
  obtain ⟨A', cap', rfl, _, hel'⟩ := h'.spread
  have hcap : l.length ≤ cap ∨ l.length = 0 := by
    rcases h with ⟨e, _⟩ | ⟨_, _, _, e, _, q, _, _⟩
    · exact .inr (by rw [e]; rfl)
    · injection e with _ _ e; exact .inl (by omega)
  have hcap' : l.length ≤ cap' ∨ l.length = 0 := by
    rcases h' with ⟨e, _⟩ | ⟨_, _, _, e, _, q, _, _⟩
    · exact .inr (by rw [e]; rfl)
    · injection e with _ _ e; exact .inl (by omega)
  have HX := Lib.hid hel
  have HX' := Lib.hid hel'
  clear h hel h' hel'
  generalize hN : l.length = N at *
  go_enter Tryz.func11, Tryz.ntmps11
  go_wp2_with fail
  go_loopw [5] (fun vi wr => ∃ k : Nat, vi = .int .i64 (k : Int) ∧ k ≤ N ∧ Hid (Below w.heap.size w wr)) (fun vi _ => N - (RowKit.intOf vi).toNat)
  case atStart => exact ⟨0, rfl, Nat.zero_le _, Lib.hid (Below.refl _ _)⟩
  case round =>
    obtain ⟨k, rfl, hk, HB⟩ := hrel
    by_cases hlt : k < N
    · have hk' : (k : Int) < (N : Int) := by omega
      have hk0 : (0 : Int) ≤ (k : Int) := by omega
      have hcc : N ≤ cap := by omega
      have hcc' : N ≤ cap' := by omega
      obtain ⟨x, hxk⟩ : ∃ x, l[k]? = some x := ⟨l[k]'(by omega), List.getElem?_eq_getElem (by omega)⟩
      obtain ⟨b, off, rfl, p0, p1, p2, p3, p4⟩ := HX.out k x hxk
      obtain ⟨b', off', rfl, q0, q1, q2, q3, q4⟩ := HX'.out k x hxk
      have g0 := cell_keep p0 HB.out
      have g1 := cell_keep p1 HB.out
      have g2 := cell_keep p2 HB.out
      have g3 := cell_keep p3 HB.out
      have g4 := cell_keep p4 HB.out
      have j0 := cell_keep q0 HB.out
      have j1 := cell_keep q1 HB.out
      have j2 := cell_keep q2 HB.out
      have j3 := cell_keep q3 HB.out
      have j4 := cell_keep q4 HB.out
      have wk : IntKind.i64.wrap ((k : Int) + 1) = (k : Int) + 1 := IntWalk.i64_in _ (by omega)
      have EQ : ∀ w, (Op.equalIn 10000 39 (.agg #[.string ⟨x.name.toArray⟩, .bool x.num, .int .i64 x.co, .int .i64 x.sc, .string ⟨x.txt.toArray⟩]) (.agg #[.string ⟨x.name.toArray⟩, .bool x.num, .int .i64 x.co, .int .i64 x.sc, .string ⟨x.txt.toArray⟩])).run Tryz.prog w = .ok true w := fun w => eq_arg x w
      clear p0 p1 p2 p3 p4 q0 q1 q2 q3 q4 hxk HX HX'
      go_wp2_with fail
      go_region
      go_wp2_with fail
      go_roundw
      case rel => exact ⟨k + 1, by go_num, by omega, Lib.hid (blw_drewN HB.out _)⟩
      case measure => simp [RowKit.intOf]; omega
    · have hk' : ¬ (k : Int) < (N : Int) := by omega
      go_wp2_with fail
      go_ret
      exact ⟨rfl, HB.out⟩
end Go.Proofs.YtainindkndjkbaaGreatDoor
namespace Go.Proofs.YtainindkndjkbaaGreatDoor
open Go.RowKit Ms

theorem argE_step {d : List Ag} {a : Ag} {r : List Ag} : argE d (a :: r) = if !nameB a.name then 3 else if a.num && badA a then 1 else if hasA d a.name then 5 else argE (d ++ [a]) r := rfl
theorem drop_step {α : Type} {l : List α} {k : Nat} {y : α} (h : l[k]? = some y) : l.drop k = y :: l.drop (k + 1) ∧ l.take (k + 1) = l.take k ++ [y] := by
  obtain ⟨hi, e⟩ := List.getElem?_eq_some_iff.1 h
  exact ⟨by rw [List.drop_eq_getElem_cons hi, e], by rw [List.take_add_one, h]; rfl⟩
/-- what the map tells of args -/
def kin (l : List Ag) : List (List UInt8 × Bool) := l.map fun a => (a.name, a.num)
theorem kin_add (l : List Ag) (a : Ag) : kin (l ++ [a]) = kin l ++ [(a.name, a.num)] := by unfold kin; rw [List.map_append]; rfl
theorem kin_find (l : List Ag) (t : List UInt8) : (kin l).find? (fun p => p.1 == t) = (l.find? (fun a => a.name == t)).map fun a => (a.name, a.num) := by
  unfold kin
  rw [List.find?_map]
  rfl
theorem kin_has {l : List Ag} {t : List UInt8} (h : hasA l t = true) : ∃ p, (kin l).find? (fun p => p.1 == t) = some p := by
  obtain ⟨a, ha, e⟩ := List.any_eq_true.1 h
  rw [kin_find]
  cases hf : l.find? (fun a => a.name == t) with
  | none => rw [List.find?_eq_none] at hf; exact absurd e (hf a ha)
  | some x => exact ⟨_, rfl⟩
theorem kin_not {l : List Ag} {t : List UInt8} (h : hasA l t = false) : (kin l).find? (fun p => p.1 == t) = none := by
  rw [kin_find, List.find?_eq_none.2]
  · rfl
  · intro a ha e
    unfold hasA at h
    rw [List.any_eq_true.2 ⟨a, ha, e⟩] at h; cases h
theorem dcheck_any (a : Ag) (w : World) : Calls Tryz.prog 27 #[.agg #[.int .i64 a.co, .int .i64 a.sc]] w fun e w' => e = .returned (if badA a then errV 1 else .nilIface) ∧ Below w.heap.size w w' := by
  by_cases h : Dcm.okD a.co a.sc
  · rw [show badA a = false by unfold badA; simp [h]]
    exact dchk_yes _ _ w h
  · rw [show badA a = true by unfold badA; simp [h]]
    exact dchk_no _ _ w h
theorem zero_bool (w : World) : (zeroValue 4).run Tryz.prog w = .ok (.bool false) w := by kernel_rfl

set_option maxRecDepth 100000 in
set_option maxHeartbeats 4000000 in
theorem fits_any {f : Nat} {v va : Value} {m : List Nd} {args : List Ag} (w : World) (hw : MW w) (h : MsgAt f w v m) (hl : m.length ≤ 2000000) (ha : ArgsAt w va args) (hal : args.length ≤ 2000000) (hna : ∀ a ∈ args, a.name.length ≤ 4000000000) :
    Calls Tryz.prog 12 #[v, va] w fun e w' => e = .returned (errN (fitE f m args)) ∧ Below w.heap.size w w' := by
  have CK := Lib.hid (nof_any w hw h hl)
  have HE := Lib.hid (show fitE f m args = if namE f m ≠ 0 then namE f m else if argE [] args ≠ 0 then argE [] args else askE args (allN f [] m) from rfl)
  have HL := Lib.hid (show lstN f m = if namE f m = 0 then allN f [] m else [] from rfl)
  have HLL := Lib.hid (lstN_len f m)
  obtain ⟨a, n, c, rfl⟩ := h.isSlice
  obtain ⟨A, cap, rfl, _, hel⟩ := ha.spread
  have hcap : args.length ≤ cap ∨ args.length = 0 := by
    rcases ha with ⟨e, _⟩ | ⟨_, _, _, e, _, q, _, _⟩
    · exact .inr (by rw [e]; rfl)
    · injection e with _ _ e; exact .inl (by omega)
  have HX := Lib.hid hel
  have CN := Lib.hid fun (x : Ag) (hx : x ∈ args) (wx : World) => mname_any x.name wx (hna x hx)
  clear h hw hl ha hel hna
  generalize lstN f m = LS at *
  generalize namE f m = NE at *
  generalize allN f [] m = AL at *
  generalize fitE f m args = FE at *
  by_cases h0 : NE = 0
  case neg =>
    obtain rfl : FE = NE := by rw [HE.out, if_pos h0]
    have HV := Lib.hid (show errN FE = errV FE from if_neg h0)
    rw [HV.out] at CK
    clear h0 HL HE CN HX
    generalize hN : args.length = N at *
    go_enter Tryz.func12, Tryz.ntmps12
    go_wp2_with fail
    refine CK.out.mono ?_
    rintro e w1 ⟨u, rfl, hr, hb⟩
    have W1 := Lib.hid hb
    obtain ⟨ua, uc, rfl⟩ := mrow_slice hr
    clear hb CK hr
    go_wp2_with fail
    go_ret
    exact ⟨by rw [HV.out]; rfl, W1.out⟩
  subst h0
  obtain rfl : LS = AL := HL.out
  rw [show errN 0 = .nilIface from rfl] at CK
  have HE := Lib.hid (show FE = if argE [] args ≠ 0 then argE [] args else askE args LS from HE.out)
  clear HL
  have hll := HLL.out
  clear HLL
  obtain ⟨AE, hAE⟩ : ∃ AE, AE = argE [] args := ⟨_, rfl⟩
  rw [← hAE] at HE
  have HAE := Lib.hid (show argE (args.take 0) (args.drop 0) = AE by rw [hAE]; rfl)
  clear hAE
  generalize hN : args.length = N at *
  have MM := Lib.hid fun wx => (run_makeMap (P := Tryz.prog) (w := wx) 66)
  go_enter Tryz.func12, Tryz.ntmps12
  go_wp2_with fail
  refine CK.out.mono ?_
  rintro e w1 ⟨u, rfl, hr, hb⟩
  have W1 := Lib.hid hb
  have hsz := hb.size
  obtain ⟨ua, uc, rfl⟩ := mrow_slice hr
  have HR := Lib.hid hr
  have MMh := MM.out w1
  have KM := Lib.hid (kinds_new w1)
  have WM := Lib.hid (blw_alloc w1 (.map #[] 0))
  clear hb CK hr MM
  go_wp2_with fail
  generalize hw2 : w1.alloc (.map #[] 0) = w2 at *
  obtain ⟨B, hBe⟩ : ∃ B, B = w1.heap.size := ⟨_, rfl⟩
  rw [← hBe] at KM
  have hB : w1.heap.size ≤ B := by omega
  rw [← hBe]
  clear hw2 hBe MMh
  go_loopw [28] (fun vi wr => ∃ i : Nat, vi = .int .i64 (i : Int) ∧ i ≤ N ∧ Hid (KindsAt B (kin (args.take i)) wr) ∧ Hid (argE (args.take i) (args.drop i) = AE) ∧ Hid (Below w1.heap.size w1 wr)) (fun vi _ => N - (RowKit.intOf vi).toNat)
  case atStart => exact ⟨0, rfl, Nat.zero_le _, KM, HAE, WM⟩
  case round =>
    obtain ⟨i, rfl, hi, HK, HS, HB⟩ := hrel
    clear HAE KM WM
    by_cases hlt : i < N
    · have hi' : (i : Int) < (N : Int) := by omega
      have hcc : N ≤ cap := by omega
      obtain ⟨x, hxi⟩ : ∃ x, args[i]? = some x := ⟨args[i]'(by omega), List.getElem?_eq_getElem (by omega)⟩
      obtain ⟨b, off, rfl, p0, p1, p2, p3, p4⟩ := HX.out i x hxi
      have WB := Lib.hid (blw_trans W1.out HB.out)
      have g0 := cell_keep p0 WB.out
      have g1 := cell_keep p1 WB.out
      have g2 := cell_keep p2 WB.out
      have g3 := cell_keep p3 WB.out
      have g4 := cell_keep p4 WB.out
      have lb := World.block_lt_of_cell? _ _ g0
      have wi : IntKind.i64.wrap ((i : Int) + 1) = (i : Int) + 1 := IntWalk.i64_in _ (by omega)
      have CNh := Lib.hid (CN.out x (List.mem_of_getElem? hxi))
      have HT := Lib.hid (drop_step hxi).2
      have hst := HS.out
      rw [(drop_step hxi).1, argE_step] at hst
      have CD := Lib.hid (dcheck_any x)
      clear HS p0 p1 p2 p3 p4 hxi CN WB
      generalize badA x = Z at *
      obtain ⟨T, bn, co, sc, tx⟩ := x
      have BX := Lib.hid (Boxed.made wr #[.string ⟨T.toArray⟩, .bool bn, .int .i64 co, .int .i64 sc, .string ⟨tx.toArray⟩] 39)
      have hs0 := HB.out.size
      have HKa := Lib.hid (HK.out.below (blw_alloc wr (.cells #[.string ⟨T.toArray⟩, .bool bn, .int .i64 co, .int .i64 sc, .string ⟨tx.toArray⟩] 39)))
      have HBa := Lib.hid (HB.out.alloc hs0 (.cells #[.string ⟨T.toArray⟩, .bool bn, .int .i64 co, .int .i64 sc, .string ⟨tx.toArray⟩] 39))
      have HST := Lib.hid (show (if !nameB T then 3 else if bn && Z then 1 else if hasA (args.take i) T then 5 else argE (args.take i ++ [⟨T, bn, co, sc, tx⟩]) (args.drop (i + 1))) = AE from hst)
      clear hst
      generalize nameB T = NB at *
      go_wp2_with fail
      refine (CNh.out _).mono ?_
      rintro e w3 ⟨rfl, hb⟩
      have BX3 := Lib.hid (BX.out.below hb)
      have HK3 := Lib.hid (HKa.out.below hb)
      have HB3 := Lib.hid (HBa.out.trans (hb.mono HBa.out.size))
      clear hb CNh BX HKa HBa HK HB g0 g1 g2 g3 g4 lb
      generalize wr.heap.size = q at *
      cases NB with
      | false =>
        obtain rfl : 3 = AE := HST.out
        obtain rfl : FE = 3 := HE.out
        clear CD HT
        go_wp2_with fail
        go_ret
        exact ⟨rfl, blw_trans W1.out HB3.out⟩
      | true =>
        have z1 : w3.cell? ⟨q, 1, none⟩ = some (.bool bn) := BX3.out.cell 1 _ rfl
        have zl := BX3.out.lt
        cases bn with
        | false =>
          have HS := Lib.hid (show (if hasA (args.take i) T then 5 else argE (args.take i ++ [⟨T, false, co, sc, tx⟩]) (args.drop (i + 1))) = AE from HST.out)
          clear HST CD
          have y0 : World.cell? w3 ⟨q, 0, none⟩ = some (.string ⟨T.toArray⟩) := BX3.out.cell 0 _ rfl
          have y1 : World.cell? w3 ⟨q, 1, none⟩ = some (.bool false) := BX3.out.cell 1 _ rfl
          cases hH : hasA (args.take i) T with
          | true =>
            have hst := HS.out
            rw [hH] at hst
            obtain rfl : 5 = AE := hst
            obtain rfl : FE = 5 := HE.out
            obtain ⟨p, hp⟩ := kin_has hH
            have LK := HK3.out.look (P := Tryz.prog) 66 9 4 Tryz.underlying66 Tryz.underlying9 hp
            clear HS
            go_wp2_with fail
            go_ret
            exact ⟨rfl, blw_trans W1.out HB3.out⟩
          | false =>
            have hst := HS.out
            rw [hH] at hst
            have HS2 := Lib.hid (show argE (args.take (i + 1)) (args.drop (i + 1)) = AE by rw [HT.out]; exact hst)
            have LK := HK3.out.none (P := Tryz.prog) 66 9 4 Tryz.underlying66 Tryz.underlying9 (zero_bool _) (kin_not hH)
            obtain ⟨w5, MU, HK5, HB5⟩ := HK3.out.put (P := Tryz.prog) 66 9 4 Tryz.underlying66 Tryz.underlying9 false (kin_not hH)
            have K5 := Lib.hid (show KindsAt B (kin (args.take (i + 1))) w5 by rw [HT.out, kin_add]; exact HK5)
            have W5 := Lib.hid (HB5 w1.heap.size w1 hB HB3.out)
            clear hst HS HK5 HB5
            go_wp2_with fail
            go_roundw
            case rel => exact ⟨i + 1, by go_num, by omega, K5, HS2, W5⟩
            case measure => simp [RowKit.intOf]; omega
        | true =>
          have z2 : w3.cell? ⟨q, 2, none⟩ = some (.int .i64 co) := BX3.out.cell 2 _ rfl
          have z3 : w3.cell? ⟨q, 3, none⟩ = some (.int .i64 sc) := BX3.out.cell 3 _ rfl
          have CDh := Lib.hid (CD.out w3)
          clear CD
          go_wp2_with fail
          refine CDh.out.mono ?_
          rintro e w4 ⟨rfl, hb⟩
          have BX4 := Lib.hid (BX3.out.below hb)
          have HK4 := Lib.hid (HK3.out.below hb)
          have HB4 := Lib.hid (HB3.out.trans (hb.mono HB3.out.size))
          have zl4 := BX4.out.lt
          clear hb CDh BX3 HK3 HB3 z1 z2 z3 zl
          cases Z with
          | true =>
            obtain rfl : 1 = AE := HST.out
            obtain rfl : FE = 1 := HE.out
            clear HT
            go_wp2_with fail
            go_ret
            exact ⟨rfl, blw_trans W1.out HB4.out⟩
          | false =>
            have HS := Lib.hid (show (if hasA (args.take i) T then 5 else argE (args.take i ++ [⟨T, true, co, sc, tx⟩]) (args.drop (i + 1))) = AE from HST.out)
            clear HST
            have y0 : World.cell? w4 ⟨q, 0, none⟩ = some (.string ⟨T.toArray⟩) := BX4.out.cell 0 _ rfl
            have y1 : World.cell? w4 ⟨q, 1, none⟩ = some (.bool true) := BX4.out.cell 1 _ rfl
            cases hH : hasA (args.take i) T with
            | true =>
              have hst := HS.out
              rw [hH] at hst
              obtain rfl : 5 = AE := hst
              obtain rfl : FE = 5 := HE.out
              obtain ⟨p, hp⟩ := kin_has hH
              have LK := HK4.out.look (P := Tryz.prog) 66 9 4 Tryz.underlying66 Tryz.underlying9 hp
              clear HS
              go_wp2_with fail
              go_ret
              exact ⟨rfl, blw_trans W1.out HB4.out⟩
            | false =>
              have hst := HS.out
              rw [hH] at hst
              have HS2 := Lib.hid (show argE (args.take (i + 1)) (args.drop (i + 1)) = AE by rw [HT.out]; exact hst)
              have LK := HK4.out.none (P := Tryz.prog) 66 9 4 Tryz.underlying66 Tryz.underlying9 (zero_bool _) (kin_not hH)
              obtain ⟨w5, MU, HK5, HB5⟩ := HK4.out.put (P := Tryz.prog) 66 9 4 Tryz.underlying66 Tryz.underlying9 true (kin_not hH)
              have K5 := Lib.hid (show KindsAt B (kin (args.take (i + 1))) w5 by rw [HT.out, kin_add]; exact HK5)
              have W5 := Lib.hid (HB5 w1.heap.size w1 hB HB4.out)
              clear hst HS HK5 HB5
              go_wp2_with fail
              go_roundw
              case rel => exact ⟨i + 1, by go_num, by omega, K5, HS2, W5⟩
              case measure => simp [RowKit.intOf]; omega
    · have hi' : ¬ (i : Int) < (N : Int) := by omega
      have hst := HS.out
      rw [List.drop_of_length_le (by omega)] at hst
      obtain rfl : 0 = AE := hst
      have hk := HK.out
      rw [List.take_of_length_le (by omega)] at hk
      have HK0 := Lib.hid hk
      have HE2 := Lib.hid (show askE args (LS.drop 0) = FE from HE.out.symm)
      obtain ⟨A3, cap3, e3, _, hel3⟩ := (needs_of_row HR.out).spread
      injection e3 with e4 e5 e6
      subst e4 e6
      have hcapu : LS.length ≤ uc ∨ LS.length = 0 := by
        rcases HR.out.2 with ⟨e, h0⟩ | ⟨g, cap, cur, e, _, q, _⟩
        · exact .inr h0
        · injection e with _ _ e; exact .inl (by omega)
      have HX3 := Lib.hid hel3
      have HB0 := Lib.hid HB.out
      clear hk hel3 e5 HR HK HB HE HS CN HX
      generalize hM : LS.length = M at *
      go_wp2_with fail
      go_loopw [62] (fun vk wx => ∃ k : Nat, vk = .int .i64 (k : Int) ∧ k ≤ M ∧ Hid (KindsAt B (kin args) wx) ∧ Hid (askE args (LS.drop k) = FE) ∧ Hid (Below w1.heap.size w1 wx)) (fun vk _ => M - (RowKit.intOf vk).toNat)
      case atStart => exact ⟨0, rfl, Nat.zero_le _, HK0, HE2, HB0⟩
      case round =>
        obtain ⟨k, rfl, hk, HK, HS, HB⟩ := hrel
        clear HK0 HE2 HB0
        by_cases hltk : k < M
        · have hk' : (k : Int) < (M : Int) := by omega
          have hccu : M ≤ uc := by omega
          obtain ⟨x, hxk⟩ : ∃ x, LS[k]? = some x := ⟨LS[k]'(by omega), List.getElem?_eq_getElem (by omega)⟩
          obtain ⟨b, off, rfl, p0, p1, p2⟩ := HX3.out k x hxk
          have g0 := cell_keep p0 HB.out
          have g1 := cell_keep p1 HB.out
          have g2 := cell_keep p2 HB.out
          have lb := World.block_lt_of_cell? _ _ g0
          have wk : IntKind.i64.wrap ((k : Int) + 1) = (k : Int) + 1 := IntWalk.i64_in _ (by omega)
          have hst := HS.out
          rw [(drop_step hxk).1, askE_cons] at hst
          clear HS p0 p1 p2 hxk
          obtain ⟨T, bn, bt⟩ := x
          have hs0 := HB.out.size
          have HKa := Lib.hid (HK.out.below (blw_alloc wr (.cells #[.string ⟨T.toArray⟩, .bool bn, .bool bt] 57)))
          have HBa := Lib.hid (HB.out.alloc hs0 (.cells #[.string ⟨T.toArray⟩, .bool bn, .bool bt] 57))
          have KF := kin_find args T
          cases hf : args.find? (fun a => a.name == T) with
          | none =>
            rw [hf] at hst KF
            obtain rfl : 2 = FE := hst
            have LK := HKa.out.none (P := Tryz.prog) 66 9 4 Tryz.underlying66 Tryz.underlying9 (zero_bool _) KF
            clear hf KF HK HB
            go_wp2_with fail
            go_ret
            exact ⟨rfl, blw_trans W1.out HBa.out⟩
          | some y =>
            rw [hf] at hst KF
            obtain ⟨y1, yn, y3, y4, y5⟩ := y
            have LK : (Instr.lookup 66 (.map (some B)) (.string ⟨T.toArray⟩) true).run Tryz.prog (wr.alloc (.cells #[.string ⟨T.toArray⟩, .bool bn, .bool bt] 57)) = .ok (.tuple #[.bool yn, .bool true]) (wr.alloc (.cells #[.string ⟨T.toArray⟩, .bool bn, .bool bt] 57)) := HKa.out.look (P := Tryz.prog) 66 9 4 Tryz.underlying66 Tryz.underlying9 KF
            have HST := Lib.hid (show (if (bn && !yn) || (bt && yn) then 7 else askE args (LS.drop (k + 1))) = FE from hst)
            clear hst hf KF HK HB
            have BXk := Lib.hid (Boxed.made wr #[.string ⟨T.toArray⟩, .bool bn, .bool bt] 57)
            go_upto_region 25 with fail
            go_cut [88] from 76 to 88 (fun s wx => s = .bool ((bn && !yn) || (bt && yn)) ∧ wx = wr.alloc (.cells #[.string ⟨T.toArray⟩, .bool bn, .bool bt] 57))
            case first =>
              clear HST
              cases bn <;> cases yn <;> cases bt <;> (go_wp2_with fail; go_meet; exact ⟨rfl, rfl⟩)
            case rest =>
            obtain ⟨rfl, rfl⟩ := hcut
            generalize ((bn && !yn) || (bt && yn)) = Z at *
            cases Z with
            | true =>
              obtain rfl : 7 = FE := HST.out
              go_wp2_with fail
              go_ret
              exact ⟨rfl, blw_trans W1.out HBa.out⟩
            | false =>
              have HS2 := Lib.hid (show askE args (LS.drop (k + 1)) = FE from HST.out)
              clear HST
              go_wp2_with fail
              go_roundw
              case rel => exact ⟨k + 1, by go_num, by omega, HKa, HS2, HBa⟩
              case measure => simp [RowKit.intOf]; omega
        · have hk' : ¬ (k : Int) < (M : Int) := by omega
          have hst := HS.out
          rw [List.drop_of_length_le (by omega)] at hst
          obtain rfl : 0 = FE := hst
          go_wp2_with fail
          go_ret
          exact ⟨rfl, blw_trans W1.out HB.out⟩
end Go.Proofs.YtainindkndjkbaaGreatDoor
namespace Go.Proofs.YtainindkndjkbaaGreatDoor
open Go.RowKit Ms

theorem dfault_any (a : Ag) (w : World) : Calls Tryz.prog 29 #[.agg #[.int .i64 a.co, .int .i64 a.sc]] w fun e w' => e = .returned (.bool (badA a)) ∧ Below w.heap.size w w' := by
  by_cases h : Dcm.okD a.co a.sc
  · rw [show badA a = false by unfold badA; simp [h]]
    exact dflt_no _ _ w h
  · rw [show badA a = true by unfold badA; simp [h]]
    exact dflt_yes _ _ w h
theorem SlAt.take {α : Type} {m : Nat} {C : World → Nat → Nat → α → Prop} {w : World} {a : Option Addr} {n c : Nat} {l : List α} (h : SlAt m C w (.slice a n c) l) (i : Nat) (hi : i ≤ l.length) : SlAt m C w (.slice a i c) (l.take i) := by
  by_cases h0 : i = 0
  · subst h0
    exact .inl ⟨rfl, _, _, rfl⟩
  · rcases h with ⟨rfl, _, _, _⟩ | ⟨b, off, cap, e, h2, h3, h4, h5⟩
    · simp at hi; exact absurd hi h0
    · injection e with e1 e2 e3
      subst e1 e3
      have hl : (l.take i).length = i := by rw [List.length_take]; omega
      refine .inr ⟨b, off, c, by rw [hl], by omega, by omega, h4, fun j x hx => h5 j x ?_⟩
      have hj : j < (l.take i).length := (List.getElem?_eq_some_iff.1 hx).1
      rwa [List.getElem?_take, if_pos (by omega)] at hx

set_option maxRecDepth 100000 in
set_option maxHeartbeats 4000000 in
theorem ffault_any {f : Nat} {v va : Value} {m : List Nd} {args : List Ag} (w : World) (h : MsgAt f w v m) (hl : m.length ≤ 2000000) (ha : ArgsAt w va args) (hal : args.length ≤ 2000000) (hna : ∀ a ∈ args, a.name.length ≤ 4000000000) :
    Calls Tryz.prog 13 #[v, va] w fun e w' => e = .returned (.int .i64 (fitE f m args)) ∧ Below w.heap.size w w' := by
  have CM := Lib.hid fun wx (hb : Below w.heap.size w wx) => nfault_any (f := f) (v := v) (m := m) wx (msg_below h hb) hl
  have HE := Lib.hid (show fitE f m args = if namE f m ≠ 0 then namE f m else if argE [] args ≠ 0 then argE [] args else askE args (allN f [] m) from rfl)
  have HC := Lib.hid (fun (h0 : namE f m = 0) => cnt_small (f := f) (m := m) (namE_zero h0).1)
  have CA := Lib.hid fun (wx : World) (hb : Below w.heap.size w wx) (hc : cnt f m ≤ 60) => asked_any f v m w wx (.slice none 0 0) [] h hl ⟨rfl, .inl ⟨rfl, rfl⟩⟩ hb (by simp; omega)
  have CS := Lib.hid fun (wx : World) (n : Need) (hn : n ∈ allN f [] m) (hb : Below w.heap.size w wx) => (show Calls Tryz.prog 23 #[v, .string ⟨n.1.toArray⟩] wx fun e w' => e = .returned (.bool n.2.2) ∧ Below wx.heap.size wx w' from by rw [← sel_at (names_dist f m) hn, ← sel_chs]; exact chosen_any f v m n.1 wx (msg_below h hb) hl)
  have HLL := Lib.hid (fun h0 => show (allN f [] m).length ≤ 60 from Nat.le_trans (by simpa using allN_len f [] m) (cnt_small (f := f) (m := m) (namE_zero h0).1))
  obtain ⟨a, n, c, rfl⟩ := h.isSlice
  obtain ⟨A, cap, rfl, _, hel⟩ := ha.spread
  have hcap : args.length ≤ cap ∨ args.length = 0 := by
    rcases ha with ⟨e, _⟩ | ⟨_, _, _, e, _, q, _, _⟩
    · exact .inr (by rw [e]; rfl)
    · injection e with _ _ e; exact .inl (by omega)
  have HX := Lib.hid hel
  have CN := Lib.hid fun (x : Ag) (hx : x ∈ args) (wx : World) => qname_any x.name wx (hna x hx)
  have CT := Lib.hid fun (i : Nat) (hi : i ≤ args.length) (t : List UInt8) (wx : World) (hb : Below w.heap.size w wx) => qargof_any (args.take i) t _ wx (args_below (SlAt.take ha i hi) hb) (by rw [List.length_take]; omega)
  have CF := Lib.hid fun (t : List UInt8) (wx : World) (hb : Below w.heap.size w wx) => qargof_any args t _ wx (args_below ha hb) hal
  clear h hl ha hel hna
  generalize namE f m = NE at *
  generalize allN f [] m = AL at *
  generalize fitE f m args = FE at *
  by_cases h0 : NE = 0
  case neg =>
    obtain rfl : FE = NE := by rw [HE.out, if_pos h0]
    have b0 : (FE != 0) = true := by rw [bne, beq_no h0]; rfl
    clear h0 HE CN HX CT CF CS CA HC HLL
    generalize hN : args.length = N at *
    go_enter Tryz.func13, Tryz.ntmps13
    go_wp2_with fail
    refine (CM.out w (Below.refl _ _)).mono ?_
    rintro e w1 ⟨rfl, hb⟩
    have W1 := Lib.hid hb
    clear hb
    go_wp2_with fail
    refine (CM.out w1 W1.out).mono ?_
    rintro e w2 ⟨rfl, hb⟩
    have W2 := Lib.hid (blw_trans W1.out hb)
    clear hb CM
    go_wp2_with fail
    go_ret
    exact ⟨rfl, W2.out⟩
  subst h0
  have hcn := HC.out rfl
  have hll := HLL.out rfl
  have HE := Lib.hid (show FE = if argE [] args ≠ 0 then argE [] args else askE args AL from HE.out)
  clear HC HLL
  obtain ⟨AE, hAE⟩ : ∃ AE, AE = argE [] args := ⟨_, rfl⟩
  rw [← hAE] at HE
  have HAE := Lib.hid (show argE (args.take 0) (args.drop 0) = AE by rw [hAE]; rfl)
  clear hAE
  generalize hN : args.length = N at *
  go_enter Tryz.func13, Tryz.ntmps13
  go_wp2_with fail
  refine (CM.out w (Below.refl _ _)).mono ?_
  rintro e w1 ⟨rfl, hb⟩
  have W1 := Lib.hid hb
  clear hb CM
  go_wp2_with fail
  go_loopw [5] (fun vi wr => ∃ i : Nat, vi = .int .i64 (i : Int) ∧ i ≤ N ∧ Hid (argE (args.take i) (args.drop i) = AE) ∧ Hid (Below w.heap.size w wr)) (fun vi _ => N - (RowKit.intOf vi).toNat)
  case atStart => exact ⟨0, rfl, Nat.zero_le _, HAE, W1⟩
  case round =>
    obtain ⟨i, rfl, hi, HS, HB⟩ := hrel
    clear HAE W1
    by_cases hlt : i < N
    · have hi' : (i : Int) < (N : Int) := by omega
      have hi0 : (0 : Int) ≤ (i : Int) := by omega
      have hcc : N ≤ cap := by omega
      have hic : (i : Int) ≤ (cap : Int) := by omega
      obtain ⟨x, hxi⟩ : ∃ x, args[i]? = some x := ⟨args[i]'(by omega), List.getElem?_eq_getElem (by omega)⟩
      obtain ⟨b, off, rfl, p0, p1, p2, p3, p4⟩ := HX.out i x hxi
      have g0 := cell_keep p0 HB.out
      have wi : IntKind.i64.wrap ((i : Int) + 1) = (i : Int) + 1 := IntWalk.i64_in _ (by omega)
      have CNh := Lib.hid (CN.out x (List.mem_of_getElem? hxi))
      have HT := Lib.hid (drop_step hxi).2
      have hst := HS.out
      rw [(drop_step hxi).1, argE_step] at hst
      have CD := Lib.hid (dfault_any x)
      clear HS hxi CN CA CS CF HX
      generalize badA x = Z at *
      obtain ⟨T, bn, co, sc, tx⟩ := x
      have HST := Lib.hid (show (if !nameB T then 3 else if bn && Z then 1 else if hasA (args.take i) T then 5 else argE (args.take i ++ [⟨T, bn, co, sc, tx⟩]) (args.drop (i + 1))) = AE from hst)
      clear hst
      generalize nameB T = NB at *
      go_wp2_with fail
      refine (CNh.out _).mono ?_
      rintro e w3 ⟨rfl, hb⟩
      have W3 := Lib.hid (HB.out.trans (hb.mono HB.out.size))
      clear hb CNh HB g0
      cases NB with
      | false =>
        obtain rfl : 3 = AE := HST.out
        obtain rfl : FE = 3 := HE.out
        clear CD HT CT
        go_wp2_with fail
        go_ret
        exact ⟨rfl, W3.out⟩
      | true =>
        have z1 : w3.cell? ⟨b, off + i * 5 + 1, none⟩ = some (.bool bn) := cell_keep p1 W3.out
        cases bn with
        | false =>
          have HS := Lib.hid (show (if hasA (args.take i) T then 5 else argE (args.take i ++ [⟨T, false, co, sc, tx⟩]) (args.drop (i + 1))) = AE from HST.out)
          clear HST CD
          have y0 : World.cell? w3 ⟨b, off + i * 5, none⟩ = some (.string ⟨T.toArray⟩) := cell_keep p0 W3.out
          have CQ := Lib.hid fun n => CT.out i (by omega) T (World.drewN w3 n) (blw_drewN W3.out n)
          have HI := idxA_lt (args.take i) T
          clear CT
          generalize idxA (args.take i) T = I at *
          cases hH : hasA (args.take i) T with
          | true =>
            have hst := HS.out
            rw [hH] at hst
            obtain rfl : 5 = AE := hst
            obtain rfl : FE = 5 := HE.out
            have d0 : decide (0 ≤ I) = true := decide_eq_true (by rw [hH] at HI; simp at HI; omega)
            clear HS HI
            go_wp2_with fail
            go_quiet (first | (go_at_call 14; exact Calls.quiet_of_same (CQ.out _)))
            go_wp2_with fail
            go_ret
            exact ⟨rfl, blw_drewN W3.out _⟩
          | false =>
            have hst := HS.out
            rw [hH] at hst
            have HS2 := Lib.hid (show argE (args.take (i + 1)) (args.drop (i + 1)) = AE by rw [HT.out]; exact hst)
            have d0 : decide (0 ≤ I) = false := decide_eq_false (by have := HI.2 hH; omega)
            clear hst HS HI
            go_wp2_with fail
            go_quiet (first | (go_at_call 14; exact Calls.quiet_of_same (CQ.out _)))
            go_wp2_with fail
            go_roundw
            case rel => exact ⟨i + 1, by go_num, by omega, HS2, Lib.hid (blw_drewN W3.out _)⟩
            case measure => simp [RowKit.intOf]; omega
        | true =>
          have z2 : w3.cell? ⟨b, off + i * 5 + 2, none⟩ = some (.int .i64 co) := cell_keep p2 W3.out
          have z3 : w3.cell? ⟨b, off + i * 5 + 3, none⟩ = some (.int .i64 sc) := cell_keep p3 W3.out
          have CDh := Lib.hid (CD.out w3)
          clear CD
          go_wp2_with fail
          refine CDh.out.mono ?_
          rintro e w4 ⟨rfl, hb⟩
          have W4 := Lib.hid (W3.out.trans (hb.mono W3.out.size))
          clear hb CDh W3 z1 z2 z3
          cases Z with
          | true =>
            obtain rfl : 1 = AE := HST.out
            obtain rfl : FE = 1 := HE.out
            clear HT CT
            go_wp2_with fail
            go_ret
            exact ⟨rfl, W4.out⟩
          | false =>
            have HS := Lib.hid (show (if hasA (args.take i) T then 5 else argE (args.take i ++ [⟨T, true, co, sc, tx⟩]) (args.drop (i + 1))) = AE from HST.out)
            clear HST
            have y0 : World.cell? w4 ⟨b, off + i * 5, none⟩ = some (.string ⟨T.toArray⟩) := cell_keep p0 W4.out
            have CQ := Lib.hid fun n => CT.out i (by omega) T (World.drewN w4 n) (blw_drewN W4.out n)
            have HI := idxA_lt (args.take i) T
            clear CT
            generalize idxA (args.take i) T = I at *
            cases hH : hasA (args.take i) T with
            | true =>
              have hst := HS.out
              rw [hH] at hst
              obtain rfl : 5 = AE := hst
              obtain rfl : FE = 5 := HE.out
              have d0 : decide (0 ≤ I) = true := decide_eq_true (by rw [hH] at HI; simp at HI; omega)
              clear HS HI
              go_wp2_with fail
              go_quiet (first | (go_at_call 14; exact Calls.quiet_of_same (CQ.out _)))
              go_wp2_with fail
              go_ret
              exact ⟨rfl, blw_drewN W4.out _⟩
            | false =>
              have hst := HS.out
              rw [hH] at hst
              have HS2 := Lib.hid (show argE (args.take (i + 1)) (args.drop (i + 1)) = AE by rw [HT.out]; exact hst)
              have d0 : decide (0 ≤ I) = false := decide_eq_false (by have := HI.2 hH; omega)
              clear hst HS HI
              go_wp2_with fail
              go_quiet (first | (go_at_call 14; exact Calls.quiet_of_same (CQ.out _)))
              go_wp2_with fail
              go_roundw
              case rel => exact ⟨i + 1, by go_num, by omega, HS2, Lib.hid (blw_drewN W4.out _)⟩
              case measure => simp [RowKit.intOf]; omega
    · have hi' : ¬ (i : Int) < (N : Int) := by omega
      have hst := HS.out
      rw [List.drop_of_length_le (by omega)] at hst
      obtain rfl : 0 = AE := hst
      have HE2 := Lib.hid (show askE args (AL.drop 0) = FE from HE.out.symm)
      clear HE HS CN CT
      go_wp2_with fail
      refine (CA.out wr HB.out hcn).mono ?_
      rintro e w2 ⟨u, rfl, hr, hb⟩
      have W2 := Lib.hid hb
      obtain ⟨ua, uc, eu, _, hel⟩ := (args_of_row (l := AL.map ofN) (by rw [List.length_map]; exact hr)).spread
      rw [List.length_map] at eu
      subst eu
      have HR := Lib.hid hr
      have hcapu : AL.length ≤ uc ∨ AL.length = 0 := by
        rcases hr.2 with ⟨e, h0⟩ | ⟨g, cap, cur, e, _, q, _⟩
        · exact .inr h0
        · injection e with _ _ e; exact .inl (by omega)
      have HX3 := Lib.hid hel
      clear hb CA hr hel HB
      generalize hM : AL.length = M at *
      go_wp2_with fail
      go_loopw [7] (fun vk wx => ∃ k : Nat, vk = .int .i64 (k : Int) ∧ k ≤ M ∧ Hid (askE args (AL.drop k) = FE) ∧ Hid (Below w2.heap.size w2 wx)) (fun vk _ => M - (RowKit.intOf vk).toNat)
      case atStart => exact ⟨0, rfl, Nat.zero_le _, HE2, Lib.hid (Below.refl _ _)⟩
      case round =>
        obtain ⟨k, rfl, hk, HS, HB⟩ := hrel
        clear HE2
        have WB := Lib.hid (W2.out.trans (HB.out.mono W2.out.size))
        by_cases hltk : k < M
        · have hk' : (k : Int) < (M : Int) := by omega
          have hccu : M ≤ uc := by omega
          obtain ⟨x, hxk⟩ : ∃ x, AL[k]? = some x := ⟨AL[k]'(by omega), List.getElem?_eq_getElem (by omega)⟩
          obtain ⟨b, off, rfl, p0, p1, _⟩ := HX3.out k (ofN x) (by rw [List.getElem?_map, hxk]; rfl)
          have g0 : World.cell? wr ⟨b, off + k * 5, none⟩ = some (.string ⟨x.1.toArray⟩) := cell_keep p0 HB.out
          have g1 : World.cell? wr ⟨b, off + k * 5 + 1, none⟩ = some (.bool x.2.1) := cell_keep p1 HB.out
          have wk : IntKind.i64.wrap ((k : Int) + 1) = (k : Int) + 1 := IntWalk.i64_in _ (by omega)
          have CSh := Lib.hid fun wx (hb : Below w.heap.size w wx) => CS.out wx x (List.mem_of_getElem? hxk) hb
          have hst := HS.out
          rw [(drop_step hxk).1, askE_cons] at hst
          clear HS p0 p1 hxk CS HX3
          obtain ⟨T, bn, bt⟩ := x
          have CFh := Lib.hid (CF.out T wr WB.out)
          rcases idxA_find args T with ⟨_, hf, hI⟩ | ⟨j, y, hy, hf, hI, hj⟩
          · rw [hf] at hst
            rw [hI] at CFh
            obtain rfl : 2 = FE := hst
            clear hf hI CF HX CSh
            go_wp2_with fail
            refine CFh.out.mono ?_
            rintro e w3 ⟨rfl, rfl⟩
            go_wp2_with fail
            go_ret
            exact ⟨rfl, WB.out⟩
          · rw [hf] at hst
            rw [hI] at CFh
            obtain ⟨bb, oo, eA, q0, q1, _⟩ := HX.out j y hy
            have j1 := cell_keep q1 WB.out
            rw [eA] at CFh ⊢
            obtain ⟨y1, yn, y3, y4, y5⟩ := y
            have j1 : World.cell? wr ⟨bb, oo + j * 5 + 1, none⟩ = some (.bool yn) := j1
            have HST := Lib.hid (show (if (bn && !yn) || (bt && yn) then 7 else askE args (AL.drop (k + 1))) = FE from hst)
            have hjc : j < cap := by omega
            have hj0 : ¬ (j : Int) < 0 := by omega
            have hj1 : (j : Int) < (N : Int) := by omega
            have dj : decide ((j : Int) < 0) = false := decide_eq_false hj0
            clear hst hf hI q0 q1 hy eA CF HX
            go_wp2_with fail
            refine CFh.out.mono ?_
            rintro e w3 ⟨rfl, rfl⟩
            have CSk := Lib.hid (CSh.out w3 WB.out)
            clear CFh CSh
            cases yn with
            | false =>
              cases bn with
              | true =>
                obtain rfl : 7 = FE := HST.out
                go_wp2_with fail
                go_ret
                exact ⟨rfl, WB.out⟩
              | false =>
                have HS2 := Lib.hid (show askE args (AL.drop (k + 1)) = FE from by have := HST.out; rwa [Bool.and_false] at this)
                clear HST
                go_wp2_with fail
                go_roundw
                case rel => exact ⟨k + 1, by go_num, by omega, HS2, HB⟩
                case measure => simp [RowKit.intOf]; omega
            | true =>
              have HST2 := Lib.hid (show (if bt then 7 else askE args (AL.drop (k + 1))) = FE by have := HST.out; rwa [Bool.not_true, Bool.and_false, Bool.false_or, Bool.and_true] at this)
              clear HST
              cases bn with
              | true =>
                go_wp2_with fail
                refine CSk.out.mono ?_
                rintro e w4 ⟨rfl, hb⟩
                have B4 := Lib.hid (HB.out.trans (hb.mono HB.out.size))
                have W4 := Lib.hid (WB.out.trans (hb.mono WB.out.size))
                clear hb CSk
                cases bt with
                | true =>
                  obtain rfl : 7 = FE := HST2.out
                  go_wp2_with fail
                  go_ret
                  exact ⟨rfl, W4.out⟩
                | false =>
                  have HS2 := Lib.hid (show askE args (AL.drop (k + 1)) = FE from HST2.out)
                  clear HST2
                  go_wp2_with fail
                  go_roundw
                  case rel => exact ⟨k + 1, by go_num, by omega, HS2, B4⟩
                  case measure => simp [RowKit.intOf]; omega
              | false =>
                go_wp2_with fail
                refine CSk.out.mono ?_
                rintro e w4 ⟨rfl, hb⟩
                have B4 := Lib.hid (HB.out.trans (hb.mono HB.out.size))
                have W4 := Lib.hid (WB.out.trans (hb.mono WB.out.size))
                clear hb CSk
                cases bt with
                | true =>
                  obtain rfl : 7 = FE := HST2.out
                  go_wp2_with fail
                  go_ret
                  exact ⟨rfl, W4.out⟩
                | false =>
                  have HS2 := Lib.hid (show askE args (AL.drop (k + 1)) = FE from HST2.out)
                  clear HST2
                  go_wp2_with fail
                  go_roundw
                  case rel => exact ⟨k + 1, by go_num, by omega, HS2, B4⟩
                  case measure => simp [RowKit.intOf]; omega
        · have hk' : ¬ (k : Int) < (M : Int) := by omega
          have hst := HS.out
          rw [List.drop_of_length_le (by omega)] at hst
          obtain rfl : 0 = FE := hst
          go_wp2_with fail
          go_ret
          exact ⟨rfl, WB.out⟩
end Go.Proofs.YtainindkndjkbaaGreatDoor
