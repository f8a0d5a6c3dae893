/- The walk of the reference's MissingOf. Conditions: the message is one, of lists of at most 2000000; its nodes are few. -/
import Derived.Test.YtainindkndjkbaaGreatDoorCvC
namespace Go.Proofs.YtainindkndjkbaaGreatDoor
open Go.RowKit Ms
namespace Ms
def idleK (x : Nd) (k : List UInt8) (L : List (List UInt8 × Bool)) : List (List UInt8) := (L.filter fun p => p.1 == k && !p.2).map fun _ => dot x.text k
theorem idleK_step {L : List (List UInt8 × Bool)} {j : Nat} {y : List UInt8 × Bool} (h : L[j]? = some y) (x : Nd) (k : List UInt8) : idleK x k (L.drop j) = (if y.1 == k && !y.2 then [dot x.text k] else []) ++ idleK x k (L.drop (j + 1)) := by
  obtain ⟨hi, e⟩ := List.getElem?_eq_some_iff.1 h
  unfold idleK
  rw [List.drop_eq_getElem_cons hi, e, List.filter_cons]
  split <;> rfl
theorem idleK_none {x : Nd} {k : List UInt8} : ∀ {L : List (List UInt8 × Bool)}, k ∉ L.map (·.1) → idleK x k L = []
  | [], _ => rfl
  | y :: L, h => by
    rw [List.map_cons, List.mem_cons] at h
    have hy : (y.1 == k) = false := beq_eq_false_iff_ne.2 fun e => h (.inl e.symm)
    have := idleK_none (x := x) (L := L) fun e => h (.inr e)
    unfold idleK at *
    rw [List.filter_cons, hy]
    exact this
theorem idleK_eq (x : Nd) (k : List UInt8) : ∀ (L : List (List UInt8 × Bool)), (L.map (·.1)).Nodup → idleK x k L = if L.contains (k, false) then [dot x.text k] else []
  | [], _ => rfl
  | y :: L, h => by
    rw [List.map_cons, List.nodup_cons] at h
    have ih := idleK_eq x k L h.2
    have e0 : idleK x k (y :: L) = (if y.1 == k && !y.2 then [dot x.text k] else []) ++ idleK x k L := idleK_step (L := y :: L) (j := 0) rfl x k
    rw [e0, List.contains_cons]
    obtain ⟨a, b⟩ := y
    cases hb : a == k with
    | false =>
      have : ((k, false) == (a, b)) = false := beq_eq_false_iff_ne.2 fun e => by injection e with e _; rw [e] at hb; simp at hb
      rw [this, ih]; rfl
    | true =>
      have ea : a = k := by simpa using hb
      subst ea
      rw [idleK_none h.1]
      cases b with
      | false => simp
      | true =>
        have : L.contains (a, false) = false := by
          cases hc : L.contains (a, false) with
          | false => rfl
          | true => exact absurd (List.mem_map.2 ⟨(a, false), by simpa using hc, rfl⟩) h.1
        have h2 : ((a, false) == (a, true)) = false := beq_eq_false_iff_ne.2 fun e => by injection e with _ e; cases e
        rw [this, h2]; rfl
theorem kS_nodup (t0 t1 t2 t3 t4 : List UInt8) : ((kS [t0, t1, t2, t3, t4]).map (·.1)).Nodup := by
  have : (kS [t0, t1, t2, t3, t4]).map (·.1) = five := rfl
  rw [this]
  decide
end Ms

set_option maxRecDepth 100000 in
set_option maxHeartbeats 20000000 in
theorem qidle_any (t0 t1 t2 t3 t4 : List UInt8) (f : Nat) : ∀ (v : Value) (m : List Nd) (w : World), MsgAt f w v m → m.length ≤ 2000000 → cnt f m * 10000005 ≤ 1000000000 →
    Calls Tryz.prog 19 #[v, .agg #[.string ⟨t0.toArray⟩, .string ⟨t1.toArray⟩, .string ⟨t2.toArray⟩, .string ⟨t3.toArray⟩, .string ⟨t4.toArray⟩]] w fun e w' => ∃ u, e = .returned u ∧ w'.ownsRow w.heap.size 9 1 u (eachM (fun _ => []) (idleN [t0, t1, t2, t3, t4]) f m).length ((eachM (fun _ => []) (idleN [t0, t1, t2, t3, t4]) f m).map stV) ∧ (eachM (fun _ => []) (idleN [t0, t1, t2, t3, t4]) f m).length ≤ cnt f m * 10000005 ∧ Below w.heap.size w w' := by
  induction f with
  | zero =>
    intro v m w h hl hc
    rcases h with ⟨rfl, A, cap, rfl⟩ | ⟨b, off, cap, _, hpos, _, _, hx⟩
    · have W0 := Lib.hid (blw_alloc w (.cells #[.string ⟨t0.toArray⟩, .string ⟨t1.toArray⟩, .string ⟨t2.toArray⟩, .string ⟨t3.toArray⟩, .string ⟨t4.toArray⟩] 44))
      go_enter Tryz.func19, Tryz.ntmps19
      go_wp2_with fail
      refine (settexts_any t0 t1 t2 t3 t4 _).mono ?_
      rintro e w1 ⟨b, rfl, _, hb⟩
      have W1 := Lib.hid (blw_trans W0.out hb)
      clear hb
      go_wp2_with fail
      go_loopw [5, 7] (fun vu vi wr => vi = .int .i64 0 ∧ vu = .slice none 0 0 ∧ w1 = wr) (fun _ _ _ => 0)
      case atStart => exact ⟨rfl, rfl, rfl⟩
      case round =>
        obtain ⟨rfl, rfl, rfl⟩ := hrel
        go_wp2_with fail
        go_ret
        exact ⟨_, rfl, ⟨rfl, .inl ⟨rfl, rfl⟩⟩, Nat.zero_le _, W1.out⟩
    · exact absurd (hx 0 _ (List.getElem?_eq_getElem hpos)) (by simp [NdC])
  | succ f ih =>
    intro v m w h hl hc
    obtain ⟨i0, hi0, hz0, hz1, hz2⟩ := info_parts infoStrM
    have IH := Lib.hid ih
    obtain ⟨RES, hRES⟩ : ∃ RES, RES = eachM (fun _ => []) (idleN [t0, t1, t2, t3, t4]) (f + 1) m := ⟨_, rfl⟩
    obtain ⟨TT, hTT⟩ : ∃ TT, TT = cnt (f + 1) m * 10000005 := ⟨_, rfl⟩
    rw [← hRES, ← hTT]
    have hT9 : TT ≤ 1000000000 := by omega
    have HRES := Lib.hid (show ([] : List (List UInt8)) ++ eachM (fun _ => []) (idleN [t0, t1, t2, t3, t4]) (f + 1) (m.drop 0) = RES by rw [List.drop_zero, hRES]; rfl)
    have HCN := Lib.hid (show ([] : List (List UInt8)).length + cnt (f + 1) (m.drop 0) * 10000005 ≤ TT by rw [List.drop_zero, hTT]; simp)
    clear hRES ih hc hTT
    obtain ⟨A, cap, rfl, _, hel⟩ := h.spread
    have hcap : m.length ≤ cap ∨ m.length = 0 := by
      rcases h with ⟨e, _⟩ | ⟨_, _, _, e, _, q, _, _⟩
      · exact .inr (by rw [e]; rfl)
      · injection e with _ _ e; exact .inl (by omega)
    have HX := Lib.hid hel
    clear hel h
    generalize hlm : m.length = L at *
    have B0 := Lib.hid (Boxed.made w #[.string ⟨t0.toArray⟩, .string ⟨t1.toArray⟩, .string ⟨t2.toArray⟩, .string ⟨t3.toArray⟩, .string ⟨t4.toArray⟩] 44)
    have W0 := Lib.hid (blw_alloc w (.cells #[.string ⟨t0.toArray⟩, .string ⟨t1.toArray⟩, .string ⟨t2.toArray⟩, .string ⟨t3.toArray⟩, .string ⟨t4.toArray⟩] 44))
    go_enter Tryz.func19, Tryz.ntmps19
    go_wp2_with fail
    refine (settexts_any t0 t1 t2 t3 t4 _).mono ?_
    rintro e w1 ⟨b, rfl, hbx, hb⟩
    have W1 := Lib.hid (blw_trans W0.out hb)
    have R1 := Lib.hid (show RefI w.heap.size w.heap.size b #[.string ⟨t0.toArray⟩, .string ⟨t1.toArray⟩, .string ⟨t2.toArray⟩, .string ⟨t3.toArray⟩, .string ⟨t4.toArray⟩] (strC [t0, t1, t2, t3, t4]) [] (.slice none 0 0) w1 from ⟨World.ownsRow_nil _ _ _ _, B0.out.below hb, hbx, by simp [Value.ownBlock], by simp [Value.ownBlock]⟩)
    clear hb hbx W0 B0
    go_wp2_with fail
    go_loopw [5, 7] (fun vu vi wr => ∃ (i : Nat) (s1 : List (List UInt8)) (ua : Option Addr) (uc : Nat), vi = .int .i64 (i : Int) ∧ vu = .slice ua s1.length uc ∧ i ≤ L ∧ Hid (RefI w.heap.size w.heap.size b #[.string ⟨t0.toArray⟩, .string ⟨t1.toArray⟩, .string ⟨t2.toArray⟩, .string ⟨t3.toArray⟩, .string ⟨t4.toArray⟩] (strC [t0, t1, t2, t3, t4]) s1 (.slice ua s1.length uc) wr) ∧ Hid (s1 ++ eachM (fun _ => []) (idleN [t0, t1, t2, t3, t4]) (f + 1) (m.drop i) = RES) ∧ Hid (s1.length + cnt (f + 1) (m.drop i) * 10000005 ≤ TT) ∧ Hid (Below w.heap.size w wr)) (fun _ vi _ => L - (RowKit.intOf vi).toNat)
    case atStart => exact ⟨0, [], none, 0, rfl, rfl, Nat.zero_le _, R1, HRES, HCN, W1⟩
    case round =>
      obtain ⟨i, s1, ua, uc, rfl, rfl, hi, HR, HL, HC, HB⟩ := hrel
      clear HRES HCN R1 W1
      by_cases hlt : i < L
      · have hi' : (i : Int) < (L : Int) := by omega
        have hcc : L ≤ cap := by omega
        have hii : (0 : Int) ≤ (i : Int) := by omega
        obtain ⟨x, hxi⟩ : ∃ x, m[i]? = some x := ⟨m[i]'(by omega), List.getElem?_eq_getElem (by omega)⟩
        obtain ⟨bm, off, rfl, hnd⟩ := HX.out i x hxi
        obtain ⟨a0, n0, c0, p0, p1, p2, p3, p4, p5, p6⟩ := hnd
        have hbm := World.block_lt_of_cell? _ _ p1
        dsimp only at hbm
        have g0 := cell_keep p0 HB.out
        have g1 := cell_keep p1 HB.out
        have g2 := cell_keep p2 HB.out
        have g3 := cell_keep p3 HB.out
        have wi : IntKind.i64.wrap ((i : Int) + 1) = (i : Int) + 1 := IntWalk.i64_in _ (by omega)
        have H4 := Lib.hid (show CassAt f w (.slice a0 n0 c0) x.cases from p4)
        have lcs : (casesOf x).length ≤ 2000000 := by
          unfold casesOf; split
          · exact p6
          · simp
        have hct := HC.out
        rw [cnt_step f hxi] at hct
        have HL2 := Lib.hid (show s1 ++ (((casesOf x).flatMap fun y => (if x.kind = 4 then idleK x y.1 (kS [t0, t1, t2, t3, t4]) else []) ++ eachM (fun _ => []) (idleN [t0, t1, t2, t3, t4]) f y.2) ++ eachM (fun _ => []) (idleN [t0, t1, t2, t3, t4]) (f + 1) (m.drop (i + 1))) = RES by
          have hst := HL.out
          rw [each_step f hxi] at hst
          rw [← hst]
          have e1 : (if x.kind = 4 then ([] : List (List UInt8)) else []) = [] := by split <;> rfl
          rw [e1, List.nil_append]
          have e2 : (fun y : List UInt8 × List Nd => (if x.kind = 4 then idleK x y.1 (kS [t0, t1, t2, t3, t4]) else []) ++ eachM (fun _ => []) (idleN [t0, t1, t2, t3, t4]) f y.2) = fun y => (if x.kind = 4 then idleN [t0, t1, t2, t3, t4] x y.1 else []) ++ eachM (fun _ => []) (idleN [t0, t1, t2, t3, t4]) f y.2 := by
            funext y
            rw [idleK_eq x y.1 (kS [t0, t1, t2, t3, t4]) (kS_nodup t0 t1 t2 t3 t4)]
            rfl
          rw [e2])
        clear HL HC hxi
        have hL5 : (kS [t0, t1, t2, t3, t4]).length = 5 := rfl
        have HKA := Lib.hid fun k y h => kL_at (S := [t0, t1, t2, t3, t4]) (k := k) (y := y) h
        generalize kS [t0, t1, t2, t3, t4] = LK at *
        go_wp2_with fail
        refine (qcases_to (f := f) x _ (cass_below H4.out HB.out)).mono ?_
        rintro e w3 ⟨A1, C1, rfl, hto, hb⟩
        have R3 := Lib.hid (HR.out.below hb)
        have B3 := Lib.hid (HB.out.trans (hb.mono HB.out.size))
        have HCS := hto w H4.out
        clear hto hb H4 HR HB g0 g1 g2 g3 p2 p3 p4
        generalize casesOf x = cs at *
        obtain ⟨A2, C2, e2, _, hel⟩ := HCS.spread
        injection e2 with e3 e4 e5
        subst e3 e5
        have hcapc : cs.length ≤ C1 ∨ cs.length = 0 := by
          rcases HCS with ⟨e, _⟩ | ⟨_, _, _, e, _, q, _, _⟩
          · exact .inr (by rw [e]; rfl)
          · injection e with _ _ e; exact .inl (by omega)
        have HEL := Lib.hid hel
        clear hel HCS
        have HL3 := Lib.hid (show s1 ++ (((cs.drop 0).flatMap fun y => (if x.kind = 4 then idleK x y.1 LK else []) ++ eachM (fun _ => []) (idleN [t0, t1, t2, t3, t4]) f y.2) ++ eachM (fun _ => []) (idleN [t0, t1, t2, t3, t4]) (f + 1) (m.drop (i + 1))) = RES by rw [List.drop_zero]; exact HL2.out)
        have HC3 := Lib.hid (show s1.length + 5 * (cs.length - 0) + ((((cs.drop 0).map (·.2)).map (cnt f)).sum + cnt (f + 1) (m.drop (i + 1))) * 10000005 ≤ TT by rw [List.drop_zero]; omega)
        clear HL2 hct
        generalize hlc : cs.length = LC at *
        go_wp2_with fail
        go_loopw [5, 9] (fun vu vk wx => ∃ (k : Nat) (s4 : List (List UInt8)) (ua : Option Addr) (uc : Nat), vk = .int .i64 (k : Int) ∧ vu = .slice ua s4.length uc ∧ k ≤ LC ∧ Hid (RefI w.heap.size w.heap.size b #[.string ⟨t0.toArray⟩, .string ⟨t1.toArray⟩, .string ⟨t2.toArray⟩, .string ⟨t3.toArray⟩, .string ⟨t4.toArray⟩] (strC [t0, t1, t2, t3, t4]) s4 (.slice ua s4.length uc) wx) ∧ Hid (s4 ++ (((cs.drop k).flatMap fun y => (if x.kind = 4 then idleK x y.1 LK else []) ++ eachM (fun _ => []) (idleN [t0, t1, t2, t3, t4]) f y.2) ++ eachM (fun _ => []) (idleN [t0, t1, t2, t3, t4]) (f + 1) (m.drop (i + 1))) = RES) ∧ Hid (s4.length + 5 * (LC - k) + ((((cs.drop k).map (·.2)).map (cnt f)).sum + cnt (f + 1) (m.drop (i + 1))) * 10000005 ≤ TT) ∧ Hid (Below w.heap.size w wx)) (fun _ vk _ => LC - (RowKit.intOf vk).toNat)
        case atStart => exact ⟨0, s1, ua, uc, rfl, rfl, Nat.zero_le _, R3, HL3, HC3, B3⟩
        case round =>
          obtain ⟨k, s4, ya, yc, rfl, rfl, hk, HR4, HL, HC, HB4⟩ := hrel
          clear HL3 HC3 R3 B3
          by_cases hltk : k < LC
          · have hk' : (k : Int) < (LC : Int) := by omega
            have hk0 : (0 : Int) ≤ (k : Int) := by omega
            have hccc : LC ≤ C1 := by omega
            obtain ⟨y, hyk⟩ : ∃ y, cs[k]? = some y := ⟨cs[k]'(by omega), List.getElem?_eq_getElem (by omega)⟩
            obtain ⟨bb, oo, rfl, a9, n9, c9, q0, q1, q2, q3, q4⟩ := HEL.out k y hyk
            have hbl := World.block_lt_of_cell? _ _ q1
            dsimp only at hbl
            have hct := HC.out
            rw [cases_step hyk, List.map_cons, List.sum_cons] at hct
            have wk : IntKind.i64.wrap ((k : Int) + 1) = (k : Int) + 1 := IntWalk.i64_in _ (by omega)
            have CRh := Lib.hid fun wx (hb : Below w.heap.size w wx) => IH.out (.slice a9 n9 c9) y.2 wx (msg_below q2 hb) q4 (by omega)
            obtain ⟨REST, hREST⟩ : ∃ REST, REST = eachM (fun _ => []) (idleN [t0, t1, t2, t3, t4]) f y.2 ++ (((cs.drop (k + 1)).flatMap fun y => (if x.kind = 4 then idleK x y.1 LK else []) ++ eachM (fun _ => []) (idleN [t0, t1, t2, t3, t4]) f y.2) ++ eachM (fun _ => []) (idleN [t0, t1, t2, t3, t4]) (f + 1) (m.drop (i + 1))) := ⟨_, rfl⟩
            have HREST := Lib.hid hREST
            have HL5 := Lib.hid (show s4 ++ ((if x.kind = 4 then idleK x y.1 (LK.drop 0) else []) ++ REST) = RES by
              have h := HL.out
              rw [flat_step hyk] at h
              rw [hREST, List.drop_zero, ← h]
              simp only [List.append_assoc])
            obtain ⟨key, body⟩ := y
            dsimp only at q0 q1 q2 q3 q4 CRh HREST HL5 hct
            clear HL HC hyk hREST q2
            go_wp2_with fail
            go_loopw [5, 10] (fun vu vj wx => ∃ (j : Nat) (s2 : List (List UInt8)) (ua : Option Addr) (uc : Nat), vj = .int .i64 (j : Int) ∧ vu = .slice ua s2.length uc ∧ j ≤ 5 ∧ s2.length ≤ s4.length + j ∧ Hid (RefI w.heap.size w.heap.size b #[.string ⟨t0.toArray⟩, .string ⟨t1.toArray⟩, .string ⟨t2.toArray⟩, .string ⟨t3.toArray⟩, .string ⟨t4.toArray⟩] (strC [t0, t1, t2, t3, t4]) s2 (.slice ua s2.length uc) wx) ∧ Hid (s2 ++ ((if x.kind = 4 then idleK x key (LK.drop j) else []) ++ REST) = RES) ∧ Hid (Below w.heap.size w wx)) (fun _ vj _ => 5 - (RowKit.intOf vj).toNat)
            case atStart => exact ⟨0, s4, ya, yc, rfl, rfl, by omega, by omega, HR4, HL5, HB4⟩
            case round =>
              obtain ⟨j, s2, va, vc, rfl, rfl, hj5, hsl, HR2, HS, HB2⟩ := hrel
              clear HR4 HL5 HB4
              by_cases hltj : j < 5
              · have hj' : (j : Int) < 5 := by omega
                have hj0 : (0 : Int) ≤ (j : Int) := by omega
                have wj : IntKind.i64.wrap ((j : Int) + 1) = (j : Int) + 1 := IntWalk.i64_in _ (by omega)
                have g0 := cell_keep p0 HB2.out
                have g1 := cell_keep p1 HB2.out
                have y0 := cell_keep q0 HB2.out
                obtain ⟨z, hz⟩ : ∃ z, LK[j]? = some z := ⟨LK[j]'(by omega), List.getElem?_eq_getElem (by omega)⟩
                have hst := HS.out
                rw [idleK_step hz] at hst
                obtain ⟨tk, htk, hnm, hyt, hnl⟩ := HKA.out j z hz
                obtain ⟨nm, is⟩ := z
                dsimp only at hst hnm hyt hnl
                subst hyt
                have l0 := HR2.out.txt.cell j _ (strC_get htk)
                have ll := HR2.out.txt.lt
                have HNM := Lib.hid (strC_get hnm)
                have HST := Lib.hid hst
                clear hst htk hnm hz HS
                obtain ⟨K4, hK4⟩ : ∃ K4, K4 = (x.kind == 4) := ⟨_, rfl⟩
                by_cases k4 : x.kind = 4
                case neg =>
                  have b4 : (x.kind == 4) = false := beq_no k4
                  have HS2 := Lib.hid (show s2 ++ ((if x.kind = 4 then idleK x key (LK.drop (j + 1)) else []) ++ REST) = RES by rw [if_neg k4]; have h := HST.out; rwa [if_neg k4] at h)
                  clear HST HNM k4 hK4
                  go_wp2_with fail
                  go_quiet (fail)
                  go_wp2_with fail
                  go_roundw
                  case rel => exact ⟨j + 1, s2, _, _, by go_num, rfl, by omega, by omega, Lib.hid (HR2.out.below (blw_drewN (Below.refl _ _) _)), HS2, Lib.hid (blw_drewN HB2.out _)⟩
                  case measure => simp [RowKit.intOf]; omega
                have HST := Lib.hid (show s2 ++ ((if (nm == key && !!tk.isEmpty) = true then [dot x.text key] else []) ++ idleK x key (LK.drop (j + 1)) ++ REST) = RES by have h := HST.out; rwa [if_pos k4] at h)
                have HN4 := Lib.hid k4
                clear hK4
                rw [k4] at g0
                clear k4
                cases tk with
                | cons tc tr =>
                  obtain ⟨tk, htk⟩ : ∃ tk, tk = tc :: tr := ⟨_, rfl⟩
                  rw [← htk] at l0 HST
                  have ne1 : (tk == []) = false := by rw [htk]; rfl
                  have ne2 : tk.isEmpty = false := by rw [htk]; rfl
                  have HS2 := Lib.hid (show s2 ++ ((if x.kind = 4 then idleK x key (LK.drop (j + 1)) else []) ++ REST) = RES by
                    rw [if_pos HN4.out]
                    have h := HST.out
                    rw [ne2] at h
                    simpa using h)
                  clear HST HNM htk
                  go_wp2_with fail
                  go_quiet (fail)
                  go_wp2_with fail
                  go_roundw
                  case rel => exact ⟨j + 1, s2, _, _, by go_num, rfl, by omega, by omega, Lib.hid (HR2.out.below (blw_drewN (Below.refl _ _) _)), HS2, Lib.hid (blw_drewN HB2.out _)⟩
                  case measure => simp [RowKit.intOf]; omega
                | nil =>
                  have l0 : World.cell? wr ⟨b, j, none⟩ = some (.string ⟨#[]⟩) := l0
                  go_wp2_with fail
                  refine wp_region_held_drew (S := fun w' => w'.cell? ⟨bm, off + i * 4, none⟩ = some (.int .i64 4) ∧ w'.cell? ⟨b, j, none⟩ = some (.string ⟨#[]⟩) ∧ w'.cell? ⟨bb, oo + k * 2, none⟩ = some (.string ⟨key.toArray⟩) ∧ w'.cell? ⟨bm, off + i * 4 + 1, none⟩ = some (.string ⟨x.text.toArray⟩) ∧ Hid (RefI w.heap.size w.heap.size b #[.string ⟨t0.toArray⟩, .string ⟨t1.toArray⟩, .string ⟨t2.toArray⟩, .string ⟨t3.toArray⟩, .string ⟨t4.toArray⟩] (strC [t0, t1, t2, t3, t4]) s2 (.slice va s2.length vc) w') ∧ Hid (Below w.heap.size w w')) (by kernel_rfl) (⟨g0, l0, y0, g1, Lib.hid (HR2.out.below (blw_drewN (Below.refl _ _) 1)), Lib.hid (blw_drewN HB2.out 1)⟩) (fun hHeld => ?_)
                  refine take_run (d := (some 36)) (v := ?v1) 0 rfl rfl (by kernel_rfl) (by kernel_rfl) (by kernel_rfl) (fun _ _ _ h => h) (by rfl) hHeld ?hy1 ?rs1
                  case hy1 => (intro w hSw; (try dsimp only at hSw); go_simp) <;> (try with_reducible rfl)
                  (try simp only [Act.put, List.setIfInBounds_toArray, List.set_cons_zero, List.set_cons_succ])
                  refine take_run (d := (some 37)) (v := ?v2) 1 rfl rfl (by kernel_rfl) (by kernel_rfl) (by kernel_rfl) (fun _ _ _ h => h) (by rfl) hHeld ?hy2 ?rs2
                  case hy2 => (intro w hSw; (try dsimp only at hSw); go_simp) <;> (try with_reducible rfl)
                  (try simp only [Act.put, List.setIfInBounds_toArray, List.set_cons_zero, List.set_cons_succ])
                  refine take_run (d := (some 38)) (v := ?v3) 2 rfl rfl (by kernel_rfl) (by kernel_rfl) (by kernel_rfl) (fun _ _ _ h => h) (by rfl) hHeld ?hy3 ?rs3
                  case hy3 => (intro w hSw; (try dsimp only at hSw); go_simp) <;> (try with_reducible rfl)
                  (try simp only [Act.put, List.setIfInBounds_toArray, List.set_cons_zero, List.set_cons_succ])
                  refine take_run (d := (some 39)) (v := ?v4) 3 rfl rfl (by kernel_rfl) (by kernel_rfl) (by kernel_rfl) (fun _ _ _ h => h) (by rfl) hHeld ?hy4 ?rs4
                  case hy4 => (intro w hSw; (try dsimp only at hSw); go_simp) <;> (try with_reducible rfl)
                  (try simp only [Act.put, List.setIfInBounds_toArray, List.set_cons_zero, List.set_cons_succ])
                  refine take_run (d := (some 40)) (v := ?v5) 4 rfl rfl (by kernel_rfl) (by kernel_rfl) (by kernel_rfl) (fun _ _ _ h => h) (by rfl) hHeld ?hy5 ?rs5
                  case hy5 => (intro w hSw; (try dsimp only at hSw); go_simp) <;> (try with_reducible rfl)
                  (try simp only [Act.put, List.setIfInBounds_toArray, List.set_cons_zero, List.set_cons_succ])
                  refine take_run (d := (some 41)) (v := ?v6) 5 rfl rfl (by kernel_rfl) (by kernel_rfl) (by kernel_rfl) (fun _ _ _ h => h) (by rfl) hHeld ?hy6 ?rs6
                  case hy6 => (intro w hSw; (try dsimp only at hSw); go_simp) <;> (try with_reducible rfl)
                  (try simp only [Act.put, List.setIfInBounds_toArray, List.set_cons_zero, List.set_cons_succ])
                  refine take_run (d := (some 42)) (v := ?v7) 6 rfl rfl (by kernel_rfl) (by kernel_rfl) (by kernel_rfl) (fun _ _ _ h => h) (by rfl) hHeld ?hy7 ?rs7
                  case hy7 => (intro w hSw; (try dsimp only at hSw); go_simp) <;> (try with_reducible rfl)
                  (try simp only [Act.put, List.setIfInBounds_toArray, List.set_cons_zero, List.set_cons_succ])
                  refine take_run (d := (some 43)) (v := ?v8) 7 rfl rfl (by kernel_rfl) (by kernel_rfl) (by kernel_rfl) (fun _ _ _ h => h) (by rfl) hHeld ?hy8 ?rs8
                  case hy8 => (intro w hSw; (try dsimp only at hSw); go_simp) <;> (try with_reducible rfl)
                  (try simp only [Act.put, List.setIfInBounds_toArray, List.set_cons_zero, List.set_cons_succ])
                  refine take_run (d := (some 44)) (v := ?v9) 8 rfl rfl (by kernel_rfl) (by kernel_rfl) (by kernel_rfl) (fun _ _ _ h => h) (by rfl) hHeld ?hy9 ?rs9
                  case hy9 => (intro w hSw; (try dsimp only at hSw); go_simp) <;> (try with_reducible rfl)
                  (try simp only [Act.put, List.setIfInBounds_toArray, List.set_cons_zero, List.set_cons_succ])
                  refine take_run (d := (some 45)) (v := ?v10) 9 rfl rfl (by kernel_rfl) (by kernel_rfl) (by kernel_rfl) (fun _ _ _ h => h) (by rfl) hHeld ?hy10 ?rs10
                  case hy10 => (intro w hSw; (try dsimp only at hSw); go_simp) <;> (try with_reducible rfl)
                  (try simp only [Act.put, List.setIfInBounds_toArray, List.set_cons_zero, List.set_cons_succ])
                  refine take_run (d := (some 46)) (v := ?v11) 10 rfl rfl (by kernel_rfl) (by kernel_rfl) (by kernel_rfl) (fun _ _ _ h => h) (by rfl) hHeld ?hy11 ?rs11
                  case hy11 => (intro w hSw; (try dsimp only at hSw); go_simp) <;> (try with_reducible rfl)
                  (try simp only [Act.put, List.setIfInBounds_toArray, List.set_cons_zero, List.set_cons_succ])
                  refine take_run (d := (some 47)) (v := ?v12) 11 rfl rfl (by kernel_rfl) (by kernel_rfl) (by kernel_rfl) (fun _ _ _ h => h) (by rfl) hHeld ?hy12 ?rs12
                  case hy12 => (intro w hSw; (try dsimp only at hSw); go_simp) <;> (try with_reducible rfl)
                  (try simp only [Act.put, List.setIfInBounds_toArray, List.set_cons_zero, List.set_cons_succ])
                  refine take_run (d := (some 48)) (v := ?v13) 12 rfl rfl (by kernel_rfl) (by kernel_rfl) (by kernel_rfl) (fun _ _ _ h => h) (by rfl) hHeld ?hy13 ?rs13
                  case hy13 => (intro w hSw; (try dsimp only at hSw); go_simp) <;> (try with_reducible rfl)
                  (try simp only [Act.put, List.setIfInBounds_toArray, List.set_cons_zero, List.set_cons_succ])
                  refine take_run (d := (some 49)) (v := ?v14) 13 rfl rfl (by kernel_rfl) (by kernel_rfl) (by kernel_rfl) (fun _ _ _ h => h) (by rfl) hHeld ?hy14 ?rs14
                  case hy14 => (intro w hSw; (try dsimp only at hSw); go_simp) <;> (try with_reducible rfl)
                  (try simp only [Act.put, List.setIfInBounds_toArray, List.set_cons_zero, List.set_cons_succ])
                  refine take_run (d := (some 50)) (v := ?v15) 14 rfl rfl (by kernel_rfl) (by kernel_rfl) (by kernel_rfl) (fun _ _ _ h => h) (by rfl) hHeld ?hy15 ?rs15
                  case hy15 => (intro w hSw; (try dsimp only at hSw); go_simp) <;> (try with_reducible rfl)
                  (try simp only [Act.put, List.setIfInBounds_toArray, List.set_cons_zero, List.set_cons_succ])
                  refine take_run (d := (some 51)) (v := ?v16) 15 rfl rfl (by kernel_rfl) (by kernel_rfl) (by kernel_rfl) (fun _ _ _ h => h) (by rfl) hHeld ?hy16 ?rs16
                  case hy16 => (intro w hSw; (try dsimp only at hSw); go_simp) <;> (try with_reducible rfl)
                  (try simp only [Act.put, List.setIfInBounds_toArray, List.set_cons_zero, List.set_cons_succ])
                  refine take_run (d := (some 52)) (v := ?v17) 16 rfl rfl (by kernel_rfl) (by kernel_rfl) (by kernel_rfl) (fun _ _ _ h => h) (by rfl) hHeld ?hy17 ?rs17
                  case hy17 => (intro w hSw; (try dsimp only at hSw); go_simp) <;> (try with_reducible rfl)
                  (try simp only [Act.put, List.setIfInBounds_toArray, List.set_cons_zero, List.set_cons_succ])
                  refine take_run (d := (some 53)) (v := ?v18) 17 rfl rfl (by kernel_rfl) (by kernel_rfl) (by kernel_rfl) (fun _ _ _ h => h) (by rfl) hHeld ?hy18 ?rs18
                  case hy18 => (intro w hSw; (try dsimp only at hSw); go_simp) <;> (try with_reducible rfl)
                  (try simp only [Act.put, List.setIfInBounds_toArray, List.set_cons_zero, List.set_cons_succ])
                  refine take_run (d := (some 54)) (v := ?v19) 18 rfl rfl (by kernel_rfl) (by kernel_rfl) (by kernel_rfl) (fun _ _ _ h => h) (by rfl) hHeld ?hy19 ?rs19
                  case hy19 => (intro w hSw; (try dsimp only at hSw); go_simp) <;> (try with_reducible rfl)
                  (try simp only [Act.put, List.setIfInBounds_toArray, List.set_cons_zero, List.set_cons_succ])
                  refine take_run (d := (some 56)) (v := ?v20) 20 rfl rfl (by kernel_rfl) (by kernel_rfl) (by kernel_rfl) (fun _ _ _ h => h) (by rfl) hHeld ?hy20 ?rs20
                  case hy20 => (intro w hSw; (try dsimp only at hSw); go_simp) <;> (try with_reducible rfl)
                  (try simp only [Act.put, List.setIfInBounds_toArray, List.set_cons_zero, List.set_cons_succ])
                  refine take_call 19 rfl (by kernel_rfl) (by rfl) (fun K hK => ?_)
                  go_simp
                  refine (kinds_any _).mono ?_
                  rintro e w' ⟨b2, rfl, hkb, hb⟩
                  have kc := hkb.cell j _ HNM.out
                  refine hK.out _ _ (by obtain ⟨h0, h1, h2, h3, h4, hw⟩ := hHeld; exact ⟨cell_keep h0 hb, cell_keep h1 hb, cell_keep h2 hb, cell_keep h3 hb, Lib.hid (h4.out.below hb), Lib.hid (blw_trans hw.out hb)⟩) (fun hHeld => ?_)
                  clear hK K
                  (try simp only [Act.put, List.setIfInBounds_toArray, List.set_cons_zero, List.set_cons_succ])
                  refine take_run (d := (some 57)) (v := ?v22) 21 rfl rfl (by kernel_rfl) (by kernel_rfl) (by kernel_rfl) (fun _ _ _ h => h) (by rfl) hHeld ?hy22 ?rs22
                  case hy22 => (intro w hSw; (try dsimp only at hSw); go_simp) <;> (try with_reducible rfl)
                  (try simp only [Act.put, List.setIfInBounds_toArray, List.set_cons_zero, List.set_cons_succ])
                  refine take_call 22 rfl (by kernel_rfl) (by rfl) (fun K hK => ?_)
                  go_simp
                  refine hK.out _ _ hHeld (fun hHeld => ?_)
                  clear hK K
                  (try simp only [Act.put, List.setIfInBounds_toArray, List.set_cons_zero, List.set_cons_succ])
                  refine take_run (d := (some 59)) (v := ?v24) 23 rfl rfl (by kernel_rfl) (by kernel_rfl) (by kernel_rfl) (fun _ _ _ h => h) (by rfl) hHeld ?hy24 ?rs24
                  case hy24 => (intro w hSw; (try dsimp only at hSw); go_simp) <;> (try with_reducible rfl)
                  (try simp only [Act.put, List.setIfInBounds_toArray, List.set_cons_zero, List.set_cons_succ])
                  refine take_run (d := (some 60)) (v := ?v25) 24 rfl rfl (by kernel_rfl) (by kernel_rfl) (by kernel_rfl) (fun _ _ _ h => h) (by rfl) hHeld ?hy25 ?rs25
                  case hy25 => (intro w hSw; (try dsimp only at hSw); go_simp) <;> (try with_reducible rfl)
                  (try simp only [Act.put, List.setIfInBounds_toArray, List.set_cons_zero, List.set_cons_succ])
                  refine wpAnyH_done (by kernel_rfl) ?_ _
                  obtain ⟨z0, z1, z2, z3, z4, zW⟩ := hHeld
                  generalize w' = wA at *
                  clear HR2 HB2 g0 g1 y0 l0
                  have RA := z4
                  have BA := zW
                  have y0 := z2
                  have g1 := z3
                  clear z0 z1 z2 z3 z4 zW
                  have HST := Lib.hid (show s2 ++ ((if (key == nm && !![].isEmpty) = true then [dot x.text key] else []) ++ idleK x key (LK.drop (j + 1)) ++ REST) = RES by
                    have h := HST.out
                    rwa [show (nm == key) = (key == nm) from Bool.eq_iff_iff.2 ⟨fun e => by rw [beq_iff_eq] at e ⊢; exact e.symm, fun e => by rw [beq_iff_eq] at e ⊢; exact e.symm⟩] at h)
                  generalize hZ : (key == nm) = Z at *
                  clear hZ
                  cases Z with
                  | false =>
                    have HS2 := Lib.hid (show s2 ++ ((if x.kind = 4 then idleK x key (LK.drop (j + 1)) else []) ++ REST) = RES by
                      rw [if_pos HN4.out]
                      have h := HST.out
                      simpa using h)
                    clear HST
                    go_wp2_with fail
                    go_roundw
                    case rel => exact ⟨j + 1, s2, _, _, by go_num, rfl, by omega, by omega, RA, HS2, BA⟩
                    case measure => simp [RowKit.intOf]; omega
                  | true =>
                    obtain ⟨T, hT⟩ : ∃ T, T = x.text := ⟨_, rfl⟩
                    obtain ⟨X1, hX1⟩ : ∃ X1, X1 = T ++ [46] := ⟨_, rfl⟩
                    obtain ⟨X2, hX2⟩ : ∃ X2, X2 = X1 ++ key := ⟨_, rfl⟩
                    have HS2 := Lib.hid (show (s2 ++ [X2]) ++ ((if x.kind = 4 then idleK x key (LK.drop (j + 1)) else []) ++ REST) = RES by
                      rw [if_pos HN4.out, hX2, hX1, hT]
                      have h := HST.out
                      simp only [List.isEmpty_nil, Bool.not_true, Bool.not_false, Bool.and_self, if_true] at h
                      rw [List.append_assoc]
                      rw [List.append_assoc] at h
                      exact h)
                    have lT : T.length ≤ 2000000 := by rw [hT]; exact p5
                    have l1 : X1.length ≤ 3000000 := by rw [hX1]; simp; omega
                    have A1 : ∀ w, (Op.stringOp .add ⟨T.toArray⟩ ⟨#[46]⟩).run Tryz.prog w = .ok (.string ⟨X1.toArray⟩) w := fun w => by rw [hX1]; exact add_str (P := Tryz.prog) T [46] (by simp; omega) w
                    have A2 : ∀ w, (Op.stringOp .add ⟨X1.toArray⟩ ⟨key.toArray⟩).run Tryz.prog w = .ok (.string ⟨X2.toArray⟩) w := fun w => by rw [hX2]; exact add_str (P := Tryz.prog) X1 key (by omega) w
                    rw [← hT] at g1
                    clear HST hX1 hX2 hT
                    go_wp2_with fail
                    refine wp_region_held_drew (S := fun w' => w'.cell? ⟨bm, off + i * 4 + 1, none⟩ = some (.string ⟨T.toArray⟩) ∧ w'.cell? ⟨bb, oo + k * 2, none⟩ = some (.string ⟨key.toArray⟩) ∧ Hid (Below w.heap.size w w')) (by kernel_rfl) (⟨g1, y0, Lib.hid (blw_drewN BA.out 1)⟩) (fun hHeld => ?_)
                    refine take_run (d := (some 61)) (v := ?v26) 0 rfl rfl (by kernel_rfl) (by kernel_rfl) (by kernel_rfl) (fun _ _ _ h => h) (by rfl) hHeld ?hy26 ?rs26
                    case hy26 => (intro w hSw; (try dsimp only at hSw); go_simp) <;> (try with_reducible rfl)
                    (try simp only [Act.put, List.setIfInBounds_toArray, List.set_cons_zero, List.set_cons_succ])
                    refine take_run (d := (some 62)) (v := ?v27) 1 rfl rfl (by kernel_rfl) (by kernel_rfl) (by kernel_rfl) (fun _ _ _ h => h) (by rfl) hHeld ?hy27 ?rs27
                    case hy27 => (intro w hSw; (try dsimp only at hSw); go_simp) <;> (try with_reducible rfl)
                    (try simp only [Act.put, List.setIfInBounds_toArray, List.set_cons_zero, List.set_cons_succ])
                    refine take_run (d := (some 63)) (v := ?v28) 2 rfl rfl (by kernel_rfl) (by kernel_rfl) (by kernel_rfl) (fun _ _ _ h => h) (by rfl) hHeld ?hy28 ?rs28
                    case hy28 => (intro w hSw; (try dsimp only at hSw); go_simp) <;> (try with_reducible rfl)
                    (try simp only [Act.put, List.setIfInBounds_toArray, List.set_cons_zero, List.set_cons_succ])
                    refine take_run (d := (some 64)) (v := ?v29) 3 rfl rfl (by kernel_rfl) (by kernel_rfl) (by kernel_rfl) (fun _ _ _ h => h) (by rfl) hHeld ?hy29 ?rs29
                    case hy29 => (intro w hSw; (try dsimp only at hSw); go_simp) <;> (try with_reducible rfl)
                    (try simp only [Act.put, List.setIfInBounds_toArray, List.set_cons_zero, List.set_cons_succ])
                    refine take_run (d := (some 65)) (v := ?v30) 4 rfl rfl (by kernel_rfl) (by kernel_rfl) (by kernel_rfl) (fun _ _ _ h => h) (by rfl) hHeld ?hy30 ?rs30
                    case hy30 => (intro w hSw; (try dsimp only at hSw); go_simp) <;> (try with_reducible rfl)
                    (try simp only [Act.put, List.setIfInBounds_toArray, List.set_cons_zero, List.set_cons_succ])
                    refine take_run (d := (some 66)) (v := ?v31) 5 rfl rfl (by kernel_rfl) (by kernel_rfl) (by kernel_rfl) (fun _ _ _ h => h) (by rfl) hHeld ?hy31 ?rs31
                    case hy31 => (intro w hSw; (try dsimp only at hSw); go_simp) <;> (try with_reducible rfl)
                    (try simp only [Act.put, List.setIfInBounds_toArray, List.set_cons_zero, List.set_cons_succ])
                    refine take_run (d := (some 67)) (v := ?v32) 6 rfl rfl (by kernel_rfl) (by kernel_rfl) (by kernel_rfl) (fun _ _ _ h => h) (by rfl) hHeld ?hy32 ?rs32
                    case hy32 => (intro w hSw; (try dsimp only at hSw); go_simp) <;> (try with_reducible rfl)
                    (try simp only [Act.put, List.setIfInBounds_toArray, List.set_cons_zero, List.set_cons_succ])
                    refine take_run (d := (some 68)) (v := ?v33) 7 rfl rfl (by kernel_rfl) (by kernel_rfl) (by kernel_rfl) (fun _ _ _ h => h) (by rfl) hHeld ?hy33 ?rs33
                    case hy33 => (intro w hSw; (try dsimp only at hSw); go_simp) <;> (try with_reducible rfl)
                    (try simp only [Act.put, List.setIfInBounds_toArray, List.set_cons_zero, List.set_cons_succ])
                    refine take_run (d := (some 69)) (v := ?v34) 8 rfl rfl (by kernel_rfl) (by kernel_rfl) (by kernel_rfl) (fun _ _ _ h => h) (by rfl) hHeld ?hy34 ?rs34
                    case hy34 => (intro w hSw; (try dsimp only at hSw); go_simp) <;> (try with_reducible rfl)
                    (try simp only [Act.put, List.setIfInBounds_toArray, List.set_cons_zero, List.set_cons_succ])
                    refine take_run (d := (some 70)) (v := ?v35) 9 rfl rfl (by kernel_rfl) (by kernel_rfl) (by kernel_rfl) (fun _ _ _ h => h) (by rfl) hHeld ?hy35 ?rs35
                    case hy35 => (intro w hSw; (try dsimp only at hSw); go_simp) <;> (try with_reducible rfl)
                    (try simp only [Act.put, List.setIfInBounds_toArray, List.set_cons_zero, List.set_cons_succ])
                    refine take_run (d := (some 71)) (v := ?v36) 10 rfl rfl (by kernel_rfl) (by kernel_rfl) (by kernel_rfl) (fun _ _ _ h => h) (by rfl) hHeld ?hy36 ?rs36
                    case hy36 => (intro w hSw; (try dsimp only at hSw); go_simp) <;> (try with_reducible rfl)
                    (try simp only [Act.put, List.setIfInBounds_toArray, List.set_cons_zero, List.set_cons_succ])
                    refine take_run (d := (some 72)) (v := ?v37) 11 rfl rfl (by kernel_rfl) (by kernel_rfl) (by kernel_rfl) (fun _ _ _ h => h) (by rfl) hHeld ?hy37 ?rs37
                    case hy37 => (intro w hSw; (try dsimp only at hSw); go_simp) <;> (try with_reducible rfl)
                    (try simp only [Act.put, List.setIfInBounds_toArray, List.set_cons_zero, List.set_cons_succ])
                    refine take_run (d := (some 73)) (v := ?v38) 12 rfl rfl (by kernel_rfl) (by kernel_rfl) (by kernel_rfl) (fun _ _ _ h => h) (by rfl) hHeld ?hy38 ?rs38
                    case hy38 => (intro w hSw; (try dsimp only at hSw); go_simp) <;> (try with_reducible rfl)
                    (try simp only [Act.put, List.setIfInBounds_toArray, List.set_cons_zero, List.set_cons_succ])
                    refine take_call 13 rfl (by kernel_rfl) (by rfl) (fun K hK => ?_)
                    go_simp
                    have hHeld0 := hHeld
                    obtain ⟨h0, h1, hw⟩ := hHeld
                    refine hK.out _ _ (by exact ⟨cell_keep h0 (blw_alloc _ _), cell_keep h1 (blw_alloc _ _), Lib.hid (blw_trans hw.out (blw_alloc _ _))⟩) (fun hHeld => ?_)
                    clear hK K h0 h1 hw
                    (try simp only [Act.put, List.setIfInBounds_toArray, List.set_cons_zero, List.set_cons_succ])
                    refine take_call 14 rfl (by kernel_rfl) (by rfl) (fun K hK => ?_)
                    have hHeld0 := hHeld
                    obtain ⟨h0, h1, hw⟩ := hHeld
                    refine wp_nappend _ _ _ 45 rfl w.heap.size 9 i0 (.string ByteArray.empty) 1 16 Tryz.underlying45 hi0 hz0 hz1 hz2 rfl (by decide) _ s2.length (s2.map stV) (by simp [go_sem]) ((RA.out.below (blw_drewN (Below.refl _ _) 1)).below (blw_alloc _ _)).row ⟨wA.heap.size, 0, none⟩ 1 1 [stV X2] (by simp [go_sem]) rfl (cell_one_new (World.drew wA) _ _) (fun u hu => by simp at hu; subst hu; rfl) (by unfold maxLen; omega) (by omega) hw.out.size ?_
                    intro v' w2 hown hgrow hnil
                    have RR := Lib.hid (((RA.out.below (blw_drewN (Below.refl _ _) 1)).below (blw_alloc _ _)).app (t := [X2]) rfl hown hgrow hnil)
                    obtain ⟨ra, rc, rfl⟩ := mrow_slice hown
                    refine hK.out _ _ (⟨hgrow.cell h0 (fun e => by have := (RA.out.row.lt _ e.symm).1; dsimp only at this; omega), hgrow.cell h1 (fun e => by have := (RA.out.row.lt _ e.symm).1; dsimp only at this; omega), Lib.hid (hw.out.grown hgrow hw.out.size (fun k hk => (RA.out.row.lt k hk).1))⟩) (fun hHeld => ?_)
                    clear hK K
                    (try simp only [Act.put, List.setIfInBounds_toArray, List.set_cons_zero, List.set_cons_succ])
                    refine take_run (d := (some 5)) (v := ?v41) 15 rfl rfl (by kernel_rfl) (by kernel_rfl) (by kernel_rfl) (fun _ _ _ h => h) (by rfl) hHeld ?hy41 ?rs41
                    case hy41 => (intro w hSw; (try dsimp only at hSw); go_simp) <;> (try with_reducible rfl)
                    (try simp only [Act.put, List.setIfInBounds_toArray, List.set_cons_zero, List.set_cons_succ])
                    refine wpAnyH_done (by kernel_rfl) ?_ _
                    obtain ⟨z0, z1, zW⟩ := hHeld
                    go_wp2_with fail
                    go_roundw
                    case rel => exact ⟨j + 1, s2 ++ [X2], _, _, by go_num, by rw [List.length_append]; rfl, by omega, by rw [List.length_append]; show s2.length + 1 ≤ _; omega, by rw [List.length_append]; exact RR, HS2, zW⟩
                    case measure => simp [RowKit.intOf]; omega
              · have hj' : ¬ (j : Int) < 5 := by omega
                have hst := HS.out
                rw [List.drop_of_length_le (by omega)] at hst
                have HS3 := Lib.hid (show s2 ++ REST = RES by
                  have e0 : (if x.kind = 4 then idleK x key [] else []) = [] := by split <;> rfl
                  rw [e0] at hst
                  exact hst)
                clear HS hst HKA
                have j1 := cell_keep q1 HB2.out
                have u0 := HR2.out.set.cell 0 _ rfl
                have u1 := HR2.out.set.cell 1 _ rfl
                have u2 := HR2.out.set.cell 2 _ rfl
                have u3 := HR2.out.set.cell 3 _ rfl
                have u4 := HR2.out.set.cell 4 _ rfl
                have HS6 := Lib.hid (show s2 ++ (eachM (fun _ => []) (idleN [t0, t1, t2, t3, t4]) f body ++ (((cs.drop (k + 1)).flatMap fun y => (if x.kind = 4 then idleK x y.1 LK else []) ++ eachM (fun _ => []) (idleN [t0, t1, t2, t3, t4]) f y.2) ++ eachM (fun _ => []) (idleN [t0, t1, t2, t3, t4]) (f + 1) (m.drop (i + 1)))) = RES by rw [← HREST.out]; exact HS3.out)
                generalize hR7 : eachM (fun _ => []) (idleN [t0, t1, t2, t3, t4]) f body = R7 at *
                clear HS3 HREST hR7
                go_wp2_with fail
                refine wp_region_held_drew (S := fun w' => w'.cell? ⟨bb, oo + k * 2 + 1, none⟩ = some (.slice a9 n9 c9) ∧ w'.cell? ⟨w.heap.size, 0, none⟩ = some (.string ⟨t0.toArray⟩) ∧ w'.cell? ⟨w.heap.size, 1, none⟩ = some (.string ⟨t1.toArray⟩) ∧ w'.cell? ⟨w.heap.size, 2, none⟩ = some (.string ⟨t2.toArray⟩) ∧ w'.cell? ⟨w.heap.size, 3, none⟩ = some (.string ⟨t3.toArray⟩) ∧ w'.cell? ⟨w.heap.size, 4, none⟩ = some (.string ⟨t4.toArray⟩) ∧ Hid (Below w.heap.size w w')) (by kernel_rfl) (⟨j1, u0, u1, u2, u3, u4, Lib.hid (blw_drewN HB2.out 1)⟩) (fun hHeld => ?_)
                refine take_run (d := (some 76)) (v := ?v42) 0 rfl rfl (by kernel_rfl) (by kernel_rfl) (by kernel_rfl) (fun _ _ _ h => h) (by rfl) hHeld ?hy42 ?rs42
                case hy42 => (intro w hSw; (try dsimp only at hSw); go_simp) <;> (try with_reducible rfl)
                (try simp only [Act.put, List.setIfInBounds_toArray, List.set_cons_zero, List.set_cons_succ])
                refine take_run (d := (some 77)) (v := ?v43) 1 rfl rfl (by kernel_rfl) (by kernel_rfl) (by kernel_rfl) (fun _ _ _ h => h) (by rfl) hHeld ?hy43 ?rs43
                case hy43 => (intro w hSw; (try dsimp only at hSw); go_simp) <;> (try with_reducible rfl)
                (try simp only [Act.put, List.setIfInBounds_toArray, List.set_cons_zero, List.set_cons_succ])
                refine take_run (d := (some 78)) (v := ?v44) 2 rfl rfl (by kernel_rfl) (by kernel_rfl) (by kernel_rfl) (fun _ _ _ h => h) (by rfl) hHeld ?hy44 ?rs44
                case hy44 => (intro w hSw; (try dsimp only at hSw); go_simp) <;> (try with_reducible rfl)
                (try simp only [Act.put, List.setIfInBounds_toArray, List.set_cons_zero, List.set_cons_succ])
                refine take_run (d := (some 79)) (v := ?v45) 3 rfl rfl (by kernel_rfl) (by kernel_rfl) (by kernel_rfl) (fun _ _ _ h => h) (by rfl) hHeld ?hy45 ?rs45
                case hy45 => (intro w hSw; (try dsimp only at hSw); go_simp) <;> (try with_reducible rfl)
                (try simp only [Act.put, List.setIfInBounds_toArray, List.set_cons_zero, List.set_cons_succ])
                refine take_run (d := (some 80)) (v := ?v46) 4 rfl rfl (by kernel_rfl) (by kernel_rfl) (by kernel_rfl) (fun _ _ _ h => h) (by rfl) hHeld ?hy46 ?rs46
                case hy46 => (intro w hSw; (try dsimp only at hSw); go_simp) <;> (try with_reducible rfl)
                (try simp only [Act.put, List.setIfInBounds_toArray, List.set_cons_zero, List.set_cons_succ])
                refine take_run (d := (some 81)) (v := ?v47) 5 rfl rfl (by kernel_rfl) (by kernel_rfl) (by kernel_rfl) (fun _ _ _ h => h) (by rfl) hHeld ?hy47 ?rs47
                case hy47 => (intro w hSw; (try dsimp only at hSw); go_simp) <;> (try with_reducible rfl)
                (try simp only [Act.put, List.setIfInBounds_toArray, List.set_cons_zero, List.set_cons_succ])
                refine take_run (d := (some 82)) (v := ?v48) 6 rfl rfl (by kernel_rfl) (by kernel_rfl) (by kernel_rfl) (fun _ _ _ h => h) (by rfl) hHeld ?hy48 ?rs48
                case hy48 => (intro w hSw; (try dsimp only at hSw); go_simp) <;> (try with_reducible rfl)
                (try simp only [Act.put, List.setIfInBounds_toArray, List.set_cons_zero, List.set_cons_succ])
                refine take_call 7 rfl (by kernel_rfl) (by rfl) (fun K hK => ?_)
                go_simp
                refine (CRh.out _ (by obtain ⟨_, _, _, _, _, _, h7⟩ := hHeld; exact h7.out)).mono ?_
                rintro e w' ⟨u7, rfl, hr7, hl7, hb⟩
                have R7b := Lib.hid ((HR2.out.below (blw_drewN (Below.refl _ _) 1)).below hb)
                have HR7 := Lib.hid hr7
                obtain ⟨a7, c7, rfl⟩ := mrow_slice hr7
                refine hK.out _ _ (by obtain ⟨h0, h1, h2, h3, h4, h5, hw⟩ := hHeld; exact ⟨cell_keep h0 hb, cell_keep h1 hb, cell_keep h2 hb, cell_keep h3 hb, cell_keep h4 hb, cell_keep h5 hb, Lib.hid (blw_trans hw.out hb)⟩) (fun hHeld => ?_)
                clear hK K
                (try simp only [Act.put, List.setIfInBounds_toArray, List.set_cons_zero, List.set_cons_succ])
                refine take_call 8 rfl (by kernel_rfl) (by rfl) (fun K hK => ?_)
                have hHeld0 := hHeld
                obtain ⟨h0, h1, h2, h3, h4, h5, hw⟩ := hHeld
                refine wp_append_row _ _ _ 45 rfl w.heap.size 9 i0 (.string ByteArray.empty) 1 16 Tryz.underlying45 hi0 hz0 hz1 hz2 rfl (by decide) _ s2.length (s2.map stV) (by simp [go_sem]) R7b.out.row _ _ R7.length (R7.map stV) (by simp [go_sem]) HR7.out (stV_one _) (by unfold maxLen; omega) (by omega) hw.out.size ?_
                intro v' w2 hown hgrow hnil
                have RR := Lib.hid (R7b.out.app (t := R7) rfl hown hgrow hnil)
                obtain ⟨ra, rc, rfl⟩ := mrow_slice hown
                refine hK.out _ _ (⟨hgrow.cell h0 (fun e => by have := (R7b.out.row.lt _ e.symm).1; dsimp only at this; omega), hgrow.cell h1 (fun e => R7b.out.nk e.symm), hgrow.cell h2 (fun e => R7b.out.nk e.symm), hgrow.cell h3 (fun e => R7b.out.nk e.symm), hgrow.cell h4 (fun e => R7b.out.nk e.symm), hgrow.cell h5 (fun e => R7b.out.nk e.symm), Lib.hid (hw.out.grown hgrow hw.out.size (fun k hk => (R7b.out.row.lt k hk).1))⟩) (fun hHeld => ?_)
                clear hK K
                (try simp only [Act.put, List.setIfInBounds_toArray, List.set_cons_zero, List.set_cons_succ])
                refine take_run (d := (some 5)) (v := ?v51) 9 rfl rfl (by kernel_rfl) (by kernel_rfl) (by kernel_rfl) (fun _ _ _ h => h) (by rfl) hHeld ?hy51 ?rs51
                case hy51 => (intro w hSw; (try dsimp only at hSw); go_simp) <;> (try with_reducible rfl)
                (try simp only [Act.put, List.setIfInBounds_toArray, List.set_cons_zero, List.set_cons_succ])
                refine wpAnyH_done (by kernel_rfl) ?_ _
                obtain ⟨z0, z1, z2, z3, z4, z5, zW⟩ := hHeld
                have HL6 := Lib.hid (show (s2 ++ R7) ++ (((cs.drop (k + 1)).flatMap fun y => (if x.kind = 4 then idleK x y.1 LK else []) ++ eachM (fun _ => []) (idleN [t0, t1, t2, t3, t4]) f y.2) ++ eachM (fun _ => []) (idleN [t0, t1, t2, t3, t4]) (f + 1) (m.drop (i + 1))) = RES by rw [← HS6.out]; simp only [List.append_assoc])
                have HC6 := Lib.hid (show (s2 ++ R7).length + 5 * (LC - (k + 1)) + ((((cs.drop (k + 1)).map (·.2)).map (cnt f)).sum + cnt (f + 1) (m.drop (i + 1))) * 10000005 ≤ TT by rw [List.length_append]; omega)
                clear HS6 hct CRh
                go_wp2_with fail
                go_roundw
                case rel => exact ⟨k + 1, s2 ++ R7, _, _, by go_num, by rw [List.length_append], by omega, by rw [List.length_append]; exact RR, HL6, HC6, zW⟩
                case measure => simp [RowKit.intOf]; omega
          · have hk' : ¬ (k : Int) < (LC : Int) := by omega
            have hst := HL.out
            have hct := HC.out
            rw [List.drop_of_length_le (by omega)] at hst hct
            have HL4 := Lib.hid (show s4 ++ eachM (fun _ => []) (idleN [t0, t1, t2, t3, t4]) (f + 1) (m.drop (i + 1)) = RES from hst)
            have HC4 := Lib.hid (show s4.length + cnt (f + 1) (m.drop (i + 1)) * 10000005 ≤ TT by
              have h : s4.length + 5 * (LC - k) + cnt (f + 1) (m.drop (i + 1)) * 10000005 ≤ TT := by simpa using hct
              omega)
            clear hst hct HL HC
            go_wp2_with fail
            go_roundw
            case rel => exact ⟨i + 1, s4, _, _, by go_num, rfl, by omega, HR4, HL4, HC4, HB4⟩
            case measure => simp [RowKit.intOf]; omega
      · have hi' : ¬ (i : Int) < (L : Int) := by omega
        have hst := HL.out
        have hct := HC.out
        rw [List.drop_of_length_le (by omega)] at hst hct
        have hst' : s1 = RES := by rw [← hst]; exact (List.append_nil s1).symm
        subst hst'
        clear hst
        go_wp2_with fail
        go_ret
        exact ⟨_, rfl, HR.out.row, by omega, HB.out⟩
end Go.Proofs.YtainindkndjkbaaGreatDoor
namespace Go.Proofs.YtainindkndjkbaaGreatDoor
open Go.RowKit Ms
set_option maxRecDepth 100000 in
set_option maxHeartbeats 20000000 in
theorem qmiss_any (t0 t1 t2 t3 t4 : List UInt8) (f : Nat) : ∀ (v : Value) (m : List Nd) (w : World), MsgAt f w v m → m.length ≤ 2000000 → cnt f m * 2000005 ≤ 1000000000 →
    Calls Tryz.prog 18 #[v, .agg #[.string ⟨t0.toArray⟩, .string ⟨t1.toArray⟩, .string ⟨t2.toArray⟩, .string ⟨t3.toArray⟩, .string ⟨t4.toArray⟩]] w fun e w' => ∃ u, e = .returned u ∧ w'.ownsRow w.heap.size 9 1 u (eachM (missN [t0, t1, t2, t3, t4]) (fun _ _ => []) f m).length ((eachM (missN [t0, t1, t2, t3, t4]) (fun _ _ => []) f m).map stV) ∧ (eachM (missN [t0, t1, t2, t3, t4]) (fun _ _ => []) f m).length ≤ cnt f m * 2000005 ∧ Below w.heap.size w w' := by
  induction f with
  | zero =>
    intro v m w h hl hc
    rcases h with ⟨rfl, A, cap, rfl⟩ | ⟨b, off, cap, _, hpos, _, _, hx⟩
    · have W0 := Lib.hid (blw_alloc w (.cells #[.string ⟨t0.toArray⟩, .string ⟨t1.toArray⟩, .string ⟨t2.toArray⟩, .string ⟨t3.toArray⟩, .string ⟨t4.toArray⟩] 44))
      go_enter Tryz.func18, Tryz.ntmps18
      go_wp2_with fail
      refine (settexts_any t0 t1 t2 t3 t4 _).mono ?_
      rintro e w1 ⟨b, rfl, _, hb⟩
      have W1 := Lib.hid (blw_trans W0.out hb)
      clear hb
      go_wp2_with fail
      go_loopw [5, 7] (fun vu vi wr => vi = .int .i64 0 ∧ vu = .slice none 0 0 ∧ w1 = wr) (fun _ _ _ => 0)
      case atStart => exact ⟨rfl, rfl, rfl⟩
      case round =>
        obtain ⟨rfl, rfl, rfl⟩ := hrel
        go_wp2_with fail
        go_ret
        exact ⟨_, rfl, ⟨rfl, .inl ⟨rfl, rfl⟩⟩, Nat.zero_le _, W1.out⟩
    · exact absurd (hx 0 _ (List.getElem?_eq_getElem hpos)) (by simp [NdC])
  | succ f ih =>
    intro v m w h hl hc
    obtain ⟨i0, hi0, hz0, hz1, hz2⟩ := info_parts infoStrM
    have IH := Lib.hid ih
    obtain ⟨RES, hRES⟩ : ∃ RES, RES = eachM (missN [t0, t1, t2, t3, t4]) (fun _ _ => []) (f + 1) m := ⟨_, rfl⟩
    obtain ⟨TT, hTT⟩ : ∃ TT, TT = cnt (f + 1) m * 2000005 := ⟨_, rfl⟩
    rw [← hRES, ← hTT]
    have hT9 : TT ≤ 1000000000 := by omega
    have HRES := Lib.hid (show ([] : List (List UInt8)) ++ eachM (missN [t0, t1, t2, t3, t4]) (fun _ _ => []) (f + 1) (m.drop 0) = RES by rw [List.drop_zero, hRES]; rfl)
    have HCN := Lib.hid (show ([] : List (List UInt8)).length + cnt (f + 1) (m.drop 0) * 2000005 ≤ TT by rw [List.drop_zero, hTT]; simp)
    clear hRES ih hc hTT
    have HM := Lib.hid h
    obtain ⟨A, cap, rfl, _, hel⟩ := h.spread
    have hcap : m.length ≤ cap ∨ m.length = 0 := by
      rcases h with ⟨e, _⟩ | ⟨_, _, _, e, _, q, _, _⟩
      · exact .inr (by rw [e]; rfl)
      · injection e with _ _ e; exact .inl (by omega)
    have HX := Lib.hid hel
    clear hel h HM
    generalize hlm : m.length = L at *
    have B0 := Lib.hid (Boxed.made w #[.string ⟨t0.toArray⟩, .string ⟨t1.toArray⟩, .string ⟨t2.toArray⟩, .string ⟨t3.toArray⟩, .string ⟨t4.toArray⟩] 44)
    have W0 := Lib.hid (blw_alloc w (.cells #[.string ⟨t0.toArray⟩, .string ⟨t1.toArray⟩, .string ⟨t2.toArray⟩, .string ⟨t3.toArray⟩, .string ⟨t4.toArray⟩] 44))
    go_enter Tryz.func18, Tryz.ntmps18
    go_wp2_with fail
    refine (settexts_any t0 t1 t2 t3 t4 _).mono ?_
    rintro e w1 ⟨b, rfl, hbx, hb⟩
    have W1 := Lib.hid (blw_trans W0.out hb)
    have R1 := Lib.hid (show RefI w.heap.size w.heap.size b #[.string ⟨t0.toArray⟩, .string ⟨t1.toArray⟩, .string ⟨t2.toArray⟩, .string ⟨t3.toArray⟩, .string ⟨t4.toArray⟩] (strC [t0, t1, t2, t3, t4]) [] (.slice none 0 0) w1 from ⟨World.ownsRow_nil _ _ _ _, B0.out.below hb, hbx, by simp [Value.ownBlock], by simp [Value.ownBlock]⟩)
    clear hb hbx W0 B0
    go_wp2_with fail
    go_loopw [5, 7] (fun vu vi wr => ∃ (i : Nat) (s1 : List (List UInt8)) (ua : Option Addr) (uc : Nat), vi = .int .i64 (i : Int) ∧ vu = .slice ua s1.length uc ∧ i ≤ L ∧ Hid (RefI w.heap.size w.heap.size b #[.string ⟨t0.toArray⟩, .string ⟨t1.toArray⟩, .string ⟨t2.toArray⟩, .string ⟨t3.toArray⟩, .string ⟨t4.toArray⟩] (strC [t0, t1, t2, t3, t4]) s1 (.slice ua s1.length uc) wr) ∧ Hid (s1 ++ eachM (missN [t0, t1, t2, t3, t4]) (fun _ _ => []) (f + 1) (m.drop i) = RES) ∧ Hid (s1.length + cnt (f + 1) (m.drop i) * 2000005 ≤ TT) ∧ Hid (Below w.heap.size w wr)) (fun _ vi _ => L - (RowKit.intOf vi).toNat)
    case atStart => exact ⟨0, [], none, 0, rfl, rfl, Nat.zero_le _, R1, HRES, HCN, W1⟩
    case round =>
      obtain ⟨i, s1, ua, uc, rfl, rfl, hi, HR, HL, HC, HB⟩ := hrel
      clear HRES HCN R1 W1
      by_cases hlt : i < L
      · have hi' : (i : Int) < (L : Int) := by omega
        have hcc : L ≤ cap := by omega
        have hii : (0 : Int) ≤ (i : Int) := by omega
        obtain ⟨x, hxi⟩ : ∃ x, m[i]? = some x := ⟨m[i]'(by omega), List.getElem?_eq_getElem (by omega)⟩
        obtain ⟨bm, off, rfl, hnd⟩ := HX.out i x hxi
        obtain ⟨a0, n0, c0, p0, p1, p2, p3, p4, p5, p6⟩ := hnd
        have wi : IntKind.i64.wrap ((i : Int) + 1) = (i : Int) + 1 := IntWalk.i64_in _ (by omega)
        have H4 := Lib.hid (show CassAt f w (.slice a0 n0 c0) x.cases from p4)
        have lcs : (casesOf x).length ≤ 2000000 := by
          unfold casesOf; split
          · exact p6
          · simp
        have hst := HL.out
        rw [each_step f hxi] at hst
        have hct := HC.out
        rw [cnt_step f hxi] at hct
        obtain ⟨REST, hREST⟩ : ∃ REST, REST = ((casesOf x).flatMap fun y => (if x.kind = 4 then (fun (_ : Nd) (_ : List UInt8) => ([] : List (List UInt8))) x y.1 else []) ++ eachM (missN [t0, t1, t2, t3, t4]) (fun _ _ => []) f y.2) ++ eachM (missN [t0, t1, t2, t3, t4]) (fun _ _ => []) (f + 1) (m.drop (i + 1)) := ⟨_, rfl⟩
        rw [← hREST] at hst
        have HREST := Lib.hid hREST
        clear hREST HL HC hxi
        have hL5 : (kS [t0, t1, t2, t3, t4]).length = 5 := rfl
        have HKA := Lib.hid fun k y h => kL_at (S := [t0, t1, t2, t3, t4]) (k := k) (y := y) h
        have HL2 := Lib.hid (show s1 ++ ((if x.kind = 4 then missK x ((kS [t0, t1, t2, t3, t4]).drop 0) else []) ++ REST) = RES from hst)
        clear hst
        generalize kS [t0, t1, t2, t3, t4] = LK at *
        go_wp2_with fail
        go_loopw [5, 8] (fun vu vk wx => ∃ (k : Nat) (s2 : List (List UInt8)) (ua : Option Addr) (uc : Nat), vk = .int .i64 (k : Int) ∧ vu = .slice ua s2.length uc ∧ k ≤ 5 ∧ s2.length ≤ s1.length + k ∧ Hid (RefI w.heap.size w.heap.size b #[.string ⟨t0.toArray⟩, .string ⟨t1.toArray⟩, .string ⟨t2.toArray⟩, .string ⟨t3.toArray⟩, .string ⟨t4.toArray⟩] (strC [t0, t1, t2, t3, t4]) s2 (.slice ua s2.length uc) wx) ∧ Hid (s2 ++ ((if x.kind = 4 then missK x (LK.drop k) else []) ++ REST) = RES) ∧ Hid (Below w.heap.size w wx)) (fun _ vk _ => 5 - (RowKit.intOf vk).toNat)
        case atStart => exact ⟨0, s1, ua, uc, rfl, rfl, by omega, by omega, HR, HL2, HB⟩
        case round =>
          obtain ⟨k, s2, va, vc, rfl, rfl, hk5, hsl, HR2, HS, HB2⟩ := hrel
          clear HR HL2 HB
          have g0 := cell_keep p0 HB2.out
          have g1 := cell_keep p1 HB2.out
          have g2 := cell_keep p2 HB2.out
          have g3 := cell_keep p3 HB2.out
          obtain ⟨Z7, hZ7⟩ : ∃ Z7, Z7 = (decide (k < 5) && x.kind == 4) := ⟨_, rfl⟩
          go_upto_region 7 with fail
          go_cut [30] from 19 to 30 (fun s30 wx => s30 = .bool Z7 ∧ wx = wr)
          case first =>
            by_cases hlk : k < 5
            · have hk' : (k : Int) < 5 := by omega
              have dk : decide (k < 5) = true := decide_eq_true hlk
              have HZ := Lib.hid (show Z7 = (x.kind == 4) by rw [hZ7, dk]; rfl)
              clear hZ7 dk
              go_wp2_with fail
              go_meet
              exact ⟨by rw [HZ.out], rfl⟩
            · have hk' : ¬ (k : Int) < 5 := by omega
              have dk : decide (k < 5) = false := decide_eq_false hlk
              have HZ := Lib.hid (show Z7 = false by rw [hZ7, dk]; rfl)
              clear hZ7 dk
              go_wp2_with fail
              go_meet
              exact ⟨by rw [HZ.out], rfl⟩
          case rest =>
          obtain ⟨rfl, rfl⟩ := hcut
          cases hz7 : Z7 with
          | false =>
            have HS3 := Lib.hid (show s2 ++ REST = RES by
              have h := HS.out
              by_cases h4 : x.kind = 4
              · have hk0 : ¬ k < 5 := fun h5 => by rw [hz7, h4] at hZ7; simp at hZ7; omega
                rw [if_pos h4, List.drop_of_length_le (by omega)] at h
                exact h
              · rw [if_neg h4] at h; exact h)
            clear HS hZ7 hz7 HKA
            go_wp2_with fail
            refine (qcases_to (f := f) x _ (cass_below H4.out HB2.out)).mono ?_
            rintro e w3 ⟨A1, C1, rfl, hto, hb⟩
            have R3 := Lib.hid (HR2.out.below hb)
            have B3 := Lib.hid (HB2.out.trans (hb.mono HB2.out.size))
            have HCS := hto w H4.out
            have hRR : REST = ((casesOf x).flatMap fun y => eachM (missN [t0, t1, t2, t3, t4]) (fun _ _ => []) f y.2) ++ eachM (missN [t0, t1, t2, t3, t4]) (fun _ _ => []) (f + 1) (m.drop (i + 1)) := by
              rw [HREST.out]
              congr 1
              congr 1
              funext y
              split <;> rfl
            have HL2 := Lib.hid (show s2 ++ (((casesOf x).flatMap fun y => eachM (missN [t0, t1, t2, t3, t4]) (fun _ _ => []) f y.2) ++ eachM (missN [t0, t1, t2, t3, t4]) (fun _ _ => []) (f + 1) (m.drop (i + 1))) = RES by rw [← hRR]; exact HS3.out)
            clear hto hb H4 HR2 HB2 g0 g1 g2 g3 hRR HREST HS3 p0 p1 p2 p3 p4
            generalize casesOf x = cs at *
            obtain ⟨A2, C2, e2, _, hel⟩ := HCS.spread
            injection e2 with e3 e4 e5
            subst e3 e5
            have hcapc : cs.length ≤ C1 ∨ cs.length = 0 := by
              rcases HCS with ⟨e, _⟩ | ⟨_, _, _, e, _, q, _, _⟩
              · exact .inr (by rw [e]; rfl)
              · injection e with _ _ e; exact .inl (by omega)
            have HEL := Lib.hid hel
            clear hel HCS
            have HL3 := Lib.hid (show s2 ++ (((cs.drop 0).flatMap fun y => eachM (missN [t0, t1, t2, t3, t4]) (fun _ _ => []) f y.2) ++ eachM (missN [t0, t1, t2, t3, t4]) (fun _ _ => []) (f + 1) (m.drop (i + 1))) = RES by rw [List.drop_zero]; exact HL2.out)
            have HC3 := Lib.hid (show s2.length + ((((cs.drop 0).map (·.2)).map (cnt f)).sum + cnt (f + 1) (m.drop (i + 1))) * 2000005 ≤ TT by rw [List.drop_zero]; omega)
            clear HL2 hct hsl
            generalize hlc : cs.length = LC at *
            go_wp2_with fail
            go_loopw [5, 10] (fun vu vk wx => ∃ (k : Nat) (s4 : List (List UInt8)) (ua : Option Addr) (uc : Nat), vk = .int .i64 (k : Int) ∧ vu = .slice ua s4.length uc ∧ k ≤ LC ∧ Hid (RefI w.heap.size w.heap.size b #[.string ⟨t0.toArray⟩, .string ⟨t1.toArray⟩, .string ⟨t2.toArray⟩, .string ⟨t3.toArray⟩, .string ⟨t4.toArray⟩] (strC [t0, t1, t2, t3, t4]) s4 (.slice ua s4.length uc) wx) ∧ Hid (s4 ++ (((cs.drop k).flatMap fun y => eachM (missN [t0, t1, t2, t3, t4]) (fun _ _ => []) f y.2) ++ eachM (missN [t0, t1, t2, t3, t4]) (fun _ _ => []) (f + 1) (m.drop (i + 1))) = RES) ∧ Hid (s4.length + ((((cs.drop k).map (·.2)).map (cnt f)).sum + cnt (f + 1) (m.drop (i + 1))) * 2000005 ≤ TT) ∧ Hid (Below w.heap.size w wx)) (fun _ vk _ => LC - (RowKit.intOf vk).toNat)
            case atStart => exact ⟨0, s2, va, vc, rfl, rfl, Nat.zero_le _, R3, HL3, HC3, B3⟩
            case round =>
              obtain ⟨k, s4, ya, yc, rfl, rfl, hk, HR4, HL, HC, HB4⟩ := hrel
              clear HL3 HC3 R3 B3
              by_cases hltk : k < LC
              · have hk' : (k : Int) < (LC : Int) := by omega
                have hk0 : (0 : Int) ≤ (k : Int) := by omega
                have hccc : LC ≤ C1 := by omega
                obtain ⟨y, hyk⟩ : ∃ y, cs[k]? = some y := ⟨cs[k]'(by omega), List.getElem?_eq_getElem (by omega)⟩
                obtain ⟨bb, oo, rfl, a9, n9, c9, q0, q1, q2, q3, q4⟩ := HEL.out k y hyk
                have j1 := cell_keep q1 HB4.out
                have hbl := World.block_lt_of_cell? _ _ q1
                dsimp only at hbl
                have hst := HL.out
                have hct := HC.out
                rw [flat_step hyk] at hst
                rw [cases_step hyk, List.map_cons, List.sum_cons] at hct
                have wk : IntKind.i64.wrap ((k : Int) + 1) = (k : Int) + 1 := IntWalk.i64_in _ (by omega)
                have CRh := Lib.hid fun wx (hb : Below w.heap.size w wx) => IH.out (.slice a9 n9 c9) y.2 wx (msg_below q2 hb) q4 (by omega)
                have u0 := HR4.out.set.cell 0 _ rfl
                have u1 := HR4.out.set.cell 1 _ rfl
                have u2 := HR4.out.set.cell 2 _ rfl
                have u3 := HR4.out.set.cell 3 _ rfl
                have u4 := HR4.out.set.cell 4 _ rfl
                have hsz4 := HB4.out.size
                generalize hR7 : eachM (missN [t0, t1, t2, t3, t4]) (fun _ _ => []) f y.2 = R7 at *
                have HST := Lib.hid hst
                clear hst HL HC q0 q1 q2 hyk hR7
                go_wp2_with fail
                refine wp_region_held_drew (S := fun w' => w'.cell? ⟨bb, oo + k * 2 + 1, none⟩ = some (.slice a9 n9 c9) ∧ w'.cell? ⟨w.heap.size, 0, none⟩ = some (.string ⟨t0.toArray⟩) ∧ w'.cell? ⟨w.heap.size, 1, none⟩ = some (.string ⟨t1.toArray⟩) ∧ w'.cell? ⟨w.heap.size, 2, none⟩ = some (.string ⟨t2.toArray⟩) ∧ w'.cell? ⟨w.heap.size, 3, none⟩ = some (.string ⟨t3.toArray⟩) ∧ w'.cell? ⟨w.heap.size, 4, none⟩ = some (.string ⟨t4.toArray⟩) ∧ Hid (Below w.heap.size w w')) (by kernel_rfl) (⟨j1, u0, u1, u2, u3, u4, Lib.hid (blw_drewN HB4.out 1)⟩) (fun hHeld => ?_)
                refine take_run (d := (some 75)) (v := ?v1) 0 rfl rfl (by kernel_rfl) (by kernel_rfl) (by kernel_rfl) (fun _ _ _ h => h) (by rfl) hHeld ?hy1 ?rs1
                case hy1 => (intro w hSw; (try dsimp only at hSw); go_simp) <;> (try with_reducible rfl)
                (try simp only [Act.put, List.setIfInBounds_toArray, List.set_cons_zero, List.set_cons_succ])
                refine take_run (d := (some 76)) (v := ?v2) 1 rfl rfl (by kernel_rfl) (by kernel_rfl) (by kernel_rfl) (fun _ _ _ h => h) (by rfl) hHeld ?hy2 ?rs2
                case hy2 => (intro w hSw; (try dsimp only at hSw); go_simp) <;> (try with_reducible rfl)
                (try simp only [Act.put, List.setIfInBounds_toArray, List.set_cons_zero, List.set_cons_succ])
                refine take_run (d := (some 77)) (v := ?v3) 2 rfl rfl (by kernel_rfl) (by kernel_rfl) (by kernel_rfl) (fun _ _ _ h => h) (by rfl) hHeld ?hy3 ?rs3
                case hy3 => (intro w hSw; (try dsimp only at hSw); go_simp) <;> (try with_reducible rfl)
                (try simp only [Act.put, List.setIfInBounds_toArray, List.set_cons_zero, List.set_cons_succ])
                refine take_run (d := (some 78)) (v := ?v4) 3 rfl rfl (by kernel_rfl) (by kernel_rfl) (by kernel_rfl) (fun _ _ _ h => h) (by rfl) hHeld ?hy4 ?rs4
                case hy4 => (intro w hSw; (try dsimp only at hSw); go_simp) <;> (try with_reducible rfl)
                (try simp only [Act.put, List.setIfInBounds_toArray, List.set_cons_zero, List.set_cons_succ])
                refine take_run (d := (some 79)) (v := ?v5) 4 rfl rfl (by kernel_rfl) (by kernel_rfl) (by kernel_rfl) (fun _ _ _ h => h) (by rfl) hHeld ?hy5 ?rs5
                case hy5 => (intro w hSw; (try dsimp only at hSw); go_simp) <;> (try with_reducible rfl)
                (try simp only [Act.put, List.setIfInBounds_toArray, List.set_cons_zero, List.set_cons_succ])
                refine take_run (d := (some 80)) (v := ?v6) 5 rfl rfl (by kernel_rfl) (by kernel_rfl) (by kernel_rfl) (fun _ _ _ h => h) (by rfl) hHeld ?hy6 ?rs6
                case hy6 => (intro w hSw; (try dsimp only at hSw); go_simp) <;> (try with_reducible rfl)
                (try simp only [Act.put, List.setIfInBounds_toArray, List.set_cons_zero, List.set_cons_succ])
                refine take_run (d := (some 81)) (v := ?v7) 6 rfl rfl (by kernel_rfl) (by kernel_rfl) (by kernel_rfl) (fun _ _ _ h => h) (by rfl) hHeld ?hy7 ?rs7
                case hy7 => (intro w hSw; (try dsimp only at hSw); go_simp) <;> (try with_reducible rfl)
                (try simp only [Act.put, List.setIfInBounds_toArray, List.set_cons_zero, List.set_cons_succ])
                refine take_call 7 rfl (by kernel_rfl) (by rfl) (fun K hK => ?_)
                go_simp
                refine (CRh.out _ (by obtain ⟨_, _, _, _, _, _, h7⟩ := hHeld; exact h7.out)).mono ?_
                rintro e w' ⟨u7, rfl, hr7, hl7, hb⟩
                have R7b := Lib.hid ((HR4.out.below (blw_drewN (Below.refl _ _) 1)).below hb)
                have HR7 := Lib.hid hr7
                obtain ⟨a7, c7, rfl⟩ := mrow_slice hr7
                refine hK.out _ _ (by obtain ⟨h0, h1, h2, h3, h4, h5, hw⟩ := hHeld; exact ⟨cell_keep h0 hb, cell_keep h1 hb, cell_keep h2 hb, cell_keep h3 hb, cell_keep h4 hb, cell_keep h5 hb, Lib.hid (blw_trans hw.out hb)⟩) (fun hHeld => ?_)
                clear hK K
                (try simp only [Act.put, List.setIfInBounds_toArray, List.set_cons_zero, List.set_cons_succ])
                refine take_call 8 rfl (by kernel_rfl) (by rfl) (fun K hK => ?_)
                have hHeld0 := hHeld
                obtain ⟨h0, h1, h2, h3, h4, h5, hw⟩ := hHeld
                refine wp_append_row _ _ _ 45 rfl w.heap.size 9 i0 (.string ByteArray.empty) 1 16 Tryz.underlying45 hi0 hz0 hz1 hz2 rfl (by decide) _ s4.length (s4.map stV) (by simp [go_sem]) R7b.out.row _ _ R7.length (R7.map stV) (by simp [go_sem]) HR7.out (stV_one _) (by unfold maxLen; omega) (by omega) hw.out.size ?_
                intro v' w2 hown hgrow hnil
                have RR := Lib.hid (R7b.out.app (t := R7) rfl hown hgrow hnil)
                obtain ⟨ra, rc, rfl⟩ := mrow_slice hown
                refine hK.out _ _ (⟨hgrow.cell h0 (fun e => by have := (R7b.out.row.lt _ e.symm).1; dsimp only at this; omega), hgrow.cell h1 (fun e => R7b.out.nk e.symm), hgrow.cell h2 (fun e => R7b.out.nk e.symm), hgrow.cell h3 (fun e => R7b.out.nk e.symm), hgrow.cell h4 (fun e => R7b.out.nk e.symm), hgrow.cell h5 (fun e => R7b.out.nk e.symm), Lib.hid (hw.out.grown hgrow hw.out.size (fun k hk => (R7b.out.row.lt k hk).1))⟩) (fun hHeld => ?_)
                clear hK K
                (try simp only [Act.put, List.setIfInBounds_toArray, List.set_cons_zero, List.set_cons_succ])
                refine take_run (d := (some 5)) (v := ?v10) 9 rfl rfl (by kernel_rfl) (by kernel_rfl) (by kernel_rfl) (fun _ _ _ h => h) (by rfl) hHeld ?hy10 ?rs10
                case hy10 => (intro w hSw; (try dsimp only at hSw); go_simp) <;> (try with_reducible rfl)
                (try simp only [Act.put, List.setIfInBounds_toArray, List.set_cons_zero, List.set_cons_succ])
                refine wpAnyH_done (by kernel_rfl) ?_ _
                obtain ⟨z0, z1, z2, z3, z4, z5, zW⟩ := hHeld
                have HL5 := Lib.hid (show (s4 ++ R7) ++ (((cs.drop (k + 1)).flatMap fun y => eachM (missN [t0, t1, t2, t3, t4]) (fun _ _ => []) f y.2) ++ eachM (missN [t0, t1, t2, t3, t4]) (fun _ _ => []) (f + 1) (m.drop (i + 1))) = RES by rw [← HST.out]; simp only [List.append_assoc])
                have HC5 := Lib.hid (show (s4 ++ R7).length + ((((cs.drop (k + 1)).map (·.2)).map (cnt f)).sum + cnt (f + 1) (m.drop (i + 1))) * 2000005 ≤ TT by rw [List.length_append]; omega)
                clear HST hct CRh
                go_wp2_with fail
                go_roundw
                case rel => exact ⟨k + 1, s4 ++ R7, _, _, by go_num, by rw [List.length_append], by omega, by rw [List.length_append]; exact RR, HL5, HC5, zW⟩
                case measure => simp [RowKit.intOf]; omega
              · have hk' : ¬ (k : Int) < (LC : Int) := by omega
                have hst := HL.out
                have hct := HC.out
                rw [List.drop_of_length_le (by omega)] at hst hct
                have HL4 := Lib.hid (show s4 ++ eachM (missN [t0, t1, t2, t3, t4]) (fun _ _ => []) (f + 1) (m.drop (i + 1)) = RES from hst)
                have HC4 := Lib.hid (show s4.length + cnt (f + 1) (m.drop (i + 1)) * 2000005 ≤ TT by simpa using hct)
                clear hst hct HL HC
                go_wp2_with fail
                go_roundw
                case rel => exact ⟨i + 1, s4, _, _, by go_num, rfl, by omega, HR4, HL4, HC4, HB4⟩
                case measure => simp [RowKit.intOf]; omega
          | true =>
            obtain ⟨h5, h4⟩ : k < 5 ∧ x.kind = 4 := by rw [hz7] at hZ7; simpa using hZ7.symm
            have hst := HS.out
            rw [if_pos h4] at hst
            obtain ⟨y, hy⟩ : ∃ y, LK[k]? = some y := ⟨LK[k]'(by omega), List.getElem?_eq_getElem (by omega)⟩
            rw [filt_step hy] at hst
            obtain ⟨tk, htk, hnm, hyt, hnl⟩ := HKA.out k y hy
            have HN4 := Lib.hid h4
            have CQX := Lib.hid fun (nm : List UInt8) (wx : World) (hb : Below w.heap.size w wx) => (show Calls Tryz.prog 41 #[.agg #[.int .i64 4, .string ⟨x.text.toArray⟩, .int .i64 x.off, .slice a0 n0 c0], .string ⟨nm.toArray⟩] wx fun e w' => ∃ i : Int, e = .returned (.int .i64 i) ∧ decide (i < 0) = !(x.cases.any fun y => y.1 == nm) ∧ Below wx.heap.size wx w' from by have h := qcaseof_any (f := f) x a0 n0 c0 nm wx (cass_below H4.out hb) p6; rwa [HN4.out] at h)
            rw [h4] at g0
            clear h4
            clear HS hZ7 hz7 HKA hy
            obtain ⟨nm, is⟩ := y
            dsimp only at hst hnm hyt hnl
            subst hyt
            have l0 := HR2.out.txt.cell k _ (strC_get htk)
            have ll := HR2.out.txt.lt
            have hk' : (k : Int) < 5 := by omega
            have hk0 : (0 : Int) ≤ (k : Int) := by omega
            have wk : IntKind.i64.wrap ((k : Int) + 1) = (k : Int) + 1 := IntWalk.i64_in _ (by omega)
            have HNM := Lib.hid (strC_get hnm)
            have HST := Lib.hid hst
            clear hst htk hnm
            cases tk with
            | nil =>
              have HS2 := Lib.hid (show s2 ++ ((if x.kind = 4 then missK x (LK.drop (k + 1)) else []) ++ REST) = RES by rw [if_pos HN4.out]; have h := HST.out; simpa using h)
              clear HST HNM
              have l0 : World.cell? wc ⟨b, k, none⟩ = some (.string ⟨#[]⟩) := l0
              go_wp2_with fail
              go_quiet (fail)
              go_wp2_with fail
              go_roundw
              case rel => exact ⟨k + 1, s2, _, _, by go_num, rfl, by omega, by omega, Lib.hid (HR2.out.below (blw_drewN (Below.refl _ _) _)), HS2, Lib.hid (blw_drewN HB2.out _)⟩
              case measure => simp [RowKit.intOf]; omega
            | cons tc tr =>
              obtain ⟨tk, htk⟩ : ∃ tk, tk = tc :: tr := ⟨_, rfl⟩
              rw [← htk] at l0 HST
              have ne1 : (tk == []) = false := by rw [htk]; rfl
              have ne2 : tk.isEmpty = false := by rw [htk]; rfl
              have ne3 : (tk != []) = true := by rw [htk]; rfl
              rw [ne2] at HST
              clear htk
              have HNB := Lib.hid (show ¬ (tk = []) from fun e => by rw [e] at ne1; cases ne1)
              go_wp2_with fail
              refine wp_region_held_drew (S := fun w' => w'.cell? ⟨b, k, none⟩ = some (.string ⟨tk.toArray⟩) ∧ w'.cell? ⟨bm, off + i * 4, none⟩ = some (.int .i64 4) ∧ w'.cell? ⟨bm, off + i * 4 + 1, none⟩ = some (.string ⟨x.text.toArray⟩) ∧ w'.cell? ⟨bm, off + i * 4 + 2, none⟩ = some (.int .i64 x.off) ∧ w'.cell? ⟨bm, off + i * 4 + 3, none⟩ = some (.slice a0 n0 c0) ∧ Hid (RefI w.heap.size w.heap.size b #[.string ⟨t0.toArray⟩, .string ⟨t1.toArray⟩, .string ⟨t2.toArray⟩, .string ⟨t3.toArray⟩, .string ⟨t4.toArray⟩] (strC [t0, t1, t2, t3, t4]) s2 (.slice va s2.length vc) w') ∧ Hid (Below w.heap.size w w')) (by kernel_rfl) (⟨l0, g0, g1, g2, g3, Lib.hid (HR2.out.below (blw_drewN (Below.refl _ _) 1)), Lib.hid (blw_drewN HB2.out 1)⟩) (fun hHeld => ?_)
              refine take_run (d := (some 33)) (v := ?v11) 0 rfl rfl (by kernel_rfl) (by kernel_rfl) (by kernel_rfl) (fun _ _ _ h => h) (by rfl) hHeld ?hy11 ?rs11
              case hy11 => (intro w hSw; (try dsimp only at hSw); go_simp) <;> (try with_reducible rfl)
              (try simp only [Act.put, List.setIfInBounds_toArray, List.set_cons_zero, List.set_cons_succ])
              refine take_run (d := (some 34)) (v := ?v12) 1 rfl rfl (by kernel_rfl) (by kernel_rfl) (by kernel_rfl) (fun _ _ _ h => h) (by rfl) hHeld ?hy12 ?rs12
              case hy12 => (intro w hSw; (try dsimp only at hSw); go_simp) <;> (try with_reducible rfl)
              (try simp only [Act.put, List.setIfInBounds_toArray, List.set_cons_zero, List.set_cons_succ])
              refine take_run (d := (some 35)) (v := ?v13) 2 rfl rfl (by kernel_rfl) (by kernel_rfl) (by kernel_rfl) (fun _ _ _ h => h) (by rfl) hHeld ?hy13 ?rs13
              case hy13 => (intro w hSw; (try dsimp only at hSw); go_simp) <;> (try with_reducible rfl)
              (try simp only [Act.put, List.setIfInBounds_toArray, List.set_cons_zero, List.set_cons_succ])
              refine take_run (d := (some 36)) (v := ?v14) 3 rfl rfl (by kernel_rfl) (by kernel_rfl) (by kernel_rfl) (fun _ _ _ h => h) (by rfl) hHeld ?hy14 ?rs14
              case hy14 => (intro w hSw; (try dsimp only at hSw); go_simp) <;> (try with_reducible rfl)
              (try simp only [Act.put, List.setIfInBounds_toArray, List.set_cons_zero, List.set_cons_succ])
              refine take_run (d := (some 37)) (v := ?v15) 4 rfl rfl (by kernel_rfl) (by kernel_rfl) (by kernel_rfl) (fun _ _ _ h => h) (by rfl) hHeld ?hy15 ?rs15
              case hy15 => (intro w hSw; (try dsimp only at hSw); go_simp) <;> (try with_reducible rfl)
              (try simp only [Act.put, List.setIfInBounds_toArray, List.set_cons_zero, List.set_cons_succ])
              refine take_run (d := (some 38)) (v := ?v16) 5 rfl rfl (by kernel_rfl) (by kernel_rfl) (by kernel_rfl) (fun _ _ _ h => h) (by rfl) hHeld ?hy16 ?rs16
              case hy16 => (intro w hSw; (try dsimp only at hSw); go_simp) <;> (try with_reducible rfl)
              (try simp only [Act.put, List.setIfInBounds_toArray, List.set_cons_zero, List.set_cons_succ])
              refine take_run (d := (some 39)) (v := ?v17) 6 rfl rfl (by kernel_rfl) (by kernel_rfl) (by kernel_rfl) (fun _ _ _ h => h) (by rfl) hHeld ?hy17 ?rs17
              case hy17 => (intro w hSw; (try dsimp only at hSw); go_simp) <;> (try with_reducible rfl)
              (try simp only [Act.put, List.setIfInBounds_toArray, List.set_cons_zero, List.set_cons_succ])
              refine take_run (d := (some 40)) (v := ?v18) 7 rfl rfl (by kernel_rfl) (by kernel_rfl) (by kernel_rfl) (fun _ _ _ h => h) (by rfl) hHeld ?hy18 ?rs18
              case hy18 => (intro w hSw; (try dsimp only at hSw); go_simp) <;> (try with_reducible rfl)
              (try simp only [Act.put, List.setIfInBounds_toArray, List.set_cons_zero, List.set_cons_succ])
              refine take_run (d := (some 41)) (v := ?v19) 8 rfl rfl (by kernel_rfl) (by kernel_rfl) (by kernel_rfl) (fun _ _ _ h => h) (by rfl) hHeld ?hy19 ?rs19
              case hy19 => (intro w hSw; (try dsimp only at hSw); go_simp) <;> (try with_reducible rfl)
              (try simp only [Act.put, List.setIfInBounds_toArray, List.set_cons_zero, List.set_cons_succ])
              refine take_run (d := (some 42)) (v := ?v20) 9 rfl rfl (by kernel_rfl) (by kernel_rfl) (by kernel_rfl) (fun _ _ _ h => h) (by rfl) hHeld ?hy20 ?rs20
              case hy20 => (intro w hSw; (try dsimp only at hSw); go_simp) <;> (try with_reducible rfl)
              (try simp only [Act.put, List.setIfInBounds_toArray, List.set_cons_zero, List.set_cons_succ])
              refine take_run (d := (some 44)) (v := ?v21) 11 rfl rfl (by kernel_rfl) (by kernel_rfl) (by kernel_rfl) (fun _ _ _ h => h) (by rfl) hHeld ?hy21 ?rs21
              case hy21 => (intro w hSw; (try dsimp only at hSw); go_simp) <;> (try with_reducible rfl)
              (try simp only [Act.put, List.setIfInBounds_toArray, List.set_cons_zero, List.set_cons_succ])
              refine take_call 10 rfl (by kernel_rfl) (by rfl) (fun K hK => ?_)
              go_simp
              refine (kinds_any _).mono ?_
              rintro e w' ⟨b2, rfl, hkb, hb⟩
              have kc := hkb.cell k _ HNM.out
              refine hK.out _ _ (by obtain ⟨h0, h1, h2, h3, h4, h5, hw⟩ := hHeld; exact ⟨cell_keep h0 hb, cell_keep h1 hb, cell_keep h2 hb, cell_keep h3 hb, cell_keep h4 hb, Lib.hid (h5.out.below hb), Lib.hid (blw_trans hw.out hb)⟩) (fun hHeld => ?_)
              clear hK K
              (try simp only [Act.put, List.setIfInBounds_toArray, List.set_cons_zero, List.set_cons_succ])
              refine take_run (d := (some 45)) (v := ?v23) 12 rfl rfl (by kernel_rfl) (by kernel_rfl) (by kernel_rfl) (fun _ _ _ h => h) (by rfl) hHeld ?hy23 ?rs23
              case hy23 => (intro w hSw; (try dsimp only at hSw); go_simp) <;> (try with_reducible rfl)
              (try simp only [Act.put, List.setIfInBounds_toArray, List.set_cons_zero, List.set_cons_succ])
              refine take_call 13 rfl (by kernel_rfl) (by rfl) (fun K hK => ?_)
              go_simp
              refine hK.out _ _ hHeld (fun hHeld => ?_)
              clear hK K
              (try simp only [Act.put, List.setIfInBounds_toArray, List.set_cons_zero, List.set_cons_succ])
              refine take_call 14 rfl (by kernel_rfl) (by rfl) (fun K hK => ?_)
              go_simp
              refine (CQX.out nm _ (by obtain ⟨_, _, _, _, _, _, h7⟩ := hHeld; exact h7.out)).mono ?_
              rintro e w' ⟨ci, rfl, hci, hb⟩
              refine hK.out _ _ (by obtain ⟨h0, h1, h2, h3, h4, h5, hw⟩ := hHeld; exact ⟨cell_keep h0 hb, cell_keep h1 hb, cell_keep h2 hb, cell_keep h3 hb, cell_keep h4 hb, Lib.hid (h5.out.below hb), Lib.hid (blw_trans hw.out hb)⟩) (fun hHeld => ?_)
              clear hK K
              (try simp only [Act.put, List.setIfInBounds_toArray, List.set_cons_zero, List.set_cons_succ])
              refine take_run (d := (some 48)) (v := ?v26) 15 rfl rfl (by kernel_rfl) (by kernel_rfl) (by kernel_rfl) (fun _ _ _ h => h) (by rfl) hHeld ?hy26 ?rs26
              case hy26 => (intro w hSw; (try dsimp only at hSw); go_simp) <;> (try with_reducible rfl)
              (try simp only [Act.put, List.setIfInBounds_toArray, List.set_cons_zero, List.set_cons_succ])
              refine take_run (d := (some 49)) (v := ?v27) 16 rfl rfl (by kernel_rfl) (by kernel_rfl) (by kernel_rfl) (fun _ _ _ h => h) (by rfl) hHeld ?hy27 ?rs27
              case hy27 => (intro w hSw; (try dsimp only at hSw); go_simp) <;> (try with_reducible rfl)
              (try simp only [Act.put, List.setIfInBounds_toArray, List.set_cons_zero, List.set_cons_succ])
              refine wpAnyH_done (by kernel_rfl) ?_ _
              obtain ⟨z0, z1, z2, z3, z4, z5, zW⟩ := hHeld
              generalize w' = wA at *
              clear HR2 HB2
              try rw [hci]
              clear hci
              have RA := z5
              have BA := zW
              have g0 := z1
              have g1 := z2
              have g2 := z3
              have g3 := z4
              clear z1 z2 z3 z4 z5 zW
              generalize hZ : (x.cases.any fun z => z.1 == nm) = Z at *
              cases Z with
              | true =>
                have HS2 := Lib.hid (show s2 ++ ((if x.kind = 4 then missK x (LK.drop (k + 1)) else []) ++ REST) = RES by rw [if_pos HN4.out]; have h := HST.out; simpa using h)
                clear HST
                simp only [Bool.not_true]
                go_wp2_with fail
                go_roundw
                case rel => exact ⟨k + 1, s2, _, _, by go_num, rfl, by omega, by omega, RA, HS2, BA⟩
                case measure => simp [RowKit.intOf]; omega
              | false =>
                obtain ⟨T, hT⟩ : ∃ T, T = x.text := ⟨_, rfl⟩
                obtain ⟨X1, hX1⟩ : ∃ X1, X1 = T ++ [46] := ⟨_, rfl⟩
                obtain ⟨X2, hX2⟩ : ∃ X2, X2 = X1 ++ nm := ⟨_, rfl⟩
                have HS2 := Lib.hid (show (s2 ++ [X2]) ++ ((if x.kind = 4 then missK x (LK.drop (k + 1)) else []) ++ REST) = RES by
                  rw [if_pos HN4.out, hX2, hX1, hT]
                  have h := HST.out
                  simp only [Bool.not_false, Bool.and_self, if_true] at h
                  rw [List.append_assoc]
                  rw [List.append_assoc] at h
                  exact h)
                have lT : T.length ≤ 2000000 := by rw [hT]; exact p5
                have l1 : X1.length ≤ 3000000 := by rw [hX1]; simp; omega
                have A1 : ∀ w, (Op.stringOp .add ⟨T.toArray⟩ ⟨#[46]⟩).run Tryz.prog w = .ok (.string ⟨X1.toArray⟩) w := fun w => by rw [hX1]; exact add_str (P := Tryz.prog) T [46] (by simp; omega) w
                have A2 : ∀ w, (Op.stringOp .add ⟨X1.toArray⟩ ⟨nm.toArray⟩).run Tryz.prog w = .ok (.string ⟨X2.toArray⟩) w := fun w => by rw [hX2]; exact add_str (P := Tryz.prog) X1 nm (by omega) w
                rw [← hT] at g1
                have hbm := World.block_lt_of_cell? _ _ p1
                dsimp only at hbm
                clear HST hX1 hX2 hT
                simp only [Bool.not_false]
                go_wp2_with fail
                refine wp_region_held_drew (S := fun w' => w'.cell? ⟨bm, off + i * 4 + 1, none⟩ = some (.string ⟨T.toArray⟩) ∧ Hid (Below w.heap.size w w')) (by kernel_rfl) (⟨g1, Lib.hid (blw_drewN BA.out 1)⟩) (fun hHeld => ?_)
                refine take_run (d := (some 50)) (v := ?v28) 0 rfl rfl (by kernel_rfl) (by kernel_rfl) (by kernel_rfl) (fun _ _ _ h => h) (by rfl) hHeld ?hy28 ?rs28
                case hy28 => (intro w hSw; (try dsimp only at hSw); go_simp) <;> (try with_reducible rfl)
                (try simp only [Act.put, List.setIfInBounds_toArray, List.set_cons_zero, List.set_cons_succ])
                refine take_run (d := (some 51)) (v := ?v29) 1 rfl rfl (by kernel_rfl) (by kernel_rfl) (by kernel_rfl) (fun _ _ _ h => h) (by rfl) hHeld ?hy29 ?rs29
                case hy29 => (intro w hSw; (try dsimp only at hSw); go_simp) <;> (try with_reducible rfl)
                (try simp only [Act.put, List.setIfInBounds_toArray, List.set_cons_zero, List.set_cons_succ])
                refine take_run (d := (some 52)) (v := ?v30) 2 rfl rfl (by kernel_rfl) (by kernel_rfl) (by kernel_rfl) (fun _ _ _ h => h) (by rfl) hHeld ?hy30 ?rs30
                case hy30 => (intro w hSw; (try dsimp only at hSw); go_simp) <;> (try with_reducible rfl)
                (try simp only [Act.put, List.setIfInBounds_toArray, List.set_cons_zero, List.set_cons_succ])
                refine take_run (d := (some 53)) (v := ?v31) 3 rfl rfl (by kernel_rfl) (by kernel_rfl) (by kernel_rfl) (fun _ _ _ h => h) (by rfl) hHeld ?hy31 ?rs31
                case hy31 => (intro w hSw; (try dsimp only at hSw); go_simp) <;> (try with_reducible rfl)
                (try simp only [Act.put, List.setIfInBounds_toArray, List.set_cons_zero, List.set_cons_succ])
                refine take_run (d := (some 54)) (v := ?v32) 4 rfl rfl (by kernel_rfl) (by kernel_rfl) (by kernel_rfl) (fun _ _ _ h => h) (by rfl) hHeld ?hy32 ?rs32
                case hy32 => (intro w hSw; (try dsimp only at hSw); go_simp) <;> (try with_reducible rfl)
                (try simp only [Act.put, List.setIfInBounds_toArray, List.set_cons_zero, List.set_cons_succ])
                refine take_run (d := (some 55)) (v := ?v33) 5 rfl rfl (by kernel_rfl) (by kernel_rfl) (by kernel_rfl) (fun _ _ _ h => h) (by rfl) hHeld ?hy33 ?rs33
                case hy33 => (intro w hSw; (try dsimp only at hSw); go_simp) <;> (try with_reducible rfl)
                (try simp only [Act.put, List.setIfInBounds_toArray, List.set_cons_zero, List.set_cons_succ])
                refine take_run (d := (some 56)) (v := ?v34) 6 rfl rfl (by kernel_rfl) (by kernel_rfl) (by kernel_rfl) (fun _ _ _ h => h) (by rfl) hHeld ?hy34 ?rs34
                case hy34 => (intro w hSw; (try dsimp only at hSw); go_simp) <;> (try with_reducible rfl)
                (try simp only [Act.put, List.setIfInBounds_toArray, List.set_cons_zero, List.set_cons_succ])
                refine take_run (d := (some 58)) (v := ?v35) 8 rfl rfl (by kernel_rfl) (by kernel_rfl) (by kernel_rfl) (fun _ _ _ h => h) (by rfl) hHeld ?hy35 ?rs35
                case hy35 => (intro w hSw; (try dsimp only at hSw); go_simp) <;> (try with_reducible rfl)
                (try simp only [Act.put, List.setIfInBounds_toArray, List.set_cons_zero, List.set_cons_succ])
                refine take_call 7 rfl (by kernel_rfl) (by rfl) (fun K hK => ?_)
                go_simp
                refine (kinds_any _).mono ?_
                rintro e w' ⟨b2, rfl, hkb, hb⟩
                have kc := hkb.cell k _ HNM.out
                have R10 := Lib.hid ((RA.out.below (blw_drewN (Below.refl _ _) 1)).below hb)
                refine hK.out _ _ (by obtain ⟨h0, hw⟩ := hHeld; exact ⟨cell_keep h0 hb, Lib.hid (blw_trans hw.out hb)⟩) (fun hHeld => ?_)
                clear hK K
                (try simp only [Act.put, List.setIfInBounds_toArray, List.set_cons_zero, List.set_cons_succ])
                refine take_run (d := (some 59)) (v := ?v37) 9 rfl rfl (by kernel_rfl) (by kernel_rfl) (by kernel_rfl) (fun _ _ _ h => h) (by rfl) hHeld ?hy37 ?rs37
                case hy37 => (intro w hSw; (try dsimp only at hSw); go_simp) <;> (try with_reducible rfl)
                (try simp only [Act.put, List.setIfInBounds_toArray, List.set_cons_zero, List.set_cons_succ])
                refine take_call 10 rfl (by kernel_rfl) (by rfl) (fun K hK => ?_)
                go_simp
                refine hK.out _ _ hHeld (fun hHeld => ?_)
                clear hK K
                (try simp only [Act.put, List.setIfInBounds_toArray, List.set_cons_zero, List.set_cons_succ])
                refine take_run (d := (some 61)) (v := ?v39) 11 rfl rfl (by kernel_rfl) (by kernel_rfl) (by kernel_rfl) (fun _ _ _ h => h) (by rfl) hHeld ?hy39 ?rs39
                case hy39 => (intro w hSw; (try dsimp only at hSw); go_simp) <;> (try with_reducible rfl)
                (try simp only [Act.put, List.setIfInBounds_toArray, List.set_cons_zero, List.set_cons_succ])
                refine take_call 12 rfl (by kernel_rfl) (by rfl) (fun K hK => ?_)
                go_simp
                have hHeld0 := hHeld
                obtain ⟨h0, hw⟩ := hHeld
                refine hK.out _ _ (by exact ⟨cell_keep h0 (blw_alloc _ _), Lib.hid (blw_trans hw.out (blw_alloc _ _))⟩) (fun hHeld => ?_)
                clear hK K h0 hw
                (try simp only [Act.put, List.setIfInBounds_toArray, List.set_cons_zero, List.set_cons_succ])
                refine take_call 13 rfl (by kernel_rfl) (by rfl) (fun K hK => ?_)
                have hHeld0 := hHeld
                obtain ⟨h0, hw⟩ := hHeld
                refine wp_nappend _ _ _ 45 rfl w.heap.size 9 i0 (.string ByteArray.empty) 1 16 Tryz.underlying45 hi0 hz0 hz1 hz2 rfl (by decide) _ s2.length (s2.map stV) (by simp [go_sem]) (R10.out.below (blw_alloc _ _)).row ⟨w'.heap.size, 0, none⟩ 1 1 [stV X2] (by simp [go_sem]) rfl (cell_one_new _ _ _) (fun u hu => by simp at hu; subst hu; rfl) (by unfold maxLen; omega) (by omega) hw.out.size ?_
                intro v' w2 hown hgrow hnil
                have RR := Lib.hid ((R10.out.below (blw_alloc _ _)).app (t := [X2]) rfl hown hgrow hnil)
                obtain ⟨ra, rc, rfl⟩ := mrow_slice hown
                refine hK.out _ _ (⟨hgrow.cell h0 (fun e => by have := (R10.out.row.lt _ e.symm).1; dsimp only at this; omega), Lib.hid (hw.out.grown hgrow hw.out.size (fun k hk => (R10.out.row.lt k hk).1))⟩) (fun hHeld => ?_)
                clear hK K
                (try simp only [Act.put, List.setIfInBounds_toArray, List.set_cons_zero, List.set_cons_succ])
                refine take_run (d := (some 5)) (v := ?v42) 14 rfl rfl (by kernel_rfl) (by kernel_rfl) (by kernel_rfl) (fun _ _ _ h => h) (by rfl) hHeld ?hy42 ?rs42
                case hy42 => (intro w hSw; (try dsimp only at hSw); go_simp) <;> (try with_reducible rfl)
                (try simp only [Act.put, List.setIfInBounds_toArray, List.set_cons_zero, List.set_cons_succ])
                refine wpAnyH_done (by kernel_rfl) ?_ _
                obtain ⟨z0, zW⟩ := hHeld
                go_wp2_with fail
                go_roundw
                case rel => exact ⟨k + 1, s2 ++ [X2], _, _, by go_num, by rw [List.length_append]; rfl, by omega, by rw [List.length_append]; show s2.length + 1 ≤ _; omega, by rw [List.length_append]; exact RR, HS2, zW⟩
                case measure => simp [RowKit.intOf]; omega
      · have hi' : ¬ (i : Int) < (L : Int) := by omega
        have hst := HL.out
        have hct := HC.out
        rw [List.drop_of_length_le (by omega)] at hst hct
        have hst' : s1 = RES := by rw [← hst]; exact (List.append_nil s1).symm
        subst hst'
        clear hst
        go_wp2_with fail
        go_ret
        exact ⟨_, rfl, HR.out.row, by omega, HB.out⟩
end Go.Proofs.YtainindkndjkbaaGreatDoor
