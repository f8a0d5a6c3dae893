/- The walk of prop.Check. Conditions: the bundle lies in memory as it says, its texts short; the library's variable MaxLen holds a number. -/
import Derived.Test.YtghohnbajbikjaaGreatDoorUnK
import Derived.Test.YtghohnbajbikjaaGreatDoorUnM
namespace Go.Proofs.YtghohnbajbikjaaGreatDoor
open Go.RowKit
namespace Tn
theorem zero_unit (w : World) : (zeroValue 68).run Tryz.prog w = .ok (.agg #[]) w := by kernel_rfl
/-- short enough -/
def BdS (x : Bd) : Prop := x.tag.length ≤ 10000000 ∧ x.es.length ≤ 100000000 ∧ ∀ e ∈ x.es, e.key.length ≤ 1000000000 ∧ e.txt.length ≤ 1000000000

set_option maxRecDepth 100000 in
set_option maxHeartbeats 4000000 in
theorem pchk_any (x : Bd) (a : Option Addr) (n c : Nat) (w : World) (hM : MaxW w) (hx : BdS x) (hE : SlAt 2 EnC w (.slice a n c) x.es) :
    Calls Tryz.prog 9 #[.agg #[.string ⟨x.tag.toArray⟩, .slice a n c]] w fun e w' => e = .returned (errE (bdN x)) ∧ Below w.heap.size w w' := by
  obtain ⟨tg, es⟩ := x
  have CT := Lib.hid fun wx (h : MaxW wx) => ptag_any tg wx h hx.1
  have HQ := Lib.hid hx.2.2
  have hel := hx.2.1
  dsimp only at hel hE
  have HN := Lib.hid (show bdN ⟨tg, es⟩ = if tagB tg then if es.length ≤ 100 then enN [] (es.drop 0) else 4 else 3 from rfl)
  have HEL := Lib.hid (show ∀ wx, Below w.heap.size w wx → SlAt 2 EnC wx (.slice a n c) es from fun wx hb => ens_below hE hb)
  obtain ⟨A, cap, e1, hm, _⟩ := hE.spread
  injection e1 with e1 e2 e3
  subst e1 e2 e3
  unfold maxLen at hm
  have HM := Lib.hid hM
  have HNX := Lib.hid fun (sn : List (List UInt8)) (j : Nat) (e : En) (h : es[j]? = some e) => (⟨enN_bad h, enN_twice h, enN_long h, enN_next h⟩ : (keyB e.key = false → enN sn (es.drop j) = 3) ∧ (keyB e.key = true → sn.contains e.key = true → enN sn (es.drop j) = 5) ∧ (keyB e.key = true → sn.contains e.key = false → ¬ e.txt.length ≤ 2000 → enN sn (es.drop j) = 4) ∧ (keyB e.key = true → sn.contains e.key = false → e.txt.length ≤ 2000 → enN sn (es.drop j) = enN (sn ++ [e.key]) (es.drop (j + 1))))
  have HNE := Lib.hid fun (sn : List (List UInt8)) (j : Nat) (h : es.length ≤ j) => (enN_end (sn := sn) h : enN sn (es.drop j) = 0)
  clear hx hE hM
  generalize bdN ⟨tg, es⟩ = BN at *
  obtain ⟨TB, hTB⟩ : ∃ b, tagB tg = b := ⟨_, rfl⟩
  rw [hTB] at HN CT
  clear hTB
  have MM := Lib.hid fun wx => (run_makeMap (P := Tryz.prog) (w := wx) 67)
  cases TB with
  | false =>
    obtain rfl : BN = 3 := HN.out
    go_enter Tryz.func9, Tryz.ntmps9
    go_wp2_with fail
    refine (CT.out _ (HM.out.alloc _)).mono ?_
    rintro e w1 ⟨rfl, hb⟩
    have W1 := Lib.hid (blw_trans (blw_alloc w (.cells #[.string ⟨tg.toArray⟩, .slice a es.length c] 38)) hb)
    clear hb
    go_wp2_with fail
    go_ret
    exact ⟨rfl, W1.out⟩
  | true =>
    by_cases h100 : es.length ≤ 100
    case neg =>
      obtain rfl : BN = 4 := by have := HN.out; rwa [if_pos rfl, if_neg h100] at this
      have h1 : (100 : Int) < (es.length : Int) := by omega
      go_enter Tryz.func9, Tryz.ntmps9
      go_wp2_with fail
      refine (CT.out _ (HM.out.alloc _)).mono ?_
      rintro e w1 ⟨rfl, hb⟩
      have W1 := Lib.hid (blw_trans (blw_alloc w (.cells #[.string ⟨tg.toArray⟩, .slice a es.length c] 38)) hb)
      have BX := Lib.hid ((Boxed.made w #[.string ⟨tg.toArray⟩, .slice a es.length c] 38).below hb)
      have y1 := BX.out.cell 1 _ rfl
      clear hb
      go_wp2_with fail
      go_ret
      exact ⟨rfl, W1.out⟩
    have HNN := Lib.hid (show BN = enN [] (es.drop 0) by have := HN.out; rwa [if_pos rfl, if_pos h100] at this)
    clear HN
    have h1 : ¬ (100 : Int) < (es.length : Int) := by omega
    clear h100
    generalize hL : es.length = N at *
    go_enter Tryz.func9, Tryz.ntmps9
    go_wp2_with fail
    refine (CT.out _ (HM.out.alloc _)).mono ?_
    rintro e w1 ⟨rfl, hb⟩
    have W1 := Lib.hid (blw_trans (blw_alloc w (.cells #[.string ⟨tg.toArray⟩, .slice a N c] 38)) hb)
    have BX := Lib.hid ((Boxed.made w #[.string ⟨tg.toArray⟩, .slice a N c] 38).below hb)
    have y1 := BX.out.cell 1 _ rfl
    have yl := BX.out.lt
    have MMh := MM.out w1
    have KM := Lib.hid (map_made (val := setV) w1)
    have WM := Lib.hid (blw_trans W1.out (blw_alloc w1 (.map #[] 0)))
    have hs1 := W1.out.size
    clear hb CT MM
    go_wp2_with fail
    generalize hw2 : w1.alloc (.map #[] 0) = w2 at *
    obtain ⟨B, hBe⟩ : ∃ B, B = w1.heap.size := ⟨_, rfl⟩
    rw [← hBe] at KM
    have hB : w.heap.size ≤ B := by omega
    rw [← hBe]
    clear hw2 hBe MMh
    go_loopw [22] (fun vi wr => ∃ (i : Nat) (sn : List (List UInt8)), vi = .int .i64 (i : Int) ∧ i ≤ N ∧ Hid (MapAt setV B (unitL sn) wr) ∧ Hid (BN = enN sn (es.drop i)) ∧ Hid (Below w.heap.size w wr)) (fun vi _ => N - (RowKit.intOf vi).toNat)
    case atStart => exact ⟨0, [], rfl, Nat.zero_le _, KM, HNN, WM⟩
    case round =>
      obtain ⟨i, sn, rfl, hi, HK, HS, HB⟩ := hrel
      clear HNN KM WM
      by_cases hlt : i < N
      · have hi' : (i : Int) < (N : Int) := by omega
        obtain ⟨x, hxi⟩ : ∃ x, es[i]? = some x := ⟨es[i]'(by omega), List.getElem?_eq_getElem (by omega)⟩
        obtain ⟨A', cap', eA, _, hsp⟩ := (HEL.out wr HB.out).spread
        injection eA with e1 e2 e3
        subst e1
        obtain ⟨b, off, rfl, x0, x1⟩ := hsp i x hxi
        have hkl := HQ.out x (List.mem_of_getElem? hxi)
        have HX := Lib.hid (HNX.out sn i x hxi)
        have wi : IntKind.i64.wrap ((i : Int) + 1) = (i : Int) + 1 := IntWalk.i64_in _ (by omega)
        have CKx := Lib.hid fun wx => pkey_any x.key wx (by omega)
        have lb := World.block_lt_of_cell? _ _ x0
        clear e2 e3 hsp hxi
        obtain ⟨ky, tx⟩ := x
        dsimp only at x0 x1 hkl HX CKx
        have BX2 := Lib.hid (Boxed.made wr #[.string ⟨ky.toArray⟩, .string ⟨tx.toArray⟩] 41)
        have hs0 := HB.out.size
        have HKa := Lib.hid (HK.out.below (blw_alloc wr (.cells #[.string ⟨ky.toArray⟩, .string ⟨tx.toArray⟩] 41)))
        have HBa := Lib.hid (HB.out.alloc hs0 (.cells #[.string ⟨ky.toArray⟩, .string ⟨tx.toArray⟩] 41))
        obtain ⟨KB, hKB⟩ : ∃ b, keyB ky = b := ⟨_, rfl⟩
        rw [hKB] at HX CKx
        clear hKB
        go_wp2_with fail
        refine (CKx.out _).mono ?_
        rintro e w3 ⟨rfl, hb⟩
        have BX3 := Lib.hid (BX2.out.below hb)
        have HK3 := Lib.hid (HKa.out.below hb)
        have HB3 := Lib.hid (HBa.out.trans (hb.mono HBa.out.size))
        clear hb CKx BX2 HKa HBa HK HB x0 x1 lb
        generalize wr.heap.size = q at *
        cases KB with
        | false =>
          obtain rfl : BN = 3 := HS.out.trans (HX.out.1 rfl)
          go_wp2_with fail
          go_ret
          exact ⟨rfl, HB3.out⟩
        | true =>
          have y0 := BX3.out.cell 0 _ rfl
          have y1 := BX3.out.cell 1 _ rfl
          have yl3 := BX3.out.lt
          cases hH : sn.contains ky with
          | true =>
            obtain rfl : BN = 5 := HS.out.trans (HX.out.2.1 rfl hH)
            obtain ⟨p, hp⟩ := unit_has hH
            have LK := HK3.out.look2 (P := Tryz.prog) 67 9 68 Tryz.underlying67 Tryz.underlying9 hp
            go_wp2_with fail
            go_ret
            exact ⟨rfl, HB3.out.alloc HB3.out.size _⟩
          | false =>
            have LK := HK3.out.none2 (P := Tryz.prog) 67 9 68 Tryz.underlying67 Tryz.underlying9 (zero_unit _) (unit_not hH)
            obtain ⟨w5, MU, HK5, ho5, hs5, HB5⟩ := (HK3.out.below (blw_alloc w3 (.cells #[] 68))).put (P := Tryz.prog) 67 9 68 Tryz.underlying67 Tryz.underlying9 () (unit_not hH)
            have W5 := Lib.hid (HB5 w.heap.size w hB (HB3.out.alloc HB3.out.size _))
            have K5 := Lib.hid (show MapAt setV B (unitL (sn ++ [ky])) w5 by rw [unit_add]; exact HK5)
            have hl3 := HK3.out.lt
            have hqB : q ≠ B := fun e => by
              obtain ⟨es', c', h1, _⟩ := HK3.out
              rw [← e] at h1
              have := BX3.out.cell 0 _ rfl
              simp [World.cell?, h1] at this
            have BX5 := Lib.hid (show Boxed w5 q #[.string ⟨ky.toArray⟩, .string ⟨tx.toArray⟩] from by
              have e : w5.heap[q]? = (w3.alloc (.cells #[] 68)).heap[q]? := ho5 q hqB
              have h0 := BX3.out.alloc (.cells #[] 68)
              refine ⟨by rw [hs5]; exact h0.lt, fun j v hj => ?_, fun j hj => ?_⟩
              · have := h0.cell j v hj
                simp only [World.cell?] at this ⊢
                rw [e]; exact this
              · have := h0.free j hj
                simp only [World.frozen?] at this ⊢
                rw [e]; exact this)
            have z1 := BX5.out.cell 1 _ rfl
            clear HK5 ho5 hs5 HB5
            by_cases h2 : tx.length ≤ 2000
            · have h2' : ¬ (2000 : Int) < (tx.length : Int) := by omega
              have HS2 := Lib.hid (HS.out.trans (HX.out.2.2.2 rfl hH h2))
              clear HS HX h2 hH
              go_wp2_with fail
              go_roundw
              case rel => exact ⟨i + 1, sn ++ [ky], by go_num, by omega, K5, HS2, W5⟩
              case measure => simp [RowKit.intOf]; omega
            · have h2' : (2000 : Int) < (tx.length : Int) := by omega
              obtain rfl : BN = 4 := HS.out.trans (HX.out.2.2.1 rfl hH h2)
              clear HX h2 hH
              go_wp2_with fail
              go_ret
              exact ⟨rfl, W5.out⟩
      · have h2 : ¬ (i : Int) < (N : Int) := by omega
        obtain rfl : BN = 0 := HS.out.trans (HNE.out sn i (by omega))
        go_wp2_with fail
        go_ret
        exact ⟨rfl, HB.out⟩
end Tn
end Go.Proofs.YtghohnbajbikjaaGreatDoor
