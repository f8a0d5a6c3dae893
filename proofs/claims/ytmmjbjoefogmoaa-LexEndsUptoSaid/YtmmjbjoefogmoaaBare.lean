/- The walk of lex.Bare. Conditions: the text is short of 4000000000 bytes. -/
import Derived.Test.YtmmjbjoefogmoaaLexW
import Derived.Test.YtmmjbjoefogmoaaHeld
import Derived.Test.YtmmjbjoefogmoaaErrs
namespace Go.Proofs.Ytmmjbjoefogmoaa
open Go.RowKit

theorem bstr_any (B b : Nat) (l : List UInt8) (w : World) (h : BuiltF B b l w) (hBw : B ≤ w.heap.size) :
    Calls Try.prog 10 #[.pointer (some ⟨b, 0, none⟩)] w fun e w' => e = .returned (.string ⟨l.toArray⟩) ∧ BuiltF B b l w' ∧ Below B w w' :=
  (Try.Builder_String_any_k B b l w h hBw).mono fun _ _ ⟨h1, h2, h3, _⟩ => ⟨h1, h2, h3⟩
theorem wquote_any (B b : Nat) (l : List UInt8) (w : World) (h : BuiltF B b l w) (hlen : l.length + 1 ≤ 140737488355328) (hBw : B ≤ w.heap.size) :
    Calls Try.prog 12 #[.pointer (some ⟨b, 0, none⟩), .int .u8 39] w fun e w' => e = .returned .nilIface ∧ BuiltF B b (l ++ [39]) w' ∧ Below B w w' ∧ Lib.OthersKept 5 (some b) w w' :=
  wbyte_any B b l 39 w h hlen hBw
/-- what lex.Bare hands over -/
def bareV (r : Option (List UInt8 × Nat)) : Value := match r with | none => .tuple #[.string ⟨#[]⟩, .int .i64 0, errV 3] | some (t, n) => .tuple #[.string ⟨t.toArray⟩, .int .i64 (n : Int), .nilIface]

theorem BuiltF.drewN' {B b : Nat} {l : List UInt8} {w : World} (h : BuiltF B b l w) (n : Nat) : BuiltF B b l (w.drewN n) := Lib.IsBuilderF.below h (blw_drewN (Below.refl _ _) n)
def bareW (s : List UInt8) (m : Bool) (w : World) : World := (w.alloc (.cells #[.string ⟨s.toArray⟩] 9)).alloc (.cells #[.bool m] 4)
theorem bareW_size (s : List UInt8) (m : Bool) (w : World) : (bareW s m w).heap.size = w.heap.size + 2 := by unfold bareW; simp
theorem bareW_s (s : List UInt8) (m : Bool) (w : World) : (bareW s m w).cell? ⟨w.heap.size, 0, none⟩ = some (.string ⟨s.toArray⟩) := ((Boxed.made w #[.string ⟨s.toArray⟩] 9).alloc _).cell 0 _ rfl
theorem bareW_m (s : List UInt8) (m : Bool) (w : World) : (bareW s m w).cell? ⟨w.heap.size + 1, 0, none⟩ = some (.bool m) := by
  have := (Boxed.made (w.alloc (.cells #[.string ⟨s.toArray⟩] 9)) #[.bool m] 4).cell 0 _ rfl
  rwa [World.size_alloc] at this
theorem bareW_below (s : List UInt8) (m : Bool) (w : World) : Below w.heap.size w (bareW s m w) := ((Below.refl _ _).alloc (Nat.le_refl _) _).alloc (by simp) _
theorem drewN_size (w : World) (n : Nat) : (w.drewN n).heap.size = w.heap.size := by simp

set_option maxRecDepth 100000 in
set_option maxHeartbeats 4000000 in
theorem bare_any (s : List UInt8) (m : Bool) (F : Nat) (w : World) (hs : s.length ≤ 4000000000) (hF : s.length < F) :
    Calls Try.prog 5 #[.string ⟨s.toArray⟩, .bool m] w fun e w' => e = .returned (bareV (Lx.bar F F s m 0 [])) ∧ Below w.heap.size w w' := by
  generalize HR : Lx.bar F F s m 0 [] = R
  have HQ0 := Lib.hid HR
  clear HR
  have HW0 := Lib.hid (bareW_below s m w)
  have hz0 := bareW_size s m w
  have HC0 := Lib.hid (bareW_s s m w)
  have HM0 := Lib.hid (bareW_m s m w)
  have eW : (w.alloc (.cells #[.string ⟨s.toArray⟩] 9)).alloc (.cells #[.bool m] 4) = bareW s m w := rfl
  go_enter Try.func5, Try.ntmps5
  go_wp2_with fail
  clear eW
  generalize bareW s m w = W0 at *
  obtain ⟨Z, hZ⟩ : ∃ Z, Z = w.heap.size := ⟨_, rfl⟩
  rw [← hZ] at HC0 HM0 hz0 ⊢
  have HZ := Lib.hid hZ
  clear hZ
  have Hz1 := Lib.hid hz0
  clear hz0
  have hFr := Lib.hid (Lib.IsBuilderF.of (Lib.fresh_isBuilder 32 5 W0))
  rw [Hz1.out] at hFr
  go_loopw [9] (fun v wr => ∃ (k f : Nat) (acc : List UInt8), v = .int .i64 k ∧ k ≤ s.length ∧ s.length < f + k ∧ acc.length ≤ k ∧ Hid (Lx.bar F f s m k acc = R) ∧ Hid (BuiltF (Z + 2) (Z + 2) acc wr) ∧ Hid (Below W0.heap.size W0 wr)) (fun v _ => s.length - (RowKit.intOf v).toNat)
  case atStart => exact ⟨0, F, [], rfl, by omega, by omega, by simp, HQ0, hFr, Lib.hid ((Below.refl _ W0).alloc (Nat.le_refl _) _)⟩
  case round =>
    obtain ⟨k, f, acc, rfl, hk, hf, hal, HQ, HB, HW⟩ := hrel
    clear HQ0 hFr
    have hsz := HW.out.size
    rw [Hz1.out] at hsz
    have HCI := Lib.hid (show wr.cell? ⟨Z, 0, none⟩ = some (.string ⟨s.toArray⟩) by rw [HW.out.cell (p := ⟨Z, 0, none⟩) (show Z < W0.heap.size by rw [Hz1.out]; omega)]; exact HC0.out)
    have HMI := Lib.hid (show wr.cell? ⟨Z + 1, 0, none⟩ = some (.bool m) by rw [HW.out.cell (p := ⟨Z + 1, 0, none⟩) (show Z + 1 < W0.heap.size by rw [Hz1.out]; omega)]; exact HM0.out)
    have hcs := HCI.out
    by_cases hlt : k < s.length
    · obtain ⟨c, hx⟩ : ∃ c, s[k]? = some c := ⟨s[k], List.getElem?_eq_getElem hlt⟩
      obtain ⟨f, rfl⟩ : ∃ g, f = g + 1 := ⟨f - 1, by omega⟩
      have IX := fun w => index_str (P := Try.prog) 9 Try.underlying9 s .i64 k c hx w
      have SL := fun w => slice_from (P := Try.prog) 9 Try.underlying9 s .i64 k (by omega) w
      have hcb := c.toNat_lt
      have SG := Lib.hid fun wx h1 h2 => sign_any s m k Z (Z + 1) wx h1 h2
      have HX := Lib.hid hx
      clear hx
      by_cases hS : Lx.isS m s k = true
      · rw [hS] at SG
        have HN := Lib.hid (show R = some (acc, k) by rw [← HQ.out]; unfold Lx.bar; rw [HX.out]; simp only; rw [if_pos hS])
        have CS := Lib.hid fun wx h1 h2 => bstr_any (Z + 2) (Z + 2) acc wx h1 h2
        clear hS HQ
        go_wp2_with fail
        (with_reducible refine (SG.out _ HCI.out HMI.out).mono ?_)
        rintro e w1 ⟨rfl, nq, rfl⟩
        go_wp2_with fail
        (with_reducible refine (CS.out _ (BuiltF.drewN' HB.out nq) (by simp; omega)).mono ?_)
        rintro e w2 ⟨rfl, _, hw⟩
        have HW1 := Lib.hid ((blw_drewN HW.out nq).trans (show Below W0.heap.size _ _ by rw [Hz1.out]; exact hw))
        clear hw HB HW
        go_wp2_with fail
        go_ret3
        exact ⟨by rw [HN.out]; rfl, HW0.out.trans (HW1.out.mono HW0.out.size)⟩
      have hS' : Lx.isS m s k = false := by simpa using hS
      rw [hS'] at SG
      by_cases h2 : Lx.twoQ s k = true
      · have e2 : Lib.hasPrefix (⟨(s.drop k).toArray⟩ : ByteArray).data.toList (⟨#[39, 39]⟩ : ByteArray).data.toList = true := (two_has s k).trans h2
        have CP := Lib.hid fun w => (e2 ▸ Try.strings_HasPrefix ⟨(s.drop k).toArray⟩ ⟨#[39, 39]⟩ w)
        have hl2 := Lx.twoQ_lt h2
        have HN := Lib.hid (show Lx.bar F f s m (k + 2) (acc ++ [39]) = R by rw [← HQ.out]; conv => rhs; unfold Lx.bar; rw [HX.out]; simp only; rw [if_neg hS, if_pos h2])
        have CW := Lib.hid fun wx h1 h2 => wquote_any (Z + 2) (Z + 2) acc wx h1 (by omega) h2
        clear hS hS' h2 e2 HQ
        generalize s.drop k = D at *
        go_wp2_with fail
        (with_reducible refine (SG.out _ HCI.out HMI.out).mono ?_)
        rintro e w1 ⟨rfl, nq, rfl⟩
        go_wp2_with (go_at_call 11; refine (CP.out _).mono ?_; rintro e w' ⟨rfl, rfl⟩)
        (with_reducible refine (CW.out _ (BuiltF.drewN' HB.out nq) (by simp; omega)).mono ?_)
        rintro e w2 ⟨rfl, hB, hw, _⟩
        have HB1 := Lib.hid hB
        have HW1 := Lib.hid ((blw_drewN HW.out nq).trans (show Below W0.heap.size _ _ by rw [Hz1.out]; exact hw))
        clear hB hw HB HW
        go_wp2_with fail
        go_roundw
        case rel => exact ⟨k + 2, f, acc ++ [39], by go_num, by omega, by omega, by simp; omega, HN, HB1, HW1⟩
        case measure => simp [RowKit.intOf]; omega
      have h2' : Lx.twoQ s k = false := by simpa using h2
      have e2 : Lib.hasPrefix (⟨(s.drop k).toArray⟩ : ByteArray).data.toList (⟨#[39, 39]⟩ : ByteArray).data.toList = false := (two_has s k).trans h2'
      have CP := Lib.hid fun w => (e2 ▸ Try.strings_HasPrefix ⟨(s.drop k).toArray⟩ ⟨#[39, 39]⟩ w)
      clear e2 h2'
      by_cases hc : c = 39 ∧ Lx.isS m s (k + 1) = true
      · obtain ⟨rfl, hs1⟩ := hc
        have e39 : ((39 : UInt8).toNat : Int) = 39 := rfl
        rw [e39] at IX
        have ek : ((k + 1 : Nat) : Int) = (k : Int) + 1 := by omega
        have sg2 := fun wx h1 h2 => sign_any s m (k + 1) Z (Z + 1) wx h1 h2
        rw [hs1, ek] at sg2
        have SG2 := Lib.hid sg2
        have hk1 := Lx.isS_lt hs1
        have cq := fun wx => quoted_any s F (k + 1) wx hs (by omega) (by omega) (by omega)
        rw [ek] at cq
        have CQ := Lib.hid cq
        clear sg2 cq ek
        have up := Lx.quo_up F s (k + 1) []
        have HN0 := Lib.hid (Lx.bar_quote (F := F) (f := f) (acc := acc) HX.out hS h2 hs1)
        clear hS hS' h2 hs1 e39
        generalize s.drop k = D at *
        rcases hq : Lx.quo F s (k + 1) [] with _ | ⟨t, e1⟩
        all_goals rw [hq] at CQ up
        · have HN := Lib.hid (show R = none from HQ.out.symm.trans (HN0.out.1 hq))
          clear hq up HN0 HQ
          go_wp2_with fail
          (with_reducible refine (SG.out _ HCI.out HMI.out).mono ?_)
          rintro e w1 ⟨rfl, nq, rfl⟩
          go_wp2_with (go_at_call 11; refine (CP.out _).mono ?_; rintro e w' ⟨rfl, rfl⟩)
          (refine (SG2.out (wr.drewN nq) (by simpa using HCI.out) (by simpa using HMI.out)).mono ?_)
          rintro e w2 ⟨rfl, nq2, rfl⟩
          go_wp2_with fail
          (refine (CQ.out _).mono ?_)
          rintro e w3 ⟨rfl, hw⟩
          have HW1 := Lib.hid ((blw_drewN HW.out (nq + nq2)).trans (hw.mono (show W0.heap.size ≤ _ by rw [Hz1.out]; simp; omega)))
          clear hw HB HW
          unfold quoV
          go_wp2_with fail
          go_ret3
          exact ⟨by rw [HN.out]; rfl, HW0.out.trans (HW1.out.mono HW0.out.size)⟩
        · have HN := Lib.hid (show Lx.bar F f s m e1 (acc ++ t) = R from (HN0.out.2 t e1 hq).symm.trans HQ.out)
          obtain ⟨u1, u2, u3⟩ := up t e1 rfl
          rw [List.length_nil] at u3
          have CW := Lib.hid fun wx h1 h2 => wstr_any (Z + 2) (Z + 2) acc t wx h1 (by omega) h2
          clear hq HN0 HQ up
          go_wp2_with fail
          (with_reducible refine (SG.out _ HCI.out HMI.out).mono ?_)
          rintro e w1 ⟨rfl, nq, rfl⟩
          go_wp2_with (go_at_call 11; refine (CP.out _).mono ?_; rintro e w' ⟨rfl, rfl⟩)
          (refine (SG2.out (wr.drewN nq) (by simpa using HCI.out) (by simpa using HMI.out)).mono ?_)
          rintro e w2 ⟨rfl, nq2, rfl⟩
          go_wp2_with fail
          (refine (CQ.out _).mono ?_)
          rintro e w3 ⟨rfl, hw⟩
          have HB1 := Lib.hid (Lib.IsBuilderF.below (BuiltF.drewN' HB.out (nq + nq2)) hw)
          have HW1 := Lib.hid ((blw_drewN HW.out (nq + nq2)).trans (hw.mono (show W0.heap.size ≤ _ by rw [Hz1.out]; simp; omega)))
          have hsz3 := hw.size
          simp at hsz3
          clear hw HB HW
          unfold quoV
          go_wp2_with fail
          (refine (CW.out _ HB1.out (by omega)).mono ?_)
          rintro e w4 ⟨rfl, hB, hw, _⟩
          have HB2 := Lib.hid hB
          have HW2 := Lib.hid (HW1.out.trans (show Below W0.heap.size _ _ by rw [Hz1.out]; exact hw))
          clear hB hw HB1 HW1
          go_wp2_with fail
          go_roundw
          case rel => exact ⟨e1, f, acc ++ t, by go_num, by omega, by omega, by simp; omega, HN, HB2, HW2⟩
          case measure => simp [RowKit.intOf]; omega
      · have HN := Lib.hid (show Lx.bar F f s m (k + 1) (acc ++ [c]) = R by rw [← HQ.out]; conv => rhs; unfold Lx.bar; rw [HX.out]; simp only; rw [if_neg hS, if_neg h2, if_neg hc])
        have CW := Lib.hid fun wx h1 h2 => wbyte_any (Z + 2) (Z + 2) acc c wx h1 (by omega) h2
        clear hS hS' h2 HQ
        generalize s.drop k = D at *
        by_cases h39 : c = 39
        · subst h39
          have e39 : ((39 : UInt8).toNat : Int) = 39 := rfl
          rw [e39] at IX
          have CW2 := Lib.hid fun wx h1 h2 => wquote_any (Z + 2) (Z + 2) acc wx h1 (by omega) h2
          have hs1 : Lx.isS m s (k + 1) = false := by
            cases h : Lx.isS m s (k + 1) with
            | false => rfl
            | true => exact absurd ⟨rfl, h⟩ hc
          have ek : ((k + 1 : Nat) : Int) = (k : Int) + 1 := by omega
          have sg2 := fun wx h1 h2 => sign_any s m (k + 1) Z (Z + 1) wx h1 h2
          rw [hs1, ek] at sg2
          have SG2 := Lib.hid sg2
          clear hc hs1 e39 CW sg2 ek
          go_wp2_with fail
          (with_reducible refine (SG.out _ HCI.out HMI.out).mono ?_)
          rintro e w1 ⟨rfl, nq, rfl⟩
          go_wp2_with (go_at_call 11; refine (CP.out _).mono ?_; rintro e w' ⟨rfl, rfl⟩)
          (refine (SG2.out (wr.drewN nq) (by simpa using HCI.out) (by simpa using HMI.out)).mono ?_)
          rintro e w2 ⟨rfl, nq2, rfl⟩
          go_wp2_with fail
          (refine (CW2.out _ (BuiltF.drewN' HB.out (nq + nq2)) (by simp; omega)).mono ?_)
          rintro e w3 ⟨rfl, hB, hw, _⟩
          have HB1 := Lib.hid hB
          have HW1 := Lib.hid ((blw_drewN HW.out (nq + nq2)).trans (show Below W0.heap.size _ _ by rw [Hz1.out]; exact hw))
          clear hB hw HB HW
          go_wp2_with fail
          go_roundw
          case rel => exact ⟨k + 1, f, acc ++ [39], by go_num, by omega, by omega, by simp; omega, HN, HB1, HW1⟩
          case measure => simp [RowKit.intOf]; omega
        · have b1 : ((c.toNat : Int) == 39) = false := beq_no (fun g => h39 (UInt8.toNat_inj.1 (by simpa using (show c.toNat = 39 by omega))))
          clear hc h39
          go_wp2_with fail
          (with_reducible refine (SG.out _ HCI.out HMI.out).mono ?_)
          rintro e w1 ⟨rfl, nq, rfl⟩
          go_wp2_with (go_at_call 11; refine (CP.out _).mono ?_; rintro e w' ⟨rfl, rfl⟩)
          (refine (CW.out _ (BuiltF.drewN' HB.out nq) (by simp; omega)).mono ?_)
          rintro e w3 ⟨rfl, hB, hw, _⟩
          have HB1 := Lib.hid hB
          have HW1 := Lib.hid ((blw_drewN HW.out nq).trans (show Below W0.heap.size _ _ by rw [Hz1.out]; exact hw))
          clear hB hw HB HW
          go_wp2_with fail
          go_roundw
          case rel => exact ⟨k + 1, f, acc ++ [c], by go_num, by omega, by omega, by simp; omega, HN, HB1, HW1⟩
          case measure => simp [RowKit.intOf]; omega
    · have hkl : k = s.length := by omega
      have HN := Lib.hid (show R = some (acc, s.length) by
        rw [← HQ.out]
        obtain ⟨f, rfl⟩ : ∃ g, f = g + 1 := ⟨f - 1, by omega⟩
        unfold Lx.bar
        rw [List.getElem?_eq_none (by omega), hkl])
      clear HQ
      have CS := Lib.hid fun wx h1 h2 => bstr_any (Z + 2) (Z + 2) acc wx h1 h2
      have HBZ := Lib.hid (show Below (Z + 2) W0 wr from Hz1.out ▸ HW.out)
      have hkk : ¬ (k : Int) < (s.length : Int) := by omega
      go_wp2_with fail
      refine wp_region_held_drew (S := fun w' => w'.cell? ⟨Z, 0, none⟩ = some (.string ⟨s.toArray⟩) ∧ Hid (BuiltF (Z + 2) (Z + 2) acc w') ∧ Hid (Below (Z + 2) W0 w')) (by kernel_rfl) (by exact ⟨by simpa using hcs, Lib.hid (BuiltF.drewN' HB.out 1), Lib.hid (blw_drewN HBZ.out 1)⟩) (fun hHeld => ?_)
      refine take_run (d := (some 64)) (v := ?v1) 1 rfl rfl (by kernel_rfl) (by kernel_rfl) (by kernel_rfl) (fun _ _ _ h => h) (by rfl) hHeld ?hy1 ?rs1
      case hy1 => (intro w hSw; (try dsimp only at hSw); go_simp) <;> (try with_reducible rfl)
      (try simp only [Act.put, List.setIfInBounds_toArray, List.set_cons_zero, List.set_cons_succ])
      refine take_run (d := (some 65)) (v := ?v2) 2 rfl rfl (by kernel_rfl) (by kernel_rfl) (by kernel_rfl) (fun _ _ _ h => h) (by rfl) hHeld ?hy2 ?rs2
      case hy2 => (intro w hSw; (try dsimp only at hSw); go_simp) <;> (try with_reducible rfl)
      (try simp only [Act.put, List.setIfInBounds_toArray, List.set_cons_zero, List.set_cons_succ])
      refine take_call 0 rfl (by kernel_rfl) (by rfl) (fun K hK => ?_)
      go_simp
      refine (CS.out _ hHeld.2.1.out (by have := hHeld.2.2.out.size; have := Hz1.out; omega)).mono ?_
      rintro e w' ⟨rfl, hb⟩
      refine hK.out _ _ (by obtain ⟨h0, h1, hw⟩ := hHeld; exact ⟨(hb.2.cell (p := ⟨Z, 0, none⟩) (show Z < Z + 2 by omega)).trans h0, (fun _ => Lib.hid hb.1) h1, Lib.hid (hw.out.trans hb.2)⟩) (fun hHeld => ?_)
      clear hK K
      (try simp only [Act.put, List.setIfInBounds_toArray, List.set_cons_zero, List.set_cons_succ])
      refine take_run (d := (some 4)) (v := ?v4) 3 rfl rfl (by kernel_rfl) (by kernel_rfl) (by kernel_rfl) (fun _ _ _ h => h) (by rfl) hHeld ?hy4 ?rs4
      case hy4 => (intro w hSw; (try dsimp only at hSw); go_simp) <;> (try with_reducible rfl)
      (try simp only [Act.put, List.setIfInBounds_toArray, List.set_cons_zero, List.set_cons_succ])
      refine take_run (d := (some 5)) (v := ?v5) 4 rfl rfl (by kernel_rfl) (by kernel_rfl) (by kernel_rfl) (fun _ _ _ h => h) (by rfl) hHeld ?hy5 ?rs5
      case hy5 => (intro w hSw; (try dsimp only at hSw); go_simp) <;> (try with_reducible rfl)
      (try simp only [Act.put, List.setIfInBounds_toArray, List.set_cons_zero, List.set_cons_succ])
      refine take_run (d := (some 6)) (v := ?v6) 5 rfl rfl (by kernel_rfl) (by kernel_rfl) (by kernel_rfl) (fun _ _ _ h => h) (by rfl) hHeld ?hy6 ?rs6
      case hy6 => (intro w hSw; (try dsimp only at hSw); go_simp) <;> (try with_reducible rfl)
      (try simp only [Act.put, List.setIfInBounds_toArray, List.set_cons_zero, List.set_cons_succ])
      refine wpAnyH_done (by kernel_rfl) ?_ _
      obtain ⟨z0, z1, zW⟩ := hHeld
      go_wp2_with fail
      go_ret3
      exact ⟨by rw [HN.out]; rfl, HW0.out.trans ((show Below (Z + 2) W0 _ from zW.out).mono (by have := HW0.out.size; have := Hz1.out; rw [HZ.out]; omega))⟩
end Go.Proofs.Ytmmjbjoefogmoaa
