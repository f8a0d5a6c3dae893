/- The walk of linguisterref1.TagOf: it reads what tag.Parse reads. Condition: the text is of at most 10000000 bytes. -/
import Derived.Test.YtlhleojigcnjeaaDoorTagOfSt
import Derived.Test.YtlhleojigcnjeaaDoorHeld
import Derived.Deep.DeepCutAuto
namespace Go.Proofs.YtlhleojigcnjeaaDoor
open Go.RowKit

set_option maxRecDepth 100000 in
set_option maxHeartbeats 4000000 in
theorem tagof_any (s : List UInt8) (w : World) (hs : s.length ≤ 10000000) :
    Calls Tryd.prog 27 #[.string ⟨s.toArray⟩] w fun e w' => ∃ V, e = .returned (.tuple #[.agg #[.string ⟨(readT s).l.toArray⟩, .string ⟨(readT s).s.toArray⟩, .string ⟨(readT s).r.toArray⟩, V], (.bool (readOk s))]) ∧ StrsAt w' V (readT s).vs ∧ Nil0 V ∧ Below w.heap.size w w' := by
  obtain ⟨q, hq⟩ : ∃ q, q = s.map lowC := ⟨_, rfl⟩
  have hql : q.length = s.length := by rw [hq, List.length_map]
  have CL := Lib.hid fun w => rlower_any s w (by omega)
  have HR0 := Lib.hid (show ∀ a T, Lib.split q [45] = a :: T → readTag PS2 PR2 s = if okT q a (cutS PS2 T).1 (cutR PR2 (cutS PS2 T).2).1 (cutR PR2 (cutS PS2 T).2).2 then some ⟨a, (cutS PS2 T).1, (cutR PR2 (cutS PS2 T).2).1, (cutR PR2 (cutS PS2 T).2).2⟩ else none from fun a T h => by unfold readTag; rw [← hq, h])
  have HM0 := Lib.hid (show ∀ a T, Lib.split q [45] = a :: T → q.length = a.length + (Lib.lens T + T.length) from fun a T h => split_small q h)
  rw [← hq] at CL
  have CS := Lib.hid fun w => cut_any q [45] w (by simp) (by omega) (by simp)
  have HT := Lib.hid (show readT s = (readTag PS2 PR2 s).getD noTag ∧ readOk s = (readTag PS2 PR2 s).isSome from by rw [read_agree]; exact ⟨rfl, rfl⟩)
  have hne := (join_split_one 45 q.length q (Nat.le_refl _)).1
  generalize Lib.split q [45] = L at *
  clear hq
  generalize readT s = RT at *
  generalize readOk s = RO at *
  obtain ⟨i0, hi, hz0, hz1, hz2⟩ := info_parts infoStr
  go_enter Tryd.func27, Tryd.ntmps27
  go_wp2_with fail
  refine (CL.out _).mono ?_
  rintro e w1 ⟨rfl, hb⟩
  have W1 := Lib.hid (blw_trans (show Below w.heap.size w _ from Below.alloc (Below.refl _ _) (Nat.le_refl _) _) hb)
  have hn1 := hb.size
  have R1 := Lib.hid (((Boxed.made w #[.string ByteArray.empty, .string ByteArray.empty, .string ByteArray.empty, .slice none 0 0] 24)).below hb)
  clear hb
  go_wp2_with fail
  refine (CS.out _).mono ?_
  rintro e w2 ⟨v2, rfl, hst, hb⟩
  rcases hst with ⟨e, _⟩ | ⟨b, o0, cap, rfl, h0, hcp, hmx, hc⟩
  · exact absurd e hne
  have W2 := Lib.hid (blw_trans W1.out hb)
  have R2 := Lib.hid (R1.out.below hb)
  have hn2 := hb.size
  obtain ⟨a, T, hLT⟩ : ∃ a T, L = a :: T := List.exists_cons_of_ne_nil hne
  subst hLT
  have hsm := HM0.out a T rfl
  have HR1 := Lib.hid (HR0.out a T rfl)
  clear HM0 HR0 hne
  have xc := hc 0 a rfl
  rw [Nat.add_zero] at xc
  have HC := Lib.hid hc
  clear hc hb CS R1 W1 h0
  obtain ⟨N, hN⟩ : ∃ N, N = T.length := ⟨_, rfl⟩
  rw [List.length_cons, ← hN] at hcp ⊢
  obtain ⟨cp, rfl⟩ : ∃ c1, cap = c1 + 1 := ⟨cap - 1, by omega⟩
  have HN := Lib.hid hN
  have hsN : N ≤ 10000000 := by omega
  have hcp0 : N ≤ cp := by omega
  have HMX := Lib.hid (show cp ≤ maxLen by omega)
  clear hN
  go_upto_region 4 with fail
  obtain ⟨C, HC0, hCC⟩ : ∃ C : Nat → Option (List UInt8), Hid (∀ (j : Nat) x, T[j]? = some x → C (o0 + 1 + j) = some x) ∧ ∀ (j : Nat) x, C j = some x → w2.cell? ⟨b, j, none⟩ = some (.string ⟨x.toArray⟩) := by
    refine ⟨fun j => if j < o0 + 1 then none else T[j - (o0 + 1)]?, Lib.hid fun j x hx => ?_, fun j x hx => ?_⟩
    · dsimp only
      rw [if_neg (by omega), show o0 + 1 + j - (o0 + 1) = j by omega]; exact hx
    · dsimp only at hx
      by_cases h : j < o0 + 1
      · rw [if_pos h] at hx; cases hx
      · rw [if_neg h] at hx
        have := HC.out (j - (o0 + 1) + 1) x hx
        rw [show o0 + (j - (o0 + 1) + 1) = j by omega] at this
        exact this
  have S3 := Lib.hid (show PSc w (w2.alloc (.cells #[.string ⟨a.toArray⟩, .string ByteArray.empty, .string ByteArray.empty, .slice none 0 0] 24)) b w2.heap.size a [] [] (.slice none 0 0) C from
    ⟨blw_trans W2.out (blw_alloc _ _), R2.out.alloc _, Boxed.made _ _ _, fun j x hx => cell_keep (hCC j x hx) (blw_alloc _ _)⟩)
  have HS := Lib.hid (show ∀ x ∈ T, x.length ≤ 10000000 from fun x hx => by have := lens_mem hx; omega)
  obtain ⟨w3, hw3⟩ : ∃ w3, w3 = w2.alloc (.cells #[.string ⟨a.toArray⟩, .string ⟨#[]⟩, .string ⟨#[]⟩, .slice none 0 0] 24) := ⟨_, rfl⟩
  have S4 := Lib.hid (show PSc w w3 b w2.heap.size a [] [] (.slice none 0 0) C by rw [hw3]; exact S3.out)
  rw [← hw3]
  have hbp : b < w2.heap.size := World.block_lt_of_cell? _ _ xc
  have hwb : w.heap.size < w2.heap.size := by simp at hn1; omega
  clear hw3 S3 R2 W2 xc HC hn1 hn2 hcp hmx hCC
  generalize w2.heap.size = p at *
  obtain ⟨off, ho, hof⟩ : ∃ off, (if cp = 0 then some (⟨b, o0, none⟩ : Addr) else some ⟨b, o0 + 1, none⟩) = some ⟨b, off, none⟩ ∧ (cp ≠ 0 → off = o0 + 1) := by
    by_cases h : cp = 0
    · exact ⟨o0, if_pos h, fun e => absurd h e⟩
    · exact ⟨o0 + 1, if_neg h, fun _ => rfl⟩
  rw [ho]
  have HOF := Lib.hid hof
  clear ho hof
  go_cut [24] (fun v wx => v = .bool (headP PS2 T) ∧ wx = w3)
  case first =>
    cases T with
    | nil =>
      obtain rfl : N = 0 := HN.out
      go_wp2_with fail
      go_meet
      exact ⟨rfl, rfl⟩
    | cons c t =>
      have hN : N = t.length + 1 := HN.out
      have c1 := S4.out.cell _ c (HC0.out 0 c rfl)
      rw [Nat.add_zero] at c1
      obtain rfl := HOF.out (by omega)
      have h2 : ((N : Int) > 0) := by omega
      have hN0 : 0 < N := by omega
      have hH : headP PS2 (c :: t) = decide (c.length = 4) := rfl
      clear hN hsm
      by_cases h4 : c.length = 4
      · have e4 : ((c.length : Nat) : Int) = 4 := by omega
        go_wp2_with fail
        go_meet
        exact ⟨by rw [hH, decide_eq_true h4] <;> simp [e4], rfl⟩
      · have e4 : ¬ ((c.length : Nat) : Int) = 4 := by omega
        go_wp2_with fail
        go_meet
        exact ⟨by rw [hH, decide_eq_false h4] <;> simp [e4], rfl⟩
  case rest =>
    obtain ⟨rfl, rfl⟩ := hcut
    go_upto_if 24 with fail
    go_cut [4] (fun v wx => ∃ of1 M Cp, v = .slice (some ⟨b, of1, none⟩) M Cp ∧ Hid (M = (cutS PS2 T).2.length ∧ M ≤ Cp ∧ Cp ≤ maxLen) ∧ Hid (∀ (j : Nat) x, (cutS PS2 T).2[j]? = some x → C (of1 + j) = some x) ∧ Hid (PSc w wx b p a (cutS PS2 T).1 [] (.slice none 0 0) C))
    case first =>
      clear hsm HR1 HT
      cases hh : headP PS2 T with
      | false =>
        go_wp2_with fail
        go_meet
        have e : cutS PS2 T = ([], T) := by
          cases T with
          | nil => rfl
          | cons c t => simp only [cutS]; rw [if_neg (by rw [show PS2 c = false from hh]; decide)]
        rw [e]
        refine ⟨off, N, cp, rfl, Lib.hid ⟨HN.out, hcp0, HMX.out⟩, Lib.hid fun j x hx => ?_, S4⟩
        have hT : cp ≠ 0 := fun h0 => by
          have := HN.out
          rw [show N = 0 by omega] at this
          rw [List.length_eq_zero_iff.1 this.symm] at hx; simp at hx
        rw [HOF.out hT]; exact HC0.out j x hx
      | true =>
        cases T with
        | nil => cases hh
        | cons c t =>
          have hh' : PS2 c = true := hh
          have h4 : c.length = 4 := of_decide_eq_true hh'
          have hN : N = t.length + 1 := HN.out
          obtain rfl := HOF.out (by omega)
          have he := Lib.hid (show cutS PS2 (c :: t) = (scr c, t) by simp only [cutS]; rw [if_pos hh'])
          have h2 : ((N : Int) > 0) := by omega
          have P1 : ∀ w, (Instr.slice 9 (.string ⟨c.toArray⟩) none (some (.int .i64 1)) none).run Tryd.prog w = .ok (.string ⟨(c.take 1).toArray⟩) w := fun w => slice_to (P := Tryd.prog) 9 Tryd.underlying9 c .i64 1 (by omega) w
          have P2 : ∀ w, (Instr.slice 9 (.string ⟨c.toArray⟩) (some (.int .i64 1)) none none).run Tryd.prog w = .ok (.string ⟨(c.drop 1).toArray⟩) w := fun w => slice_from (P := Tryd.prog) 9 Tryd.underlying9 c .i64 1 (by omega) w
          have CU := Lib.hid fun w => rupper_any (c.take 1) w (by rw [List.length_take]; omega)
          obtain ⟨U, hU⟩ : ∃ U, U = (c.take 1).map upC := ⟨_, rfl⟩
          have ul : U.length ≤ 1 := by rw [hU, List.length_map, List.length_take]; omega
          rw [← hU] at CU
          have hX : U ++ c.drop 1 = scr c := by rw [hU]; rfl
          have AD : ∀ w, (Op.stringOp .add ⟨U.toArray⟩ ⟨(c.drop 1).toArray⟩).run Tryd.prog w = .ok (.string ⟨(scr c).toArray⟩) w := fun w => by rw [← hX]; exact add_str (P := Tryd.prog) U (c.drop 1) (by simp; omega) w
          have HNN := Lib.hid hN
          have HD2 := Lib.hid (show ∀ (j : Nat) x, t[j]? = some x → C (o0 + 1 + 1 + j) = some x from fun j x hx => by rw [Nat.add_assoc (o0 + 1), Nat.add_comm 1 j]; exact HC0.out (j + 1) x hx)
          have HE := Lib.hid (show t.length = 0 → ∀ (k j : Nat) x, t[j]? = some x → C (k + j) = some x from fun e0 k j x hx => by rw [List.length_eq_zero_iff.1 e0] at hx; simp at hx)
          have c1 := S4.out.cell _ c (HC0.out 0 c rfl)
          rw [Nat.add_zero] at c1
          have hc2 : t.length + 1 ≤ cp := by omega
          have HC2 := Lib.hid hc2
          clear hc2 hX hU hN hh hh'
          generalize scr c = X at *
          generalize c.take 1 = C1 at *
          generalize c.drop 1 = C2 at *
          go_upto_region 5 with fail
          have hN0 : 0 < N := by omega
          refine wp_region_held_drew (S := fun w' => w'.cell? ⟨b, o0 + 1, none⟩ = some (.string ⟨c.toArray⟩) ∧ Hid (∃ S', PSc w w' b p a S' [] (.slice none 0 0) C)) (by kernel_rfl) (by exact ⟨c1, Lib.hid ⟨_, S4.out.drew⟩⟩) (fun hHeld => ?_)
          refine take_run (d := (some 25)) (v := ?v1) 0 rfl rfl (by kernel_rfl) (by kernel_rfl) (by kernel_rfl) (fun _ _ _ h => h) (by rfl) hHeld ?hy1 ?rs1
          case hy1 => (intro w hSw; (try dsimp only at hSw); go_simp) <;> (try with_reducible rfl)
          (try simp only [Act.put, List.setIfInBounds_toArray, List.set_cons_zero, List.set_cons_succ])
          refine take_run (d := (some 26)) (v := ?v2) 1 rfl rfl (by kernel_rfl) (by kernel_rfl) (by kernel_rfl) (fun _ _ _ h => h) (by rfl) hHeld ?hy2 ?rs2
          case hy2 => (intro w hSw; (try dsimp only at hSw); go_simp) <;> (try with_reducible rfl)
          (try simp only [Act.put, List.setIfInBounds_toArray, List.set_cons_zero, List.set_cons_succ])
          refine take_run (d := (some 27)) (v := ?v3) 2 rfl rfl (by kernel_rfl) (by kernel_rfl) (by kernel_rfl) (fun _ _ _ h => h) (by rfl) hHeld ?hy3 ?rs3
          case hy3 => (intro w hSw; (try dsimp only at hSw); go_simp) <;> (try with_reducible rfl)
          (try simp only [Act.put, List.setIfInBounds_toArray, List.set_cons_zero, List.set_cons_succ])
          refine take_run (d := (some 28)) (v := ?v4) 3 rfl rfl (by kernel_rfl) (by kernel_rfl) (by kernel_rfl) (fun _ _ _ h => h) (by rfl) hHeld ?hy4 ?rs4
          case hy4 => (intro w hSw; (try dsimp only at hSw); go_simp) <;> (try with_reducible rfl)
          (try simp only [Act.put, List.setIfInBounds_toArray, List.set_cons_zero, List.set_cons_succ])
          refine take_run (d := (some 30)) (v := ?v5) 5 rfl rfl (by kernel_rfl) (by kernel_rfl) (by kernel_rfl) (fun _ _ _ h => h) (by rfl) hHeld ?hy5 ?rs5
          case hy5 => (intro w hSw; (try dsimp only at hSw); go_simp) <;> (try with_reducible rfl)
          (try simp only [Act.put, List.setIfInBounds_toArray, List.set_cons_zero, List.set_cons_succ])
          refine take_run (d := (some 31)) (v := ?v6) 6 rfl rfl (by kernel_rfl) (by kernel_rfl) (by kernel_rfl) (fun _ _ _ h => h) (by rfl) hHeld ?hy6 ?rs6
          case hy6 => (intro w hSw; (try dsimp only at hSw); go_simp) <;> (try with_reducible rfl)
          (try simp only [Act.put, List.setIfInBounds_toArray, List.set_cons_zero, List.set_cons_succ])
          refine take_run (d := (some 32)) (v := ?v7) 7 rfl rfl (by kernel_rfl) (by kernel_rfl) (by kernel_rfl) (fun _ _ _ h => h) (by rfl) hHeld ?hy7 ?rs7
          case hy7 => (intro w hSw; (try dsimp only at hSw); go_simp) <;> (try with_reducible rfl)
          (try simp only [Act.put, List.setIfInBounds_toArray, List.set_cons_zero, List.set_cons_succ])
          refine take_run (d := (some 33)) (v := ?v8) 8 rfl rfl (by kernel_rfl) (by kernel_rfl) (by kernel_rfl) (fun _ _ _ h => h) (by rfl) hHeld ?hy8 ?rs8
          case hy8 => (intro w hSw; (try dsimp only at hSw); go_simp) <;> (try with_reducible rfl)
          (try simp only [Act.put, List.setIfInBounds_toArray, List.set_cons_zero, List.set_cons_succ])
          refine take_call 4 rfl (by kernel_rfl) (by rfl) (fun K hK => ?_)
          go_simp
          refine (CU.out _).mono ?_
          rintro e w' ⟨rfl, hb⟩
          refine hK.out _ _ (by obtain ⟨h0, hw⟩ := hHeld; exact ⟨cell_keep h0 hb, Lib.hid (hw.out.elim fun S' hP => ⟨S', hP.below hb⟩)⟩) (fun hHeld => ?_)
          clear hK K
          (try simp only [Act.put, List.setIfInBounds_toArray, List.set_cons_zero, List.set_cons_succ])
          refine take_run (d := (some 34)) (v := ?v10) 9 rfl rfl (by kernel_rfl) (by kernel_rfl) (by kernel_rfl) (fun _ _ _ h => h) (by rfl) hHeld ?hy10 ?rs10
          case hy10 => (intro w hSw; (try dsimp only at hSw); go_simp) <;> (try with_reducible rfl)
          (try simp only [Act.put, List.setIfInBounds_toArray, List.set_cons_zero, List.set_cons_succ])
          refine take_run (d := (some 35)) (v := ?v11) 10 rfl rfl (by kernel_rfl) (by kernel_rfl) (by kernel_rfl) (fun _ _ _ h => h) (by rfl) hHeld ?hy11 ?rs11
          case hy11 => (intro w hSw; (try dsimp only at hSw); go_simp) <;> (try with_reducible rfl)
          (try simp only [Act.put, List.setIfInBounds_toArray, List.set_cons_zero, List.set_cons_succ])
          refine take_call 11 rfl (by kernel_rfl) (by rfl) (fun K hK => ?_)
          have hHeld0 := hHeld
          obtain ⟨h0, hw⟩ := hHeld
          obtain ⟨S', hP⟩ := hw.out
          have b1 := hP.box.cell 1 _ rfl
          have f1 := hP.box.free 1 (by simp)
          have FIN := Lib.hid (hP.setS hbp hwb X)
          go_simp
          refine hK.out _ _ (⟨(World.cell?_setCell_far _ _ _ _ (by show p ≠ b; omega)).trans h0, Lib.hid ⟨_, FIN.out⟩⟩) (fun hHeld => ?_)
          clear hK K
          (try simp only [Act.put, List.setIfInBounds_toArray, List.set_cons_zero, List.set_cons_succ])
          refine wpAnyH_done (by kernel_rfl) ?_ _
          obtain ⟨z0, zW⟩ := hHeld
          clear hw z0 zW h0 c1
          go_wp2_with fail
          all_goals go_meet
          all_goals rw [he.out]
          all_goals exact ⟨_, _, _, rfl, Lib.hid ⟨by have := HNN.out; show _ = t.length; omega, by have := HNN.out; omega, by have := HMX.out; omega⟩, Lib.hid (by first | exact HD2.out | exact HE.out (by have := HNN.out; have := HC2.out; omega) _), FIN⟩
    case rest =>
      obtain ⟨of1, M, Cp, rfl, HMC, HC1, S5⟩ := hcut
      have hMC := HMC.out.2.1
      have HMX1 := Lib.hid HMC.out.2.2
      have HM := Lib.hid HMC.out.1
      clear HMC hcp0 HMX HC0
      have sm1 := cutS_small PS2 T
      clear S4 HOF HN HS
      generalize cutS PS2 T = Z1 at *
      obtain ⟨S1, T1⟩ := Z1
      dsimp only at HM HC1 S5 HR1 sm1
      have HS := Lib.hid (show ∀ x ∈ T1, x.length ≤ 10000000 from fun x hx => by have := lens_mem hx; omega)
      have hsM : M ≤ 10000000 := by have := HM.out; omega
      go_upto_region 7 with fail
      go_cut [47] (fun v wx => v = .bool (headP PR2 T1) ∧ Hid (PSc w wx b p a S1 [] (.slice none 0 0) C))
      case first =>
        clear hsm HR1 HT sm1
        cases T1 with
        | nil =>
          obtain rfl : M = 0 := HM.out
          go_wp2_with fail
          go_meet
          exact ⟨rfl, S5⟩
        | cons c t =>
          have hM1 : M = t.length + 1 := HM.out
          have c1 := S5.out.cell _ c (HC1.out 0 c rfl)
          rw [Nat.add_zero] at c1
          have hcl := HS.out c (by simp)
          have hH : headP PR2 (c :: t) = decide (c.length < 4) := rfl
          have h2 : ((M : Int) > 0) := by omega
          have hM0 : 0 < M := by omega
          clear hM1
          by_cases h4 : c.length < 4
          · have e4 : ((c.length : Nat) : Int) < 4 := by omega
            go_wp2_with fail
            go_meet
            exact ⟨by rw [hH, decide_eq_true h4] <;> simp [e4], S5⟩
          · have e4 : ¬ ((c.length : Nat) : Int) < 4 := by omega
            go_wp2_with fail
            go_meet
            exact ⟨by rw [hH, decide_eq_false h4] <;> simp [e4], S5⟩
      case rest =>
        obtain ⟨rfl, S7⟩ := hcut
        clear S5
        go_upto_if 47 with fail
        go_cut [4] (fun v wx => ∃ of2 M2 Cp2, v = .slice (some ⟨b, of2, none⟩) M2 Cp2 ∧ Hid (M2 = (cutR PR2 T1).2.length ∧ M2 ≤ Cp2 ∧ Cp2 ≤ maxLen) ∧ Hid (∀ (j : Nat) x, (cutR PR2 T1).2[j]? = some x → C (of2 + j) = some x) ∧ Hid (PSc w wx b p a S1 (cutR PR2 T1).1 (.slice none 0 0) C))
        case first =>
          clear hsm HR1 HT sm1
          cases hh : headP PR2 T1 with
          | false =>
            go_wp2_with fail
            go_meet
            have e : cutR PR2 T1 = ([], T1) := by
              cases T1 with
              | nil => rfl
              | cons c t => simp only [cutR]; rw [if_neg (by rw [show PR2 c = false from hh]; decide)]
            rw [e]
            exact ⟨of1, M, Cp, rfl, Lib.hid ⟨HM.out, hMC, HMX1.out⟩, HC1, S7⟩
          | true =>
            cases T1 with
            | nil => cases hh
            | cons c t =>
              have hM1 : M = t.length + 1 := HM.out
              have c1 := S7.out.cell _ c (HC1.out 0 c rfl)
              rw [Nat.add_zero] at c1
              have hcl := HS.out c (by simp)
              have CU := Lib.hid fun w => rupper_any c w (by omega)
              have he := Lib.hid (show cutR PR2 (c :: t) = (c.map upC, t) by simp only [cutR]; rw [if_pos (show PR2 c = true from hh)])
              have h2 : ((M : Int) > 0) := by omega
              have hM0 : 0 < M := by omega
              have HNN := Lib.hid hM1
              have HD2 := Lib.hid (show ∀ (j : Nat) x, t[j]? = some x → C (of1 + 1 + j) = some x from fun j x hx => by rw [Nat.add_assoc, Nat.add_comm 1 j]; exact HC1.out (j + 1) x hx)
              have HE := Lib.hid (show t.length = 0 → ∀ (k j : Nat) x, t[j]? = some x → C (k + j) = some x from fun e0 k j x hx => by rw [List.length_eq_zero_iff.1 e0] at hx; simp at hx)
              generalize c.map upC = U at *
              clear hM1 hh
              go_wp2_with fail
              refine (CU.out _).mono ?_
              rintro e w6 ⟨rfl, hb⟩
              have S6 := Lib.hid (S7.out.below hb)
              have b2 := S6.out.box.cell 2 _ rfl
              have f2 := S6.out.box.free 2 (by simp)
              clear hb c1
              go_wp2_with fail
              all_goals go_meet
              all_goals rw [he.out]
              all_goals exact ⟨_, _, _, rfl, Lib.hid ⟨by have := HNN.out; show _ = t.length; omega, by have := HNN.out; omega, by have := HMX1.out; omega⟩, Lib.hid (by first | exact HD2.out | exact HE.out (by have := HNN.out; omega) _), Lib.hid (S6.out.setR hbp hwb _)⟩
        case rest =>
          obtain ⟨of2, M2, Cp2, rfl, HMC, HC2, S9⟩ := hcut
          have hMC2 := HMC.out.2.1
          have HMX2 := Lib.hid HMC.out.2.2
          have HM2 := Lib.hid HMC.out.1
          have sm2 := cutR_small PR2 T1
          clear S7 HS HM HC1 HMC HMX1 hMC
          generalize cutR PR2 T1 = Z2 at *
          obtain ⟨R1, T2⟩ := Z2
          dsimp only at HM2 HC2 S9 HR1 sm2
          have hM2 := HM2.out
          have HST := Lib.hid (show ∀ wx, PSc w wx b p a S1 R1 (.slice none 0 0) C → ∀ (j : Nat) u, (T2.map txtV)[j]? = some u → wx.cell? ((⟨b, of2, none⟩ : Addr).add j) = some u from fun wx h j u hu => by
            rw [List.getElem?_map] at hu
            obtain ⟨x, hx, rfl⟩ := Option.map_eq_some_iff.1 hu
            rw [show (⟨b, of2, none⟩ : Addr).add j = ⟨b, of2 + j, none⟩ from Go.WideShapes.add_plain ..]
            exact h.cell _ x (HC2.out j x hx))
          have HLN := Lib.hid (show (T2.map txtV).length = M2 * 1 by rw [List.length_map]; omega)
          have hsM2 : M2 ≤ 10000000 := by omega
          have CK := Lib.hid fun w V h => rfault_tag a S1 R1 T2 V w h (by omega) (fun x hx => by have := lens_mem hx; omega)
          have CT := Lib.hid fun w V h h0 => rtext_any a S1 R1 T2 V w h h0 (by omega)
          have tl := text_len a S1 R1 T2
          have CX := Lib.hid fun w => rlower_any (tagText a S1 R1 T2) w (by omega)
          have HO : okT q a S1 R1 T2 = (decide (tagFault a S1 R1 T2 = 0) && ((tagText a S1 R1 T2).map lowC == q)) := rfl
          rw [HO] at HR1
          clear HO HC2 HM2 sm1 sm2 tl hM2
          generalize tagFault a S1 R1 T2 = Fl at *
          generalize tagText a S1 R1 T2 = X at *
          generalize X.map lowC = Y at *
          have b30 := S9.out.box.cell 3 _ rfl
          have hpz := S9.out.box.lt
          go_wp2_with (at_builtin; refine wpList_append_own _ rfl (.tmp 56) (.tmp 57) 22 rfl (p + 1) 9 i0 (.string ByteArray.empty) 1 16 Tryd.underlying22 hi hz0 hz1 hz2 rfl (by decide) (.slice none 0 0) 0 [] rfl ⟨rfl, .inl ⟨rfl, rfl⟩⟩ ⟨b, of2, none⟩ M2 Cp2 (T2.map txtV) rfl HLN.out (HST.out _ S9.out) (fun x hx => by obtain ⟨y, _, rfl⟩ := List.mem_map.1 hx; rfl) (by unfold maxLen; omega) (by omega) hpz ?_; intro v' w7 hown hgrow _; have HOW := Lib.hid hown; have S10 := Lib.hid (S9.out.below ((Below.refl _ _).grown hgrow (Nat.le_refl _) (fun k hk => by cases hk))); have b3 := S10.out.box.cell 3 _ rfl; have f3 := S10.out.box.free 3 (by simp); have k0 := S10.out.box.cell 0 _ rfl; have k1 := S10.out.box.cell 1 _ rfl; have k2 := S10.out.box.cell 2 _ rfl; clear hgrow hown b30 hpz; have HN7 := Lib.hid (Nil0.of_row HOW.out); have HF7 := Lib.hid (FarV.of_row HOW.out); have HV7 := Lib.hid (show StrsAt w7 v' T2 from StrsAt.of_row (by have h7 := HOW.out; rw [List.nil_append] at h7; exact h7)); clear HOW; obtain ⟨x0, n0, cp0, rfl⟩ := HV7.out.isSlice)
          refine (CK.out _ (.slice x0 n0 cp0) (HV7.out.setCell HF7.out ⟨p, 3, none⟩ (by show p < p + 1; omega) (.slice x0 n0 cp0))).mono ?_
          rintro e w9 ⟨rfl, hb⟩
          have HV9 := Lib.hid ((HV7.out.setCell HF7.out ⟨p, 3, none⟩ (by show p < p + 1; omega) (.slice x0 n0 cp0)).below hb)
          have S9 := Lib.hid ((S10.out.setV hbp hwb (.slice x0 n0 cp0)).below hb)
          have HA := HN7
          have HF := Lib.hid (HF7.out.mono (show w.heap.size + 1 ≤ p + 1 by omega))
          clear k0 k1 k2 b3 f3 hb HN7 HF7 HV7 S10 CK HST HLN
          by_cases h : Fl = 0
          ·
              have c0 := S9.out.box.cell 0 _ rfl
              have c1 := S9.out.box.cell 1 _ rfl
              have c2 := S9.out.box.cell 2 _ rfl
              have c3 := S9.out.box.cell 3 _ rfl
              subst h
              go_wp2_with fail
              refine (CT.out _ _ HV9.out HA.out).mono ?_
              rintro e wA ⟨rfl, hb⟩
              have HVA := Lib.hid (HV9.out.below hb)
              have SA := Lib.hid (S9.out.below hb)
              clear c0 c1 c2 c3 hb CT HV9 S9
              go_wp2_with fail
              refine (CX.out _).mono ?_
              rintro e wB ⟨rfl, hb⟩
              have HVB := Lib.hid (HVA.out.below hb)
              have SB := Lib.hid (SA.out.below hb)
              clear hb CX HVA SA
              go_wp2_with fail
              refine (CL.out _).mono ?_
              rintro e wC ⟨rfl, hb⟩
              have HVC := Lib.hid (HVB.out.below hb)
              have SC := Lib.hid (SB.out.below hb)
              clear hb CL HVB SB
              by_cases h2 : Y = q
              · subst h2
                have rc0 := SC.out.res.cell 0 _ rfl
                have rc1 := SC.out.res.cell 1 _ rfl
                have rc2 := SC.out.res.cell 2 _ rfl
                have rc3 := SC.out.res.cell 3 _ rfl
                have rf0 := SC.out.res.free 0 (by simp)
                have rf1 := SC.out.res.free 1 (by simp)
                have rf2 := SC.out.res.free 2 (by simp)
                have rf3 := SC.out.res.free 3 (by simp)
                have c0 := SC.out.box.cell 0 _ rfl
                have c1 := SC.out.box.cell 1 _ rfl
                have c2 := SC.out.box.cell 2 _ rfl
                have c3 := SC.out.box.cell 3 _ rfl
                have hRT : RT = ⟨a, S1, R1, T2⟩ ∧ RO = true := by rw [HT.out.1, HT.out.2, HR1.out, if_pos (by simp)]; exact ⟨rfl, rfl⟩
                obtain ⟨rfl, rfl⟩ := hRT
                clear HR1 HT
                go_wp2_with fail
                refine bodyPost_ret (v := .tuple #[.agg #[.string ⟨a.toArray⟩, .string ⟨S1.toArray⟩, .string ⟨R1.toArray⟩, .slice x0 n0 cp0], .bool true]) (by simp [results, Tryd.results27, go_sem, rc0, rc1, rc2, rc3]) rfl ?_
                exact ⟨.slice x0 n0 cp0, rfl, by repeat (first | exact HVC.out | refine StrsAt.setCell ?_ HF.out _ (by simp) _), HA.out, by repeat (first | exact SC.out.bel | refine Below.setCell ?_ (by simp) _)⟩
              · have q1 : (Y == q) = false := beq_eq_false_iff_ne.2 h2
                have q2 : (Y != q) = true := by rw [bne, q1]; rfl
                have rc0 := SC.out.res.cell 0 _ rfl
                have rc1 := SC.out.res.cell 1 _ rfl
                have rc2 := SC.out.res.cell 2 _ rfl
                have rc3 := SC.out.res.cell 3 _ rfl
                have rf0 := SC.out.res.free 0 (by simp)
                have rf1 := SC.out.res.free 1 (by simp)
                have rf2 := SC.out.res.free 2 (by simp)
                have rf3 := SC.out.res.free 3 (by simp)
                have hRT : RT = noTag ∧ RO = false := by rw [HT.out.1, HT.out.2, HR1.out, if_neg (by rw [q1]; simp)]; exact ⟨rfl, rfl⟩
                obtain ⟨rfl, rfl⟩ := hRT
                clear HR1 HT
                go_wp2_with fail
                refine bodyPost_ret (v := .tuple #[.agg #[.string ⟨#[]⟩, .string ⟨#[]⟩, .string ⟨#[]⟩, .slice none 0 0], .bool false]) (by simp [results, Tryd.results27, go_sem, rc0, rc1, rc2, rc3]) rfl ?_
                exact ⟨.slice none 0 0, rfl, .inl ⟨rfl, _, _, rfl⟩, fun n c e => by injection e with _ _ e; exact e.symm, by repeat (first | exact SC.out.bel | refine Below.setCell ?_ (by simp) _)⟩
          ·
              have rc0 := S9.out.res.cell 0 _ rfl
              have rc1 := S9.out.res.cell 1 _ rfl
              have rc2 := S9.out.res.cell 2 _ rfl
              have rc3 := S9.out.res.cell 3 _ rfl
              have rf0 := S9.out.res.free 0 (by simp)
              have rf1 := S9.out.res.free 1 (by simp)
              have rf2 := S9.out.res.free 2 (by simp)
              have rf3 := S9.out.res.free 3 (by simp)
              have hRT : RT = noTag ∧ RO = false := by rw [HT.out.1, HT.out.2, HR1.out, if_neg (by rw [decide_eq_false h]; simp)]; exact ⟨rfl, rfl⟩
              obtain ⟨rfl, rfl⟩ := hRT
              clear HR1 HT
              go_wp2_with fail
              refine bodyPost_ret (v := .tuple #[.agg #[.string ⟨#[]⟩, .string ⟨#[]⟩, .string ⟨#[]⟩, .slice none 0 0], .bool false]) (by simp [results, Tryd.results27, go_sem, rc0, rc1, rc2, rc3]) rfl ?_
              exact ⟨.slice none 0 0, rfl, .inl ⟨rfl, _, _, rfl⟩, fun n c e => by injection e with _ _ e; exact e.symm, by repeat (first | exact S9.out.bel | refine Below.setCell ?_ (by simp) _)⟩
end Go.Proofs.YtlhleojigcnjeaaDoor
