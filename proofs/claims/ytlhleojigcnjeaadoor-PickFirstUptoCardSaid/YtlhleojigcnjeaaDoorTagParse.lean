/- The walk of tag.Parse: it reads what the plain law says. Conditions: the library's variable MaxLen holds a number; the text is of at most 10000000 bytes. -/
import Derived.Test.YtlhleojigcnjeaaDoorTagPst
import Derived.Test.YtlhleojigcnjeaaDoorHeld
import Derived.Deep.DeepCutAuto
namespace Go.Proofs.YtlhleojigcnjeaaDoor
open Go.RowKit

set_option maxRecDepth 100000 in
set_option maxHeartbeats 4000000 in
theorem tparse_any (s : List UInt8) (w : World) (hM : MaxW w) (hs : s.length ≤ 10000000) :
    Calls Tryd.prog 13 #[.string ⟨s.toArray⟩] w fun e w' => ∃ V, e = .returned (.tuple #[.agg #[.string ⟨(readT s).l.toArray⟩, .string ⟨(readT s).s.toArray⟩, .string ⟨(readT s).r.toArray⟩, V], errE (if readOk s then 0 else 3)]) ∧ StrsAt w' V (readT s).vs ∧ Nil0 V ∧ Below w.heap.size w w' := by
  obtain ⟨q, hq⟩ : ∃ q, q = s.map lowC := ⟨_, rfl⟩
  have hql : q.length = s.length := by rw [hq, List.length_map]
  have CL := Lib.hid fun w => taglower_any s w (by omega)
  have HR0 := Lib.hid (show ∀ a T, Lib.split q [45] = a :: T → readTag PS1 PR1 s = if okT q a (cutS PS1 T).1 (cutR PR1 (cutS PS1 T).2).1 (cutR PR1 (cutS PS1 T).2).2 then some ⟨a, (cutS PS1 T).1, (cutR PR1 (cutS PS1 T).2).1, (cutR PR1 (cutS PS1 T).2).2⟩ else none from fun a T h => by unfold readTag; rw [← hq, h])
  have HM0 := Lib.hid (show ∀ a T, Lib.split q [45] = a :: T → q.length = a.length + (Lib.lens T + T.length) from fun a T h => split_small q h)
  rw [← hq] at CL
  have CS := Lib.hid fun w hM => split_any q 45 w hM (by omega)
  have HT := Lib.hid (show readT s = (readTag PS1 PR1 s).getD noTag ∧ readOk s = (readTag PS1 PR1 s).isSome from ⟨rfl, rfl⟩)
  generalize Lib.split q [45] = L at *
  clear hq
  generalize readT s = RT at *
  generalize readOk s = RO at *
  go_enter Tryd.func13, Tryd.ntmps13
  go_wp2_with fail
  refine (CL.out _).mono ?_
  rintro e w1 ⟨rfl, hb⟩
  have W1 := Lib.hid (blw_trans (show Below w.heap.size w _ from Below.alloc (Below.refl _ _) (Nat.le_refl _) _) hb)
  have hn1 := hb.size
  have R1 := Lib.hid (((Boxed.made w #[.string ByteArray.empty, .string ByteArray.empty, .string ByteArray.empty, .slice none 0 0] 24)).below hb)
  have hM1 := Lib.hid (hM.below W1.out)
  clear hb
  go_wp2_with fail
  refine (CS.out _ hM1.out).mono ?_
  rintro e w2 ⟨rfl, h0, hle, hc, hb⟩
  have W2 := Lib.hid (blw_trans W1.out hb)
  have R2 := Lib.hid (R1.out.below hb)
  have hn2 := hb.size
  obtain ⟨a, T, hLT⟩ : ∃ a T, L = a :: T := List.exists_cons_of_ne_nil (by intro e; rw [e] at h0; simp at h0)
  subst hLT
  have hsm := HM0.out a T rfl
  have HR1 := Lib.hid (HR0.out a T rfl)
  clear HM0 HR0
  have xc := hc 0 a rfl
  have HC := Lib.hid hc
  generalize w1.heap.size = b at *
  clear hc hb CS R1 W1 hM1 hle h0
  obtain ⟨N, hN⟩ : ∃ N, N = T.length := ⟨_, rfl⟩
  rw [List.length_cons, ← hN]
  have HN := Lib.hid hN
  have hsN : N ≤ 10000000 := by omega
  clear hN
  go_upto_region 4 with fail
  have S3 := Lib.hid (show PSt w (w2.alloc (.cells #[.string ⟨a.toArray⟩, .string ByteArray.empty, .string ByteArray.empty, .slice none 0 0] 24)) b w2.heap.size a [] [] (.slice none 0 0) (a :: T) from
    ⟨blw_trans W2.out (blw_alloc _ _), R2.out.alloc _, Boxed.made _ _ _, fun j x hx => cell_keep (HC.out j x hx) (blw_alloc _ _)⟩)
  have HS := Lib.hid (show ∀ x ∈ T, x.length ≤ 10000000 from fun x hx => by have := lens_mem hx; omega)
  obtain ⟨w3, hw3⟩ : ∃ w3, w3 = w2.alloc (.cells #[.string ⟨a.toArray⟩, .string ⟨#[]⟩, .string ⟨#[]⟩, .slice none 0 0] 24) := ⟨_, rfl⟩
  have S4 := Lib.hid (show PSt w w3 b w2.heap.size a [] [] (.slice none 0 0) (a :: T) by rw [hw3]; exact S3.out)
  rw [← hw3]
  have hbp : b < w2.heap.size := World.block_lt_of_cell? _ _ xc
  have hwb : w.heap.size < b := by simp at hn1; omega
  clear hw3 S3 R2 W2 xc HC hn1 hn2
  generalize w2.heap.size = p at *
  obtain ⟨off, ho, hof⟩ : ∃ off, (if N = 0 then some (⟨b, 0, none⟩ : Addr) else some ⟨b, 1, none⟩) = some ⟨b, off, none⟩ ∧ (N ≠ 0 → off = 1) := by
    by_cases h : N = 0
    · exact ⟨0, if_pos h, fun e => absurd h e⟩
    · exact ⟨1, if_neg h, fun _ => rfl⟩
  rw [ho]
  have HOF := Lib.hid hof
  clear ho hof
  go_cut [23] (fun v wx => v = .bool (headP PS1 T) ∧ wx = w3)
  case first =>
    cases T with
    | nil =>
      obtain rfl : N = 0 := HN.out
      go_wp2_with fail
      go_meet
      exact ⟨rfl, rfl⟩
    | cons c t =>
      have hN : N = t.length + 1 := HN.out
      have c1 := S4.out.cell 1 c rfl
      have CM := Lib.hid fun w => made_low c 4 4 w (by have := HS.out c (by simp); omega)
      obtain rfl := HOF.out (by omega)
      have h2 : ((N : Int) > 0) := by omega
      clear hN hsm
      go_wp2_with fail
      refine (CM.out _).mono ?_
      rintro e w' ⟨rfl, rfl⟩
      go_wp2_with fail
      go_meet
      exact ⟨rfl, rfl⟩
  case rest =>
    obtain ⟨rfl, rfl⟩ := hcut
    go_upto_if 23 with fail
    go_cut [4] (fun v wx => ∃ of1 M, v = .slice (some ⟨b, of1, none⟩) M M ∧ Hid (M = (cutS PS1 T).2.length) ∧ Hid (∀ (j : Nat) x, (cutS PS1 T).2[j]? = some x → (a :: T)[of1 + j]? = some x) ∧ Hid (PSt w wx b p a (cutS PS1 T).1 [] (.slice none 0 0) (a :: T)))
    case first =>
      clear hsm HR1 HT
      cases hh : headP PS1 T with
      | false =>
        go_wp2_with fail
        go_meet
        have e : cutS PS1 T = ([], T) := by
          cases T with
          | nil => rfl
          | cons c t => simp only [cutS]; rw [if_neg (by rw [show PS1 c = false from hh]; decide)]
        rw [e]
        refine ⟨off, N, rfl, HN, Lib.hid fun j x hx => ?_, S4⟩
        have hT : N ≠ 0 := fun h0 => by
          have := HN.out
          rw [h0] at this
          rw [List.length_eq_zero_iff.1 this.symm] at hx; simp at hx
        rw [HOF.out hT, Nat.add_comm]; exact hx
      | true =>
        cases T with
        | nil => cases hh
        | cons c t =>
          have hh' : PS1 c = true := hh
          have h4 : c.length = 4 := by have := onlyB_len hh'; omega
          have hN : N = t.length + 1 := HN.out
          obtain rfl := HOF.out (by omega)
          have he := Lib.hid (show cutS PS1 (c :: t) = (scr c, t) by simp only [cutS]; rw [if_pos hh'])
          have h2 : ((N : Int) > 0) := by omega
          have P1 : ∀ w, (Instr.slice 9 (.string ⟨c.toArray⟩) none (some (.int .i64 1)) none).run Tryd.prog w = .ok (.string ⟨(c.take 1).toArray⟩) w := fun w => slice_to (P := Tryd.prog) 9 Tryd.underlying9 c .i64 1 (by omega) w
          have P2 : ∀ w, (Instr.slice 9 (.string ⟨c.toArray⟩) (some (.int .i64 1)) none none).run Tryd.prog w = .ok (.string ⟨(c.drop 1).toArray⟩) w := fun w => slice_from (P := Tryd.prog) 9 Tryd.underlying9 c .i64 1 (by omega) w
          have CU := Lib.hid fun w => tagupper_any (c.take 1) w (by rw [List.length_take]; omega)
          obtain ⟨U, hU⟩ : ∃ U, U = (c.take 1).map upC := ⟨_, rfl⟩
          have ul : U.length ≤ 1 := by rw [hU, List.length_map, List.length_take]; omega
          rw [← hU] at CU
          have hX : U ++ c.drop 1 = scr c := by rw [hU]; rfl
          have AD : ∀ w, (Op.stringOp .add ⟨U.toArray⟩ ⟨(c.drop 1).toArray⟩).run Tryd.prog w = .ok (.string ⟨(scr c).toArray⟩) w := fun w => by rw [← hX]; exact add_str (P := Tryd.prog) U (c.drop 1) (by simp; omega) w
          have HNN := Lib.hid hN
          have HD2 := Lib.hid (show ∀ (j : Nat) x, t[j]? = some x → (a :: c :: t)[2 + j]? = some x from fun j x hx => by rw [Nat.add_comm]; exact hx)
          have HE := Lib.hid (show t.length = 0 → ∀ (k j : Nat) x, t[j]? = some x → (a :: c :: t)[k + j]? = some x from fun e0 k j x hx => by rw [List.length_eq_zero_iff.1 e0] at hx; simp at hx)
          have c1 := S4.out.cell 1 c rfl
          clear hX hU hN hh hh'
          generalize scr c = X at *
          generalize c.take 1 = C1 at *
          generalize c.drop 1 = C2 at *
          go_upto_region 5 with fail
          have hN0 : 0 < N := by omega
          refine wp_region_held_drew (S := fun w' => w'.cell? ⟨b, 1, none⟩ = some (.string ⟨c.toArray⟩) ∧ Hid (∃ S', PSt w w' b p a S' [] (.slice none 0 0) (a :: c :: t))) (by kernel_rfl) (by exact ⟨c1, Lib.hid ⟨_, S4.out.drew⟩⟩) (fun hHeld => ?_)
          refine take_run (d := (some 24)) (v := ?v1) 0 rfl rfl (by kernel_rfl) (by kernel_rfl) (by kernel_rfl) (fun _ _ _ h => h) (by rfl) hHeld ?hy1 ?rs1
          case hy1 => (intro w hSw; (try dsimp only at hSw); go_simp) <;> (try with_reducible rfl)
          (try simp only [Act.put, List.setIfInBounds_toArray, List.set_cons_zero, List.set_cons_succ])
          refine take_run (d := (some 25)) (v := ?v2) 1 rfl rfl (by kernel_rfl) (by kernel_rfl) (by kernel_rfl) (fun _ _ _ h => h) (by rfl) hHeld ?hy2 ?rs2
          case hy2 => (intro w hSw; (try dsimp only at hSw); go_simp) <;> (try with_reducible rfl)
          (try simp only [Act.put, List.setIfInBounds_toArray, List.set_cons_zero, List.set_cons_succ])
          refine take_run (d := (some 26)) (v := ?v3) 2 rfl rfl (by kernel_rfl) (by kernel_rfl) (by kernel_rfl) (fun _ _ _ h => h) (by rfl) hHeld ?hy3 ?rs3
          case hy3 => (intro w hSw; (try dsimp only at hSw); go_simp) <;> (try with_reducible rfl)
          (try simp only [Act.put, List.setIfInBounds_toArray, List.set_cons_zero, List.set_cons_succ])
          refine take_run (d := (some 27)) (v := ?v4) 3 rfl rfl (by kernel_rfl) (by kernel_rfl) (by kernel_rfl) (fun _ _ _ h => h) (by rfl) hHeld ?hy4 ?rs4
          case hy4 => (intro w hSw; (try dsimp only at hSw); go_simp) <;> (try with_reducible rfl)
          (try simp only [Act.put, List.setIfInBounds_toArray, List.set_cons_zero, List.set_cons_succ])
          refine take_run (d := (some 29)) (v := ?v5) 5 rfl rfl (by kernel_rfl) (by kernel_rfl) (by kernel_rfl) (fun _ _ _ h => h) (by rfl) hHeld ?hy5 ?rs5
          case hy5 => (intro w hSw; (try dsimp only at hSw); go_simp) <;> (try with_reducible rfl)
          (try simp only [Act.put, List.setIfInBounds_toArray, List.set_cons_zero, List.set_cons_succ])
          refine take_run (d := (some 30)) (v := ?v6) 6 rfl rfl (by kernel_rfl) (by kernel_rfl) (by kernel_rfl) (fun _ _ _ h => h) (by rfl) hHeld ?hy6 ?rs6
          case hy6 => (intro w hSw; (try dsimp only at hSw); go_simp) <;> (try with_reducible rfl)
          (try simp only [Act.put, List.setIfInBounds_toArray, List.set_cons_zero, List.set_cons_succ])
          refine take_run (d := (some 31)) (v := ?v7) 7 rfl rfl (by kernel_rfl) (by kernel_rfl) (by kernel_rfl) (fun _ _ _ h => h) (by rfl) hHeld ?hy7 ?rs7
          case hy7 => (intro w hSw; (try dsimp only at hSw); go_simp) <;> (try with_reducible rfl)
          (try simp only [Act.put, List.setIfInBounds_toArray, List.set_cons_zero, List.set_cons_succ])
          refine take_run (d := (some 32)) (v := ?v8) 8 rfl rfl (by kernel_rfl) (by kernel_rfl) (by kernel_rfl) (fun _ _ _ h => h) (by rfl) hHeld ?hy8 ?rs8
          case hy8 => (intro w hSw; (try dsimp only at hSw); go_simp) <;> (try with_reducible rfl)
          (try simp only [Act.put, List.setIfInBounds_toArray, List.set_cons_zero, List.set_cons_succ])
          refine take_call 4 rfl (by kernel_rfl) (by rfl) (fun K hK => ?_)
          go_simp
          refine (CU.out _).mono ?_
          rintro e w' ⟨rfl, hb⟩
          refine hK.out _ _ (by obtain ⟨h0, hw⟩ := hHeld; exact ⟨cell_keep h0 hb, Lib.hid (hw.out.elim fun S' hP => ⟨S', hP.below hb⟩)⟩) (fun hHeld => ?_)
          clear hK K
          (try simp only [Act.put, List.setIfInBounds_toArray, List.set_cons_zero, List.set_cons_succ])
          refine take_run (d := (some 33)) (v := ?v10) 9 rfl rfl (by kernel_rfl) (by kernel_rfl) (by kernel_rfl) (fun _ _ _ h => h) (by rfl) hHeld ?hy10 ?rs10
          case hy10 => (intro w hSw; (try dsimp only at hSw); go_simp) <;> (try with_reducible rfl)
          (try simp only [Act.put, List.setIfInBounds_toArray, List.set_cons_zero, List.set_cons_succ])
          refine take_run (d := (some 34)) (v := ?v11) 10 rfl rfl (by kernel_rfl) (by kernel_rfl) (by kernel_rfl) (fun _ _ _ h => h) (by rfl) hHeld ?hy11 ?rs11
          case hy11 => (intro w hSw; (try dsimp only at hSw); go_simp) <;> (try with_reducible rfl)
          (try simp only [Act.put, List.setIfInBounds_toArray, List.set_cons_zero, List.set_cons_succ])
          refine take_call 11 rfl (by kernel_rfl) (by rfl) (fun K hK => ?_)
          have hHeld0 := hHeld
          obtain ⟨h0, hw⟩ := hHeld
          obtain ⟨S', hP⟩ := hw.out
          have b1 := hP.box.cell 1 _ rfl
          have f1 := hP.box.free 1 (by simp)
          have FIN := Lib.hid (hP.setS hbp hwb X)
          go_simp
          refine hK.out _ _ (⟨(World.cell?_setCell_far _ _ _ _ (by show p ≠ b; omega)).trans h0, Lib.hid ⟨_, FIN.out⟩⟩) (fun hHeld => ?_)
          clear hK K
          (try simp only [Act.put, List.setIfInBounds_toArray, List.set_cons_zero, List.set_cons_succ])
          refine wpAnyH_done (by kernel_rfl) ?_ _
          obtain ⟨z0, zW⟩ := hHeld
          clear hw z0 zW h0 c1
          go_wp2_with fail
          all_goals go_meet
          all_goals rw [he.out]
          all_goals exact ⟨_, _, rfl, Lib.hid (by have := HNN.out; show _ = t.length; omega), Lib.hid (by first | exact HD2.out | exact HE.out (by have := HNN.out; omega) _), FIN⟩
    case rest =>
      obtain ⟨of1, M, rfl, HM, HC1, S5⟩ := hcut
      have sm1 := cutS_small PS1 T
      clear S4 HOF HN HS
      generalize cutS PS1 T = Z1 at *
      obtain ⟨S1, T1⟩ := Z1
      dsimp only at HM HC1 S5 HR1 sm1
      have HS := Lib.hid (show ∀ x ∈ T1, x.length ≤ 10000000 from fun x hx => by have := lens_mem hx; omega)
      have hsM : M ≤ 10000000 := by have := HM.out; omega
      go_upto_region 7 with fail
      go_cut [46] (fun v wx => v = .bool (headP PR1 T1) ∧ Hid (PSt w wx b p a S1 [] (.slice none 0 0) (a :: T)))
      case first =>
        clear hsm HR1 HT sm1
        cases T1 with
        | nil =>
          obtain rfl : M = 0 := HM.out
          go_wp2_with fail
          go_meet
          exact ⟨rfl, S5⟩
        | cons c t =>
          have hM1 : M = t.length + 1 := HM.out
          have c1 := S5.out.cell _ c (HC1.out 0 c rfl)
          rw [Nat.add_zero] at c1
          have hcl := HS.out c (by simp)
          have CU := Lib.hid fun w => tagupper_any c w (by omega)
          have CR := Lib.hid fun w => region_any (c.map upC) w (by rw [List.length_map]; omega)
          have HH := Lib.hid (show headP PR1 (c :: t) = regionB (c.map upC) from rfl)
          have h2 : ((M : Int) > 0) := by omega
          have hM0 : 0 < M := by omega
          generalize c.map upC = U at *
          clear hM1
          go_wp2_with fail
          refine (CU.out _).mono ?_
          rintro e w6 ⟨rfl, hb⟩
          have S6 := Lib.hid (S5.out.below hb)
          clear hb c1
          go_wp2_with fail
          refine (CR.out _).mono ?_
          rintro e w' ⟨rfl, rfl⟩
          go_wp2_with fail
          go_meet
          rw [HH.out]
          exact ⟨rfl, S6⟩
      case rest =>
        obtain ⟨rfl, S7⟩ := hcut
        clear S5
        go_upto_if 46 with fail
        go_cut [4] (fun v wx => ∃ of2 M2, v = .slice (some ⟨b, of2, none⟩) M2 M2 ∧ Hid (M2 = (cutR PR1 T1).2.length) ∧ Hid (∀ (j : Nat) x, (cutR PR1 T1).2[j]? = some x → (a :: T)[of2 + j]? = some x) ∧ Hid (PSt w wx b p a S1 (cutR PR1 T1).1 (.slice none 0 0) (a :: T)))
        case first =>
          clear hsm HR1 HT sm1
          cases hh : headP PR1 T1 with
          | false =>
            go_wp2_with fail
            go_meet
            have e : cutR PR1 T1 = ([], T1) := by
              cases T1 with
              | nil => rfl
              | cons c t => simp only [cutR]; rw [if_neg (by rw [show PR1 c = false from hh]; decide)]
            rw [e]
            exact ⟨of1, M, rfl, HM, HC1, S7⟩
          | true =>
            cases T1 with
            | nil => cases hh
            | cons c t =>
              have hM1 : M = t.length + 1 := HM.out
              have c1 := S7.out.cell _ c (HC1.out 0 c rfl)
              rw [Nat.add_zero] at c1
              have hcl := HS.out c (by simp)
              have CU := Lib.hid fun w => tagupper_any c w (by omega)
              have he := Lib.hid (show cutR PR1 (c :: t) = (c.map upC, t) by simp only [cutR]; rw [if_pos (show PR1 c = true from hh)])
              have h2 : ((M : Int) > 0) := by omega
              have hM0 : 0 < M := by omega
              have HNN := Lib.hid hM1
              have HD2 := Lib.hid (show ∀ (j : Nat) x, t[j]? = some x → (a :: T)[of1 + 1 + j]? = some x from fun j x hx => by rw [Nat.add_assoc, Nat.add_comm 1 j]; exact HC1.out (j + 1) x hx)
              have HE := Lib.hid (show t.length = 0 → ∀ (k j : Nat) x, t[j]? = some x → (a :: T)[k + j]? = some x from fun e0 k j x hx => by rw [List.length_eq_zero_iff.1 e0] at hx; simp at hx)
              generalize c.map upC = U at *
              clear hM1 hh
              go_wp2_with fail
              refine (CU.out _).mono ?_
              rintro e w6 ⟨rfl, hb⟩
              have S6 := Lib.hid (S7.out.below hb)
              have b2 := S6.out.box.cell 2 _ rfl
              have f2 := S6.out.box.free 2 (by simp)
              clear hb c1
              go_wp2_with fail
              all_goals go_meet
              all_goals rw [he.out]
              all_goals exact ⟨_, _, rfl, Lib.hid (by have := HNN.out; show _ = t.length; omega), Lib.hid (by first | exact HD2.out | exact HE.out (by have := HNN.out; omega) _), Lib.hid (S6.out.setR hbp hwb _)⟩
        case rest =>
          obtain ⟨of2, M2, rfl, HM2, HC2, S9⟩ := hcut
          have sm2 := cutR_small PR1 T1
          clear S7 HS HM HC1
          generalize cutR PR1 T1 = Z2 at *
          obtain ⟨R1, T2⟩ := Z2
          dsimp only at HM2 HC2 S9 HR1 sm2
          have hM2 := HM2.out
          have HST := Lib.hid (show ∀ wx, PSt w wx b p a S1 R1 (.slice none 0 0) (a :: T) → StrsAt wx (.slice (some ⟨b, of2, none⟩) M2 M2) T2 from fun wx h => by
            rw [hM2]
            by_cases e : T2 = []
            · subst e; exact .inl ⟨rfl, _, _, rfl⟩
            · exact .inr ⟨b, of2, _, rfl, List.length_pos_iff.2 e, Nat.le_refl _, by unfold maxLen; omega, fun j x hx => h.cell _ x (HC2.out j x hx)⟩)
          have CC := Lib.hid fun w h => clone_any T2 (.slice (some ⟨b, of2, none⟩) M2 M2) w h (by omega)
          have CK := Lib.hid fun w V h => check_any a S1 R1 T2 V w h (by omega) (fun x hx => by have := lens_mem hx; omega)
          have CT := Lib.hid fun w V h h0 => text_any a S1 R1 T2 V w h h0 (by omega)
          have tl := text_len a S1 R1 T2
          have CX := Lib.hid fun w => taglower_any (tagText a S1 R1 T2) w (by omega)
          have HO : okT q a S1 R1 T2 = (decide (tagFault a S1 R1 T2 = 0) && ((tagText a S1 R1 T2).map lowC == q)) := rfl
          rw [HO] at HR1
          have HN2 := Lib.hid (show M2 = 0 → T2 = [] from fun e => List.length_eq_zero_iff.1 (by omega))
          have HN3 := Lib.hid (show M2 ≠ 0 → ∀ wx V, StrsAt wx V T2 → Nil0 V from fun e wx V h => by
            rcases h with ⟨e0, _⟩ | ⟨_, _, _, rfl, _⟩
            · rw [e0] at hM2; simp at hM2; omega
            · intro n c e; injection e with e; cases e)
          clear HO HC2 HM2 sm1 sm2 tl hM2
          generalize tagFault a S1 R1 T2 = Fl at *
          generalize tagText a S1 R1 T2 = X at *
          generalize X.map lowC = Y at *
          go_wp2_with fail
          refine (CC.out _ (HST.out _ S9.out)).mono ?_
          rintro e w7 ⟨V0, rfl, hV, hF, hb⟩
          obtain ⟨x0, n0, cp0, rfl⟩ := hV.isSlice
          have S10 := Lib.hid (S9.out.below hb)
          have HF := Lib.hid (hF.mono (show p + 1 ≤ _ from S9.out.box.lt))
          have HV := Lib.hid hV
          have b3 := S10.out.box.cell 3 _ rfl
          have f3 := S10.out.box.free 3 (by simp)
          clear hb hV hF HST CC S9
          go_upto_if 59 with fail
          have S11 := Lib.hid (S10.out.setV hbp hwb (.slice x0 n0 cp0))
          have HV1 := Lib.hid (HV.out.setCell HF.out ⟨p, 3, none⟩ (by show p < p + 1; omega) (.slice x0 n0 cp0))
          generalize w7.setCell ⟨p, 3, none⟩ (.slice x0 n0 cp0) = w8 at *
          clear S10 HV b3 f3
          go_cut [] (fun wx => ∃ V, Hid (PVt w wx b p a S1 R1 T2 (a :: T) V))
          case first =>
            clear HR1 HT hsm
            by_cases hz : M2 = 0
            · obtain e0 := HN2.out hz
              have b3 := S11.out.box.cell 3 _ rfl
              have f3 := S11.out.box.free 3 (by simp)
              go_wp2_with fail
              go_meet
              exact ⟨_, Lib.hid ⟨S11.out.setV hbp hwb _, .inl ⟨e0, _, _, rfl⟩, fun n c e => by injection e with _ _ e; exact e.symm, FarV.nil _ _ _⟩⟩
            · go_wp2_with fail
              go_meet
              exact ⟨_, Lib.hid ⟨S11.out, HV1.out, HN3.out hz _ _ HV1.out, HF.out.mono (by omega)⟩⟩
          case rest =>
            obtain ⟨V, S12⟩ := hcut
            clear S11 HV1 HF HN2 HN3
            have c0 := S12.out.st.box.cell 0 _ rfl
            have c1 := S12.out.st.box.cell 1 _ rfl
            have c2 := S12.out.st.box.cell 2 _ rfl
            have c3 := S12.out.st.box.cell 3 _ rfl
            go_wp2_with fail
            refine (CK.out _ V S12.out.at').mono ?_
            rintro e w9 ⟨rfl, hb⟩
            have HV9 := Lib.hid (S12.out.at'.below hb)
            have S9 := Lib.hid (S12.out.st.below hb)
            clear c0 c1 c2 c3 hb
            have HA := Lib.hid S12.out.nil
            have HF := Lib.hid S12.out.far
            obtain ⟨x1, n1, cp1, rfl⟩ := S12.out.at'.isSlice
            clear S12
            by_cases h : Fl = 0
            · rw [errE_nil h]
              have c0 := S9.out.box.cell 0 _ rfl
              have c1 := S9.out.box.cell 1 _ rfl
              have c2 := S9.out.box.cell 2 _ rfl
              have c3 := S9.out.box.cell 3 _ rfl
              subst h
              clear CK
              go_wp2_with fail
              refine (CT.out _ _ HV9.out HA.out).mono ?_
              rintro e wA ⟨rfl, hb⟩
              have HVA := Lib.hid (HV9.out.below hb)
              have SA := Lib.hid (S9.out.below hb)
              clear c0 c1 c2 c3 hb CT HV9 S9
              go_wp2_with fail
              refine (CX.out _).mono ?_
              rintro e wB ⟨rfl, hb⟩
              have HVB := Lib.hid (HVA.out.below hb)
              have SB := Lib.hid (SA.out.below hb)
              clear hb CX HVA SA
              go_wp2_with fail
              refine (CL.out _).mono ?_
              rintro e wC ⟨rfl, hb⟩
              have HVC := Lib.hid (HVB.out.below hb)
              have SC := Lib.hid (SB.out.below hb)
              clear hb CL HVB SB
              by_cases h2 : Y = q
              · subst h2
                have rc0 := SC.out.res.cell 0 _ rfl
                have rc1 := SC.out.res.cell 1 _ rfl
                have rc2 := SC.out.res.cell 2 _ rfl
                have rc3 := SC.out.res.cell 3 _ rfl
                have rf0 := SC.out.res.free 0 (by simp)
                have rf1 := SC.out.res.free 1 (by simp)
                have rf2 := SC.out.res.free 2 (by simp)
                have rf3 := SC.out.res.free 3 (by simp)
                have c0 := SC.out.box.cell 0 _ rfl
                have c1 := SC.out.box.cell 1 _ rfl
                have c2 := SC.out.box.cell 2 _ rfl
                have c3 := SC.out.box.cell 3 _ rfl
                have hRT : RT = ⟨a, S1, R1, T2⟩ ∧ RO = true := by rw [HT.out.1, HT.out.2, HR1.out, if_pos (by simp)]; exact ⟨rfl, rfl⟩
                obtain ⟨rfl, rfl⟩ := hRT
                clear HR1 HT
                go_wp2_with fail
                refine bodyPost_ret (v := .tuple #[.agg #[.string ⟨a.toArray⟩, .string ⟨S1.toArray⟩, .string ⟨R1.toArray⟩, .slice x1 n1 cp1], .nilIface]) (by simp [results, Tryd.results13, go_sem, rc0, rc1, rc2, rc3]) rfl ?_
                exact ⟨.slice x1 n1 cp1, rfl, by repeat (first | exact HVC.out | refine StrsAt.setCell ?_ HF.out _ (by simp) _), HA.out, by repeat (first | exact SC.out.bel | refine Below.setCell ?_ (by simp) _)⟩
              · have q1 : (Y == q) = false := beq_eq_false_iff_ne.2 h2
                have q2 : (Y != q) = true := by rw [bne, q1]; rfl
                have rc0 := SC.out.res.cell 0 _ rfl
                have rc1 := SC.out.res.cell 1 _ rfl
                have rc2 := SC.out.res.cell 2 _ rfl
                have rc3 := SC.out.res.cell 3 _ rfl
                have rf0 := SC.out.res.free 0 (by simp)
                have rf1 := SC.out.res.free 1 (by simp)
                have rf2 := SC.out.res.free 2 (by simp)
                have rf3 := SC.out.res.free 3 (by simp)
                have hRT : RT = noTag ∧ RO = false := by rw [HT.out.1, HT.out.2, HR1.out, if_neg (by rw [q1]; simp)]; exact ⟨rfl, rfl⟩
                obtain ⟨rfl, rfl⟩ := hRT
                clear HR1 HT
                go_wp2_with fail
                refine bodyPost_ret (v := .tuple #[.agg #[.string ⟨#[]⟩, .string ⟨#[]⟩, .string ⟨#[]⟩, .slice none 0 0], errV 3]) (by simp [results, Tryd.results13, go_sem, rc0, rc1, rc2, rc3]) rfl ?_
                exact ⟨.slice none 0 0, rfl, .inl ⟨rfl, _, _, rfl⟩, fun n c e => by injection e with _ _ e; exact e.symm, by repeat (first | exact SC.out.bel | refine Below.setCell ?_ (by simp) _)⟩
            · rw [errE_some h]
              have rc0 := S9.out.res.cell 0 _ rfl
              have rc1 := S9.out.res.cell 1 _ rfl
              have rc2 := S9.out.res.cell 2 _ rfl
              have rc3 := S9.out.res.cell 3 _ rfl
              have rf0 := S9.out.res.free 0 (by simp)
              have rf1 := S9.out.res.free 1 (by simp)
              have rf2 := S9.out.res.free 2 (by simp)
              have rf3 := S9.out.res.free 3 (by simp)
              have hRT : RT = noTag ∧ RO = false := by rw [HT.out.1, HT.out.2, HR1.out, if_neg (by rw [decide_eq_false h]; simp)]; exact ⟨rfl, rfl⟩
              obtain ⟨rfl, rfl⟩ := hRT
              clear HR1 HT
              go_wp2_with fail
              refine bodyPost_ret (v := .tuple #[.agg #[.string ⟨#[]⟩, .string ⟨#[]⟩, .string ⟨#[]⟩, .slice none 0 0], errV 3]) (by simp [results, Tryd.results13, go_sem, rc0, rc1, rc2, rc3]) rfl ?_
              exact ⟨.slice none 0 0, rfl, .inl ⟨rfl, _, _, rfl⟩, fun n c e => by injection e with _ _ e; exact e.symm, by repeat (first | exact S9.out.bel | refine Below.setCell ?_ (by simp) _)⟩
end Go.Proofs.YtlhleojigcnjeaaDoor
