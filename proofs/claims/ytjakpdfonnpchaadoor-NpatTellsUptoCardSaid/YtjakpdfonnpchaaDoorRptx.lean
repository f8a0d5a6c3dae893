/- The walk of linguisterref1.PatText at a right pattern: its text, sign by sign. -/
import Derived.Test.YtjakpdfonnpchaaDoorPatL
namespace Go.Proofs.YtjakpdfonnpchaaDoor
open Go.RowKit
namespace Nt
/-- the signs ahead of the point, from the one that has so many behind it -/
def recW (M A C N : Nat) : Nat → List UInt8
  | 0 => []
  | l + 1 => (if A ≠ 0 ∧ l + 1 < N ∧ (l + 1 = A ∨ C ≠ 0 ∧ l + 1 = A + C) then [44] else []) ++ ((if M < l + 1 then 35 else 48) :: recW M A C N l)
def recF (F k : Nat) : Nat → List UInt8
  | 0 => []
  | r + 1 => (if k = 0 then [46] else []) ++ ((if k < F then 48 else 35) :: recF F (k + 1) r)
def recOk (M A C : Nat) : Bool := recW M A C (ptN M A C) (ptN M A C) == ptG M A C
theorem recW_all : ∀ M : Fin 10, ∀ A : Fin 5, ∀ C : Fin 5, (C.val ≠ 0 → A.val ≠ 0) → recOk M.val A.val C.val = true := by decide +kernel
theorem recF_all : ∀ X : Fin 7, ∀ F : Fin 7, F.val ≤ X.val → (recF F.val 0 X.val == ptF F.val X.val) = true := by decide +kernel
theorem recW_is {M A C : Nat} (h2 : M ≤ 9) (h5 : A ≤ 4) (h6 : C ≤ 4) (h7 : C ≠ 0 → A ≠ 0) : recW M A C (ptN M A C) (ptN M A C) = ptG M A C :=
  beq_iff_eq.1 (recW_all ⟨M, by omega⟩ ⟨A, by omega⟩ ⟨C, by omega⟩ h7)
theorem recF_is {F X : Nat} (h3 : F ≤ X) (h4 : X ≤ 6) : recF F 0 X = ptF F X := beq_iff_eq.1 (recF_all ⟨X, by omega⟩ ⟨F, by omega⟩ h3)
/-- what one round writes -/
theorem recW_step {M A C N l : Nat} {S FIN : List UInt8} (hl : 0 < l) (h : S ++ recW M A C N l = FIN) :
    ((A ≠ 0 ∧ l < N ∧ (l = A ∨ C ≠ 0 ∧ l = A + C)) → M < l → ((S ++ [44]) ++ [35]) ++ recW M A C N (l - 1) = FIN) ∧
    ((A ≠ 0 ∧ l < N ∧ (l = A ∨ C ≠ 0 ∧ l = A + C)) → ¬ M < l → ((S ++ [44]) ++ [48]) ++ recW M A C N (l - 1) = FIN) ∧
    (¬ (A ≠ 0 ∧ l < N ∧ (l = A ∨ C ≠ 0 ∧ l = A + C)) → M < l → (S ++ [35]) ++ recW M A C N (l - 1) = FIN) ∧
    (¬ (A ≠ 0 ∧ l < N ∧ (l = A ∨ C ≠ 0 ∧ l = A + C)) → ¬ M < l → (S ++ [48]) ++ recW M A C N (l - 1) = FIN) := by
  obtain ⟨n, rfl⟩ : ∃ n, l = n + 1 := ⟨l - 1, by omega⟩
  rw [recW] at h
  rw [Nat.add_sub_cancel]
  refine ⟨fun a b => ?_, fun a b => ?_, fun a b => ?_, fun a b => ?_⟩
  · rw [if_pos a, if_pos b] at h; rw [← h]; simp
  · rw [if_pos a, if_neg b] at h; rw [← h]; simp
  · rw [if_neg a, if_pos b] at h; rw [← h]; simp
  · rw [if_neg a, if_neg b] at h; rw [← h]; simp
theorem recF_step {F k X : Nat} {S FIN : List UInt8} (hk : k < X) (h : S ++ recF F k (X - k) = FIN) :
    (k = 0 → k < F → ((S ++ [46]) ++ [48]) ++ recF F (k + 1) (X - (k + 1)) = FIN) ∧ (k = 0 → ¬ k < F → ((S ++ [46]) ++ [35]) ++ recF F (k + 1) (X - (k + 1)) = FIN) ∧
    (¬ k = 0 → k < F → (S ++ [48]) ++ recF F (k + 1) (X - (k + 1)) = FIN) ∧ (¬ k = 0 → ¬ k < F → (S ++ [35]) ++ recF F (k + 1) (X - (k + 1)) = FIN) := by
  obtain ⟨r, hr⟩ : ∃ r, X - k = r + 1 := ⟨X - k - 1, by omega⟩
  rw [hr, recF] at h
  rw [show X - (k + 1) = r by omega]
  refine ⟨fun a b => ?_, fun a b => ?_, fun a b => ?_, fun a b => ?_⟩
  · rw [if_pos a, if_pos b] at h; rw [← h]; simp
  · rw [if_pos a, if_neg b] at h; rw [← h]; simp
  · rw [if_neg a, if_pos b] at h; rw [← h]; simp
  · rw [if_neg a, if_neg b] at h; rw [← h]; simp
end Nt
set_option maxRecDepth 100000 in
set_option maxHeartbeats 4000000 in
theorem rpt_a (pre suf G1 G2 FIN : List UInt8) (M F X : Nat) (w : World) (hpre : pre.length ≤ 5) (hsuf : suf.length ≤ 5) (hM : 1 ≤ M ∧ M ≤ 9) (hX : F ≤ X ∧ X ≤ 6)  (hG1 : Nt.recW M 0 0 M M = G1) (hG2 : Nt.recF F 0 X = G2) (hF : ((pre ++ G1) ++ G2) ++ suf = FIN) (hg1 : G1.length ≤ 20) (hg2 : G2.length ≤ 20) :
    Calls Tryd.prog 11 #[.agg #[.string ⟨pre.toArray⟩, .string ⟨suf.toArray⟩, .int .i64 (M : Int), .int .i64 (F : Int), .int .i64 (X : Int), .int .i64 0, .int .i64 0]] w fun e w' => e = .returned (.string ⟨FIN.toArray⟩) ∧ Below w.heap.size w w' := by
  have HF := Lib.hid hF
  have W0 := Lib.hid (blw_alloc w (.cells #[.string ⟨pre.toArray⟩, .string ⟨suf.toArray⟩, .int .i64 (M : Int), .int .i64 (F : Int), .int .i64 (X : Int), .int .i64 0, .int .i64 0] 23))
  have B0 := Lib.hid (Boxed.made w #[.string ⟨pre.toArray⟩, .string ⟨suf.toArray⟩, .int .i64 (M : Int), .int .i64 (F : Int), .int .i64 (X : Int), .int .i64 0, .int .i64 0] 23)

  obtain ⟨T1, hT1⟩ : ∃ T1, T1 = pre ++ G1 := ⟨_, rfl⟩
  obtain ⟨T2, hT2⟩ : ∃ T2, T2 = T1 ++ G2 := ⟨_, rfl⟩
  have HS1 := Lib.hid (show pre ++ Nt.recW M 0 0 M M = T1 by rw [hG1, hT1])
  have HS2 := Lib.hid (show T1 ++ Nt.recF F 0 (X - 0) = T2 by rw [Nat.sub_zero, hG2, hT2])
  have lT1 : T1.length ≤ 25 := by rw [hT1]; simp; omega
  have lT2 : T2.length ≤ 50 := by rw [hT2]; simp; omega
  have AF := fun w => add_str (P := Tryd.prog) T2 suf (by omega) w
  rw [show T2 ++ suf = FIN by rw [hT2, hT1]; exact HF.out] at AF
  clear hG1 hG2 hF HF hT1 hT2 hg1 hg2
  go_enter Tryd.func11, Tryd.ntmps11
  go_upto_region 1 with fail
  generalize w.alloc (.cells #[.string ⟨pre.toArray⟩, .string ⟨suf.toArray⟩, .int .i64 (M : Int), .int .i64 (F : Int), .int .i64 (X : Int), .int .i64 0, .int .i64 0] 23) = w1 at *
  have c0 : w1.cell? ⟨w.heap.size, 0, none⟩ = some (.string ⟨pre.toArray⟩) := B0.out.cell 0 _ rfl
  have c1 : w1.cell? ⟨w.heap.size, 1, none⟩ = some (.string ⟨suf.toArray⟩) := B0.out.cell 1 _ rfl
  have c2 : w1.cell? ⟨w.heap.size, 2, none⟩ = some (.int .i64 (M : Int)) := B0.out.cell 2 _ rfl
  have c3 : w1.cell? ⟨w.heap.size, 3, none⟩ = some (.int .i64 (F : Int)) := B0.out.cell 3 _ rfl
  have c4 : w1.cell? ⟨w.heap.size, 4, none⟩ = some (.int .i64 (X : Int)) := B0.out.cell 4 _ rfl
  have c5 : w1.cell? ⟨w.heap.size, 5, none⟩ = some (.int .i64 0) := B0.out.cell 5 _ rfl
  have c6 : w1.cell? ⟨w.heap.size, 6, none⟩ = some (.int .i64 0) := B0.out.cell 6 _ rfl
  have cl := B0.out.lt
  clear B0
  go_wp2_with fail
  go_loopw [4, 5] (fun vs vl wr => ∃ (S : List UInt8) (l : Nat), vs = .string ⟨S.toArray⟩ ∧ vl = .int .i64 (l : Int) ∧ l ≤ M ∧ S.length ≤ 5 + 2 * (M - l) ∧ Hid (S ++ Nt.recW M 0 0 M l = T1) ∧ w1 = wr) (fun _ vl _ => (RowKit.intOf vl).toNat)
  case atStart => exact ⟨pre, M, rfl, rfl, Nat.le_refl _, by omega, HS1, rfl⟩
  case round =>
    obtain ⟨S, l, rfl, rfl, hlN, hlS, HS, rfl⟩ := hrel
    by_cases hl : 0 < l
    · have ST := Lib.hid (Nt.recW_step hl HS.out)
      have hl9 : l ≤ 9 := by omega
      have hlS2 : S.length ≤ 23 := by omega
      have hl1 : IntKind.i64.wrap ((l : Int) - 1) = ((l - 1 : Nat) : Int) := by rw [IntWalk.i64_in _ (by omega)]; omega
      have E1 := Lib.hid (show l - 1 < l ∧ l - 1 ≤ M ∧ S.length + 2 ≤ 5 + 2 * (M - (l - 1)) by omega)
      obtain ⟨U1, hU1⟩ : ∃ U, U = S ++ [35] := ⟨_, rfl⟩
      obtain ⟨U2, hU2⟩ : ∃ U, U = S ++ [48] := ⟨_, rfl⟩
      obtain ⟨U3, hU3⟩ : ∃ U, U = S ++ [44] := ⟨_, rfl⟩
      obtain ⟨U4, hU4⟩ : ∃ U, U = U3 ++ [35] := ⟨_, rfl⟩
      obtain ⟨U5, hU5⟩ : ∃ U, U = U3 ++ [48] := ⟨_, rfl⟩
      have L1 := Lib.hid (show U1.length = S.length + 1 ∧ U2.length = S.length + 1 ∧ U4.length = S.length + 2 ∧ U5.length = S.length + 2 by rw [hU1, hU2, hU4, hU5, hU3]; simp)
      have A1 : ∀ w, (Op.stringOp .add ⟨S.toArray⟩ ⟨#[35]⟩).run Tryd.prog w = .ok (.string ⟨U1.toArray⟩) w := fun w => by rw [hU1]; exact add_str (P := Tryd.prog) S [35] (by simp; omega) w
      have A2 : ∀ w, (Op.stringOp .add ⟨S.toArray⟩ ⟨#[48]⟩).run Tryd.prog w = .ok (.string ⟨U2.toArray⟩) w := fun w => by rw [hU2]; exact add_str (P := Tryd.prog) S [48] (by simp; omega) w
      have A3 : ∀ w, (Op.stringOp .add ⟨S.toArray⟩ ⟨#[44]⟩).run Tryd.prog w = .ok (.string ⟨U3.toArray⟩) w := fun w => by rw [hU3]; exact add_str (P := Tryd.prog) S [44] (by simp; omega) w
      have A4 : ∀ w, (Op.stringOp .add ⟨U3.toArray⟩ ⟨#[35]⟩).run Tryd.prog w = .ok (.string ⟨U4.toArray⟩) w := fun w => by rw [hU4]; exact add_str (P := Tryd.prog) U3 [35] (by rw [hU3]; simp; omega) w
      have A5 : ∀ w, (Op.stringOp .add ⟨U3.toArray⟩ ⟨#[48]⟩).run Tryd.prog w = .ok (.string ⟨U5.toArray⟩) w := fun w => by rw [hU5]; exact add_str (P := Tryd.prog) U3 [48] (by rw [hU3]; simp; omega) w
      rw [← hU3, ← hU4, ← hU5, ← hU1, ← hU2] at ST
      clear hU1 hU2 hU3 hU4 hU5
      have zz := Lib.hid (show ¬ (0 ≠ 0 ∧ l < M ∧ (l = 0 ∨ 0 ≠ 0 ∧ l = 0 + 0)) by omega)
      by_cases hm : M < l
      all_goals (
        have hm' := Lib.hid hm
        have d5 : decide ((M : Int) < (l : Int)) = decide (M < l) := by simp
        first | rw [dec_yes hm] at d5 | rw [dec_no hm] at d5
        clear hlN hlS HS
        go_wp2_with fail
        go_round
        case measure => exact E1.out.1
        case rel => first | exact ⟨_, l - 1, rfl, rfl, E1.out.2.1, by have := E1.out.2.2; have := L1.out; omega, Lib.hid (ST.out.2.2.1 zz.out hm'.out), by first | rfl | trivial⟩ | exact ⟨_, l - 1, rfl, rfl, E1.out.2.1, by have := E1.out.2.2; have := L1.out; omega, Lib.hid (ST.out.2.2.2 zz.out hm'.out), by first | rfl | trivial⟩)
    · obtain rfl : l = 0 := by omega
      have eS : S = T1 := by have := HS.out; unfold Nt.recW at this; rw [List.append_nil] at this; exact this
      subst eS
      clear hlN hlS HS HS1 hl
      go_wp2_with fail
      go_loopw [4, 6] (fun vs vk wr => ∃ (S : List UInt8) (k : Nat), vs = .string ⟨S.toArray⟩ ∧ vk = .int .i64 (k : Int) ∧ k ≤ X ∧ S.length ≤ 30 + 2 * k ∧ Hid (S ++ Nt.recF F k (X - k) = T2) ∧ w1 = wr) (fun _ vk _ => X - (RowKit.intOf vk).toNat)
      case atStart => exact ⟨_, 0, rfl, rfl, Nat.zero_le _, by omega, HS2, rfl⟩
      case round =>
        obtain ⟨S2, k, rfl, rfl, hkX, hkS, HS, rfl⟩ := hrel
        by_cases hk : k < X
        · have ST := Lib.hid (Nt.recF_step hk HS.out)
          have hS2 : S2.length ≤ 42 := by omega
          have E1 := Lib.hid (show k + 1 ≤ X ∧ X - (k + 1) < X - k ∧ S2.length + 2 ≤ 30 + 2 * (k + 1) by omega)
          obtain ⟨U1, hU1⟩ : ∃ U, U = S2 ++ [35] := ⟨_, rfl⟩
          obtain ⟨U2, hU2⟩ : ∃ U, U = S2 ++ [48] := ⟨_, rfl⟩
          obtain ⟨U3, hU3⟩ : ∃ U, U = S2 ++ [46] := ⟨_, rfl⟩
          obtain ⟨U4, hU4⟩ : ∃ U, U = U3 ++ [35] := ⟨_, rfl⟩
          obtain ⟨U5, hU5⟩ : ∃ U, U = U3 ++ [48] := ⟨_, rfl⟩
          have L1 := Lib.hid (show U1.length = S2.length + 1 ∧ U2.length = S2.length + 1 ∧ U4.length = S2.length + 2 ∧ U5.length = S2.length + 2 by rw [hU1, hU2, hU4, hU5, hU3]; simp)
          have A1 : ∀ w, (Op.stringOp .add ⟨S2.toArray⟩ ⟨#[35]⟩).run Tryd.prog w = .ok (.string ⟨U1.toArray⟩) w := fun w => by rw [hU1]; exact add_str (P := Tryd.prog) S2 [35] (by simp; omega) w
          have A2 : ∀ w, (Op.stringOp .add ⟨S2.toArray⟩ ⟨#[48]⟩).run Tryd.prog w = .ok (.string ⟨U2.toArray⟩) w := fun w => by rw [hU2]; exact add_str (P := Tryd.prog) S2 [48] (by simp; omega) w
          have A3 : ∀ w, (Op.stringOp .add ⟨S2.toArray⟩ ⟨#[46]⟩).run Tryd.prog w = .ok (.string ⟨U3.toArray⟩) w := fun w => by rw [hU3]; exact add_str (P := Tryd.prog) S2 [46] (by simp; omega) w
          have A4 : ∀ w, (Op.stringOp .add ⟨U3.toArray⟩ ⟨#[35]⟩).run Tryd.prog w = .ok (.string ⟨U4.toArray⟩) w := fun w => by rw [hU4]; exact add_str (P := Tryd.prog) U3 [35] (by rw [hU3]; simp; omega) w
          have A5 : ∀ w, (Op.stringOp .add ⟨U3.toArray⟩ ⟨#[48]⟩).run Tryd.prog w = .ok (.string ⟨U5.toArray⟩) w := fun w => by rw [hU5]; exact add_str (P := Tryd.prog) U3 [48] (by rw [hU3]; simp; omega) w
          rw [← hU3, ← hU4, ← hU5, ← hU1, ← hU2] at ST
          clear hU1 hU2 hU3 hU4 hU5
          have hk1 : IntKind.i64.wrap ((k : Int) + 1) = ((k + 1 : Nat) : Int) := by rw [IntWalk.i64_in _ (by omega)]; omega
          have dx : decide ((k : Int) < (X : Int)) = true := dec_yes (by omega)
          by_cases hf : k < F
          all_goals (
            have hf' := Lib.hid hf
            have d1 : decide ((k : Int) < (F : Int)) = decide (k < F) := by simp
            first | rw [dec_yes hf] at d1 | rw [dec_no hf] at d1
            by_cases h0 : k = 0
            · subst h0
              have d1' : decide ((0 : Int) < (F : Int)) = decide ((0 : Nat) < F) := by simp
              first | rw [dec_yes hf] at d1' | rw [dec_no hf] at d1'
              clear d1 hkX hkS HS
              go_wp2_with fail
              go_round
              case measure => exact E1.out.2.1
              case rel => first | exact ⟨_, 1, rfl, rfl, E1.out.1, by have := E1.out.2.2; have := L1.out; omega, Lib.hid (ST.out.1 rfl hf'.out), by first | rfl | trivial⟩ | exact ⟨_, 1, rfl, rfl, E1.out.1, by have := E1.out.2.2; have := L1.out; omega, Lib.hid (ST.out.2.1 rfl hf'.out), by first | rfl | trivial⟩
            · have d2 : ((k : Int) == 0) = false := beq_no (by omega)
              have h0' := Lib.hid h0
              clear hkX hkS HS
              go_wp2_with fail
              go_round
              case measure => exact E1.out.2.1
              case rel => first | exact ⟨_, k + 1, rfl, rfl, E1.out.1, by have := E1.out.2.2; have := L1.out; omega, Lib.hid (ST.out.2.2.1 h0'.out hf'.out), by first | rfl | trivial⟩ | exact ⟨_, k + 1, rfl, rfl, E1.out.1, by have := E1.out.2.2; have := L1.out; omega, Lib.hid (ST.out.2.2.2 h0'.out hf'.out), by first | rfl | trivial⟩)
        · have eS : S2 = T2 := by have := HS.out; rw [show X - k = 0 by omega] at this; unfold Nt.recF at this; rw [List.append_nil] at this; exact this
          rw [eS]
          clear HS hkS eS
          go_wp2_with fail
          go_ret
          exact ⟨rfl, W0.out⟩
set_option maxRecDepth 100000 in
set_option maxHeartbeats 4000000 in
theorem rpt_b (pre suf G1 G2 FIN : List UInt8) (M F X A C N : Nat) (w : World) (hpre : pre.length ≤ 5) (hsuf : suf.length ≤ 5) (hM : 1 ≤ M ∧ M ≤ 9) (hX : F ≤ X ∧ X ≤ 6) (hN9 : N ≤ 9) (hA : A ≠ 0) (hAC : A ≤ 4 ∧ C ≤ 4) (hN : A + C + 1 = N) (hlt : M < A + C + 1) (hG1 : Nt.recW M A C N N = G1) (hG2 : Nt.recF F 0 X = G2) (hF : ((pre ++ G1) ++ G2) ++ suf = FIN) (hg1 : G1.length ≤ 20) (hg2 : G2.length ≤ 20) :
    Calls Tryd.prog 11 #[.agg #[.string ⟨pre.toArray⟩, .string ⟨suf.toArray⟩, .int .i64 (M : Int), .int .i64 (F : Int), .int .i64 (X : Int), .int .i64 (A : Int), .int .i64 (C : Int)]] w fun e w' => e = .returned (.string ⟨FIN.toArray⟩) ∧ Below w.heap.size w w' := by
  have HF := Lib.hid hF
  have W0 := Lib.hid (blw_alloc w (.cells #[.string ⟨pre.toArray⟩, .string ⟨suf.toArray⟩, .int .i64 (M : Int), .int .i64 (F : Int), .int .i64 (X : Int), .int .i64 (A : Int), .int .i64 (C : Int)] 23))
  have B0 := Lib.hid (Boxed.made w #[.string ⟨pre.toArray⟩, .string ⟨suf.toArray⟩, .int .i64 (M : Int), .int .i64 (F : Int), .int .i64 (X : Int), .int .i64 (A : Int), .int .i64 (C : Int)] 23)
  have hA0 : decide ((0 : Int) < (A : Int)) = true := dec_yes (by omega)
  have hA0' : 0 < A := by omega
  have hac : IntKind.i64.wrap ((A : Int) + (C : Int)) = (A : Int) + (C : Int) := IntWalk.i64_in _ (by omega)
  have hac1 : IntKind.i64.wrap ((A : Int) + (C : Int) + 1) = (N : Int) := by rw [IntWalk.i64_in _ (by omega)]; omega
  have hlt1 : decide ((M : Int) < (N : Int)) = true := dec_yes (by omega)
  have hlt2 : M < N := by omega
  clear hlt hN
  obtain ⟨T1, hT1⟩ : ∃ T1, T1 = pre ++ G1 := ⟨_, rfl⟩
  obtain ⟨T2, hT2⟩ : ∃ T2, T2 = T1 ++ G2 := ⟨_, rfl⟩
  have HS1 := Lib.hid (show pre ++ Nt.recW M A C N N = T1 by rw [hG1, hT1])
  have HS2 := Lib.hid (show T1 ++ Nt.recF F 0 (X - 0) = T2 by rw [Nat.sub_zero, hG2, hT2])
  have lT1 : T1.length ≤ 25 := by rw [hT1]; simp; omega
  have lT2 : T2.length ≤ 50 := by rw [hT2]; simp; omega
  have AF := fun w => add_str (P := Tryd.prog) T2 suf (by omega) w
  rw [show T2 ++ suf = FIN by rw [hT2, hT1]; exact HF.out] at AF
  clear hG1 hG2 hF HF hT1 hT2 hg1 hg2
  go_enter Tryd.func11, Tryd.ntmps11
  go_upto_region 1 with fail
  generalize w.alloc (.cells #[.string ⟨pre.toArray⟩, .string ⟨suf.toArray⟩, .int .i64 (M : Int), .int .i64 (F : Int), .int .i64 (X : Int), .int .i64 (A : Int), .int .i64 (C : Int)] 23) = w1 at *
  have c0 : w1.cell? ⟨w.heap.size, 0, none⟩ = some (.string ⟨pre.toArray⟩) := B0.out.cell 0 _ rfl
  have c1 : w1.cell? ⟨w.heap.size, 1, none⟩ = some (.string ⟨suf.toArray⟩) := B0.out.cell 1 _ rfl
  have c2 : w1.cell? ⟨w.heap.size, 2, none⟩ = some (.int .i64 (M : Int)) := B0.out.cell 2 _ rfl
  have c3 : w1.cell? ⟨w.heap.size, 3, none⟩ = some (.int .i64 (F : Int)) := B0.out.cell 3 _ rfl
  have c4 : w1.cell? ⟨w.heap.size, 4, none⟩ = some (.int .i64 (X : Int)) := B0.out.cell 4 _ rfl
  have c5 : w1.cell? ⟨w.heap.size, 5, none⟩ = some (.int .i64 (A : Int)) := B0.out.cell 5 _ rfl
  have c6 : w1.cell? ⟨w.heap.size, 6, none⟩ = some (.int .i64 (C : Int)) := B0.out.cell 6 _ rfl
  have cl := B0.out.lt
  clear B0
  go_wp2_with fail
  go_loopw [4, 5] (fun vs vl wr => ∃ (S : List UInt8) (l : Nat), vs = .string ⟨S.toArray⟩ ∧ vl = .int .i64 (l : Int) ∧ l ≤ N ∧ S.length ≤ 5 + 2 * (N - l) ∧ Hid (S ++ Nt.recW M A C N l = T1) ∧ w1 = wr) (fun _ vl _ => (RowKit.intOf vl).toNat)
  case atStart => exact ⟨pre, N, rfl, rfl, Nat.le_refl _, by omega, HS1, rfl⟩
  case round =>
    obtain ⟨S, l, rfl, rfl, hlN, hlS, HS, rfl⟩ := hrel
    by_cases hl : 0 < l
    · have ST := Lib.hid (Nt.recW_step hl HS.out)
      have hl9 : l ≤ 9 := by omega
      have hlS2 : S.length ≤ 23 := by omega
      have hl1 : IntKind.i64.wrap ((l : Int) - 1) = ((l - 1 : Nat) : Int) := by rw [IntWalk.i64_in _ (by omega)]; omega
      have E1 := Lib.hid (show l - 1 < l ∧ l - 1 ≤ N ∧ S.length + 2 ≤ 5 + 2 * (N - (l - 1)) by omega)
      obtain ⟨U1, hU1⟩ : ∃ U, U = S ++ [35] := ⟨_, rfl⟩
      obtain ⟨U2, hU2⟩ : ∃ U, U = S ++ [48] := ⟨_, rfl⟩
      obtain ⟨U3, hU3⟩ : ∃ U, U = S ++ [44] := ⟨_, rfl⟩
      obtain ⟨U4, hU4⟩ : ∃ U, U = U3 ++ [35] := ⟨_, rfl⟩
      obtain ⟨U5, hU5⟩ : ∃ U, U = U3 ++ [48] := ⟨_, rfl⟩
      have L1 := Lib.hid (show U1.length = S.length + 1 ∧ U2.length = S.length + 1 ∧ U4.length = S.length + 2 ∧ U5.length = S.length + 2 by rw [hU1, hU2, hU4, hU5, hU3]; simp)
      have A1 : ∀ w, (Op.stringOp .add ⟨S.toArray⟩ ⟨#[35]⟩).run Tryd.prog w = .ok (.string ⟨U1.toArray⟩) w := fun w => by rw [hU1]; exact add_str (P := Tryd.prog) S [35] (by simp; omega) w
      have A2 : ∀ w, (Op.stringOp .add ⟨S.toArray⟩ ⟨#[48]⟩).run Tryd.prog w = .ok (.string ⟨U2.toArray⟩) w := fun w => by rw [hU2]; exact add_str (P := Tryd.prog) S [48] (by simp; omega) w
      have A3 : ∀ w, (Op.stringOp .add ⟨S.toArray⟩ ⟨#[44]⟩).run Tryd.prog w = .ok (.string ⟨U3.toArray⟩) w := fun w => by rw [hU3]; exact add_str (P := Tryd.prog) S [44] (by simp; omega) w
      have A4 : ∀ w, (Op.stringOp .add ⟨U3.toArray⟩ ⟨#[35]⟩).run Tryd.prog w = .ok (.string ⟨U4.toArray⟩) w := fun w => by rw [hU4]; exact add_str (P := Tryd.prog) U3 [35] (by rw [hU3]; simp; omega) w
      have A5 : ∀ w, (Op.stringOp .add ⟨U3.toArray⟩ ⟨#[48]⟩).run Tryd.prog w = .ok (.string ⟨U5.toArray⟩) w := fun w => by rw [hU5]; exact add_str (P := Tryd.prog) U3 [48] (by rw [hU3]; simp; omega) w
      rw [← hU3, ← hU4, ← hU5, ← hU1, ← hU2] at ST
      clear hU1 hU2 hU3 hU4 hU5
      clear hac hac1 hlt1
      obtain ⟨D, hD⟩ : ∃ D, D = A + C := ⟨_, rfl⟩
      have hac : IntKind.i64.wrap ((A : Int) + (C : Int)) = (D : Int) := by rw [IntWalk.i64_in _ (by omega)]; omega
      have hz := Lib.hid (show (¬ l < N ∧ ¬ (A ≠ 0 ∧ l < N ∧ (l = A ∨ C ≠ 0 ∧ l = A + C))) ∨ (l < N ∧ l = A ∧ (A ≠ 0 ∧ l < N ∧ (l = A ∨ C ≠ 0 ∧ l = A + C))) ∨ (l < N ∧ l ≠ A ∧ C = 0 ∧ ¬ (A ≠ 0 ∧ l < N ∧ (l = A ∨ C ≠ 0 ∧ l = A + C))) ∨ (l < N ∧ l ≠ A ∧ 0 < C ∧ l = A + C ∧ (A ≠ 0 ∧ l < N ∧ (l = A ∨ C ≠ 0 ∧ l = A + C))) ∨ (l < N ∧ l ≠ A ∧ 0 < C ∧ l ≠ A + C ∧ ¬ (A ≠ 0 ∧ l < N ∧ (l = A ∨ C ≠ 0 ∧ l = A + C))) by omega)
      by_cases hm : M < l
      all_goals rcases hz.out with ⟨z1, zz⟩ | ⟨z1, z2, zz⟩ | ⟨z1, z2, z3, zz⟩ | ⟨z1, z2, z3, z4, zz⟩ | ⟨z1, z2, z3, z4, zz⟩
      all_goals (try (exfalso; clear zz; omega))
      all_goals (
          replace zz := Lib.hid zz
          have hm' := Lib.hid hm
          first | (have d1 : decide ((l : Int) < (N : Int)) = true := dec_yes (by omega)) | (have d1 : decide ((l : Int) < (N : Int)) = false := dec_no (by omega))
          first | subst z2 | (have d2 : ((l : Int) == (A : Int)) = false := beq_no (by omega)) | skip
          first | (have d3 : decide ((0 : Int) < (C : Int)) = true := dec_yes (by omega); have d3' : 0 < C := by omega) | (have d3 : decide ((0 : Int) < (C : Int)) = false := dec_no (by omega); have d3' : ¬ 0 < C := by omega) | skip
          first | (have z5 : l = D := by omega); subst z5 | (have d4 : ((l : Int) == (D : Int)) = false := beq_no (by omega)) | skip
          first | (have d5 : decide ((M : Int) < (l : Int)) = true := dec_yes (by omega)) | (have d5 : decide ((M : Int) < (l : Int)) = false := dec_no (by omega))
          try clear z4
          try clear hD
          try clear z3
          try clear z2
          try clear hA
          try clear hAC
          clear hz hlN hlS HS
          go_wp2_with fail
          go_round
          case measure => exact E1.out.1
          case rel => first | exact ⟨_, l - 1, rfl, rfl, E1.out.2.1, by have := E1.out.2.2; have := L1.out; omega, Lib.hid (ST.out.1 zz.out hm'.out), by first | rfl | trivial⟩ | exact ⟨_, l - 1, rfl, rfl, E1.out.2.1, by have := E1.out.2.2; have := L1.out; omega, Lib.hid (ST.out.2.1 zz.out hm'.out), by first | rfl | trivial⟩ | exact ⟨_, l - 1, rfl, rfl, E1.out.2.1, by have := E1.out.2.2; have := L1.out; omega, Lib.hid (ST.out.2.2.1 zz.out hm'.out), by first | rfl | trivial⟩ | exact ⟨_, l - 1, rfl, rfl, E1.out.2.1, by have := E1.out.2.2; have := L1.out; omega, Lib.hid (ST.out.2.2.2 zz.out hm'.out), by first | rfl | trivial⟩)
    · obtain rfl : l = 0 := by omega
      have eS : S = T1 := by have := HS.out; unfold Nt.recW at this; rw [List.append_nil] at this; exact this
      subst eS
      clear hlN hlS HS HS1 hl
      go_wp2_with fail
      go_loopw [4, 6] (fun vs vk wr => ∃ (S : List UInt8) (k : Nat), vs = .string ⟨S.toArray⟩ ∧ vk = .int .i64 (k : Int) ∧ k ≤ X ∧ S.length ≤ 30 + 2 * k ∧ Hid (S ++ Nt.recF F k (X - k) = T2) ∧ w1 = wr) (fun _ vk _ => X - (RowKit.intOf vk).toNat)
      case atStart => exact ⟨_, 0, rfl, rfl, Nat.zero_le _, by omega, HS2, rfl⟩
      case round =>
        obtain ⟨S2, k, rfl, rfl, hkX, hkS, HS, rfl⟩ := hrel
        by_cases hk : k < X
        · have ST := Lib.hid (Nt.recF_step hk HS.out)
          have hS2 : S2.length ≤ 42 := by omega
          have E1 := Lib.hid (show k + 1 ≤ X ∧ X - (k + 1) < X - k ∧ S2.length + 2 ≤ 30 + 2 * (k + 1) by omega)
          obtain ⟨U1, hU1⟩ : ∃ U, U = S2 ++ [35] := ⟨_, rfl⟩
          obtain ⟨U2, hU2⟩ : ∃ U, U = S2 ++ [48] := ⟨_, rfl⟩
          obtain ⟨U3, hU3⟩ : ∃ U, U = S2 ++ [46] := ⟨_, rfl⟩
          obtain ⟨U4, hU4⟩ : ∃ U, U = U3 ++ [35] := ⟨_, rfl⟩
          obtain ⟨U5, hU5⟩ : ∃ U, U = U3 ++ [48] := ⟨_, rfl⟩
          have L1 := Lib.hid (show U1.length = S2.length + 1 ∧ U2.length = S2.length + 1 ∧ U4.length = S2.length + 2 ∧ U5.length = S2.length + 2 by rw [hU1, hU2, hU4, hU5, hU3]; simp)
          have A1 : ∀ w, (Op.stringOp .add ⟨S2.toArray⟩ ⟨#[35]⟩).run Tryd.prog w = .ok (.string ⟨U1.toArray⟩) w := fun w => by rw [hU1]; exact add_str (P := Tryd.prog) S2 [35] (by simp; omega) w
          have A2 : ∀ w, (Op.stringOp .add ⟨S2.toArray⟩ ⟨#[48]⟩).run Tryd.prog w = .ok (.string ⟨U2.toArray⟩) w := fun w => by rw [hU2]; exact add_str (P := Tryd.prog) S2 [48] (by simp; omega) w
          have A3 : ∀ w, (Op.stringOp .add ⟨S2.toArray⟩ ⟨#[46]⟩).run Tryd.prog w = .ok (.string ⟨U3.toArray⟩) w := fun w => by rw [hU3]; exact add_str (P := Tryd.prog) S2 [46] (by simp; omega) w
          have A4 : ∀ w, (Op.stringOp .add ⟨U3.toArray⟩ ⟨#[35]⟩).run Tryd.prog w = .ok (.string ⟨U4.toArray⟩) w := fun w => by rw [hU4]; exact add_str (P := Tryd.prog) U3 [35] (by rw [hU3]; simp; omega) w
          have A5 : ∀ w, (Op.stringOp .add ⟨U3.toArray⟩ ⟨#[48]⟩).run Tryd.prog w = .ok (.string ⟨U5.toArray⟩) w := fun w => by rw [hU5]; exact add_str (P := Tryd.prog) U3 [48] (by rw [hU3]; simp; omega) w
          rw [← hU3, ← hU4, ← hU5, ← hU1, ← hU2] at ST
          clear hU1 hU2 hU3 hU4 hU5
          have hk1 : IntKind.i64.wrap ((k : Int) + 1) = ((k + 1 : Nat) : Int) := by rw [IntWalk.i64_in _ (by omega)]; omega
          have dx : decide ((k : Int) < (X : Int)) = true := dec_yes (by omega)
          by_cases hf : k < F
          all_goals (
            have hf' := Lib.hid hf
            have d1 : decide ((k : Int) < (F : Int)) = decide (k < F) := by simp
            first | rw [dec_yes hf] at d1 | rw [dec_no hf] at d1
            by_cases h0 : k = 0
            · subst h0
              have d1' : decide ((0 : Int) < (F : Int)) = decide ((0 : Nat) < F) := by simp
              first | rw [dec_yes hf] at d1' | rw [dec_no hf] at d1'
              clear d1 hkX hkS HS
              go_wp2_with fail
              go_round
              case measure => exact E1.out.2.1
              case rel => first | exact ⟨_, 1, rfl, rfl, E1.out.1, by have := E1.out.2.2; have := L1.out; omega, Lib.hid (ST.out.1 rfl hf'.out), by first | rfl | trivial⟩ | exact ⟨_, 1, rfl, rfl, E1.out.1, by have := E1.out.2.2; have := L1.out; omega, Lib.hid (ST.out.2.1 rfl hf'.out), by first | rfl | trivial⟩
            · have d2 : ((k : Int) == 0) = false := beq_no (by omega)
              have h0' := Lib.hid h0
              clear hkX hkS HS
              go_wp2_with fail
              go_round
              case measure => exact E1.out.2.1
              case rel => first | exact ⟨_, k + 1, rfl, rfl, E1.out.1, by have := E1.out.2.2; have := L1.out; omega, Lib.hid (ST.out.2.2.1 h0'.out hf'.out), by first | rfl | trivial⟩ | exact ⟨_, k + 1, rfl, rfl, E1.out.1, by have := E1.out.2.2; have := L1.out; omega, Lib.hid (ST.out.2.2.2 h0'.out hf'.out), by first | rfl | trivial⟩)
        · have eS : S2 = T2 := by have := HS.out; rw [show X - k = 0 by omega] at this; unfold Nt.recF at this; rw [List.append_nil] at this; exact this
          rw [eS]
          clear HS hkS eS
          go_wp2_with fail
          go_ret
          exact ⟨rfl, W0.out⟩
set_option maxRecDepth 100000 in
set_option maxHeartbeats 4000000 in
theorem rpt_c (pre suf G1 G2 FIN : List UInt8) (M F X A C : Nat) (w : World) (hpre : pre.length ≤ 5) (hsuf : suf.length ≤ 5) (hM : 1 ≤ M ∧ M ≤ 9) (hX : F ≤ X ∧ X ≤ 6) (hA : A ≠ 0) (hAC : A ≤ 4 ∧ C ≤ 4) (hlt : ¬ M < A + C + 1) (hG1 : Nt.recW M A C M M = G1) (hG2 : Nt.recF F 0 X = G2) (hF : ((pre ++ G1) ++ G2) ++ suf = FIN) (hg1 : G1.length ≤ 20) (hg2 : G2.length ≤ 20) :
    Calls Tryd.prog 11 #[.agg #[.string ⟨pre.toArray⟩, .string ⟨suf.toArray⟩, .int .i64 (M : Int), .int .i64 (F : Int), .int .i64 (X : Int), .int .i64 (A : Int), .int .i64 (C : Int)]] w fun e w' => e = .returned (.string ⟨FIN.toArray⟩) ∧ Below w.heap.size w w' := by
  have HF := Lib.hid hF
  have W0 := Lib.hid (blw_alloc w (.cells #[.string ⟨pre.toArray⟩, .string ⟨suf.toArray⟩, .int .i64 (M : Int), .int .i64 (F : Int), .int .i64 (X : Int), .int .i64 (A : Int), .int .i64 (C : Int)] 23))
  have B0 := Lib.hid (Boxed.made w #[.string ⟨pre.toArray⟩, .string ⟨suf.toArray⟩, .int .i64 (M : Int), .int .i64 (F : Int), .int .i64 (X : Int), .int .i64 (A : Int), .int .i64 (C : Int)] 23)
  have hA0 : decide ((0 : Int) < (A : Int)) = true := dec_yes (by omega)
  have hA0' : 0 < A := by omega
  have hac : IntKind.i64.wrap ((A : Int) + (C : Int)) = (A : Int) + (C : Int) := IntWalk.i64_in _ (by omega)
  have hac1 : IntKind.i64.wrap ((A : Int) + (C : Int) + 1) = (A : Int) + (C : Int) + 1 := IntWalk.i64_in _ (by omega)
  have hlt1 : decide ((M : Int) < (A : Int) + (C : Int) + 1) = false := dec_no (by omega)
  clear hlt
  obtain ⟨T1, hT1⟩ : ∃ T1, T1 = pre ++ G1 := ⟨_, rfl⟩
  obtain ⟨T2, hT2⟩ : ∃ T2, T2 = T1 ++ G2 := ⟨_, rfl⟩
  have HS1 := Lib.hid (show pre ++ Nt.recW M A C M M = T1 by rw [hG1, hT1])
  have HS2 := Lib.hid (show T1 ++ Nt.recF F 0 (X - 0) = T2 by rw [Nat.sub_zero, hG2, hT2])
  have lT1 : T1.length ≤ 25 := by rw [hT1]; simp; omega
  have lT2 : T2.length ≤ 50 := by rw [hT2]; simp; omega
  have AF := fun w => add_str (P := Tryd.prog) T2 suf (by omega) w
  rw [show T2 ++ suf = FIN by rw [hT2, hT1]; exact HF.out] at AF
  clear hG1 hG2 hF HF hT1 hT2 hg1 hg2
  go_enter Tryd.func11, Tryd.ntmps11
  go_upto_region 1 with fail
  generalize w.alloc (.cells #[.string ⟨pre.toArray⟩, .string ⟨suf.toArray⟩, .int .i64 (M : Int), .int .i64 (F : Int), .int .i64 (X : Int), .int .i64 (A : Int), .int .i64 (C : Int)] 23) = w1 at *
  have c0 : w1.cell? ⟨w.heap.size, 0, none⟩ = some (.string ⟨pre.toArray⟩) := B0.out.cell 0 _ rfl
  have c1 : w1.cell? ⟨w.heap.size, 1, none⟩ = some (.string ⟨suf.toArray⟩) := B0.out.cell 1 _ rfl
  have c2 : w1.cell? ⟨w.heap.size, 2, none⟩ = some (.int .i64 (M : Int)) := B0.out.cell 2 _ rfl
  have c3 : w1.cell? ⟨w.heap.size, 3, none⟩ = some (.int .i64 (F : Int)) := B0.out.cell 3 _ rfl
  have c4 : w1.cell? ⟨w.heap.size, 4, none⟩ = some (.int .i64 (X : Int)) := B0.out.cell 4 _ rfl
  have c5 : w1.cell? ⟨w.heap.size, 5, none⟩ = some (.int .i64 (A : Int)) := B0.out.cell 5 _ rfl
  have c6 : w1.cell? ⟨w.heap.size, 6, none⟩ = some (.int .i64 (C : Int)) := B0.out.cell 6 _ rfl
  have cl := B0.out.lt
  clear B0
  go_wp2_with fail
  go_loopw [4, 5] (fun vs vl wr => ∃ (S : List UInt8) (l : Nat), vs = .string ⟨S.toArray⟩ ∧ vl = .int .i64 (l : Int) ∧ l ≤ M ∧ S.length ≤ 5 + 2 * (M - l) ∧ Hid (S ++ Nt.recW M A C M l = T1) ∧ w1 = wr) (fun _ vl _ => (RowKit.intOf vl).toNat)
  case atStart => exact ⟨pre, M, rfl, rfl, Nat.le_refl _, by omega, HS1, rfl⟩
  case round =>
    obtain ⟨S, l, rfl, rfl, hlN, hlS, HS, rfl⟩ := hrel
    by_cases hl : 0 < l
    · have ST := Lib.hid (Nt.recW_step hl HS.out)
      have hl9 : l ≤ 9 := by omega
      have hlS2 : S.length ≤ 23 := by omega
      have hl1 : IntKind.i64.wrap ((l : Int) - 1) = ((l - 1 : Nat) : Int) := by rw [IntWalk.i64_in _ (by omega)]; omega
      have E1 := Lib.hid (show l - 1 < l ∧ l - 1 ≤ M ∧ S.length + 2 ≤ 5 + 2 * (M - (l - 1)) by omega)
      obtain ⟨U1, hU1⟩ : ∃ U, U = S ++ [35] := ⟨_, rfl⟩
      obtain ⟨U2, hU2⟩ : ∃ U, U = S ++ [48] := ⟨_, rfl⟩
      obtain ⟨U3, hU3⟩ : ∃ U, U = S ++ [44] := ⟨_, rfl⟩
      obtain ⟨U4, hU4⟩ : ∃ U, U = U3 ++ [35] := ⟨_, rfl⟩
      obtain ⟨U5, hU5⟩ : ∃ U, U = U3 ++ [48] := ⟨_, rfl⟩
      have L1 := Lib.hid (show U1.length = S.length + 1 ∧ U2.length = S.length + 1 ∧ U4.length = S.length + 2 ∧ U5.length = S.length + 2 by rw [hU1, hU2, hU4, hU5, hU3]; simp)
      have A1 : ∀ w, (Op.stringOp .add ⟨S.toArray⟩ ⟨#[35]⟩).run Tryd.prog w = .ok (.string ⟨U1.toArray⟩) w := fun w => by rw [hU1]; exact add_str (P := Tryd.prog) S [35] (by simp; omega) w
      have A2 : ∀ w, (Op.stringOp .add ⟨S.toArray⟩ ⟨#[48]⟩).run Tryd.prog w = .ok (.string ⟨U2.toArray⟩) w := fun w => by rw [hU2]; exact add_str (P := Tryd.prog) S [48] (by simp; omega) w
      have A3 : ∀ w, (Op.stringOp .add ⟨S.toArray⟩ ⟨#[44]⟩).run Tryd.prog w = .ok (.string ⟨U3.toArray⟩) w := fun w => by rw [hU3]; exact add_str (P := Tryd.prog) S [44] (by simp; omega) w
      have A4 : ∀ w, (Op.stringOp .add ⟨U3.toArray⟩ ⟨#[35]⟩).run Tryd.prog w = .ok (.string ⟨U4.toArray⟩) w := fun w => by rw [hU4]; exact add_str (P := Tryd.prog) U3 [35] (by rw [hU3]; simp; omega) w
      have A5 : ∀ w, (Op.stringOp .add ⟨U3.toArray⟩ ⟨#[48]⟩).run Tryd.prog w = .ok (.string ⟨U5.toArray⟩) w := fun w => by rw [hU5]; exact add_str (P := Tryd.prog) U3 [48] (by rw [hU3]; simp; omega) w
      rw [← hU3, ← hU4, ← hU5, ← hU1, ← hU2] at ST
      clear hU1 hU2 hU3 hU4 hU5
      clear hac hac1 hlt1
      obtain ⟨D, hD⟩ : ∃ D, D = A + C := ⟨_, rfl⟩
      have hac : IntKind.i64.wrap ((A : Int) + (C : Int)) = (D : Int) := by rw [IntWalk.i64_in _ (by omega)]; omega
      have hz := Lib.hid (show (¬ l < M ∧ ¬ (A ≠ 0 ∧ l < M ∧ (l = A ∨ C ≠ 0 ∧ l = A + C))) ∨ (l < M ∧ l = A ∧ (A ≠ 0 ∧ l < M ∧ (l = A ∨ C ≠ 0 ∧ l = A + C))) ∨ (l < M ∧ l ≠ A ∧ C = 0 ∧ ¬ (A ≠ 0 ∧ l < M ∧ (l = A ∨ C ≠ 0 ∧ l = A + C))) ∨ (l < M ∧ l ≠ A ∧ 0 < C ∧ l = A + C ∧ (A ≠ 0 ∧ l < M ∧ (l = A ∨ C ≠ 0 ∧ l = A + C))) ∨ (l < M ∧ l ≠ A ∧ 0 < C ∧ l ≠ A + C ∧ ¬ (A ≠ 0 ∧ l < M ∧ (l = A ∨ C ≠ 0 ∧ l = A + C))) by omega)
      by_cases hm : M < l
      all_goals rcases hz.out with ⟨z1, zz⟩ | ⟨z1, z2, zz⟩ | ⟨z1, z2, z3, zz⟩ | ⟨z1, z2, z3, z4, zz⟩ | ⟨z1, z2, z3, z4, zz⟩
      all_goals (try (exfalso; clear zz; omega))
      all_goals (
          replace zz := Lib.hid zz
          have hm' := Lib.hid hm
          first | (have d1 : decide ((l : Int) < (M : Int)) = true := dec_yes (by omega)) | (have d1 : decide ((l : Int) < (M : Int)) = false := dec_no (by omega))
          first | subst z2 | (have d2 : ((l : Int) == (A : Int)) = false := beq_no (by omega)) | skip
          first | (have d3 : decide ((0 : Int) < (C : Int)) = true := dec_yes (by omega); have d3' : 0 < C := by omega) | (have d3 : decide ((0 : Int) < (C : Int)) = false := dec_no (by omega); have d3' : ¬ 0 < C := by omega) | skip
          first | (have z5 : l = D := by omega); subst z5 | (have d4 : ((l : Int) == (D : Int)) = false := beq_no (by omega)) | skip
          first | (have d5 : decide ((M : Int) < (l : Int)) = true := dec_yes (by omega)) | (have d5 : decide ((M : Int) < (l : Int)) = false := dec_no (by omega))
          try clear z4
          try clear hD
          try clear z3
          try clear z2
          try clear hA
          try clear hAC
          clear hz hlN hlS HS
          go_wp2_with fail
          go_round
          case measure => exact E1.out.1
          case rel => first | exact ⟨_, l - 1, rfl, rfl, E1.out.2.1, by have := E1.out.2.2; have := L1.out; omega, Lib.hid (ST.out.1 zz.out hm'.out), by first | rfl | trivial⟩ | exact ⟨_, l - 1, rfl, rfl, E1.out.2.1, by have := E1.out.2.2; have := L1.out; omega, Lib.hid (ST.out.2.1 zz.out hm'.out), by first | rfl | trivial⟩ | exact ⟨_, l - 1, rfl, rfl, E1.out.2.1, by have := E1.out.2.2; have := L1.out; omega, Lib.hid (ST.out.2.2.1 zz.out hm'.out), by first | rfl | trivial⟩ | exact ⟨_, l - 1, rfl, rfl, E1.out.2.1, by have := E1.out.2.2; have := L1.out; omega, Lib.hid (ST.out.2.2.2 zz.out hm'.out), by first | rfl | trivial⟩)
    · obtain rfl : l = 0 := by omega
      have eS : S = T1 := by have := HS.out; unfold Nt.recW at this; rw [List.append_nil] at this; exact this
      subst eS
      clear hlN hlS HS HS1 hl
      go_wp2_with fail
      go_loopw [4, 6] (fun vs vk wr => ∃ (S : List UInt8) (k : Nat), vs = .string ⟨S.toArray⟩ ∧ vk = .int .i64 (k : Int) ∧ k ≤ X ∧ S.length ≤ 30 + 2 * k ∧ Hid (S ++ Nt.recF F k (X - k) = T2) ∧ w1 = wr) (fun _ vk _ => X - (RowKit.intOf vk).toNat)
      case atStart => exact ⟨_, 0, rfl, rfl, Nat.zero_le _, by omega, HS2, rfl⟩
      case round =>
        obtain ⟨S2, k, rfl, rfl, hkX, hkS, HS, rfl⟩ := hrel
        by_cases hk : k < X
        · have ST := Lib.hid (Nt.recF_step hk HS.out)
          have hS2 : S2.length ≤ 42 := by omega
          have E1 := Lib.hid (show k + 1 ≤ X ∧ X - (k + 1) < X - k ∧ S2.length + 2 ≤ 30 + 2 * (k + 1) by omega)
          obtain ⟨U1, hU1⟩ : ∃ U, U = S2 ++ [35] := ⟨_, rfl⟩
          obtain ⟨U2, hU2⟩ : ∃ U, U = S2 ++ [48] := ⟨_, rfl⟩
          obtain ⟨U3, hU3⟩ : ∃ U, U = S2 ++ [46] := ⟨_, rfl⟩
          obtain ⟨U4, hU4⟩ : ∃ U, U = U3 ++ [35] := ⟨_, rfl⟩
          obtain ⟨U5, hU5⟩ : ∃ U, U = U3 ++ [48] := ⟨_, rfl⟩
          have L1 := Lib.hid (show U1.length = S2.length + 1 ∧ U2.length = S2.length + 1 ∧ U4.length = S2.length + 2 ∧ U5.length = S2.length + 2 by rw [hU1, hU2, hU4, hU5, hU3]; simp)
          have A1 : ∀ w, (Op.stringOp .add ⟨S2.toArray⟩ ⟨#[35]⟩).run Tryd.prog w = .ok (.string ⟨U1.toArray⟩) w := fun w => by rw [hU1]; exact add_str (P := Tryd.prog) S2 [35] (by simp; omega) w
          have A2 : ∀ w, (Op.stringOp .add ⟨S2.toArray⟩ ⟨#[48]⟩).run Tryd.prog w = .ok (.string ⟨U2.toArray⟩) w := fun w => by rw [hU2]; exact add_str (P := Tryd.prog) S2 [48] (by simp; omega) w
          have A3 : ∀ w, (Op.stringOp .add ⟨S2.toArray⟩ ⟨#[46]⟩).run Tryd.prog w = .ok (.string ⟨U3.toArray⟩) w := fun w => by rw [hU3]; exact add_str (P := Tryd.prog) S2 [46] (by simp; omega) w
          have A4 : ∀ w, (Op.stringOp .add ⟨U3.toArray⟩ ⟨#[35]⟩).run Tryd.prog w = .ok (.string ⟨U4.toArray⟩) w := fun w => by rw [hU4]; exact add_str (P := Tryd.prog) U3 [35] (by rw [hU3]; simp; omega) w
          have A5 : ∀ w, (Op.stringOp .add ⟨U3.toArray⟩ ⟨#[48]⟩).run Tryd.prog w = .ok (.string ⟨U5.toArray⟩) w := fun w => by rw [hU5]; exact add_str (P := Tryd.prog) U3 [48] (by rw [hU3]; simp; omega) w
          rw [← hU3, ← hU4, ← hU5, ← hU1, ← hU2] at ST
          clear hU1 hU2 hU3 hU4 hU5
          have hk1 : IntKind.i64.wrap ((k : Int) + 1) = ((k + 1 : Nat) : Int) := by rw [IntWalk.i64_in _ (by omega)]; omega
          have dx : decide ((k : Int) < (X : Int)) = true := dec_yes (by omega)
          by_cases hf : k < F
          all_goals (
            have hf' := Lib.hid hf
            have d1 : decide ((k : Int) < (F : Int)) = decide (k < F) := by simp
            first | rw [dec_yes hf] at d1 | rw [dec_no hf] at d1
            by_cases h0 : k = 0
            · subst h0
              have d1' : decide ((0 : Int) < (F : Int)) = decide ((0 : Nat) < F) := by simp
              first | rw [dec_yes hf] at d1' | rw [dec_no hf] at d1'
              clear d1 hkX hkS HS
              go_wp2_with fail
              go_round
              case measure => exact E1.out.2.1
              case rel => first | exact ⟨_, 1, rfl, rfl, E1.out.1, by have := E1.out.2.2; have := L1.out; omega, Lib.hid (ST.out.1 rfl hf'.out), by first | rfl | trivial⟩ | exact ⟨_, 1, rfl, rfl, E1.out.1, by have := E1.out.2.2; have := L1.out; omega, Lib.hid (ST.out.2.1 rfl hf'.out), by first | rfl | trivial⟩
            · have d2 : ((k : Int) == 0) = false := beq_no (by omega)
              have h0' := Lib.hid h0
              clear hkX hkS HS
              go_wp2_with fail
              go_round
              case measure => exact E1.out.2.1
              case rel => first | exact ⟨_, k + 1, rfl, rfl, E1.out.1, by have := E1.out.2.2; have := L1.out; omega, Lib.hid (ST.out.2.2.1 h0'.out hf'.out), by first | rfl | trivial⟩ | exact ⟨_, k + 1, rfl, rfl, E1.out.1, by have := E1.out.2.2; have := L1.out; omega, Lib.hid (ST.out.2.2.2 h0'.out hf'.out), by first | rfl | trivial⟩)
        · have eS : S2 = T2 := by have := HS.out; rw [show X - k = 0 by omega] at this; unfold Nt.recF at this; rw [List.append_nil] at this; exact this
          rw [eS]
          clear HS hkS eS
          go_wp2_with fail
          go_ret
          exact ⟨rfl, W0.out⟩
theorem rpt_any (p : Nt.Pt) (w : World) (h : Nt.patE p = 0) :
    Calls Tryd.prog 11 #[.agg #[.string ⟨p.pre.toArray⟩, .string ⟨p.suf.toArray⟩, .int .i64 p.mi, .int .i64 p.nf, .int .i64 p.mf, .int .i64 p.g, .int .i64 p.g2]] w fun e w' => e = .returned (.string ⟨(Nt.patT p).toArray⟩) ∧ Below w.heap.size w w' := by
  obtain ⟨a1, a2, M, F, X, A, C, e, h1, h2, h3, h4, h5, h6, h7⟩ := Nt.parts_of h
  have l1 : p.pre.length ≤ 5 := by unfold Nt.affB at a1; simp at a1; omega
  have l2 : p.suf.length ≤ 5 := by unfold Nt.affB at a2; simp at a2; omega
  have eT : Nt.patT p = ((p.pre ++ Nt.ptG M A C) ++ Nt.ptF F X) ++ p.suf := by rw [e]; simp [Nt.patT]
  have hW := Nt.recW_is h2 h5 h6 h7
  have hF := Nt.recF_is h3 h4
  obtain ⟨m1, m2, m3, _⟩ := Nt.mid_of h1 h2 h3 h4 h5 h6 h7
  rw [List.length_append] at m3
  obtain ⟨n1, n2, n3⟩ := Nt.ptN_le M A C h2 h5 h6
  rw [eT]
  obtain ⟨pre, suf, mi, nf, mf, g, g2⟩ := p
  dsimp only at *
  cases e
  by_cases hA : A = 0
  · obtain rfl : C = 0 := by omega
    subst hA
    have hN : Nt.ptN M 0 0 = M := by unfold Nt.ptN; rw [if_pos rfl]
    rw [hN] at hW
    exact rpt_a pre suf _ _ _ M F X w l1 l2 ⟨h1, h2⟩ ⟨h3, h4⟩ hW hF rfl (by omega) (by omega)
  · by_cases hlt : M < A + C + 1
    · have hN : Nt.ptN M A C = A + C + 1 := by unfold Nt.ptN; rw [if_neg hA]; omega
      rw [hN] at hW
      exact rpt_b pre suf _ _ _ M F X A C (A + C + 1) w l1 l2 ⟨h1, h2⟩ ⟨h3, h4⟩ (by omega) hA ⟨h5, h6⟩ rfl hlt hW hF rfl (by omega) (by omega)
    · have hN : Nt.ptN M A C = M := by unfold Nt.ptN; rw [if_neg hA]; omega
      rw [hN] at hW
      exact rpt_c pre suf _ _ _ M F X A C w l1 l2 ⟨h1, h2⟩ ⟨h3, h4⟩ hA ⟨h5, h6⟩ hlt hW hF rfl (by omega) (by omega)
end Go.Proofs.YtjakpdfonnpchaaDoor
