/- The walks of lex.signs, of the closure that looks for a sign, of lex.quoted. Conditions: the text is short of 4000000000 bytes; what the closure has captured holds the text and the mark. -/
import Derived.Test.YtmmjbjoefogmoaaLayB
import Derived.Test.YtmmjbjoefogmoaaLexP
import Derived.Test.YtmmjbjoefogmoaaShelf
import Derived.Test.YtmmjbjoefogmoaaBoxS
import Derived.Test.YtmmjbjoefogmoaaStr
import Derived.Lib.IndexLaws
import Derived.Shelf.Strings.MapGrows
import Derived.OwnWalk
import Derived.LoopTactic
import Derived.Deep.Draws
import Derived.Deep.LoopGhost
namespace Go.Proofs.Ytmmjbjoefogmoaa
open Go.RowKit

theorem sgs_has (m : Bool) (c : UInt8) : decide (0 ≤ Lib.indexByte (Lx.sgs m) c) = (Lx.sgs m).contains c := by
  by_cases h : 0 ≤ Lib.indexByte (Lx.sgs m) c
  · obtain ⟨o, ho⟩ : ∃ o : Nat, Lib.indexByte (Lx.sgs m) c = o := ⟨(Lib.indexByte (Lx.sgs m) c).toNat, by omega⟩
    have := (Lib.indexByte_some ho).1
    simp [h, List.mem_of_getElem? this]
  · have e : Lib.indexByte (Lx.sgs m) c = -1 := by have := Lib.indexByte_ge (Lx.sgs m) c; omega
    have hn : c ∉ Lx.sgs m := fun hm => by
      obtain ⟨k, hk⟩ := List.getElem?_of_mem hm
      exact Lib.indexByte_none e k hk
    simp [h, hn]
theorem two_has (s : List UInt8) (k : Nat) : Lib.hasPrefix (s.drop k) [39, 39] = Lx.twoQ s k := by
  unfold Lib.hasPrefix Lx.twoQ
  rw [← Nat.add_zero k, ← List.getElem?_drop, Nat.add_zero, ← List.getElem?_drop]
  match s.drop k with
  | [] => rfl
  | [a] => simp [List.isPrefixOf]
  | a :: b :: r =>
    show ((39 == a) && ((39 == b) && true)) = (decide (some a = some 39) && decide (some b = some 39))
    by_cases h1 : a = 39
    · by_cases h2 : b = 39
      · subst h1 h2; rfl
      · have e : ((39 : UInt8) == b) = false := beq_eq_false_iff_ne.2 fun g => h2 g.symm
        rw [e, dec_no (p := some b = some 39) (fun g => h2 (Option.some.inj g))]; simp
    · have e : ((39 : UInt8) == a) = false := beq_eq_false_iff_ne.2 fun g => h1 g.symm
      rw [e, dec_no (p := some a = some 39) (fun g => h1 (Option.some.inj g))]; simp

set_option maxRecDepth 100000 in
set_option maxHeartbeats 400000 in
theorem signs_any (m : Bool) (w : World) : Calls Try.prog 9 #[.bool m] w fun e w' => e = .returned (.string ⟨(Lx.sgs m).toArray⟩) ∧ w = w' := by
  cases m
  · go_enter Try.func9, Try.ntmps9
    go_wp2_with fail
    go_ret
    exact ⟨rfl, rfl⟩
  · go_enter Try.func9, Try.ntmps9
    go_wp2_with fail
    go_ret
    exact ⟨rfl, rfl⟩

set_option maxRecDepth 100000 in
set_option maxHeartbeats 1000000 in
theorem sign_any (s : List UInt8) (m : Bool) (i ps pm : Nat) (w : World) (hc : w.cell? ⟨ps, 0, none⟩ = some (.string ⟨s.toArray⟩)) (hm : w.cell? ⟨pm, 0, none⟩ = some (.bool m)) :
    Calls Try.prog 7 #[.int .i64 (i : Int), .pointer (some ⟨ps, 0, none⟩), .pointer (some ⟨pm, 0, none⟩)] w fun e w' => e = .returned (.bool (Lx.isS m s i)) ∧ ∃ n, w' = w.drewN n := by
  by_cases hi : i < s.length
  · obtain ⟨c, hx⟩ : ∃ c, s[i]? = some c := ⟨s[i], List.getElem?_eq_getElem hi⟩
    have HR := Lib.hid (show Lx.isS m s i = decide (0 ≤ Lib.indexByte (Lx.sgs m) c) by rw [sgs_has]; unfold Lx.isS; rw [hx])
    have IX := fun w => index_str (P := Try.prog) 9 Try.underlying9 s .i64 i c hx w
    have CS := Lib.hid fun w => signs_any m w
    have CB := Lib.hid fun w => Try.strings_IndexByte ⟨(Lx.sgs m).toArray⟩ (c.toNat : Int) w
    have ec : ((c.toNat : Int)).toNat.toUInt8 = c := by simp
    rw [ec] at CB
    have d1 : decide ((i : Int) < (s.length : Int)) = true := dec_yes (by omega)
    clear hx ec
    have HX := Lib.hid (show decide (0 ≤ Lib.indexByte (⟨(Lx.sgs m).toArray⟩ : ByteArray).data.toList c) = Lx.isS m s i by rw [HR.out])
    generalize Lib.indexByte (⟨(Lx.sgs m).toArray⟩ : ByteArray).data.toList c = X at *
    generalize Lx.sgs m = S at *
    clear HR
    go_enter Try.func7, Try.ntmps7
    go_wp2_with fail
    go_big_quiet ((first | (go_at_call 9; exact quiet_left (CS.out _)) | (go_at_call 8; exact quiet_left ((CB.out _).mono fun _ _ h => ⟨h.1, h.2.symm⟩))))
    go_wp2_with fail
    go_ret
    exact ⟨ret_bool (by rw [← HX.out]), _, rfl⟩
  · have HR := Lib.hid (show Lx.isS m s i = false by unfold Lx.isS; rw [List.getElem?_eq_none (by omega)])
    have d1 : decide ((i : Int) < (s.length : Int)) = false := dec_no (by omega)
    go_enter Try.func7, Try.ntmps7
    go_wp2_with fail
    go_big_quiet (fail)
    go_wp2_with fail
    go_ret
    exact ⟨ret_bool (by rw [HR.out]), _, rfl⟩


/-- what lex.quoted hands over -/
def quoV (r : Option (List UInt8 × Nat)) : Value := match r with | none => .tuple #[.string ⟨#[]⟩, .int .i64 0, .bool false] | some (t, e) => .tuple #[.string ⟨t.toArray⟩, .int .i64 (e : Int), .bool true]
theorem quo_zero {s : List UInt8} {f k : Nat} {acc : List UInt8} (h : ¬ k < s.length) : Lx.quo f s k acc = none := by
  cases f with
  | zero => rfl
  | succ f => unfold Lx.quo; rw [List.getElem?_eq_none (by omega)]

set_option maxRecDepth 100000 in
set_option maxHeartbeats 2000000 in
theorem quoted_any (s : List UInt8) (F i : Nat) (w : World) (hs : s.length ≤ 4000000000) (hF : s.length ≤ F) (hi0 : 1 ≤ i) (hi : i ≤ s.length) :
    Calls Try.prog 13 #[.string ⟨s.toArray⟩, .int .i64 (i : Int)] w fun e w' => e = .returned (quoV (Lx.quo F s i [])) ∧ Below w.heap.size w w' := by
  generalize HR : Lx.quo F s i [] = R
  have HQ0 := Lib.hid HR
  clear HR
  go_enter Try.func13, Try.ntmps13
  go_wp2_with fail
  go_loopw [1] (fun v wr => ∃ (k f : Nat) (acc : List UInt8), v = .int .i64 k ∧ k ≤ s.length ∧ s.length < f + k ∧ acc.length ≤ k ∧ Hid (Lx.quo f s k acc = R) ∧ Hid (BuiltF w.heap.size w.heap.size acc wr) ∧ Hid (Below w.heap.size w wr)) (fun v _ => s.length - (RowKit.intOf v).toNat)
  case atStart => exact ⟨i, F, [], rfl, hi, by omega, by simp, HQ0, Lib.hid (Lib.IsBuilderF.of (Lib.fresh_isBuilder 32 5 w)), Lib.hid ((Below.refl _ w).alloc (Nat.le_refl _) _)⟩
  case round =>
    obtain ⟨k, f, acc, rfl, hk, hf, hal, HQ, HB, HW⟩ := hrel
    clear HQ0
    have hsz := HW.out.size
    by_cases hlt : k < s.length
    · obtain ⟨c, hx⟩ : ∃ c, s[k]? = some c := ⟨s[k], List.getElem?_eq_getElem hlt⟩
      obtain ⟨f, rfl⟩ : ∃ g, f = g + 1 := ⟨f - 1, by omega⟩
      have IX := fun w => index_str (P := Try.prog) 9 Try.underlying9 s .i64 k c hx w
      have SL := fun w => slice_from (P := Try.prog) 9 Try.underlying9 s .i64 k (by omega) w
      have CP := Lib.hid fun w => Try.strings_HasPrefix ⟨(s.drop k).toArray⟩ ⟨#[39, 39]⟩ w
      have HX := Lib.hid hx
      have hcb := c.toNat_lt
      by_cases hc : c = 39
      · subst hc
        have e39 : ((39 : UInt8).toNat : Int) = 39 := rfl
        rw [e39] at IX
        by_cases h2 : s[k + 1]? = some 39
        · have e2 : Lib.hasPrefix (⟨(s.drop k).toArray⟩ : ByteArray).data.toList (⟨#[39, 39]⟩ : ByteArray).data.toList = true := (two_has s k).trans (by unfold Lx.twoQ; rw [hx, h2]; rfl)
          rw [e2] at CP
          have IX2 : ∀ w, (Instr.index 9 (.string ⟨s.toArray⟩) (.int .i64 ((k : Int) + 1))).run Try.prog w = .ok (.int .u8 39) w := fun w => by
            rw [show ((k : Int) + 1) = ((k + 1 : Nat) : Int) by omega]
            exact index_str (P := Try.prog) 9 Try.underlying9 s .i64 (k + 1) 39 h2 w
          have hlt2 : k + 1 < s.length := (List.getElem?_eq_some_iff.1 h2).1
          have HN := Lib.hid (show Lx.quo f s (k + 2) (acc ++ [39]) = R by rw [← HQ.out]; conv => rhs; unfold Lx.quo; rw [hx]; simp only; rw [if_pos trivial, if_pos h2])
          clear hx h2 e2 HQ
          generalize s.drop k = D at *
          have cw := fun wx h1 h2 => wbyte_any w.heap.size w.heap.size acc 39 wx h1 (by omega) h2
          rw [e39] at cw
          have CW := Lib.hid cw
          clear cw e39
          go_wp2_with (go_at_call 11; refine (CP.out _).mono ?_; rintro e w' ⟨rfl, rfl⟩)
          (with_reducible refine (CW.out _ HB.out (by omega)).mono ?_)
          rintro e w1 ⟨rfl, hB, hw, _⟩
          have HB1 := Lib.hid hB
          have HW1 := Lib.hid (HW.out.trans hw)
          clear hB hw HB HW
          go_wp2_with fail
          go_roundw
          case rel => exact ⟨k + 2, f, acc ++ [39], by go_num, by omega, by omega, by simp; omega, HN, HB1, HW1⟩
          case measure => simp [RowKit.intOf]; omega
        · have e2 : Lib.hasPrefix (⟨(s.drop k).toArray⟩ : ByteArray).data.toList (⟨#[39, 39]⟩ : ByteArray).data.toList = false := (two_has s k).trans (by unfold Lx.twoQ; rw [dec_no h2]; simp)
          rw [e2] at CP
          have HN := Lib.hid (show R = some (acc, k + 1) by rw [← HQ.out]; unfold Lx.quo; rw [hx]; simp only; rw [if_pos trivial, if_neg h2])
          clear hx h2 e2 HQ
          generalize s.drop k = D at *
          clear e39
          have CS := Lib.hid fun wx h1 h2 => Try.Builder_String_any_k w.heap.size w.heap.size acc wx h1 h2
          go_wp2_with (go_at_call 11; refine (CP.out _).mono ?_; rintro e w' ⟨rfl, rfl⟩)
          (with_reducible refine (CS.out _ HB.out (by omega)).mono ?_)
          rintro e w1 ⟨rfl, _, hw, _⟩
          have HW1 := Lib.hid (HW.out.trans hw)
          clear hw HB HW
          go_wp2_with fail
          go_ret3
          exact ⟨by rw [HN.out]; rfl, HW1.out⟩
      · have b1 : ((c.toNat : Int) == 39) = false := beq_no (fun g => hc (UInt8.toNat_inj.1 (by simpa using (show c.toNat = 39 by omega))))
        have HN := Lib.hid (show Lx.quo f s (k + 1) (acc ++ [c]) = R by rw [← HQ.out]; conv => rhs; unfold Lx.quo; rw [hx]; simp only; rw [if_neg hc])
        clear hx hc HQ
        have CW := Lib.hid fun wx h1 h2 => wbyte_any w.heap.size w.heap.size acc c wx h1 (by omega) h2
        go_wp2_with fail
        (with_reducible refine (CW.out _ HB.out (by omega)).mono ?_)
        rintro e w1 ⟨rfl, hB, hw, _⟩
        have HB1 := Lib.hid hB
        have HW1 := Lib.hid (HW.out.trans hw)
        clear hB hw HB HW
        go_wp2_with fail
        go_roundw
        case rel => exact ⟨k + 1, f, acc ++ [c], by go_num, by omega, by omega, by simp; omega, HN, HB1, HW1⟩
        case measure => simp [RowKit.intOf]; omega
    · have HN := Lib.hid (show R = none by rw [← HQ.out]; exact quo_zero hlt)
      clear HQ
      go_wp2_with fail
      go_ret3
      exact ⟨by rw [HN.out]; rfl, HW.out⟩
end Go.Proofs.Ytmmjbjoefogmoaa
