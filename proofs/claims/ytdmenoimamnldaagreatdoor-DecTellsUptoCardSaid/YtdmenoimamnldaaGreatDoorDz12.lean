/- The walk of linguisterref1.NumberOf. Condition: the text is short of 4000000000 bytes. -/
import Derived.Test.YtdmenoimamnldaaGreatDoorDz0
import Derived.Test.YtdmenoimamnldaaGreatDoorDz10
import Derived.Test.YtdmenoimamnldaaGreatDoorDz11
namespace Go.Proofs.YtdmenoimamnldaaGreatDoor
open Go.RowKit

/-- only draws -/
def Drew (w w' : World) : Prop := ∃ n, w' = w.drewN n
theorem Drew.refl (w : World) : Drew w w := ⟨0, rfl⟩
theorem drewN_drewN (w : World) (a b : Nat) : (w.drewN a).drewN b = w.drewN (a + b) := by
  induction b with
  | zero => rfl
  | succ b ih => show ((w.drewN a).drewN b).drew = (w.drewN (a + b)).drew; rw [ih]
theorem Drew.drewN {w w' : World} (h : Drew w w') (n : Nat) : Drew w (w'.drewN n) := by
  obtain ⟨a, rfl⟩ := h
  exact ⟨a + n, drewN_drewN w a n⟩
theorem Drew.drew {w w' : World} (h : Drew w w') : Drew w w'.drew := h.drewN 1
theorem Drew.below {w w' : World} (h : Drew w w') : Below w.heap.size w w' := by
  obtain ⟨a, rfl⟩ := h
  exact blw_drewN (Below.refl _ _) a
end Go.Proofs.YtdmenoimamnldaaGreatDoor
namespace Go.Proofs.YtdmenoimamnldaaGreatDoor
open Go.RowKit

theorem u8_sub (x : Int) (h0 : 48 ≤ x) (h1 : x ≤ 57) : IntKind.u8.wrap (x - 48) = x - 48 := by
  have : x = 48 ∨ x = 49 ∨ x = 50 ∨ x = 51 ∨ x = 52 ∨ x = 53 ∨ x = 54 ∨ x = 55 ∨ x = 56 ∨ x = 57 := by omega
  rcases this with rfl | rfl | rfl | rfl | rfl | rfl | rfl | rfl | rfl | rfl <;> decide
theorem all_snoc {s : List UInt8} {k : Nat} {c : UInt8} (h : s[k]? = some c) (p : UInt8 → Bool) : (s.take (k + 1)).all p = ((s.take k).all p && p c) := by
  rw [List.take_add_one, h, List.all_append]; simp
theorem fold_snoc {s : List UInt8} {k : Nat} {c : UInt8} (h : s[k]? = some c) : Byt.foldD 0 (s.take (k + 1)) = 10 * Byt.foldD 0 (s.take k) + (c.toNat - 48) := by
  rw [List.take_add_one, h, Byt.foldD_app]; rfl
theorem all_of_take {s : List UInt8} {k : Nat} {c : UInt8} {p : UInt8 → Bool} (h : s[k]? = some c) (hp : p c = false) : s.all p = false :=
  List.all_eq_false.2 ⟨c, List.mem_of_getElem? h, by rw [hp]; decide⟩
theorem fold_take_bd {s : List UInt8} {k : Nat} (h : (s.take k).all Byt.isDig = true) (hk : k ≤ 16) : Byt.foldD 0 (s.take k) < 10000000000000000 := by
  have := Byt.foldD_bd (s.take k) fun c hc => Byt.isDig_iff.1 (List.all_eq_true.1 h c hc)
  have hl : (s.take k).length ≤ 16 := by rw [List.length_take]; omega
  have : 10 ^ (s.take k).length ≤ 10 ^ 16 := Nat.pow_le_pow_right (by omega) hl
  omega

set_option maxRecDepth 100000 in
set_option maxHeartbeats 2000000 in
theorem numof_any (s : List UInt8) (w : World) (hs : s.length ≤ 4000000000) :
    Calls Tryz.prog 22 #[.string ⟨s.toArray⟩] w fun e w' => e = .returned (.int .i64 (Byt.numP s)) ∧ Below w.heap.size w w' := by
  have HP := Lib.hid (show Byt.numP s = if s.length = 0 ∨ 16 < s.length then -1 else if s.all Byt.isDig = true then (if Lib.decDigits (Byt.foldD 0 s) = s ∧ (Byt.foldD 0 s : Int) ≤ 1000000000000000 then (Byt.foldD 0 s : Int) else -1) else -1 from rfl)
  generalize Byt.numP s = V at *
  by_cases h0 : s.length = 0
  · have HV := Lib.hid (show V = -1 by rw [HP.out, if_pos (.inl h0)])
    have d0 : ((s.length : Int) == 0) = true := beq_yes (by omega)
    clear HP h0
    go_enter Tryz.func22, Tryz.ntmps22
    go_wp2_with fail
    go_ret
    exact ⟨ret_int (by rw [HV.out]), Below.refl _ _⟩
  have d0 : ((s.length : Int) == 0) = false := beq_no (by omega)
  by_cases h1 : 16 < s.length
  · have HV := Lib.hid (show V = -1 by rw [HP.out, if_pos (.inr h1)])
    have d1 : decide (16 < (s.length : Int)) = true := dec_yes (by omega)
    clear HP h0
    go_enter Tryz.func22, Tryz.ntmps22
    go_wp2_with fail
    go_ret
    exact ⟨ret_int (by rw [HV.out]), Below.refl _ _⟩
  have HQ := Lib.hid (show V = if s.all Byt.isDig = true then (if Lib.decDigits (Byt.foldD 0 s) = s ∧ (Byt.foldD 0 s : Int) ≤ 1000000000000000 then (Byt.foldD 0 s : Int) else -1) else -1 by rw [HP.out, if_neg (by omega)])
  have d1 : decide (16 < (s.length : Int)) = false := dec_no (by omega)
  have hl : s.length ≤ 16 := by omega
  clear HP h0 h1
  go_enter Tryz.func22, Tryz.ntmps22
  go_wp2_with fail
  clear d0 d1
  go_loop [3, 4] (fun n i => ∃ k : Nat, i = .int .i64 k ∧ n = .int .i64 (Byt.foldD 0 (s.take k)) ∧ k ≤ s.length ∧ Hid ((s.take k).all Byt.isDig = true)) (fun _ i => s.length - (RowKit.intOf i).toNat)
  case atStart => exact ⟨0, rfl, rfl, Nat.zero_le _, Lib.hid rfl⟩
  case round =>
    obtain ⟨k, rfl, rfl, hk, HA⟩ := hrel
    have hb := fold_take_bd HA.out (by omega)
    by_cases hlt : k < s.length
    · obtain ⟨c, hx⟩ : ∃ c, s[k]? = some c := ⟨s[k], List.getElem?_eq_getElem hlt⟩
      have IX := fun w => index_str (P := Tryz.prog) 9 Tryz.underlying9 s .i64 k c hx w
      have hcb := c.toNat_lt
      by_cases hd : 48 ≤ c.toNat ∧ c.toNat ≤ 57
      · have HN := Lib.hid (fold_snoc hx)
        have HA2 := Lib.hid (show (s.take (k + 1)).all Byt.isDig = true by rw [all_snoc hx, HA.out, Byt.isDig_iff.2 hd]; rfl)
        have us := u8_sub (c.toNat : Int) (by omega) (by omega)
        obtain ⟨g0, g1⟩ := hd
        have e0 : decide ((c.toNat : Int) < 48) = false := dec_no (by omega)
        have e1 : decide (57 < (c.toNat : Int)) = false := dec_no (by omega)
        clear hx HA
        generalize Byt.foldD 0 (s.take k) = N at *
        go_wp2_with fail
        go_round
        case rel => exact ⟨k + 1, by go_num, congrArg (Value.int .i64) (by rw [HN.out]; omega), by omega, HA2⟩
        case measure => simp [RowKit.intOf]; omega
      · have HV := Lib.hid (show V = -1 by
          rw [HQ.out, if_neg]
          rw [all_of_take hx (show Byt.isDig c = false by
            cases hq : Byt.isDig c with
            | false => rfl
            | true => exact absurd (Byt.isDig_iff.1 hq) hd)]
          decide)
        clear hx HA HQ
        generalize Byt.foldD 0 (s.take k) = N at *
        by_cases g0 : c.toNat < 48
        · have e0 : decide ((c.toNat : Int) < 48) = true := dec_yes (by omega)
          go_wp2_with fail
          go_ret
          exact ⟨ret_int (by rw [HV.out]), Below.refl _ _⟩
        · have e0 : decide ((c.toNat : Int) < 48) = false := dec_no (by omega)
          have e1 : decide (57 < (c.toNat : Int)) = true := dec_yes (by omega)
          go_wp2_with fail
          go_ret
          exact ⟨ret_int (by rw [HV.out]), Below.refl _ _⟩
    · have ht : s.take k = s := List.take_of_length_le (by omega)
      rw [ht] at HA hb ⊢
      clear ht
      have CD := Lib.hid fun w => digits_none (Byt.foldD 0 s : Int) w (by omega) (by omega)
      rw [Int.toNat_natCast] at CD
      have HQ2 := Lib.hid (show V = if Lib.decDigits (Byt.foldD 0 s) = s ∧ (Byt.foldD 0 s : Int) ≤ 1000000000000000 then (Byt.foldD 0 s : Int) else -1 by rw [HQ.out, if_pos HA.out])
      clear HQ HA
      generalize Byt.foldD 0 s = N at *
      generalize Lib.decDigits N = D at *
      by_cases hq : D = s
      · have q1 : (D == s) = true := by rw [hq]; simp
        have q2 : (D != s) = false := by rw [bne, q1]; rfl
        by_cases hn : (N : Int) ≤ 1000000000000000
        · have HV := Lib.hid (show V = (N : Int) by rw [HQ2.out, if_pos ⟨hq, hn⟩])
          have e1 : decide (1000000000000000 < (N : Int)) = false := dec_no (by omega)
          clear hq HQ2
          go_wp2_with fail
          refine (CD.out _).mono ?_
          rintro e w1 ⟨rfl, hw⟩
          have HW := Lib.hid hw
          clear hw CD
          go_wp2_with fail
          go_ret
          exact ⟨ret_int (by rw [HV.out]), HW.out⟩
        · have HV := Lib.hid (show V = -1 by rw [HQ2.out, if_neg (fun g => hn g.2)])
          have e1 : decide (1000000000000000 < (N : Int)) = true := dec_yes (by omega)
          clear hq HQ2
          go_wp2_with fail
          refine (CD.out _).mono ?_
          rintro e w1 ⟨rfl, hw⟩
          have HW := Lib.hid hw
          clear hw CD
          go_wp2_with fail
          go_ret
          exact ⟨ret_int (by rw [HV.out]), HW.out⟩
      · have q1 : (D == s) = false := beq_eq_false_iff_ne.2 hq
        have q2 : (D != s) = true := by rw [bne, q1]; rfl
        have HV := Lib.hid (show V = -1 by rw [HQ2.out, if_neg (fun g => hq g.1)])
        clear hq HQ2
        go_wp2_with fail
        refine (CD.out _).mono ?_
        rintro e w1 ⟨rfl, hw⟩
        have HW := Lib.hid hw
        clear hw CD
        go_wp2_with fail
        go_ret
        exact ⟨ret_int (by rw [HV.out]), HW.out⟩
end Go.Proofs.YtdmenoimamnldaaGreatDoor
