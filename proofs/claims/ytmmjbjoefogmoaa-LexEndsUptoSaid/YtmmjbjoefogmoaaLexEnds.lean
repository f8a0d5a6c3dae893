/- The walk of the law LexEnds: it returns true of whatever text. Conditions: the text is short of 4000000000 bytes. -/
import Derived.Test.YtmmjbjoefogmoaaBare
namespace Go.Proofs.Ytmmjbjoefogmoaa
open Go.RowKit

theorem byte_ne {c : UInt8} {n : Nat} (hn : n < 256) (h : c ≠ UInt8.ofNat n) : ((c.toNat : Int) == (n : Int)) = false :=
  beq_eq_false_iff_ne.2 fun g => h (UInt8.toNat_inj.1 (by rw [UInt8.toNat_ofNat']; omega))

set_option maxRecDepth 100000 in
set_option maxHeartbeats 1000000 in
theorem rsign_any (c : UInt8) (m : Bool) (w : World) : Calls Try.prog 6 #[.int .u8 (c.toNat : Int), .bool m] w fun e w' => e = .returned (.bool ((Lx.sgs m).contains c)) ∧ ∃ n, w' = w.drewN n := by
  by_cases h1 : c = 123
  · subst h1
    have HR := Lib.hid (show (Lx.sgs m).contains 123 = true by cases m <;> rfl)
    have e : ((123 : UInt8).toNat : Int) = 123 := rfl
    rw [e]
    clear e
    go_enter Try.func6, Try.ntmps6
    go_wp2_with fail
    go_ret
    exact ⟨ret_bool (by rw [HR.out]), 0, rfl⟩
  have b1 : ((c.toNat : Int) == 123) = false := byte_ne (n := 123) (by omega) h1
  by_cases h2 : c = 125
  · subst h2
    have HR := Lib.hid (show (Lx.sgs m).contains 125 = true by cases m <;> rfl)
    have e : ((125 : UInt8).toNat : Int) = 125 := rfl
    rw [e]
    clear e b1 h1
    go_enter Try.func6, Try.ntmps6
    go_wp2_with fail
    go_ret
    exact ⟨ret_bool (by rw [HR.out]), 0, rfl⟩
  have b2 : ((c.toNat : Int) == 125) = false := byte_ne (n := 125) (by omega) h2
  cases m
  · have HR := Lib.hid (show (Lx.sgs false).contains c = false by simp [Lx.sgs, h1, h2])
    clear h1 h2
    go_enter Try.func6, Try.ntmps6
    go_wp2_with fail
    go_ret
    exact ⟨ret_bool (by rw [HR.out]), 0, rfl⟩
  by_cases h3 : c = 35
  · subst h3
    have e : ((35 : UInt8).toNat : Int) = 35 := rfl
    rw [e] at b1 b2 ⊢
    clear e h1 h2
    go_enter Try.func6, Try.ntmps6
    go_wp2_with fail
    go_ret
    exact ⟨ret_bool rfl, 0, rfl⟩
  · have b3 : ((c.toNat : Int) == 35) = false := byte_ne (n := 35) (by omega) h3
    have HR := Lib.hid (show (Lx.sgs true).contains c = false by simp [Lx.sgs, h1, h2, h3])
    clear h1 h2 h3
    go_enter Try.func6, Try.ntmps6
    go_wp2_with fail
    go_ret
    exact ⟨ret_bool (by rw [HR.out]), 0, rfl⟩

set_option maxRecDepth 100000 in
set_option maxHeartbeats 1000000 in
theorem barefact_any (w : World) : Calls Try.prog 4 #[] w fun e w' => e = .returned (.bool true) ∧ Below w.heap.size w w' := by
  have cb := fun wx => bare_any [97, 39, 39, 98, 39, 123, 39, 99, 123, 100] false 11 wx (by decide) (by decide)
  have e : Lx.bar 11 11 [97, 39, 39, 98, 39, 123, 39, 99, 123, 100] false 0 [] = some ([97, 39, 98, 123, 99], 8) := by decide
  rw [e] at cb
  have CB := Lib.hid cb
  clear cb e
  go_enter Try.func4, Try.ntmps4
  go_wp2_with fail
  refine (CB.out _).mono ?_
  rintro e w1 ⟨rfl, hb⟩
  unfold bareV
  go_wp2_with fail
  go_ret
  exact ⟨rfl, hb⟩

set_option maxRecDepth 100000 in
set_option maxHeartbeats 4000000 in
theorem lexends_any (s : List UInt8) (m : Bool) (w : World) (hs : s.length ≤ 4000000000) :
    Calls Try.prog 3 #[.string ⟨s.toArray⟩, .bool m] w fun e w' => e = .returned (.bool true) ∧ Below w.heap.size w w' := by
  have C1 := Lib.hid fun wx => bare_any s m (s.length + 1) wx hs (by omega)
  have HE := Lib.hid (Lx.bar_ends (s.length + 1) (s.length + 1) s m 0 [])
  rcases hr : Lx.bar (s.length + 1) (s.length + 1) s m 0 [] with _ | ⟨t, n⟩
  · rw [hr] at C1
    clear hr HE
    unfold bareV at C1
    go_enter Try.func3, Try.ntmps3
    go_wp2_with fail
    refine (barefact_any _).mono ?_
    rintro e w1 ⟨rfl, hb⟩
    have W1 := Lib.hid hb
    clear hb
    go_wp2_with fail
    refine (C1.out _).mono ?_
    rintro e w2 ⟨rfl, hb⟩
    have W2 := Lib.hid (blw_trans W1.out hb)
    clear hb W1 C1
    go_wp2_with fail
    go_ret
    exact ⟨rfl, W2.out⟩
  · obtain ⟨_, a2, a3, a4, a5⟩ := HE.out t n (Nat.zero_le _) hr
    rw [hr] at C1
    rw [List.length_nil] at a4
    have c2 := fun wx => bare_any (s.take n) m (s.length + 1) wx (by rw [List.length_take]; omega) (by rw [List.length_take]; omega)
    rw [a5] at c2
    have C2 := Lib.hid c2
    have SL := fun w => slice_to (P := Try.prog) 9 Try.underlying9 s .i64 n a2 w
    clear hr HE c2 a5
    unfold bareV at C1 C2
    by_cases hn : n < s.length
    · obtain ⟨c, hx⟩ : ∃ c, s[n]? = some c := ⟨s[n], List.getElem?_eq_getElem hn⟩
      have IX := fun w => index_str (P := Try.prog) 9 Try.underlying9 s .i64 n c hx w
      have hc : (Lx.sgs m).contains c = true := by
        have := a3 hn
        unfold Lx.isS at this
        rw [hx] at this
        exact this
      have cs := fun wx => rsign_any c m wx
      rw [hc] at cs
      have CS := Lib.hid cs
      have hcb := c.toNat_lt
      clear a3 hx hc cs
      go_enter Try.func3, Try.ntmps3
      go_wp2_with fail
      refine (barefact_any _).mono ?_
      rintro e w1 ⟨rfl, hb⟩
      have W1 := Lib.hid hb
      clear hb
      go_wp2_with fail
      refine (C1.out _).mono ?_
      rintro e w2 ⟨rfl, hb⟩
      have W2 := Lib.hid (blw_trans W1.out hb)
      clear hb W1 C1
      go_wp2_with fail
      refine (CS.out _).mono ?_
      rintro e w3 ⟨rfl, nq, rfl⟩
      have W3 := Lib.hid (blw_drewN W2.out nq)
      clear W2 CS
      go_wp2_with fail
      refine (C2.out _).mono ?_
      rintro e w4 ⟨rfl, hb⟩
      have W4 := Lib.hid (blw_trans W3.out hb)
      clear hb W3 C2
      go_wp2_with fail
      go_ret
      exact ⟨ret_bool (by simp), W4.out⟩
    · have hnl : ¬ (n : Int) < (s.length : Int) := by omega
      clear a3
      go_enter Try.func3, Try.ntmps3
      go_wp2_with fail
      refine (barefact_any _).mono ?_
      rintro e w1 ⟨rfl, hb⟩
      have W1 := Lib.hid hb
      clear hb
      go_wp2_with fail
      refine (C1.out _).mono ?_
      rintro e w2 ⟨rfl, hb⟩
      have W2 := Lib.hid (blw_trans W1.out hb)
      clear hb W1 C1
      go_wp2_with fail
      refine (C2.out _).mono ?_
      rintro e w4 ⟨rfl, hb⟩
      have W4 := Lib.hid (blw_trans W2.out hb)
      clear hb W2 C2
      go_wp2_with fail
      go_ret
      exact ⟨ret_bool (by simp), W4.out⟩
end Go.Proofs.Ytmmjbjoefogmoaa
