/- The walk of the law DateNext: it returns true of whatever day. Conditions: the table 'ahead' holds its numbers. -/
import Derived.Test.YtcoeajcgeabjcaaDoorNumb
import Derived.Test.YtcoeajcgeabjcaaDoorOf
namespace Go.Proofs.YtcoeajcgeabjcaaDoor
open Go.RowKit

/-- three cells of a boxed struct -/
structure Box3 (w : World) (p : Nat) (a b c : Value) : Prop where
  lt : p < w.heap.size
  c0 : w.cell? ⟨p, 0, none⟩ = some a
  c1 : w.cell? ⟨p, 1, none⟩ = some b
  c2 : w.cell? ⟨p, 2, none⟩ = some c
theorem Box3.below {w w' : World} {p : Nat} {a b c : Value} (h : Box3 w p a b c) (hb : Below w.heap.size w w') : Box3 w' p a b c :=
  ⟨Nat.lt_of_lt_of_le h.lt hb.size, (hb.cell (p := ⟨p, 0, none⟩) h.lt).trans h.c0, (hb.cell (p := ⟨p, 1, none⟩) h.lt).trans h.c1, (hb.cell (p := ⟨p, 2, none⟩) h.lt).trans h.c2⟩
theorem Box3.made (w : World) (a b c : Value) (t : TypeId) : Box3 (w.alloc (.cells #[a, b, c] t)) w.heap.size a b c :=
  ⟨by simp, by simp [go_sem], by simp [go_sem], by simp [go_sem]⟩

set_option maxRecDepth 100000 in
set_option maxHeartbeats 1000000 in
theorem dated_any (w : World) (hT : TabW w) :
    Calls Tryd.prog 12 #[] w fun e w' => e = .returned (.bool true) ∧ Below w.heap.size w w' := by
  have c : ∀ w : World, TabW w → Calls Tryd.prog 13 #[.agg #[.int .i64 2000, .int .i64 3, .int .i64 1]] w fun e w' => e = .returned (.tuple #[.int .i64 730179, .nilIface]) ∧ Below w.heap.size w w' := fun w h => number_yes 2000 3 1 w (by decide) h
  have H := Lib.hid c
  clear c
  go_enter Tryd.func12, Tryd.ntmps12
  go_wp2_with (go_at_call 13; refine (H.out _ hT).mono ?_; rintro e w' ⟨rfl, hb⟩)
  go_ret
  exact ⟨rfl, hb⟩

set_option maxRecDepth 100000 in
set_option maxHeartbeats 2000000 in
theorem dateNext_any (y m d : Int) (w : World) (hT : TabW w) :
    Calls Tryd.prog 3 #[.agg #[.int .i64 y, .int .i64 m, .int .i64 d]] w fun e w' => e = .returned (.bool true) ∧ Below w.heap.size w w' := by
  by_cases hv : Cal.vld y m d
  · have hr := Cal.num_rng y m d hv
    by_cases hl : Cal.num y m d + 1 < 3652059
    · go_enter Tryd.func3, Tryd.ntmps3
      go_wp2_with fail
      refine (dated_any _ (hT.alloc _)).mono ?_
      rintro e w1 ⟨rfl, hb1⟩
      have T1 := (hT.alloc _).below hb1
      have B1 := (Box3.made w (.int .i64 y) (.int .i64 m) (.int .i64 d) 23).below hb1
      have W1 := Lib.hid (blw_trans (blw_alloc w _) hb1)
      clear hb1
      have k0 := B1.c0; have k1 := B1.c1; have k2 := B1.c2
      go_wp2_with fail
      refine (number_yes y m d _ hv T1).mono ?_
      rintro e w2 ⟨rfl, hb2⟩
      have T2 := T1.below hb2
      have B2 := B1.below hb2
      have W2 := Lib.hid (blw_trans W1.out hb2)
      clear hb2 k0 k1 k2 W1 T1 B1
      go_wp2_with fail
      refine (of_yes (Cal.num y m d + 1) _ (by omega) hl T2).mono ?_
      rintro e w3 ⟨y', m', d', rfl, hv', hn', hb3⟩
      have B3 := B2.below hb3
      have W3 := Lib.hid (blw_trans W2.out hb3)
      have k0 := B3.c0; have k1 := B3.c1; have k2 := B3.c2; have k3 := B3.lt
      have hx := Cal.next_day hv hv' hn'
      have st := Cal.bef_step y m hv.2.2.1 hv.2.2.2.1
      obtain ⟨v1, v2, v3, v4, v5, v6⟩ := hv
      have v7 : d ≤ 31 := by omega
      clear hb3 W2 T2 B2 B3 hn' hv' hT st v6
      clear hr hl
      rcases hx with ⟨rfl, rfl, rfl⟩ | ⟨rfl, h28, rfl, rfl⟩ | ⟨rfl, h28, rfl, rfl, rfl⟩
      · go_wp2
        go_ret
        exact ⟨ret_bool (by simp), blw_trans W3.out (blw_alloc _ _)⟩
      · have e1 : (m + 1 == m) = false := beq_eq_false_iff_ne.2 (by omega)
        go_wp2
        go_ret
        exact ⟨ret_bool (by simp), blw_trans W3.out (blw_alloc _ _)⟩
      · have e1 : (y + 1 == y) = false := beq_eq_false_iff_ne.2 (by omega)
        go_wp2
        go_ret
        exact ⟨ret_bool (by simp), blw_trans W3.out (blw_alloc _ _)⟩
    · obtain ⟨rfl, rfl, rfl⟩ := Cal.last_day hv (by omega)
      have hn : Cal.num 9999 12 31 = 3652058 := by decide
      have cn : ∀ w : World, TabW w → Calls Tryd.prog 13 #[.agg #[.int .i64 9999, .int .i64 12, .int .i64 31]] w fun e w' => e = .returned (.tuple #[.int .i64 3652058, .nilIface]) ∧ Below w.heap.size w w' := fun w h => hn ▸ number_yes 9999 12 31 w hv h
      have CN := Lib.hid cn
      clear cn hn hl hr hv
      go_enter Tryd.func3, Tryd.ntmps3
      go_wp2_with fail
      refine (dated_any _ (hT.alloc _)).mono ?_
      rintro e w1 ⟨rfl, hb1⟩
      have T1 := (hT.alloc _).below hb1
      have B1 := (Box3.made w (.int .i64 9999) (.int .i64 12) (.int .i64 31) 23).below hb1
      have W1 := Lib.hid (blw_trans (blw_alloc w _) hb1)
      clear hb1
      have k0 := B1.c0; have k1 := B1.c1; have k2 := B1.c2
      go_wp2_with fail
      refine (CN.out _ T1).mono ?_
      rintro e w2 ⟨rfl, hb2⟩
      have B2 := B1.below hb2
      have W2 := Lib.hid (blw_trans W1.out hb2)
      clear hb2 k0 k1 k2 W1 T1 B1 hT
      go_wp2_with fail
      refine (of_no 3652059 _ (.inr (by omega))).mono ?_
      rintro e w3 ⟨rfl, hb3⟩
      have B3 := B2.below hb3
      have W3 := Lib.hid (blw_trans W2.out hb3)
      have k0 := B3.c0; have k1 := B3.c1; have k2 := B3.c2; have k3 := B3.lt
      clear hb3 W2 B2 B3
      go_wp2
      go_ret
      exact ⟨ret_bool (by simp), blw_trans W3.out (blw_alloc _ _)⟩
  · go_enter Tryd.func3, Tryd.ntmps3
    go_wp2_with fail
    refine (dated_any _ (hT.alloc _)).mono ?_
    rintro e w1 ⟨rfl, hb1⟩
    have T1 := (hT.alloc _).below hb1
    have B1 := (Box3.made w (.int .i64 y) (.int .i64 m) (.int .i64 d) 23).below hb1
    have W1 := Lib.hid (blw_trans (blw_alloc w _) hb1)
    clear hb1
    have k0 := B1.c0; have k1 := B1.c1; have k2 := B1.c2
    go_wp2_with fail
    refine (number_no y m d _ hv T1).mono ?_
    rintro e w2 ⟨rfl, hb2⟩
    have W2 := Lib.hid (blw_trans W1.out hb2)
    clear hb2 k0 k1 k2 W1 T1 B1
    go_wp2
    go_ret
    exact ⟨rfl, W2.out⟩
end Go.Proofs.YtcoeajcgeabjcaaDoor
