/- The walk of the law WeekNext: it returns true of whatever day. Conditions: the table 'ahead' holds its numbers. -/
import Derived.Test.YtcoeajcgeabjcaaDoorWDate
namespace Go.Proofs.YtcoeajcgeabjcaaDoor
open Go.RowKit

set_option maxRecDepth 100000 in
set_option maxHeartbeats 4000000 in
theorem weekNext_any (y m d : Int) (w : World) (hT : TabW w) :
    Calls Tryd.prog 4 #[.agg #[.int .i64 y, .int .i64 m, .int .i64 d]] w fun e w' => e = .returned (.bool true) ∧ Below w.heap.size w w' := by
  by_cases hv : Cal.vld y m d
  · have hr := Cal.num_rng y m d hv
    have C1 := Lib.hid fun W hW => number_yes y m d W hv hW
    have C2 := Lib.hid fun W hW => weekOf_yes y m d W hv hW
    clear hv
    generalize Cal.num y m d = n at *
    go_enter Tryd.func4, Tryd.ntmps4
    go_wp2_with fail
    refine (weekly_any _ (by exact (hT.alloc _))).mono ?_
    rintro e w1 ⟨rfl, hb⟩
    have T1 := (hT.alloc _).below hb
    have B1_d := Boxed.below (Boxed.made _ #[.int .i64 y, .int .i64 m, .int .i64 d] 23) hb
    have W1 := Lib.hid (blw_trans (blw_trans (Below.refl w.heap.size w) (blw_alloc _ _)) hb)
    clear hb 
    have kd0 := B1_d.cell 0 _ rfl
    have kd1 := B1_d.cell 1 _ rfl
    have kd2 := B1_d.cell 2 _ rfl
    have kdl := B1_d.lt
    try simp at kd0 kd1 kd2 kdl
    go_wp2_with fail
    refine (C1.out _ (by exact T1)).mono ?_
    rintro e w2 ⟨rfl, hb⟩
    clear kd0 kd1 kd2 kdl
    have T2 := T1.below hb
    have B2_d := B1_d.below hb
    have W2 := Lib.hid (blw_trans W1.out hb)
    clear hb T1 B1_d W1
    have kd0 := B2_d.cell 0 _ rfl
    have kd1 := B2_d.cell 1 _ rfl
    have kd2 := B2_d.cell 2 _ rfl
    have kdl := B2_d.lt
    try simp at kd0 kd1 kd2 kdl
    go_wp2_with fail
    refine (C2.out _ (by exact T2)).mono ?_
    rintro e w3 ⟨yw, rfl, hk, hb⟩
    clear kd0 kd1 kd2 kdl
    have T3 := T2.below hb
    have B3_d := B2_d.below hb
    have W3 := Lib.hid (blw_trans W2.out hb)
    clear hb T2 B2_d W2
    have hk1 := Cal.isWk_le hk (by omega) (by omega)
    have hk2 := Cal.wkOf_bd hk
    have hk3 := Cal.wks_52 yw
    by_cases hl : n + 7 < 3652059
    · have C4 := Lib.hid fun W hW => of_yes (n + 7) W (by omega) hl hW
      go_wp2_with fail
      refine (C4.out _ (by exact (T3.alloc _))).mono ?_
      rintro e w4 ⟨y', m', d', rfl, hv', hn', hb⟩
      have T4 := (T3.alloc _).below hb
      have B4_d := (B3_d.alloc _).below hb
      have B4_k := Boxed.below (Boxed.made _ #[.int .i64 yw, .int .i64 (Cal.wkOf n yw), .int .i64 (n % 7 + 1)] 33) hb
      have W4 := Lib.hid (blw_trans (blw_trans W3.out (blw_alloc _ _)) hb)
      clear hb T3 B3_d W3
      have C5 : ∀ W : World, TabW W → Calls Tryd.prog 16 #[.agg #[.int .i64 y', .int .i64 m', .int .i64 d']] W (IsWeek (n + 7) W) := fun W hW => hn' ▸ weekOf_yes y' m' d' W hv' hW
      have C5 := Lib.hid C5
      clear hn' hv' C4
      go_wp2_with fail
      refine (C5.out _ (by exact (T4.alloc _))).mono ?_
      rintro e w5 ⟨y2, rfl, hk', hb⟩
      have T5 := (T4.alloc _).below hb
      have B5_d := (B4_d.alloc _).below hb
      have B5_k := (B4_k.alloc _).below hb
      have B5_x := Boxed.below (Boxed.made _ #[.int .i64 y', .int .i64 m', .int .i64 d'] 23) hb
      have W5 := Lib.hid (blw_trans (blw_trans W4.out (blw_alloc _ _)) hb)
      clear hb T4 B4_d B4_k W4
      have kk0 := B5_k.cell 0 _ rfl
      have kk1 := B5_k.cell 1 _ rfl
      have kk2 := B5_k.cell 2 _ rfl
      have kkl := B5_k.lt
      try simp at kk0 kk1 kk2 kkl
      have e7 : (n + 7) % 7 = n % 7 := by omega
      rw [e7]
      have hx := Cal.wk_next hk hk'
      clear e7 C5 hk hk'
      generalize Cal.wkOf (n + 7) y2 = b at *
      generalize Cal.wkOf n yw = a at *
      have C6 := Lib.hid fun W => weeks_yes yw W hk1.1 hk1.2
      generalize Cal.wks yw = k at *
      have hd : 0 ≤ n % 7 ∧ n % 7 ≤ 6 := by omega
      rcases hx with ⟨hlt, rfl, rfl⟩ | ⟨rfl, rfl, rfl⟩
      · rcases hk3 with h3 | h3
        all_goals
          go_wp2_with (go_at_call 17; refine (C6.out _).mono ?_; rintro e w' ⟨rfl, rfl⟩)
          go_ret
          exact ⟨ret_bool (by simp), (blw_trans W5.out (blw_alloc _ _))⟩
      · rcases hk3 with h3 | h3
        all_goals
          go_wp2_with (go_at_call 17; refine (C6.out _).mono ?_; rintro e w' ⟨rfl, rfl⟩)
          go_ret
          exact ⟨ret_bool (by simp), (blw_trans W5.out (blw_alloc _ _))⟩
    · have C4 := Lib.hid fun W => of_no (n + 7) W (.inr (by omega))
      go_wp2_with fail
      refine (C4.out _).mono ?_
      rintro e w4 ⟨rfl, hb⟩
      have T4 := (T3.alloc _).below hb
      have B4_d := (B3_d.alloc _).below hb
      have B4_k := Boxed.below (Boxed.made _ #[.int .i64 yw, .int .i64 (Cal.wkOf n yw), .int .i64 (n % 7 + 1)] 33) hb
      have W4 := Lib.hid (blw_trans (blw_trans W3.out (blw_alloc _ _)) hb)
      clear hb T3 B3_d W3
      clear T4 B4_d B4_k
      go_wp2
      go_ret
      exact ⟨ret_bool (by simp), (blw_trans W4.out (blw_alloc _ _))⟩
  · have C1 := Lib.hid fun W hW => number_no y m d W hv hW
    clear hv
    go_enter Tryd.func4, Tryd.ntmps4
    go_wp2_with fail
    refine (weekly_any _ (by exact (hT.alloc _))).mono ?_
    rintro e w1 ⟨rfl, hb⟩
    have T1 := (hT.alloc _).below hb
    have B1_d := Boxed.below (Boxed.made _ #[.int .i64 y, .int .i64 m, .int .i64 d] 23) hb
    have W1 := Lib.hid (blw_trans (blw_trans (Below.refl w.heap.size w) (blw_alloc _ _)) hb)
    clear hb 
    have kd0 := B1_d.cell 0 _ rfl
    have kd1 := B1_d.cell 1 _ rfl
    have kd2 := B1_d.cell 2 _ rfl
    have kdl := B1_d.lt
    try simp at kd0 kd1 kd2 kdl
    go_wp2_with fail
    refine (C1.out _ (by exact T1)).mono ?_
    rintro e w2 ⟨rfl, hb⟩
    clear kd0 kd1 kd2 kdl
    have T2 := T1.below hb
    have B2_d := B1_d.below hb
    have W2 := Lib.hid (blw_trans W1.out hb)
    clear hb T1 B1_d W1
    clear T2 B2_d
    go_wp2
    go_ret
    exact ⟨ret_bool (by simp), W2.out⟩
end Go.Proofs.YtcoeajcgeabjcaaDoor
