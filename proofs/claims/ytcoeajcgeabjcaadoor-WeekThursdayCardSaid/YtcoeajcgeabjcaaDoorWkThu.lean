/- The walk of the law WeekThursday: it returns true. Conditions: the table 'ahead' holds its numbers. -/
import Derived.Test.YtcoeajcgeabjcaaDoorWDate
namespace Go.Proofs.YtcoeajcgeabjcaaDoor
open Go.RowKit

theorem jan4_vld {x : Int} (_h : Cal.vld x 1 4) : Cal.num x 1 4 = Cal.yr x + 3 := by
  unfold Cal.num; rw [Cal.bef_one]; omega
theorem jan4_yes (x : Int) (w : World) (h : Cal.vld x 1 4) (hT : TabW w) :
    Calls Tryd.prog 16 #[.agg #[.int .i64 x, .int .i64 1, .int .i64 4]] w fun e w' => ∃ d : Int, e = .returned (.tuple #[.agg #[.int .i64 x, .int .i64 1, .int .i64 d], .nilIface]) ∧ Below w.heap.size w w' :=
  (weekOf_yes x 1 4 w h hT).mono fun e w' ⟨y, he, hk, hb⟩ => by
    rw [jan4_vld h] at he hk
    obtain ⟨a, b⟩ := Cal.jan4 (y := x)
    obtain rfl := Cal.isWk_inj hk a
    exact ⟨_, by rw [he, b], hb⟩
/-- any day's Thursday, or the day lies behind the last one -/
def ThuOf (y : Int) (w : World) (e : Ending) (w' : World) : Prop :=
  (∃ m d : Int, e = .returned (.tuple #[.agg #[.int .i64 y, .int .i64 m, .int .i64 d], .nilIface]) ∧ Below w.heap.size w w') ∨
  (e = .returned (.tuple #[.agg #[.int .i64 0, .int .i64 0, .int .i64 0], errV 1]) ∧ Below w.heap.size w w')
theorem thu_any (y k : Int) (w : World) (hy : 1 ≤ y) (hy' : y ≤ 9999) (k1 : 1 ≤ k) (k2 : k ≤ Cal.wks y) (hT : TabW w) :
    Calls Tryd.prog 18 #[.agg #[.int .i64 y, .int .i64 k, .int .i64 4]] w (ThuOf y w) := by
  have hr : rightWk y k 4 := ⟨hy, hy', k1, k2, by omega, by omega⟩
  by_cases h : Cal.fst y + 7 * (k - 1) + 4 - 1 < 3652059
  · refine (weekDate_yes y k 4 w hr hT h).mono fun e w' ⟨y', m', d', he, hv', hn', hb⟩ => .inl ⟨m', d', ?_, hb⟩
    rw [he, Cal.thursday k1 k2 hv' hn']
  · exact (weekDate_no y k 4 w (fun g => h g.2)).mono fun e w' g => .inr g

set_option maxRecDepth 100000 in
set_option maxHeartbeats 4000000 in
theorem weekThursday_any (y m d x : Int) (w : World) (hT : TabW w) :
    Calls Tryd.prog 6 #[.agg #[.int .i64 y, .int .i64 m, .int .i64 d], .int .i64 x] w fun e w' => e = .returned (.bool true) ∧ Below w.heap.size w w' := by
  by_cases hv : Cal.vld y m d
  · have hr := Cal.num_rng y m d hv
    have C1 := Lib.hid fun W hW => weekOf_yes y m d W hv hW
    have C2 := Lib.hid fun W hW => number_yes y m d W hv hW
    clear hv
    generalize Cal.num y m d = n at *
    go_enter Tryd.func6, Tryd.ntmps6
    go_wp2_with fail
    refine (weekly_any _ (by exact (hT.alloc _))).mono ?_
    rintro e w1 ⟨rfl, hb⟩
    have T1 := (hT.alloc _).below hb
    have B1_d := Boxed.below (Boxed.made _ #[.int .i64 y, .int .i64 m, .int .i64 d] 23) hb
    have W1 := Lib.hid (blw_trans (blw_trans (Below.refl w.heap.size w) (blw_alloc _ _)) hb)
    clear hb 
    have kd0 := B1_d.cell 0 _ rfl
    have kd1 := B1_d.cell 1 _ rfl
    have kd2 := B1_d.cell 2 _ rfl
    have kdl := B1_d.lt
    try simp at kd0 kd1 kd2 kdl
    go_wp2_with fail
    refine (C1.out _ (by exact T1)).mono ?_
    rintro e w2 ⟨yw, rfl, hk, hb⟩
    clear kd0 kd1 kd2 kdl
    have T2 := T1.below hb
    have B2_d := B1_d.below hb
    have W2 := Lib.hid (blw_trans W1.out hb)
    clear hb T1 B1_d W1
    have hk1 := Cal.isWk_le hk (by omega) (by omega)
    have hk2 := Cal.wkOf_bd hk
    have eb := Cal.wk_back hk
    have hd : 0 ≤ n % 7 ∧ n % 7 ≤ 6 := by omega
    have C3 := Lib.hid fun W hW => thu_any yw (Cal.wkOf n yw) W hk1.1 hk1.2 hk2.1 hk2.2 hW
    have C5 : ∀ W : World, TabW W → Calls Tryd.prog 18 #[.agg #[.int .i64 yw, .int .i64 (Cal.wkOf n yw), .int .i64 1]] W (IsDay (n - n % 7) W) := fun W hW => by
      have h := weekDate_yes yw (Cal.wkOf n yw) 1 W ⟨hk1.1, hk1.2, hk2.1, hk2.2, by omega, by omega⟩ hW (by omega)
      rwa [show Cal.fst yw + 7 * (Cal.wkOf n yw - 1) + 1 - 1 = n - n % 7 from by omega] at h
    have C5 := Lib.hid C5
    clear eb hk hk2
    generalize Cal.wkOf n yw = a at *
    go_wp2_with fail
    refine (C3.out _ (by exact (T2.alloc _))).mono ?_
    rintro e w3 (⟨m3, d3, rfl, hb⟩ | ⟨rfl, hb⟩)
    · skip
      have T3 := (T2.alloc _).below hb
      have B3_d := (B2_d.alloc _).below hb
      have B3_k := Boxed.below (Boxed.made _ #[.int .i64 yw, .int .i64 a, .int .i64 (n % 7 + 1)] 33) hb
      have W3 := Lib.hid (blw_trans (blw_trans W2.out (blw_alloc _ _)) hb)
      clear hb T2 B2_d W2
      have kd0 := B3_d.cell 0 _ rfl
      have kd1 := B3_d.cell 1 _ rfl
      have kd2 := B3_d.cell 2 _ rfl
      have kdl := B3_d.lt
      try simp at kd0 kd1 kd2 kdl
      have kk0 := B3_k.cell 0 _ rfl
      have kk1 := B3_k.cell 1 _ rfl
      have kk2 := B3_k.cell 2 _ rfl
      have kkl := B3_k.lt
      try simp at kk0 kk1 kk2 kkl
      by_cases hv4 : Cal.vld x 1 4
      · have C4 := Lib.hid fun W hW => jan4_yes x W hv4 hW
        clear hv4
        go_wp2_with fail
        refine (C4.out _ (by exact (T3.alloc _))).mono ?_
        rintro e w4 ⟨d4, rfl, hb⟩
        clear kd0 kd1 kd2 kdl kk0 kk1 kk2 kkl
        have T4 := (T3.alloc _).below hb
        have B4_d := (B3_d.alloc _).below hb
        have B4_k := (B3_k.alloc _).below hb
        have B4_t := Boxed.below (Boxed.made _ #[.int .i64 yw, .int .i64 m3, .int .i64 d3] 23) hb
        have W4 := Lib.hid (blw_trans (blw_trans W3.out (blw_alloc _ _)) hb)
        clear hb T3 B3_d B3_k W3
        have kd0 := B4_d.cell 0 _ rfl
        have kd1 := B4_d.cell 1 _ rfl
        have kd2 := B4_d.cell 2 _ rfl
        have kdl := B4_d.lt
        try simp at kd0 kd1 kd2 kdl
        have kk0 := B4_k.cell 0 _ rfl
        have kk1 := B4_k.cell 1 _ rfl
        have kk2 := B4_k.cell 2 _ rfl
        have kkl := B4_k.lt
        try simp at kk0 kk1 kk2 kkl
        go_wp2_with fail
        refine (C5.out _ (by exact (T4.alloc _))).mono ?_
        rintro e w5 ⟨y5, m5, d5, rfl, hv5, hn5, hb⟩
        clear kd0 kd1 kd2 kdl kk0 kk1 kk2 kkl
        have T5 := (T4.alloc _).below hb
        have B5_d := (B4_d.alloc _).below hb
        have B5_k := (B4_k.alloc _).below hb
        have B5_t := (B4_t.alloc _).below hb
        have B5_f := Boxed.below (Boxed.made _ #[.int .i64 x, .int .i64 1, .int .i64 d4] 33) hb
        have W5 := Lib.hid (blw_trans (blw_trans W4.out (blw_alloc _ _)) hb)
        clear hb T4 B4_d B4_k B4_t W4
        have kd0 := B5_d.cell 0 _ rfl
        have kd1 := B5_d.cell 1 _ rfl
        have kd2 := B5_d.cell 2 _ rfl
        have kdl := B5_d.lt
        try simp at kd0 kd1 kd2 kdl
        have kk0 := B5_k.cell 0 _ rfl
        have kk1 := B5_k.cell 1 _ rfl
        have kk2 := B5_k.cell 2 _ rfl
        have kkl := B5_k.lt
        try simp at kk0 kk1 kk2 kkl
        have C6 : ∀ W : World, TabW W → Calls Tryd.prog 13 #[.agg #[.int .i64 y5, .int .i64 m5, .int .i64 d5]] W fun e w' => e = .returned (.tuple #[.int .i64 (n - n % 7), .nilIface]) ∧ Below W.heap.size W w' := fun W hW => hn5 ▸ number_yes y5 m5 d5 W hv5 hW
        have C6 := Lib.hid C6
        clear hv5 hn5
        go_wp2_with fail
        refine (C2.out _ (by exact (T5.alloc _))).mono ?_
        rintro e w6 ⟨rfl, hb⟩
        clear kd0 kd1 kd2 kdl kk0 kk1 kk2 kkl
        have T6 := (T5.alloc _).below hb
        have B6_d := (B5_d.alloc _).below hb
        have B6_k := (B5_k.alloc _).below hb
        have B6_t := (B5_t.alloc _).below hb
        have B6_f := (B5_f.alloc _).below hb
        have B6_mo := Boxed.below (Boxed.made _ #[.int .i64 y5, .int .i64 m5, .int .i64 d5] 23) hb
        have W6 := Lib.hid (blw_trans (blw_trans W5.out (blw_alloc _ _)) hb)
        clear hb T5 B5_d B5_k B5_t B5_f W5
        have kmo0 := B6_mo.cell 0 _ rfl
        have kmo1 := B6_mo.cell 1 _ rfl
        have kmo2 := B6_mo.cell 2 _ rfl
        have kmol := B6_mo.lt
        try simp at kmo0 kmo1 kmo2 kmol
        have kk0 := B6_k.cell 0 _ rfl
        have kk1 := B6_k.cell 1 _ rfl
        have kk2 := B6_k.cell 2 _ rfl
        have kkl := B6_k.lt
        try simp at kk0 kk1 kk2 kkl
        go_wp2_with fail
        refine (C6.out _ (by exact T6)).mono ?_
        rintro e w7 ⟨rfl, hb⟩
        clear kmo0 kmo1 kmo2 kmol kk0 kk1 kk2 kkl
        have T7 := T6.below hb
        have B7_d := B6_d.below hb
        have B7_k := B6_k.below hb
        have B7_t := B6_t.below hb
        have B7_f := B6_f.below hb
        have B7_mo := B6_mo.below hb
        have W7 := Lib.hid (blw_trans W6.out hb)
        clear hb T6 B6_d B6_k B6_t B6_f B6_mo W6
        have kk0 := B7_k.cell 0 _ rfl
        have kk1 := B7_k.cell 1 _ rfl
        have kk2 := B7_k.cell 2 _ rfl
        have kkl := B7_k.lt
        try simp at kk0 kk1 kk2 kkl
        clear T7 B7_d B7_k B7_t B7_f B7_mo
        go_wp2
        go_ret
        exact ⟨ret_bool (by simp; omega), W7.out⟩
      · have C4 := Lib.hid fun W hW => weekOf_no x 1 4 W hv4 hW
        clear hv4
        go_wp2_with fail
        refine (C4.out _ (by exact (T3.alloc _))).mono ?_
        rintro e w4 ⟨rfl, hb⟩
        clear kd0 kd1 kd2 kdl kk0 kk1 kk2 kkl
        have T4 := (T3.alloc _).below hb
        have B4_d := (B3_d.alloc _).below hb
        have B4_k := (B3_k.alloc _).below hb
        have B4_t := Boxed.below (Boxed.made _ #[.int .i64 yw, .int .i64 m3, .int .i64 d3] 23) hb
        have W4 := Lib.hid (blw_trans (blw_trans W3.out (blw_alloc _ _)) hb)
        clear hb T3 B3_d B3_k W3
        have kd0 := B4_d.cell 0 _ rfl
        have kd1 := B4_d.cell 1 _ rfl
        have kd2 := B4_d.cell 2 _ rfl
        have kdl := B4_d.lt
        try simp at kd0 kd1 kd2 kdl
        have kk0 := B4_k.cell 0 _ rfl
        have kk1 := B4_k.cell 1 _ rfl
        have kk2 := B4_k.cell 2 _ rfl
        have kkl := B4_k.lt
        try simp at kk0 kk1 kk2 kkl
        go_wp2_with fail
        refine (C5.out _ (by exact (T4.alloc _))).mono ?_
        rintro e w5 ⟨y5, m5, d5, rfl, hv5, hn5, hb⟩
        clear kd0 kd1 kd2 kdl kk0 kk1 kk2 kkl
        have T5 := (T4.alloc _).below hb
        have B5_d := (B4_d.alloc _).below hb
        have B5_k := (B4_k.alloc _).below hb
        have B5_t := (B4_t.alloc _).below hb
        have B5_f := Boxed.below (Boxed.made _ #[.int .i64 0, .int .i64 0, .int .i64 0] 33) hb
        have W5 := Lib.hid (blw_trans (blw_trans W4.out (blw_alloc _ _)) hb)
        clear hb T4 B4_d B4_k B4_t W4
        have kd0 := B5_d.cell 0 _ rfl
        have kd1 := B5_d.cell 1 _ rfl
        have kd2 := B5_d.cell 2 _ rfl
        have kdl := B5_d.lt
        try simp at kd0 kd1 kd2 kdl
        have kk0 := B5_k.cell 0 _ rfl
        have kk1 := B5_k.cell 1 _ rfl
        have kk2 := B5_k.cell 2 _ rfl
        have kkl := B5_k.lt
        try simp at kk0 kk1 kk2 kkl
        have C6 : ∀ W : World, TabW W → Calls Tryd.prog 13 #[.agg #[.int .i64 y5, .int .i64 m5, .int .i64 d5]] W fun e w' => e = .returned (.tuple #[.int .i64 (n - n % 7), .nilIface]) ∧ Below W.heap.size W w' := fun W hW => hn5 ▸ number_yes y5 m5 d5 W hv5 hW
        have C6 := Lib.hid C6
        clear hv5 hn5
        go_wp2_with fail
        refine (C2.out _ (by exact (T5.alloc _))).mono ?_
        rintro e w6 ⟨rfl, hb⟩
        clear kd0 kd1 kd2 kdl kk0 kk1 kk2 kkl
        have T6 := (T5.alloc _).below hb
        have B6_d := (B5_d.alloc _).below hb
        have B6_k := (B5_k.alloc _).below hb
        have B6_t := (B5_t.alloc _).below hb
        have B6_f := (B5_f.alloc _).below hb
        have B6_mo := Boxed.below (Boxed.made _ #[.int .i64 y5, .int .i64 m5, .int .i64 d5] 23) hb
        have W6 := Lib.hid (blw_trans (blw_trans W5.out (blw_alloc _ _)) hb)
        clear hb T5 B5_d B5_k B5_t B5_f W5
        have kmo0 := B6_mo.cell 0 _ rfl
        have kmo1 := B6_mo.cell 1 _ rfl
        have kmo2 := B6_mo.cell 2 _ rfl
        have kmol := B6_mo.lt
        try simp at kmo0 kmo1 kmo2 kmol
        have kk0 := B6_k.cell 0 _ rfl
        have kk1 := B6_k.cell 1 _ rfl
        have kk2 := B6_k.cell 2 _ rfl
        have kkl := B6_k.lt
        try simp at kk0 kk1 kk2 kkl
        go_wp2_with fail
        refine (C6.out _ (by exact T6)).mono ?_
        rintro e w7 ⟨rfl, hb⟩
        clear kmo0 kmo1 kmo2 kmol kk0 kk1 kk2 kkl
        have T7 := T6.below hb
        have B7_d := B6_d.below hb
        have B7_k := B6_k.below hb
        have B7_t := B6_t.below hb
        have B7_f := B6_f.below hb
        have B7_mo := B6_mo.below hb
        have W7 := Lib.hid (blw_trans W6.out hb)
        clear hb T6 B6_d B6_k B6_t B6_f B6_mo W6
        have kk0 := B7_k.cell 0 _ rfl
        have kk1 := B7_k.cell 1 _ rfl
        have kk2 := B7_k.cell 2 _ rfl
        have kkl := B7_k.lt
        try simp at kk0 kk1 kk2 kkl
        clear T7 B7_d B7_k B7_t B7_f B7_mo
        go_wp2
        go_ret
        exact ⟨ret_bool (by simp; omega), W7.out⟩
    · skip
      have T3 := (T2.alloc _).below hb
      have B3_d := (B2_d.alloc _).below hb
      have B3_k := Boxed.below (Boxed.made _ #[.int .i64 yw, .int .i64 a, .int .i64 (n % 7 + 1)] 33) hb
      have W3 := Lib.hid (blw_trans (blw_trans W2.out (blw_alloc _ _)) hb)
      clear hb T2 B2_d W2
      have kd0 := B3_d.cell 0 _ rfl
      have kd1 := B3_d.cell 1 _ rfl
      have kd2 := B3_d.cell 2 _ rfl
      have kdl := B3_d.lt
      try simp at kd0 kd1 kd2 kdl
      have kk0 := B3_k.cell 0 _ rfl
      have kk1 := B3_k.cell 1 _ rfl
      have kk2 := B3_k.cell 2 _ rfl
      have kkl := B3_k.lt
      try simp at kk0 kk1 kk2 kkl
      by_cases hv4 : Cal.vld x 1 4
      · have C4 := Lib.hid fun W hW => jan4_yes x W hv4 hW
        clear hv4
        go_wp2_with fail
        refine (C4.out _ (by exact (T3.alloc _))).mono ?_
        rintro e w4 ⟨d4, rfl, hb⟩
        clear kd0 kd1 kd2 kdl kk0 kk1 kk2 kkl
        have T4 := (T3.alloc _).below hb
        have B4_d := (B3_d.alloc _).below hb
        have B4_k := (B3_k.alloc _).below hb
        have B4_t := Boxed.below (Boxed.made _ #[.int .i64 0, .int .i64 0, .int .i64 0] 23) hb
        have W4 := Lib.hid (blw_trans (blw_trans W3.out (blw_alloc _ _)) hb)
        clear hb T3 B3_d B3_k W3
        have kd0 := B4_d.cell 0 _ rfl
        have kd1 := B4_d.cell 1 _ rfl
        have kd2 := B4_d.cell 2 _ rfl
        have kdl := B4_d.lt
        try simp at kd0 kd1 kd2 kdl
        have kk0 := B4_k.cell 0 _ rfl
        have kk1 := B4_k.cell 1 _ rfl
        have kk2 := B4_k.cell 2 _ rfl
        have kkl := B4_k.lt
        try simp at kk0 kk1 kk2 kkl
        go_wp2_with fail
        refine (C5.out _ (by exact (T4.alloc _))).mono ?_
        rintro e w5 ⟨y5, m5, d5, rfl, hv5, hn5, hb⟩
        clear kd0 kd1 kd2 kdl kk0 kk1 kk2 kkl
        have T5 := (T4.alloc _).below hb
        have B5_d := (B4_d.alloc _).below hb
        have B5_k := (B4_k.alloc _).below hb
        have B5_t := (B4_t.alloc _).below hb
        have B5_f := Boxed.below (Boxed.made _ #[.int .i64 x, .int .i64 1, .int .i64 d4] 33) hb
        have W5 := Lib.hid (blw_trans (blw_trans W4.out (blw_alloc _ _)) hb)
        clear hb T4 B4_d B4_k B4_t W4
        have kd0 := B5_d.cell 0 _ rfl
        have kd1 := B5_d.cell 1 _ rfl
        have kd2 := B5_d.cell 2 _ rfl
        have kdl := B5_d.lt
        try simp at kd0 kd1 kd2 kdl
        have kk0 := B5_k.cell 0 _ rfl
        have kk1 := B5_k.cell 1 _ rfl
        have kk2 := B5_k.cell 2 _ rfl
        have kkl := B5_k.lt
        try simp at kk0 kk1 kk2 kkl
        have C6 : ∀ W : World, TabW W → Calls Tryd.prog 13 #[.agg #[.int .i64 y5, .int .i64 m5, .int .i64 d5]] W fun e w' => e = .returned (.tuple #[.int .i64 (n - n % 7), .nilIface]) ∧ Below W.heap.size W w' := fun W hW => hn5 ▸ number_yes y5 m5 d5 W hv5 hW
        have C6 := Lib.hid C6
        clear hv5 hn5
        go_wp2_with fail
        refine (C2.out _ (by exact (T5.alloc _))).mono ?_
        rintro e w6 ⟨rfl, hb⟩
        clear kd0 kd1 kd2 kdl kk0 kk1 kk2 kkl
        have T6 := (T5.alloc _).below hb
        have B6_d := (B5_d.alloc _).below hb
        have B6_k := (B5_k.alloc _).below hb
        have B6_t := (B5_t.alloc _).below hb
        have B6_f := (B5_f.alloc _).below hb
        have B6_mo := Boxed.below (Boxed.made _ #[.int .i64 y5, .int .i64 m5, .int .i64 d5] 23) hb
        have W6 := Lib.hid (blw_trans (blw_trans W5.out (blw_alloc _ _)) hb)
        clear hb T5 B5_d B5_k B5_t B5_f W5
        have kmo0 := B6_mo.cell 0 _ rfl
        have kmo1 := B6_mo.cell 1 _ rfl
        have kmo2 := B6_mo.cell 2 _ rfl
        have kmol := B6_mo.lt
        try simp at kmo0 kmo1 kmo2 kmol
        have kk0 := B6_k.cell 0 _ rfl
        have kk1 := B6_k.cell 1 _ rfl
        have kk2 := B6_k.cell 2 _ rfl
        have kkl := B6_k.lt
        try simp at kk0 kk1 kk2 kkl
        go_wp2_with fail
        refine (C6.out _ (by exact T6)).mono ?_
        rintro e w7 ⟨rfl, hb⟩
        clear kmo0 kmo1 kmo2 kmol kk0 kk1 kk2 kkl
        have T7 := T6.below hb
        have B7_d := B6_d.below hb
        have B7_k := B6_k.below hb
        have B7_t := B6_t.below hb
        have B7_f := B6_f.below hb
        have B7_mo := B6_mo.below hb
        have W7 := Lib.hid (blw_trans W6.out hb)
        clear hb T6 B6_d B6_k B6_t B6_f B6_mo W6
        have kk0 := B7_k.cell 0 _ rfl
        have kk1 := B7_k.cell 1 _ rfl
        have kk2 := B7_k.cell 2 _ rfl
        have kkl := B7_k.lt
        try simp at kk0 kk1 kk2 kkl
        clear T7 B7_d B7_k B7_t B7_f B7_mo
        go_wp2
        go_ret
        exact ⟨ret_bool (by simp; omega), W7.out⟩
      · have C4 := Lib.hid fun W hW => weekOf_no x 1 4 W hv4 hW
        clear hv4
        go_wp2_with fail
        refine (C4.out _ (by exact (T3.alloc _))).mono ?_
        rintro e w4 ⟨rfl, hb⟩
        clear kd0 kd1 kd2 kdl kk0 kk1 kk2 kkl
        have T4 := (T3.alloc _).below hb
        have B4_d := (B3_d.alloc _).below hb
        have B4_k := (B3_k.alloc _).below hb
        have B4_t := Boxed.below (Boxed.made _ #[.int .i64 0, .int .i64 0, .int .i64 0] 23) hb
        have W4 := Lib.hid (blw_trans (blw_trans W3.out (blw_alloc _ _)) hb)
        clear hb T3 B3_d B3_k W3
        have kd0 := B4_d.cell 0 _ rfl
        have kd1 := B4_d.cell 1 _ rfl
        have kd2 := B4_d.cell 2 _ rfl
        have kdl := B4_d.lt
        try simp at kd0 kd1 kd2 kdl
        have kk0 := B4_k.cell 0 _ rfl
        have kk1 := B4_k.cell 1 _ rfl
        have kk2 := B4_k.cell 2 _ rfl
        have kkl := B4_k.lt
        try simp at kk0 kk1 kk2 kkl
        go_wp2_with fail
        refine (C5.out _ (by exact (T4.alloc _))).mono ?_
        rintro e w5 ⟨y5, m5, d5, rfl, hv5, hn5, hb⟩
        clear kd0 kd1 kd2 kdl kk0 kk1 kk2 kkl
        have T5 := (T4.alloc _).below hb
        have B5_d := (B4_d.alloc _).below hb
        have B5_k := (B4_k.alloc _).below hb
        have B5_t := (B4_t.alloc _).below hb
        have B5_f := Boxed.below (Boxed.made _ #[.int .i64 0, .int .i64 0, .int .i64 0] 33) hb
        have W5 := Lib.hid (blw_trans (blw_trans W4.out (blw_alloc _ _)) hb)
        clear hb T4 B4_d B4_k B4_t W4
        have kd0 := B5_d.cell 0 _ rfl
        have kd1 := B5_d.cell 1 _ rfl
        have kd2 := B5_d.cell 2 _ rfl
        have kdl := B5_d.lt
        try simp at kd0 kd1 kd2 kdl
        have kk0 := B5_k.cell 0 _ rfl
        have kk1 := B5_k.cell 1 _ rfl
        have kk2 := B5_k.cell 2 _ rfl
        have kkl := B5_k.lt
        try simp at kk0 kk1 kk2 kkl
        have C6 : ∀ W : World, TabW W → Calls Tryd.prog 13 #[.agg #[.int .i64 y5, .int .i64 m5, .int .i64 d5]] W fun e w' => e = .returned (.tuple #[.int .i64 (n - n % 7), .nilIface]) ∧ Below W.heap.size W w' := fun W hW => hn5 ▸ number_yes y5 m5 d5 W hv5 hW
        have C6 := Lib.hid C6
        clear hv5 hn5
        go_wp2_with fail
        refine (C2.out _ (by exact (T5.alloc _))).mono ?_
        rintro e w6 ⟨rfl, hb⟩
        clear kd0 kd1 kd2 kdl kk0 kk1 kk2 kkl
        have T6 := (T5.alloc _).below hb
        have B6_d := (B5_d.alloc _).below hb
        have B6_k := (B5_k.alloc _).below hb
        have B6_t := (B5_t.alloc _).below hb
        have B6_f := (B5_f.alloc _).below hb
        have B6_mo := Boxed.below (Boxed.made _ #[.int .i64 y5, .int .i64 m5, .int .i64 d5] 23) hb
        have W6 := Lib.hid (blw_trans (blw_trans W5.out (blw_alloc _ _)) hb)
        clear hb T5 B5_d B5_k B5_t B5_f W5
        have kmo0 := B6_mo.cell 0 _ rfl
        have kmo1 := B6_mo.cell 1 _ rfl
        have kmo2 := B6_mo.cell 2 _ rfl
        have kmol := B6_mo.lt
        try simp at kmo0 kmo1 kmo2 kmol
        have kk0 := B6_k.cell 0 _ rfl
        have kk1 := B6_k.cell 1 _ rfl
        have kk2 := B6_k.cell 2 _ rfl
        have kkl := B6_k.lt
        try simp at kk0 kk1 kk2 kkl
        go_wp2_with fail
        refine (C6.out _ (by exact T6)).mono ?_
        rintro e w7 ⟨rfl, hb⟩
        clear kmo0 kmo1 kmo2 kmol kk0 kk1 kk2 kkl
        have T7 := T6.below hb
        have B7_d := B6_d.below hb
        have B7_k := B6_k.below hb
        have B7_t := B6_t.below hb
        have B7_f := B6_f.below hb
        have B7_mo := B6_mo.below hb
        have W7 := Lib.hid (blw_trans W6.out hb)
        clear hb T6 B6_d B6_k B6_t B6_f B6_mo W6
        have kk0 := B7_k.cell 0 _ rfl
        have kk1 := B7_k.cell 1 _ rfl
        have kk2 := B7_k.cell 2 _ rfl
        have kkl := B7_k.lt
        try simp at kk0 kk1 kk2 kkl
        clear T7 B7_d B7_k B7_t B7_f B7_mo
        go_wp2
        go_ret
        exact ⟨ret_bool (by simp; omega), W7.out⟩
  · have C1 := Lib.hid fun W hW => weekOf_no y m d W hv hW
    clear hv
    go_enter Tryd.func6, Tryd.ntmps6
    go_wp2_with fail
    refine (weekly_any _ (by exact (hT.alloc _))).mono ?_
    rintro e w1 ⟨rfl, hb⟩
    have T1 := (hT.alloc _).below hb
    have B1_d := Boxed.below (Boxed.made _ #[.int .i64 y, .int .i64 m, .int .i64 d] 23) hb
    have W1 := Lib.hid (blw_trans (blw_trans (Below.refl w.heap.size w) (blw_alloc _ _)) hb)
    clear hb 
    have kd0 := B1_d.cell 0 _ rfl
    have kd1 := B1_d.cell 1 _ rfl
    have kd2 := B1_d.cell 2 _ rfl
    have kdl := B1_d.lt
    try simp at kd0 kd1 kd2 kdl
    go_wp2_with fail
    refine (C1.out _ (by exact T1)).mono ?_
    rintro e w2 ⟨rfl, hb⟩
    clear kd0 kd1 kd2 kdl
    have T2 := T1.below hb
    have B2_d := B1_d.below hb
    have W2 := Lib.hid (blw_trans W1.out hb)
    clear hb T1 B1_d W1
    clear T2 B2_d
    go_wp2
    go_ret
    exact ⟨ret_bool (by simp), (blw_trans W2.out (blw_alloc _ _))⟩
end Go.Proofs.YtcoeajcgeabjcaaDoor
