/- The walk of the law WeekBack: it returns true. Conditions: the table 'ahead' holds its numbers. -/
import Derived.Test.YtcoeajcgeabjcaaDoorWDate
namespace Go.Proofs.YtcoeajcgeabjcaaDoor
open Go.RowKit

/-- the week of number n, all told -/
theorem week_of_there {y k d : Int} (h : rightWk y k d) {n x : Int} (e : Cal.fst y + 7 * (k - 1) + d - 1 = n) (hk : Cal.isWk n x) : x = y ∧ Cal.wkOf n x = k ∧ n % 7 + 1 = d := by
  obtain ⟨_, _, k1, k2, d1, d2⟩ := h
  obtain ⟨a, b, c⟩ := Cal.wk_there (y := y) k1 k2 d1 d2
  subst e
  obtain rfl := Cal.isWk_inj hk a
  exact ⟨rfl, b, c⟩

set_option maxRecDepth 100000 in
set_option maxHeartbeats 4000000 in
theorem weekBack_yes (y m d p q r : Int) (w : World) (hT : TabW w) (hR : rightWk p q r) (hN : Cal.fst p + 7 * (q - 1) + r - 1 < 3652059) :
    Calls Tryd.prog 5 #[.agg #[.int .i64 y, .int .i64 m, .int .i64 d], .agg #[.int .i64 p, .int .i64 q, .int .i64 r]] w fun e w' => e = .returned (.bool true) ∧ Below w.heap.size w w' := by
  have D2 := Lib.hid fun W hW => weekDate_yes p q r W hR hW hN
  have HR := Lib.hid hR
  clear hR hN
  by_cases hv : Cal.vld y m d
  · have hr := Cal.num_rng y m d hv
    have C2 := Lib.hid fun W hW => weekOf_yes y m d W hv hW
    have HV := Lib.hid hv
    generalize hn : Cal.num y m d = n at *
    have HN := Lib.hid hn
    clear hn hv
    go_enter Tryd.func5, Tryd.ntmps5
    go_wp2_with fail
    refine (weekly_any _ (by exact ((hT.alloc _).alloc _))).mono ?_
    rintro e w1 ⟨rfl, hb⟩
    have T1 := ((hT.alloc _).alloc _).below hb
    have B1_d := Boxed.below (Boxed.alloc (Boxed.made _ #[.int .i64 y, .int .i64 m, .int .i64 d] 23) _) hb
    have B1_u := Boxed.below (Boxed.made _ #[.int .i64 p, .int .i64 q, .int .i64 r] 33) hb
    have W1 := Lib.hid (blw_trans (blw_trans (blw_trans (Below.refl w.heap.size w) (blw_alloc _ _)) (blw_alloc _ _)) hb)
    clear hb 
    have kd0 := B1_d.cell 0 _ rfl
    have kd1 := B1_d.cell 1 _ rfl
    have kd2 := B1_d.cell 2 _ rfl
    have kdl := B1_d.lt
    try simp at kd0 kd1 kd2 kdl
    go_wp2_with fail
    refine (C2.out _ (by exact T1)).mono ?_
    rintro e w2 ⟨yw, rfl, hk, hb⟩
    clear kd0 kd1 kd2 kdl
    have T2 := T1.below hb
    have B2_d := B1_d.below hb
    have B2_u := B1_u.below hb
    have W2 := Lib.hid (blw_trans W1.out hb)
    clear hb T1 B1_d B1_u W1
    have kd0 := B2_d.cell 0 _ rfl
    have kd1 := B2_d.cell 1 _ rfl
    have kd2 := B2_d.cell 2 _ rfl
    have kdl := B2_d.lt
    try simp at kd0 kd1 kd2 kdl
    have hk1 := Cal.isWk_le hk (by omega) (by omega)
    have hk2 := Cal.wkOf_bd hk
    have eb := Cal.wk_back hk
    have C3 : ∀ W : World, TabW W → Calls Tryd.prog 18 #[.agg #[.int .i64 yw, .int .i64 (Cal.wkOf n yw), .int .i64 (n % 7 + 1)]] W fun e w' => e = .returned (.tuple #[.agg #[.int .i64 y, .int .i64 m, .int .i64 d], .nilIface]) ∧ Below W.heap.size W w' := fun W hW =>
      (weekDate_yes yw (Cal.wkOf n yw) (n % 7 + 1) W ⟨hk1.1, hk1.2, hk2.1, hk2.2, by omega, by omega⟩ hW (by omega)).mono fun e w' ⟨y', m', d', he, hv', hn', hb⟩ => by
        obtain ⟨rfl, rfl, rfl⟩ := Cal.num_inj hv' HV.out (by rw [hn', eb, HN.out])
        exact ⟨he, hb⟩
    have C3 := Lib.hid C3
    clear hk1 hk2 eb hk C2 HV HN
    generalize Cal.wkOf n yw = a at *
    generalize n % 7 + 1 = b at *
    clear hr
    go_wp2_with fail
    refine (C3.out _ (by exact (T2.alloc _))).mono ?_
    rintro e w3 ⟨rfl, hb⟩
    clear kd0 kd1 kd2 kdl
    have T3 := (T2.alloc _).below hb
    have B3_d := (B2_d.alloc _).below hb
    have B3_u := (B2_u.alloc _).below hb
    have B3_k := Boxed.below (Boxed.made _ #[.int .i64 yw, .int .i64 a, .int .i64 b] 33) hb
    have W3 := Lib.hid (blw_trans (blw_trans W2.out (blw_alloc _ _)) hb)
    clear hb T2 B2_d B2_u W2
    have kd0 := B3_d.cell 0 _ rfl
    have kd1 := B3_d.cell 1 _ rfl
    have kd2 := B3_d.cell 2 _ rfl
    have kdl := B3_d.lt
    try simp at kd0 kd1 kd2 kdl
    have ku0 := B3_u.cell 0 _ rfl
    have ku1 := B3_u.cell 1 _ rfl
    have ku2 := B3_u.cell 2 _ rfl
    have kul := B3_u.lt
    try simp at ku0 ku1 ku2 kul
    clear C3
    go_wp2_with fail
    refine (D2.out _ (by exact (T3.alloc _))).mono ?_
    rintro e w4 ⟨y', m', d', rfl, hv', hn', hb⟩
    clear kd0 kd1 kd2 kdl ku0 ku1 ku2 kul
    have T4 := (T3.alloc _).below hb
    have B4_d := (B3_d.alloc _).below hb
    have B4_u := (B3_u.alloc _).below hb
    have B4_k := (B3_k.alloc _).below hb
    have B4_x0 := Boxed.below (Boxed.made _ #[.int .i64 y, .int .i64 m, .int .i64 d] 23) hb
    have W4 := Lib.hid (blw_trans (blw_trans W3.out (blw_alloc _ _)) hb)
    clear hb T3 B3_d B3_u B3_k W3
    have C5 : ∀ W : World, TabW W → Calls Tryd.prog 16 #[.agg #[.int .i64 y', .int .i64 m', .int .i64 d']] W fun e w' => e = .returned (.tuple #[.agg #[.int .i64 p, .int .i64 q, .int .i64 r], .nilIface]) ∧ Below W.heap.size W w' := fun W hW =>
      (weekOf_yes y' m' d' W hv' hW).mono fun e w' ⟨x, he, hk, hb⟩ => by
        obtain ⟨rfl, e2, e3⟩ := week_of_there HR.out hn'.symm hk
        exact ⟨by rw [he, e2, e3], hb⟩
    have C5 := Lib.hid C5
    clear hn' hv' D2
    go_wp2_with fail
    refine (C5.out _ (by exact (T4.alloc _))).mono ?_
    rintro e w5 ⟨rfl, hb⟩
    have T5 := (T4.alloc _).below hb
    have B5_d := (B4_d.alloc _).below hb
    have B5_u := (B4_u.alloc _).below hb
    have B5_k := (B4_k.alloc _).below hb
    have B5_x0 := (B4_x0.alloc _).below hb
    have B5_x := Boxed.below (Boxed.made _ #[.int .i64 y', .int .i64 m', .int .i64 d'] 23) hb
    have W5 := Lib.hid (blw_trans (blw_trans W4.out (blw_alloc _ _)) hb)
    clear hb T4 B4_d B4_u B4_k B4_x0 W4
    have ku0 := B5_u.cell 0 _ rfl
    have ku1 := B5_u.cell 1 _ rfl
    have ku2 := B5_u.cell 2 _ rfl
    have kul := B5_u.lt
    try simp at ku0 ku1 ku2 kul
    clear C5 HR
    clear T5 B5_d B5_u B5_k B5_x0 B5_x
    go_wp2
    go_ret
    exact ⟨ret_bool (by simp), (blw_trans W5.out (blw_alloc _ _))⟩
  · have C2 := Lib.hid fun W hW => weekOf_no y m d W hv hW
    clear hv
    go_enter Tryd.func5, Tryd.ntmps5
    go_wp2_with fail
    refine (weekly_any _ (by exact ((hT.alloc _).alloc _))).mono ?_
    rintro e w1 ⟨rfl, hb⟩
    have T1 := ((hT.alloc _).alloc _).below hb
    have B1_d := Boxed.below (Boxed.alloc (Boxed.made _ #[.int .i64 y, .int .i64 m, .int .i64 d] 23) _) hb
    have B1_u := Boxed.below (Boxed.made _ #[.int .i64 p, .int .i64 q, .int .i64 r] 33) hb
    have W1 := Lib.hid (blw_trans (blw_trans (blw_trans (Below.refl w.heap.size w) (blw_alloc _ _)) (blw_alloc _ _)) hb)
    clear hb 
    have kd0 := B1_d.cell 0 _ rfl
    have kd1 := B1_d.cell 1 _ rfl
    have kd2 := B1_d.cell 2 _ rfl
    have kdl := B1_d.lt
    try simp at kd0 kd1 kd2 kdl
    go_wp2_with fail
    refine (C2.out _ (by exact T1)).mono ?_
    rintro e w2 ⟨rfl, hb⟩
    clear kd0 kd1 kd2 kdl
    have T2 := T1.below hb
    have B2_d := B1_d.below hb
    have B2_u := B1_u.below hb
    have W2 := Lib.hid (blw_trans W1.out hb)
    clear hb T1 B1_d B1_u W1
    have ku0 := B2_u.cell 0 _ rfl
    have ku1 := B2_u.cell 1 _ rfl
    have ku2 := B2_u.cell 2 _ rfl
    have kul := B2_u.lt
    try simp at ku0 ku1 ku2 kul
    clear C2
    go_wp2_with fail
    refine (D2.out _ (by exact (T2.alloc _))).mono ?_
    rintro e w3 ⟨y', m', d', rfl, hv', hn', hb⟩
    clear ku0 ku1 ku2 kul
    have T3 := (T2.alloc _).below hb
    have B3_d := (B2_d.alloc _).below hb
    have B3_u := (B2_u.alloc _).below hb
    have B3_k := Boxed.below (Boxed.made _ #[.int .i64 0, .int .i64 0, .int .i64 0] 33) hb
    have W3 := Lib.hid (blw_trans (blw_trans W2.out (blw_alloc _ _)) hb)
    clear hb T2 B2_d B2_u W2
    have C5 : ∀ W : World, TabW W → Calls Tryd.prog 16 #[.agg #[.int .i64 y', .int .i64 m', .int .i64 d']] W fun e w' => e = .returned (.tuple #[.agg #[.int .i64 p, .int .i64 q, .int .i64 r], .nilIface]) ∧ Below W.heap.size W w' := fun W hW =>
      (weekOf_yes y' m' d' W hv' hW).mono fun e w' ⟨x, he, hk, hb⟩ => by
        obtain ⟨rfl, e2, e3⟩ := week_of_there HR.out hn'.symm hk
        exact ⟨by rw [he, e2, e3], hb⟩
    have C5 := Lib.hid C5
    clear hn' hv' D2
    go_wp2_with fail
    refine (C5.out _ (by exact (T3.alloc _))).mono ?_
    rintro e w4 ⟨rfl, hb⟩
    have T4 := (T3.alloc _).below hb
    have B4_d := (B3_d.alloc _).below hb
    have B4_u := (B3_u.alloc _).below hb
    have B4_k := (B3_k.alloc _).below hb
    have B4_x := Boxed.below (Boxed.made _ #[.int .i64 y', .int .i64 m', .int .i64 d'] 23) hb
    have W4 := Lib.hid (blw_trans (blw_trans W3.out (blw_alloc _ _)) hb)
    clear hb T3 B3_d B3_u B3_k W3
    have ku0 := B4_u.cell 0 _ rfl
    have ku1 := B4_u.cell 1 _ rfl
    have ku2 := B4_u.cell 2 _ rfl
    have kul := B4_u.lt
    try simp at ku0 ku1 ku2 kul
    clear C5 HR
    clear T4 B4_d B4_u B4_k B4_x
    go_wp2
    go_ret
    exact ⟨ret_bool (by simp), (blw_trans W4.out (blw_alloc _ _))⟩

set_option maxRecDepth 100000 in
set_option maxHeartbeats 4000000 in
theorem weekBack_no (y m d p q r : Int) (w : World) (hT : TabW w) (hR : ¬ (rightWk p q r ∧ Cal.fst p + 7 * (q - 1) + r - 1 < 3652059)) :
    Calls Tryd.prog 5 #[.agg #[.int .i64 y, .int .i64 m, .int .i64 d], .agg #[.int .i64 p, .int .i64 q, .int .i64 r]] w fun e w' => e = .returned (.bool true) ∧ Below w.heap.size w w' := by
  have D2 := Lib.hid fun W => weekDate_no p q r W hR
  clear hR
  by_cases hv : Cal.vld y m d
  · have hr := Cal.num_rng y m d hv
    have C2 := Lib.hid fun W hW => weekOf_yes y m d W hv hW
    have HV := Lib.hid hv
    generalize hn : Cal.num y m d = n at *
    have HN := Lib.hid hn
    clear hn hv
    go_enter Tryd.func5, Tryd.ntmps5
    go_wp2_with fail
    refine (weekly_any _ (by exact ((hT.alloc _).alloc _))).mono ?_
    rintro e w1 ⟨rfl, hb⟩
    have T1 := ((hT.alloc _).alloc _).below hb
    have B1_d := Boxed.below (Boxed.alloc (Boxed.made _ #[.int .i64 y, .int .i64 m, .int .i64 d] 23) _) hb
    have B1_u := Boxed.below (Boxed.made _ #[.int .i64 p, .int .i64 q, .int .i64 r] 33) hb
    have W1 := Lib.hid (blw_trans (blw_trans (blw_trans (Below.refl w.heap.size w) (blw_alloc _ _)) (blw_alloc _ _)) hb)
    clear hb 
    have kd0 := B1_d.cell 0 _ rfl
    have kd1 := B1_d.cell 1 _ rfl
    have kd2 := B1_d.cell 2 _ rfl
    have kdl := B1_d.lt
    try simp at kd0 kd1 kd2 kdl
    go_wp2_with fail
    refine (C2.out _ (by exact T1)).mono ?_
    rintro e w2 ⟨yw, rfl, hk, hb⟩
    clear kd0 kd1 kd2 kdl
    have T2 := T1.below hb
    have B2_d := B1_d.below hb
    have B2_u := B1_u.below hb
    have W2 := Lib.hid (blw_trans W1.out hb)
    clear hb T1 B1_d B1_u W1
    have kd0 := B2_d.cell 0 _ rfl
    have kd1 := B2_d.cell 1 _ rfl
    have kd2 := B2_d.cell 2 _ rfl
    have kdl := B2_d.lt
    try simp at kd0 kd1 kd2 kdl
    have hk1 := Cal.isWk_le hk (by omega) (by omega)
    have hk2 := Cal.wkOf_bd hk
    have eb := Cal.wk_back hk
    have C3 : ∀ W : World, TabW W → Calls Tryd.prog 18 #[.agg #[.int .i64 yw, .int .i64 (Cal.wkOf n yw), .int .i64 (n % 7 + 1)]] W fun e w' => e = .returned (.tuple #[.agg #[.int .i64 y, .int .i64 m, .int .i64 d], .nilIface]) ∧ Below W.heap.size W w' := fun W hW =>
      (weekDate_yes yw (Cal.wkOf n yw) (n % 7 + 1) W ⟨hk1.1, hk1.2, hk2.1, hk2.2, by omega, by omega⟩ hW (by omega)).mono fun e w' ⟨y', m', d', he, hv', hn', hb⟩ => by
        obtain ⟨rfl, rfl, rfl⟩ := Cal.num_inj hv' HV.out (by rw [hn', eb, HN.out])
        exact ⟨he, hb⟩
    have C3 := Lib.hid C3
    clear hk1 hk2 eb hk C2 HV HN
    generalize Cal.wkOf n yw = a at *
    generalize n % 7 + 1 = b at *
    clear hr
    go_wp2_with fail
    refine (C3.out _ (by exact (T2.alloc _))).mono ?_
    rintro e w3 ⟨rfl, hb⟩
    clear kd0 kd1 kd2 kdl
    have T3 := (T2.alloc _).below hb
    have B3_d := (B2_d.alloc _).below hb
    have B3_u := (B2_u.alloc _).below hb
    have B3_k := Boxed.below (Boxed.made _ #[.int .i64 yw, .int .i64 a, .int .i64 b] 33) hb
    have W3 := Lib.hid (blw_trans (blw_trans W2.out (blw_alloc _ _)) hb)
    clear hb T2 B2_d B2_u W2
    have kd0 := B3_d.cell 0 _ rfl
    have kd1 := B3_d.cell 1 _ rfl
    have kd2 := B3_d.cell 2 _ rfl
    have kdl := B3_d.lt
    try simp at kd0 kd1 kd2 kdl
    have ku0 := B3_u.cell 0 _ rfl
    have ku1 := B3_u.cell 1 _ rfl
    have ku2 := B3_u.cell 2 _ rfl
    have kul := B3_u.lt
    try simp at ku0 ku1 ku2 kul
    clear C3
    go_wp2_with fail
    refine (D2.out _).mono ?_
    rintro e w4 ⟨rfl, hb⟩
    clear kd0 kd1 kd2 kdl ku0 ku1 ku2 kul
    have T4 := (T3.alloc _).below hb
    have B4_d := (B3_d.alloc _).below hb
    have B4_u := (B3_u.alloc _).below hb
    have B4_k := (B3_k.alloc _).below hb
    have B4_x0 := Boxed.below (Boxed.made _ #[.int .i64 y, .int .i64 m, .int .i64 d] 23) hb
    have W4 := Lib.hid (blw_trans (blw_trans W3.out (blw_alloc _ _)) hb)
    clear hb T3 B3_d B3_u B3_k W3
    clear D2
    clear T4 B4_d B4_u B4_k B4_x0
    go_wp2
    go_ret
    exact ⟨ret_bool (by simp), (blw_trans W4.out (blw_alloc _ _))⟩
  · have C2 := Lib.hid fun W hW => weekOf_no y m d W hv hW
    clear hv
    go_enter Tryd.func5, Tryd.ntmps5
    go_wp2_with fail
    refine (weekly_any _ (by exact ((hT.alloc _).alloc _))).mono ?_
    rintro e w1 ⟨rfl, hb⟩
    have T1 := ((hT.alloc _).alloc _).below hb
    have B1_d := Boxed.below (Boxed.alloc (Boxed.made _ #[.int .i64 y, .int .i64 m, .int .i64 d] 23) _) hb
    have B1_u := Boxed.below (Boxed.made _ #[.int .i64 p, .int .i64 q, .int .i64 r] 33) hb
    have W1 := Lib.hid (blw_trans (blw_trans (blw_trans (Below.refl w.heap.size w) (blw_alloc _ _)) (blw_alloc _ _)) hb)
    clear hb 
    have kd0 := B1_d.cell 0 _ rfl
    have kd1 := B1_d.cell 1 _ rfl
    have kd2 := B1_d.cell 2 _ rfl
    have kdl := B1_d.lt
    try simp at kd0 kd1 kd2 kdl
    go_wp2_with fail
    refine (C2.out _ (by exact T1)).mono ?_
    rintro e w2 ⟨rfl, hb⟩
    clear kd0 kd1 kd2 kdl
    have T2 := T1.below hb
    have B2_d := B1_d.below hb
    have B2_u := B1_u.below hb
    have W2 := Lib.hid (blw_trans W1.out hb)
    clear hb T1 B1_d B1_u W1
    have ku0 := B2_u.cell 0 _ rfl
    have ku1 := B2_u.cell 1 _ rfl
    have ku2 := B2_u.cell 2 _ rfl
    have kul := B2_u.lt
    try simp at ku0 ku1 ku2 kul
    go_wp2_with fail
    refine (D2.out _).mono ?_
    rintro e w3 ⟨rfl, hb⟩
    clear ku0 ku1 ku2 kul
    have T3 := (T2.alloc _).below hb
    have B3_d := (B2_d.alloc _).below hb
    have B3_u := (B2_u.alloc _).below hb
    have B3_k := Boxed.below (Boxed.made _ #[.int .i64 0, .int .i64 0, .int .i64 0] 33) hb
    have W3 := Lib.hid (blw_trans (blw_trans W2.out (blw_alloc _ _)) hb)
    clear hb T2 B2_d B2_u W2
    clear D2
    clear T3 B3_d B3_u B3_k
    go_wp2
    go_ret
    exact ⟨ret_bool (by simp), (blw_trans W3.out (blw_alloc _ _))⟩

theorem weekBack_any (y m d p q r : Int) (w : World) (hT : TabW w) :
    Calls Tryd.prog 5 #[.agg #[.int .i64 y, .int .i64 m, .int .i64 d], .agg #[.int .i64 p, .int .i64 q, .int .i64 r]] w fun e w' => e = .returned (.bool true) ∧ Below w.heap.size w w' := by
  by_cases h : rightWk p q r ∧ Cal.fst p + 7 * (q - 1) + r - 1 < 3652059
  · exact weekBack_yes y m d p q r w hT h.1 h.2
  · exact weekBack_no y m d p q r w hT h
end Go.Proofs.YtcoeajcgeabjcaaDoor
