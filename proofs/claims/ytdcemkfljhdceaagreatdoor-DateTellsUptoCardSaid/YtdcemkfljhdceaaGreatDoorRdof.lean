/- The walk of linguisterref1.DateOf: the day of a number. -/
import Derived.Test.YtdcemkfljhdceaaGreatDoorRdays
import Derived.Test.YtdcemkfljhdceaaGreatDoorBoxS
namespace Go.Proofs.YtdcemkfljhdceaaGreatDoor
open Go.RowKit

theorem dof_month {y m d k n : Int} (h : Cal.vld y m d) (hn : Cal.num y m d = n) (k1 : 1 ≤ k) (k2 : k ≤ m) : (k < m ↔ mlen y k ≤ n - Cal.yr y - Cal.bef y k) ∧ 0 ≤ n - Cal.yr y - Cal.bef y k := by
  have hn' := hn
  unfold Cal.num at hn'
  have b1 := Cal.bef_le y k m k1 k2 (by have := h.2.2.2.1; omega)
  have s1 := Cal.bef_step y k k1 (by have := h.2.2.2.1; omega)
  obtain ⟨v1, v2, v3, v4, v5, v6⟩ := h
  unfold mlen
  by_cases e : k < m
  · have b2 := Cal.bef_le y (k + 1) m (by omega) (by omega) (by omega)
    omega
  · have e' : k = m := by omega
    subst e'
    omega
set_option maxRecDepth 100000 in
set_option maxHeartbeats 1000000 in
theorem rdof_no (n : Int) (w : World) (h : n < 0 ∨ 3652059 ≤ n) :
    Calls Tryz.prog 12 #[.int .i64 n] w fun e w' => e = .returned (.tuple #[.agg #[.int .i64 0, .int .i64 0, .int .i64 0], .bool false]) ∧ Below w.heap.size w w' := by
  rcases h with h | h
  · go_enter Tryz.func12, Tryz.ntmps12
    go_wp2_with fail
    refine bodyPost_ret (v := .tuple #[.agg #[.int .i64 0, .int .i64 0, .int .i64 0], .bool false]) (by simp [results, Tryz.results12, go_sem]) rfl ⟨rfl, ?_⟩
    repeat (first | exact Below.refl _ _ | refine Below.setCell ?_ (by simp) _ | refine Below.alloc ?_ (by first | (simp; done) | (simp; omega)) _)
  · have h0 : ¬ n < 0 := by omega
    have C := Lib.hid fun w => ryears_any 10000 w (by omega) (by omega)
    rw [Cal.yr_max] at C
    go_enter Tryz.func12, Tryz.ntmps12
    go_wp2_with fail
    refine (C.out _).mono ?_
    rintro e w' ⟨rfl, rfl⟩
    go_wp2_with fail
    refine bodyPost_ret (v := .tuple #[.agg #[.int .i64 0, .int .i64 0, .int .i64 0], .bool false]) (by simp [results, Tryz.results12, go_sem]) rfl ⟨rfl, ?_⟩
    repeat (first | exact Below.refl _ _ | refine Below.setCell ?_ (by simp) _ | refine Below.alloc ?_ (by first | (simp; done) | (simp; omega)) _)
set_option maxRecDepth 100000 in
set_option maxHeartbeats 2000000 in
theorem rdof_yes (n y m d : Int) (w : World) (h : Cal.vld y m d) (hn : Cal.num y m d = n) :
    Calls Tryz.prog 12 #[.int .i64 n] w fun e w' => e = .returned (.tuple #[.agg #[.int .i64 y, .int .i64 m, .int .i64 d], .bool true]) ∧ Below w.heap.size w w' := by
  have hr := Cal.num_rng y m d h
  have hb := Cal.num_bd y m d h
  rw [hn] at hr hb
  obtain ⟨r0, r1⟩ := hr
  obtain ⟨hb1, hb2⟩ := hb
  have C0 := Lib.hid fun w => ryears_any 10000 w (by omega) (by omega)
  rw [Cal.yr_max] at C0
  have CY := Lib.hid fun k w (k0 : 1 ≤ k) (k1 : k ≤ 20000) => ryears_any k w k0 k1
  have CM := Lib.hid fun k w (k0 : 1 ≤ k) (k1 : k ≤ 12) => rmonth_any y k w (by have := h.1; omega) (by have := h.2.1; omega) k0 k1
  have MO := Lib.hid Cal.yr_mono
  have YB := Lib.hid Cal.yr_bd
  have BB := Lib.hid (Cal.bef_bd y)
  have DM := Lib.hid fun k (k1 : 1 ≤ k) (k2 : k ≤ m) => dof_month h hn k1 k2
  have B1 := Lib.hid (Cal.bef_one y)
  have ED : Hid (n - Cal.yr y - Cal.bef y m + 1 = d) := Lib.hid (by unfold Cal.num at hn; omega)
  have lo : n / 366 ≤ y := by
    have g := hb2
    unfold Cal.yr at g
    have := h.1
    omega
  obtain ⟨v1, v2, v3, v4, v5, v6⟩ := h
  clear v6 v5 hn
  have h0 : ¬ n < 0 := by omega
  have h00 : ¬ 3652059 ≤ n := by omega
  go_enter Tryz.func12, Tryz.ntmps12
  go_wp2_with fail
  refine (C0.out _).mono ?_
  rintro e w' ⟨rfl, rfl⟩
  go_wp2_with fail
  go_loop [4] (fun i => ∃ k : Int, 0 ≤ k ∧ k ≤ y ∧ i = .int .i64 k) (fun i => 20000 - (RowKit.intOf i).toNat)
  case atStart => exact ⟨n / 366, by omega, lo, rfl⟩
  case round =>
    obtain ⟨k, k0, k1, rfl⟩ := hrel
    by_cases kz : k < 1
    · go_wp2_with fail
      go_round
      case rel => exact ⟨k + 1, by omega, by omega, rfl⟩
      case measure => simp [RowKit.intOf]; omega
    · have C := Lib.hid fun w => CY.out (k + 1) w (by omega) (by omega)
      have yb := YB.out (k + 1) (by omega) (by omega)
      by_cases hlt : k < y
      · have le : Cal.yr (k + 1) ≤ n := Int.le_trans (MO.out (k + 1) y (by omega)) hb1
        have k9 : k < 9999 := by omega
        generalize Cal.yr (k + 1) = a at *
        go_wp2_with fail
        refine (C.out _).mono ?_
        rintro e w' ⟨rfl, rfl⟩
        go_wp2_with fail
        go_round
        case rel => exact ⟨k + 1, by omega, by omega, rfl⟩
        case measure => simp [RowKit.intOf]; omega
      · have e : k = y := by omega
        subst e
        have CK := Lib.hid fun w => CY.out k w (by omega) (by omega)
        have yk := YB.out k (by omega) (by omega)
        generalize Cal.yr (k + 1) = a at *
        generalize Cal.yr k = Y at *
        have gt : ¬ a ≤ n := by omega
        by_cases k9 : k < 9999
        · go_wp2_with fail
          refine (C.out _).mono ?_
          rintro e w' ⟨rfl, rfl⟩
          go_wp2_with fail
          clear gt
          refine (CK.out _).mono ?_
          rintro e w' ⟨rfl, rfl⟩
          go_wp2_with fail
          have Z0 := Boxed.alloc (Boxed.made w #[.int .i64 0, .int .i64 0, .int .i64 0] 23) (.cells #[.int .i64 k, .int .i64 1, .int .i64 1] 23)
          have D0 := Boxed.at (q := w.heap.size + 1) (Boxed.made (w.alloc (.cells #[.int .i64 0, .int .i64 0, .int .i64 0] 23)) #[.int .i64 k, .int .i64 1, .int .i64 1] 23) (by simp)
          have W0 := Lib.hid (blw_trans (blw_alloc w (.cells #[.int .i64 0, .int .i64 0, .int .i64 0] 23)) (blw_alloc _ (.cells #[.int .i64 k, .int .i64 1, .int .i64 1] 23)))
          generalize (w.alloc (.cells #[.int .i64 0, .int .i64 0, .int .i64 0] 23)).alloc (.cells #[.int .i64 k, .int .i64 1, .int .i64 1] 23) = w1 at *
          go_loopw [6] (fun l wr => ∃ j : Int, 1 ≤ j ∧ j ≤ m ∧ l = .int .i64 (n - Y - Cal.bef k j) ∧ Boxed wr (w.heap.size + 1) #[.int .i64 k, .int .i64 j, .int .i64 1] ∧ Boxed wr w.heap.size #[.int .i64 0, .int .i64 0, .int .i64 0] ∧ Hid (Below w.heap.size w wr)) (fun l _ => (RowKit.intOf l).toNat)
          case atStart => exact ⟨1, by omega, by omega, by rw [B1.out, Int.sub_zero], D0, Z0, W0⟩
          case round =>
            obtain ⟨j, j0, j1, rfl, D, Z, HB⟩ := hrel
            clear W0
            have dm := DM.out j j0 j1
            have C := Lib.hid fun w => CM.out j w j0 (by omega)
            have ml := mlen_bd k j j0 (by omega)
            have bb := BB.out j
            have S := Lib.hid (show n - Y - Cal.bef k j - mlen k j = n - Y - Cal.bef k (j + 1) by unfold mlen; omega)
            have k0' := D.cell 0 _ rfl
            have k1' := D.cell 1 _ rfl
            have k2' := D.cell 2 _ rfl
            have f1 := D.free 1 (by simp)
            have f2 := D.free 2 (by simp)
            have bl := HB.out.size
            by_cases jm : j < m
            · have le := dm.1.1 jm
              have lu : n - Y - Cal.bef k j ≤ 3652059 := by omega
              have dm0 := dm.2
              clear dm
              have D2 : Boxed (wr.setCell ⟨w.heap.size + 1, 1, none⟩ (.int .i64 (j + 1))) (w.heap.size + 1) #[.int .i64 k, .int .i64 (j + 1), .int .i64 1] := D.set 1 _ (by simp)
              have Z2 : Boxed (wr.setCell ⟨w.heap.size + 1, 1, none⟩ (.int .i64 (j + 1))) w.heap.size #[.int .i64 0, .int .i64 0, .int .i64 0] := Z.far (by omega) 1 _
              have HB2 := Lib.hid (Below.setCell (p := ⟨w.heap.size + 1, 1, none⟩) HB.out (by simp) (.int .i64 (j + 1)))
              generalize mlen k j = L at *
              generalize hl : n - Y - Cal.bef k j = l at *
              clear hl D Z HB bb
              go_wp2_with fail
              refine (C.out _).mono ?_
              rintro e w' ⟨rfl, rfl⟩
              go_wp2_with fail
              refine (C.out _).mono ?_
              rintro e w' ⟨rfl, rfl⟩
              go_wp2_with fail
              go_roundw
              case rel => exact ⟨j + 1, by omega, by omega, by rw [S.out], D2, Z2, HB2⟩
              case measure => simp [RowKit.intOf]; omega
            · have e : j = m := by omega
              subst e
              have lu : n - Y - Cal.bef k j ≤ 3652059 := by omega
              have gt : ¬ mlen k j ≤ n - Y - Cal.bef k j := fun g => jm (dm.1.2 g)
              have dm0 := dm.2
              have z0 := Z.cell 0 _ rfl
              have z1 := Z.cell 1 _ rfl
              have z2 := Z.cell 2 _ rfl
              have y0 := Z.free 0 (by simp)
              have y1 := Z.free 1 (by simp)
              have y2 := Z.free 2 (by simp)
              generalize mlen k j = L at *
              generalize hl : n - Y - Cal.bef k j = l at *
              have ED2 : Hid (l + 1 = d) := Lib.hid ED.out
              clear hl D Z dm S bb
              go_wp2_with fail
              refine (C.out _).mono ?_
              rintro e w' ⟨rfl, rfl⟩
              go_wp2_with fail
              refine bodyPost_ret (v := .tuple #[.agg #[.int .i64 k, .int .i64 j, .int .i64 (l + 1)], .bool true]) (by simp [results, Tryz.results12, go_sem, z0, z1, z2]) rfl ⟨by rw [ED2.out], ?_⟩
              repeat (first | exact HB.out | refine Below.setCell ?_ (by simp) _)
        · go_wp2_with fail
          clear gt
          refine (CK.out _).mono ?_
          rintro e w' ⟨rfl, rfl⟩
          go_wp2_with fail
          have Z0 := Boxed.alloc (Boxed.made w #[.int .i64 0, .int .i64 0, .int .i64 0] 23) (.cells #[.int .i64 k, .int .i64 1, .int .i64 1] 23)
          have D0 := Boxed.at (q := w.heap.size + 1) (Boxed.made (w.alloc (.cells #[.int .i64 0, .int .i64 0, .int .i64 0] 23)) #[.int .i64 k, .int .i64 1, .int .i64 1] 23) (by simp)
          have W0 := Lib.hid (blw_trans (blw_alloc w (.cells #[.int .i64 0, .int .i64 0, .int .i64 0] 23)) (blw_alloc _ (.cells #[.int .i64 k, .int .i64 1, .int .i64 1] 23)))
          generalize (w.alloc (.cells #[.int .i64 0, .int .i64 0, .int .i64 0] 23)).alloc (.cells #[.int .i64 k, .int .i64 1, .int .i64 1] 23) = w1 at *
          go_loopw [6] (fun l wr => ∃ j : Int, 1 ≤ j ∧ j ≤ m ∧ l = .int .i64 (n - Y - Cal.bef k j) ∧ Boxed wr (w.heap.size + 1) #[.int .i64 k, .int .i64 j, .int .i64 1] ∧ Boxed wr w.heap.size #[.int .i64 0, .int .i64 0, .int .i64 0] ∧ Hid (Below w.heap.size w wr)) (fun l _ => (RowKit.intOf l).toNat)
          case atStart => exact ⟨1, by omega, by omega, by rw [B1.out, Int.sub_zero], D0, Z0, W0⟩
          case round =>
            obtain ⟨j, j0, j1, rfl, D, Z, HB⟩ := hrel
            clear W0
            have dm := DM.out j j0 j1
            have C := Lib.hid fun w => CM.out j w j0 (by omega)
            have ml := mlen_bd k j j0 (by omega)
            have bb := BB.out j
            have S := Lib.hid (show n - Y - Cal.bef k j - mlen k j = n - Y - Cal.bef k (j + 1) by unfold mlen; omega)
            have k0' := D.cell 0 _ rfl
            have k1' := D.cell 1 _ rfl
            have k2' := D.cell 2 _ rfl
            have f1 := D.free 1 (by simp)
            have f2 := D.free 2 (by simp)
            have bl := HB.out.size
            by_cases jm : j < m
            · have le := dm.1.1 jm
              have lu : n - Y - Cal.bef k j ≤ 3652059 := by omega
              have dm0 := dm.2
              clear dm
              have D2 : Boxed (wr.setCell ⟨w.heap.size + 1, 1, none⟩ (.int .i64 (j + 1))) (w.heap.size + 1) #[.int .i64 k, .int .i64 (j + 1), .int .i64 1] := D.set 1 _ (by simp)
              have Z2 : Boxed (wr.setCell ⟨w.heap.size + 1, 1, none⟩ (.int .i64 (j + 1))) w.heap.size #[.int .i64 0, .int .i64 0, .int .i64 0] := Z.far (by omega) 1 _
              have HB2 := Lib.hid (Below.setCell (p := ⟨w.heap.size + 1, 1, none⟩) HB.out (by simp) (.int .i64 (j + 1)))
              generalize mlen k j = L at *
              generalize hl : n - Y - Cal.bef k j = l at *
              clear hl D Z HB bb
              go_wp2_with fail
              refine (C.out _).mono ?_
              rintro e w' ⟨rfl, rfl⟩
              go_wp2_with fail
              refine (C.out _).mono ?_
              rintro e w' ⟨rfl, rfl⟩
              go_wp2_with fail
              go_roundw
              case rel => exact ⟨j + 1, by omega, by omega, by rw [S.out], D2, Z2, HB2⟩
              case measure => simp [RowKit.intOf]; omega
            · have e : j = m := by omega
              subst e
              have lu : n - Y - Cal.bef k j ≤ 3652059 := by omega
              have gt : ¬ mlen k j ≤ n - Y - Cal.bef k j := fun g => jm (dm.1.2 g)
              have dm0 := dm.2
              have z0 := Z.cell 0 _ rfl
              have z1 := Z.cell 1 _ rfl
              have z2 := Z.cell 2 _ rfl
              have y0 := Z.free 0 (by simp)
              have y1 := Z.free 1 (by simp)
              have y2 := Z.free 2 (by simp)
              generalize mlen k j = L at *
              generalize hl : n - Y - Cal.bef k j = l at *
              have ED2 : Hid (l + 1 = d) := Lib.hid ED.out
              clear hl D Z dm S bb
              go_wp2_with fail
              refine (C.out _).mono ?_
              rintro e w' ⟨rfl, rfl⟩
              go_wp2_with fail
              refine bodyPost_ret (v := .tuple #[.agg #[.int .i64 k, .int .i64 j, .int .i64 (l + 1)], .bool true]) (by simp [results, Tryz.results12, go_sem, z0, z1, z2]) rfl ⟨by rw [ED2.out], ?_⟩
              repeat (first | exact HB.out | refine Below.setCell ?_ (by simp) _)
end Go.Proofs.YtdcemkfljhdceaaGreatDoor
