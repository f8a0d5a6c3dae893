/- The walk of linguisterref1.DayOf: the day of a text. -/
import Derived.Test.YtdcemkfljhdceaaGreatDoorOnly
import Derived.Test.YtdcemkfljhdceaaGreatDoorRfault
import Derived.Test.YtdcemkfljhdceaaGreatDoorDateTxt
import Derived.Test.YtdcemkfljhdceaaGreatDoorBy
import Derived.Test.YtdcemkfljhdceaaGreatDoorBoxS
import Derived.Test.YtdcemkfljhdceaaGreatDoorOwn
import Derived.Test.YtdcemkfljhdceaaGreatDoorKeep
import Derived.StillTailTactics
import Derived.Deep.RegionHeld3
namespace Go.Proofs.YtdcemkfljhdceaaGreatDoor
open Go.RowKit

theorem infoInt : (Tryz.prog.info? 3).map (fun i => (i.zero, i.size, i.bytes)) = some (some (.int .i64 0), 1, 8) := by kernel_rfl
theorem u8_sub (x : Int) (h0 : 48 ≤ x) (h1 : x ≤ 57) : IntKind.u8.wrap (x - 48) = x - 48 := by
  have : x = 48 ∨ x = 49 ∨ x = 50 ∨ x = 51 ∨ x = 52 ∨ x = 53 ∨ x = 54 ∨ x = 55 ∨ x = 56 ∨ x = 57 := by omega
  rcases this with rfl | rfl | rfl | rfl | rfl | rfl | rfl | rfl | rfl | rfl <;> decide
theorem dig_in (c : UInt8) (h0 : 48 ≤ (c.toNat : Int)) (h1 : (c.toNat : Int) ≤ 57) : ([48, 49, 50, 51, 52, 53, 54, 55, 56, 57] : List UInt8).contains c = true := by
  have : c.toNat = 48 ∨ c.toNat = 49 ∨ c.toNat = 50 ∨ c.toNat = 51 ∨ c.toNat = 52 ∨ c.toNat = 53 ∨ c.toNat = 54 ∨ c.toNat = 55 ∨ c.toNat = 56 ∨ c.toNat = 57 := by omega
  have e : c = UInt8.ofNat c.toNat := by simp
  rcases this with g | g | g | g | g | g | g | g | g | g <;> (rw [e, g]; decide)
theorem only_digits (l : List UInt8) (hl : l.length = 8) (h : ∀ c ∈ l, 48 ≤ (c.toNat : Int) ∧ (c.toNat : Int) ≤ 57) : onlyB l [48, 49, 50, 51, 52, 53, 54, 55, 56, 57] 8 8 = true := by
  unfold onlyB
  rw [List.all_eq_true.2 (fun c hc => dig_in c (h c hc).1 (h c hc).2), hl]
  decide

set_option maxRecDepth 100000 in
set_option maxHeartbeats 4000000 in
theorem dayof_digits (b0 b1 b2 b3 b5 b6 b8 b9 : UInt8) (g0 : 48 ≤ (b0.toNat : Int)) (f0 : (b0.toNat : Int) ≤ 57) (g1 : 48 ≤ (b1.toNat : Int)) (f1 : (b1.toNat : Int) ≤ 57) (g2 : 48 ≤ (b2.toNat : Int)) (f2 : (b2.toNat : Int) ≤ 57) (g3 : 48 ≤ (b3.toNat : Int)) (f3 : (b3.toNat : Int) ≤ 57) (g5 : 48 ≤ (b5.toNat : Int)) (f5 : (b5.toNat : Int) ≤ 57) (g6 : 48 ≤ (b6.toNat : Int)) (f6 : (b6.toNat : Int) ≤ 57) (g8 : 48 ≤ (b8.toNat : Int)) (f8 : (b8.toNat : Int) ≤ 57) (g9 : 48 ≤ (b9.toNat : Int)) (f9 : (b9.toNat : Int) ≤ 57)
    (Y M D n1 n2 n3 n6 n9 : Int) (e1 : n1 = ((b0.toNat : Int) - 48)) (e2 : n2 = 10 * n1 + ((b1.toNat : Int) - 48)) (e3 : n3 = 10 * n2 + ((b2.toNat : Int) - 48)) (e4 : Y = 10 * n3 + ((b3.toNat : Int) - 48)) (e6 : n6 = ((b5.toNat : Int) - 48)) (e7 : M = 10 * n6 + ((b6.toNat : Int) - 48)) (e9 : n9 = ((b8.toNat : Int) - 48)) (e10 : D = 10 * n9 + ((b9.toNat : Int) - 48)) (s : List UInt8) (hs : s = [b0, b1, b2, b3, 45, b5, b6, 45, b8, b9]) (v : Bool) (w : World)
    (CF : Hid (∀ w : World, Calls Tryz.prog 5 #[.agg #[.int .i64 Y, .int .i64 M, .int .i64 D]] w fun e w' => e = .returned (.bool (!v)) ∧ Below w.heap.size w w')) :
    Calls Tryz.prog 14 #[.string ⟨s.toArray⟩] w fun e w' => e = .returned (.tuple #[.agg #[.int .i64 Y, .int .i64 M, .int .i64 D], .bool v]) ∧ Below w.heap.size w w' := by
  obtain ⟨i0, hi, hz0, hz1, hz2⟩ := info_parts infoInt
  have hlen : s.length = 10 := by rw [hs]; rfl
  have IX0 : ∀ w, (Instr.index 9 (.string ⟨s.toArray⟩) (.int .i64 0)).run Tryz.prog w = .ok (.int .u8 (b0.toNat : Int)) w := fun w => index_str (P := Tryz.prog) 9 Tryz.underlying9 s .i64 0 b0 (by rw [hs]; rfl) w
  have IX1 : ∀ w, (Instr.index 9 (.string ⟨s.toArray⟩) (.int .i64 1)).run Tryz.prog w = .ok (.int .u8 (b1.toNat : Int)) w := fun w => index_str (P := Tryz.prog) 9 Tryz.underlying9 s .i64 1 b1 (by rw [hs]; rfl) w
  have IX2 : ∀ w, (Instr.index 9 (.string ⟨s.toArray⟩) (.int .i64 2)).run Tryz.prog w = .ok (.int .u8 (b2.toNat : Int)) w := fun w => index_str (P := Tryz.prog) 9 Tryz.underlying9 s .i64 2 b2 (by rw [hs]; rfl) w
  have IX3 : ∀ w, (Instr.index 9 (.string ⟨s.toArray⟩) (.int .i64 3)).run Tryz.prog w = .ok (.int .u8 (b3.toNat : Int)) w := fun w => index_str (P := Tryz.prog) 9 Tryz.underlying9 s .i64 3 b3 (by rw [hs]; rfl) w
  have IX4 : ∀ w, (Instr.index 9 (.string ⟨s.toArray⟩) (.int .i64 4)).run Tryz.prog w = .ok (.int .u8 45) w := fun w => index_str (P := Tryz.prog) 9 Tryz.underlying9 s .i64 4 45 (by rw [hs]; rfl) w
  have IX5 : ∀ w, (Instr.index 9 (.string ⟨s.toArray⟩) (.int .i64 5)).run Tryz.prog w = .ok (.int .u8 (b5.toNat : Int)) w := fun w => index_str (P := Tryz.prog) 9 Tryz.underlying9 s .i64 5 b5 (by rw [hs]; rfl) w
  have IX6 : ∀ w, (Instr.index 9 (.string ⟨s.toArray⟩) (.int .i64 6)).run Tryz.prog w = .ok (.int .u8 (b6.toNat : Int)) w := fun w => index_str (P := Tryz.prog) 9 Tryz.underlying9 s .i64 6 b6 (by rw [hs]; rfl) w
  have IX7 : ∀ w, (Instr.index 9 (.string ⟨s.toArray⟩) (.int .i64 7)).run Tryz.prog w = .ok (.int .u8 45) w := fun w => index_str (P := Tryz.prog) 9 Tryz.underlying9 s .i64 7 45 (by rw [hs]; rfl) w
  have IX8 : ∀ w, (Instr.index 9 (.string ⟨s.toArray⟩) (.int .i64 8)).run Tryz.prog w = .ok (.int .u8 (b8.toNat : Int)) w := fun w => index_str (P := Tryz.prog) 9 Tryz.underlying9 s .i64 8 b8 (by rw [hs]; rfl) w
  have IX9 : ∀ w, (Instr.index 9 (.string ⟨s.toArray⟩) (.int .i64 9)).run Tryz.prog w = .ok (.int .u8 (b9.toNat : Int)) w := fun w => index_str (P := Tryz.prog) 9 Tryz.underlying9 s .i64 9 b9 (by rw [hs]; rfl) w
  have P1 : ∀ w, (Instr.slice 9 (.string ⟨s.toArray⟩) none (some (.int .i64 4)) none).run Tryz.prog w = .ok (.string ⟨(s.take 4).toArray⟩) w := fun w => slice_to (P := Tryz.prog) 9 Tryz.underlying9 s .i64 4 (by omega) w
  have P2 : ∀ w, (Instr.slice 9 (.string ⟨s.toArray⟩) (some (.int .i64 5)) (some (.int .i64 7)) none).run Tryz.prog w = .ok (.string ⟨((s.drop 5).take (7 - 5)).toArray⟩) w := fun w => slice_mid (P := Tryz.prog) 9 Tryz.underlying9 s .i64 .i64 5 7 (by omega) (by omega) w
  have P3 : ∀ w, (Instr.slice 9 (.string ⟨s.toArray⟩) (some (.int .i64 8)) none none).run Tryz.prog w = .ok (.string ⟨(s.drop 8).toArray⟩) w := fun w => slice_from (P := Tryz.prog) 9 Tryz.underlying9 s .i64 8 (by omega) w
  have S1 := fun w => add_str (P := Tryz.prog) (s.take 4) ((s.drop 5).take (7 - 5)) (by simp; omega) w
  have S2 := fun w => add_str (P := Tryz.prog) (s.take 4 ++ (s.drop 5).take (7 - 5)) (s.drop 8) (by simp; omega) w
  have CO := Lib.hid fun w => only_any (s.take 4 ++ (s.drop 5).take (7 - 5) ++ s.drop 8) [48, 49, 50, 51, 52, 53, 54, 55, 56, 57] 8 8 w (by simp; omega) (by simp)
  have HO := Lib.hid (show onlyB (s.take 4 ++ (s.drop 5).take (7 - 5) ++ s.drop 8) [48, 49, 50, 51, 52, 53, 54, 55, 56, 57] 8 8 = true by
    rw [hs]
    exact only_digits [b0, b1, b2, b3, b5, b6, b8, b9] rfl (fun c hc => by
      simp only [List.mem_cons, List.not_mem_nil, or_false] at hc
      rcases hc with rfl | rfl | rfl | rfl | rfl | rfl | rfl | rfl <;> constructor <;> assumption))
  rw [HO.out] at CO
  clear HO hs
  generalize s.take 4 = A at *
  generalize (s.drop 5).take (7 - 5) = B at *
  generalize s.drop 8 = C at *
  generalize A ++ B = AB at *
  generalize AB ++ C = ABC at *
  have E1 := Lib.hid e1
  have E2 := Lib.hid e2
  have E3 := Lib.hid e3
  have E4 := Lib.hid e4
  have E6 := Lib.hid e6
  have E7 := Lib.hid e7
  have E9 := Lib.hid e9
  have E10 := Lib.hid e10
  clear e1 e2 e3 e4 e6 e7 e9 e10
  have u0 : IntKind.u8.wrap ((b0.toNat : Int) - 48) = (b0.toNat : Int) - 48 := u8_sub _ g0 f0
  have u1 : IntKind.u8.wrap ((b1.toNat : Int) - 48) = (b1.toNat : Int) - 48 := u8_sub _ g1 f1
  have u2 : IntKind.u8.wrap ((b2.toNat : Int) - 48) = (b2.toNat : Int) - 48 := u8_sub _ g2 f2
  have u3 : IntKind.u8.wrap ((b3.toNat : Int) - 48) = (b3.toNat : Int) - 48 := u8_sub _ g3 f3
  have u5 : IntKind.u8.wrap ((b5.toNat : Int) - 48) = (b5.toNat : Int) - 48 := u8_sub _ g5 f5
  have u6 : IntKind.u8.wrap ((b6.toNat : Int) - 48) = (b6.toNat : Int) - 48 := u8_sub _ g6 f6
  have u8 : IntKind.u8.wrap ((b8.toNat : Int) - 48) = (b8.toNat : Int) - 48 := u8_sub _ g8 f8
  have u9 : IntKind.u8.wrap ((b9.toNat : Int) - 48) = (b9.toNat : Int) - 48 := u8_sub _ g9 f9
  have v1 : 0 ≤ n1 ∧ n1 ≤ 9 := by have := E1.out; omega
  obtain ⟨v1a, v1b⟩ := v1
  have v2 : 0 ≤ n2 ∧ n2 ≤ 99 := by have := E2.out; omega
  obtain ⟨v2a, v2b⟩ := v2
  have v3 : 0 ≤ n3 ∧ n3 ≤ 999 := by have := E3.out; omega
  obtain ⟨v3a, v3b⟩ := v3
  have v4 : 0 ≤ Y ∧ Y ≤ 9999 := by have := E4.out; omega
  obtain ⟨v4a, v4b⟩ := v4
  have v6 : 0 ≤ n6 ∧ n6 ≤ 9 := by have := E6.out; omega
  obtain ⟨v6a, v6b⟩ := v6
  have v7 : 0 ≤ M ∧ M ≤ 99 := by have := E7.out; omega
  obtain ⟨v7a, v7b⟩ := v7
  have v9 : 0 ≤ n9 ∧ n9 ≤ 9 := by have := E9.out; omega
  obtain ⟨v9a, v9b⟩ := v9
  have v10 : 0 ≤ D ∧ D ≤ 99 := by have := E10.out; omega
  obtain ⟨v10a, v10b⟩ := v10
  go_enter Tryz.func14, Tryz.ntmps14
  go_wp2_with fail
  go_big_quiet ((go_at_call 24; exact quiet_drew (CO.out _)))
  clear P1 P2 P3 S1 S2 CO
  go_wp2_with fail
  go_loopw [4, 5, 6] (fun n l i wr => Hid (Below (w.alloc (.cells #[.int .i64 0, .int .i64 0, .int .i64 0] 23)).heap.size (w.alloc (.cells #[.int .i64 0, .int .i64 0, .int .i64 0] 23)) wr) ∧ ((i = .int .i64 0 ∧ n = .int .i64 0 ∧ Hid (wr.ownsRow (w.heap.size + 1) 3 1 l 0 [])) ∨ (i = .int .i64 1 ∧ n = .int .i64 n1 ∧ Hid (wr.ownsRow (w.heap.size + 1) 3 1 l 0 [])) ∨ (i = .int .i64 2 ∧ n = .int .i64 n2 ∧ Hid (wr.ownsRow (w.heap.size + 1) 3 1 l 0 [])) ∨ (i = .int .i64 3 ∧ n = .int .i64 n3 ∧ Hid (wr.ownsRow (w.heap.size + 1) 3 1 l 0 [])) ∨ (i = .int .i64 4 ∧ n = .int .i64 Y ∧ Hid (wr.ownsRow (w.heap.size + 1) 3 1 l 0 [])) ∨ (i = .int .i64 5 ∧ n = .int .i64 0 ∧ Hid (wr.ownsRow (w.heap.size + 1) 3 1 l 1 [.int .i64 Y])) ∨ (i = .int .i64 6 ∧ n = .int .i64 n6 ∧ Hid (wr.ownsRow (w.heap.size + 1) 3 1 l 1 [.int .i64 Y])) ∨ (i = .int .i64 7 ∧ n = .int .i64 M ∧ Hid (wr.ownsRow (w.heap.size + 1) 3 1 l 1 [.int .i64 Y])) ∨ (i = .int .i64 8 ∧ n = .int .i64 0 ∧ Hid (wr.ownsRow (w.heap.size + 1) 3 1 l 2 [.int .i64 Y, .int .i64 M])) ∨ (i = .int .i64 9 ∧ n = .int .i64 n9 ∧ Hid (wr.ownsRow (w.heap.size + 1) 3 1 l 2 [.int .i64 Y, .int .i64 M])) ∨ (i = .int .i64 10 ∧ n = .int .i64 D ∧ Hid (wr.ownsRow (w.heap.size + 1) 3 1 l 2 [.int .i64 Y, .int .i64 M])) ∨ (i = .int .i64 11 ∧ n = .int .i64 0 ∧ Hid (wr.ownsRow (w.heap.size + 1) 3 1 l 3 [.int .i64 Y, .int .i64 M, .int .i64 D])))) (fun _ _ i _ => 11 - (RowKit.intOf i).toNat)
  case atStart => exact ⟨Lib.hid (blw_drewN (Below.refl _ _) _), .inl ⟨rfl, rfl, Lib.hid ⟨rfl, .inl ⟨rfl, rfl⟩⟩⟩⟩
  case round =>
    obtain ⟨HB, hr⟩ := hrel
    rcases hr with ⟨rfl, rfl, HO⟩ | ⟨rfl, rfl, HO⟩ | ⟨rfl, rfl, HO⟩ | ⟨rfl, rfl, HO⟩ | ⟨rfl, rfl, HO⟩ | ⟨rfl, rfl, HO⟩ | ⟨rfl, rfl, HO⟩ | ⟨rfl, rfl, HO⟩ | ⟨rfl, rfl, HO⟩ | ⟨rfl, rfl, HO⟩ | ⟨rfl, rfl, HO⟩ | ⟨rfl, rfl, HO⟩
    · go_wp2_with fail
      go_roundw
      case rel => exact ⟨HB, .inr (.inl ⟨rfl, congrArg (Value.int .i64) (by have := E1.out; omega), HO⟩)⟩
      case measure => simp [RowKit.intOf]
    · go_wp2_with fail
      go_roundw
      case rel => exact ⟨HB, .inr (.inr (.inl ⟨rfl, congrArg (Value.int .i64) (by have := E2.out; omega), HO⟩))⟩
      case measure => simp [RowKit.intOf]
    · go_wp2_with fail
      go_roundw
      case rel => exact ⟨HB, .inr (.inr (.inr (.inl ⟨rfl, congrArg (Value.int .i64) (by have := E3.out; omega), HO⟩)))⟩
      case measure => simp [RowKit.intOf]
    · go_wp2_with fail
      go_roundw
      case rel => exact ⟨HB, .inr (.inr (.inr (.inr (.inl ⟨rfl, congrArg (Value.int .i64) (by have := E4.out; omega), HO⟩))))⟩
      case measure => simp [RowKit.intOf]
    · have hown := HO.out
      have hbs := HB.out.size
      have hbs' : w.heap.size + 1 ≤ wr.heap.size := by simpa using hbs
      go_wp2_with (at_builtin; refine wpList_append_own _ rfl _ _ 49 rfl (w.heap.size + 1) 3 i0 (.int .i64 0) 1 8 Tryz.underlying49 hi hz0 hz1 hz2 rfl (by decide) _ _ _ rfl (hown.alloc _) ⟨wr.heap.size, 0, none⟩ 1 1 [.int .i64 Y] rfl rfl (cell_one_new _ _ _) (fun x hx => by simp at hx; subst hx; rfl) (by unfold maxLen; omega) (by omega) (by simp; omega) ?_; intro v' w1 hown' hgrow _)
      have HO' := Lib.hid (show w1.ownsRow (w.heap.size + 1) 3 1 v' 1 [.int .i64 Y] from by simpa using hown')
      have HB' := Lib.hid (show Below (w.alloc (.cells #[.int .i64 0, .int .i64 0, .int .i64 0] 23)).heap.size (w.alloc (.cells #[.int .i64 0, .int .i64 0, .int .i64 0] 23)) w1 from (HB.out.alloc hbs _).grown hgrow (by simp; omega) (fun k hk => by simpa using (hown.lt k hk).1))
      clear hown hown' hgrow hbs HO HB
      go_wp2_with fail
      go_roundw
      case rel => exact ⟨HB', .inr (.inr (.inr (.inr (.inr (.inl ⟨rfl, rfl, HO'⟩)))))⟩
      case measure => simp [RowKit.intOf]
    · go_wp2_with fail
      go_roundw
      case rel => exact ⟨HB, .inr (.inr (.inr (.inr (.inr (.inr (.inl ⟨rfl, congrArg (Value.int .i64) (by have := E6.out; omega), HO⟩))))))⟩
      case measure => simp [RowKit.intOf]
    · go_wp2_with fail
      go_roundw
      case rel => exact ⟨HB, .inr (.inr (.inr (.inr (.inr (.inr (.inr (.inl ⟨rfl, congrArg (Value.int .i64) (by have := E7.out; omega), HO⟩)))))))⟩
      case measure => simp [RowKit.intOf]
    · have hown := HO.out
      have hbs := HB.out.size
      have hbs' : w.heap.size + 1 ≤ wr.heap.size := by simpa using hbs
      go_wp2_with (at_builtin; refine wpList_append_own _ rfl _ _ 49 rfl (w.heap.size + 1) 3 i0 (.int .i64 0) 1 8 Tryz.underlying49 hi hz0 hz1 hz2 rfl (by decide) _ _ _ rfl (hown.alloc _) ⟨wr.heap.size, 0, none⟩ 1 1 [.int .i64 M] rfl rfl (cell_one_new _ _ _) (fun x hx => by simp at hx; subst hx; rfl) (by unfold maxLen; omega) (by omega) (by simp; omega) ?_; intro v' w1 hown' hgrow _)
      have HO' := Lib.hid (show w1.ownsRow (w.heap.size + 1) 3 1 v' 2 [.int .i64 Y, .int .i64 M] from by simpa using hown')
      have HB' := Lib.hid (show Below (w.alloc (.cells #[.int .i64 0, .int .i64 0, .int .i64 0] 23)).heap.size (w.alloc (.cells #[.int .i64 0, .int .i64 0, .int .i64 0] 23)) w1 from (HB.out.alloc hbs _).grown hgrow (by simp; omega) (fun k hk => by simpa using (hown.lt k hk).1))
      clear hown hown' hgrow hbs HO HB
      go_wp2_with fail
      go_roundw
      case rel => exact ⟨HB', .inr (.inr (.inr (.inr (.inr (.inr (.inr (.inr (.inl ⟨rfl, rfl, HO'⟩))))))))⟩
      case measure => simp [RowKit.intOf]
    · go_wp2_with fail
      go_roundw
      case rel => exact ⟨HB, .inr (.inr (.inr (.inr (.inr (.inr (.inr (.inr (.inr (.inl ⟨rfl, congrArg (Value.int .i64) (by have := E9.out; omega), HO⟩)))))))))⟩
      case measure => simp [RowKit.intOf]
    · go_wp2_with fail
      go_roundw
      case rel => exact ⟨HB, .inr (.inr (.inr (.inr (.inr (.inr (.inr (.inr (.inr (.inr (.inl ⟨rfl, congrArg (Value.int .i64) (by have := E10.out; omega), HO⟩))))))))))⟩
      case measure => simp [RowKit.intOf]
    · have hown := HO.out
      have hbs := HB.out.size
      have hbs' : w.heap.size + 1 ≤ wr.heap.size := by simpa using hbs
      go_wp2_with (at_builtin; refine wpList_append_own _ rfl _ _ 49 rfl (w.heap.size + 1) 3 i0 (.int .i64 0) 1 8 Tryz.underlying49 hi hz0 hz1 hz2 rfl (by decide) _ _ _ rfl (hown.alloc _) ⟨wr.heap.size, 0, none⟩ 1 1 [.int .i64 D] rfl rfl (cell_one_new _ _ _) (fun x hx => by simp at hx; subst hx; rfl) (by unfold maxLen; omega) (by omega) (by simp; omega) ?_; intro v' w1 hown' hgrow _)
      have HO' := Lib.hid (show w1.ownsRow (w.heap.size + 1) 3 1 v' 3 [.int .i64 Y, .int .i64 M, .int .i64 D] from by simpa using hown')
      have HB' := Lib.hid (show Below (w.alloc (.cells #[.int .i64 0, .int .i64 0, .int .i64 0] 23)).heap.size (w.alloc (.cells #[.int .i64 0, .int .i64 0, .int .i64 0] 23)) w1 from (HB.out.alloc hbs _).grown hgrow (by simp; omega) (fun k hk => by simpa using (hown.lt k hk).1))
      clear hown hown' hgrow hbs HO HB
      go_wp2_with fail
      go_roundw
      case rel => exact ⟨HB', .inr (.inr (.inr (.inr (.inr (.inr (.inr (.inr (.inr (.inr (.inr (⟨rfl, rfl, HO'⟩)))))))))))⟩
      case measure => simp [RowKit.intOf]
    · obtain ⟨g, cap, rfl, hg, hc1, hc2, hcell⟩ := own_cells HO.out (by omega)
      unfold maxLen at hc2
      have q0 := hcell 0 _ rfl
      have q1 := hcell 1 _ rfl
      have q2 := hcell 2 _ rfl
      have HR := Lib.hid ((Boxed.made w #[.int .i64 0, .int .i64 0, .int .i64 0] 23).below HB.out)
      clear hcell HO
      go_wp2_with fail
      have nn0 := World.new_ne _ _ q0
      have nn1 := World.new_ne _ _ q1
      have nn2 := World.new_ne _ _ q2
      go_region_held3 (fun w' => w'.cell? ⟨g, 0, none⟩ = some (.int .i64 Y) ∧ w'.cell? ⟨g, 1, none⟩ = some (.int .i64 M) ∧ w'.cell? ⟨g, 2, none⟩ = some (.int .i64 D)) (go_keep) (fail)
      go_wp2_with fail
      have rc0 := HR.out.cell 0 _ rfl
      have rc1 := HR.out.cell 1 _ rfl
      have rc2 := HR.out.cell 2 _ rfl
      have rf0 := HR.out.free 0 (by simp)
      have rf1 := HR.out.free 1 (by simp)
      have rf2 := HR.out.free 2 (by simp)
      have HW := Lib.hid (show Below w.heap.size w (wr.drew.alloc (.cells #[.int .i64 Y, .int .i64 M, .int .i64 D] 23)) from blw_trans (blw_alloc w _) (((HB.out).drew).alloc HB.out.size _))
      have lr := HR.out.lt
      have ne1 : ¬ wr.heap.size = w.heap.size := by omega
      have ne2 : ¬ w.heap.size = wr.heap.size := by omega
      clear HR HB q0 q1 q2
      have d0 : (wr.drew.alloc (.cells #[.int .i64 Y, .int .i64 M, .int .i64 D] 23)).frozen? ⟨w.heap.size, 0, none⟩ = false := ((blw_alloc wr.drew _).frozen lr).trans rf0
      have d1 : (wr.drew.alloc (.cells #[.int .i64 Y, .int .i64 M, .int .i64 D] 23)).frozen? ⟨w.heap.size, 1, none⟩ = false := ((blw_alloc wr.drew _).frozen lr).trans rf1
      have d2 : (wr.drew.alloc (.cells #[.int .i64 Y, .int .i64 M, .int .i64 D] 23)).frozen? ⟨w.heap.size, 2, none⟩ = false := ((blw_alloc wr.drew _).frozen lr).trans rf2
      go_region_with ((go_at_call 5; refine (CF.out _).mono ?_; rintro e w2 ⟨rfl, hb⟩; have HW2 := Lib.hid (blw_trans (show Below w.heap.size w _ by repeat (first | exact HW.out | refine blw_drewN ?_ _ | refine Below.drew ?_)) hb); have y0 := cell_keep (a := ⟨wr.heap.size, 0, none⟩) (v := .int .i64 Y) (by go_keep) hb; have y1 := cell_keep (a := ⟨wr.heap.size, 1, none⟩) (v := .int .i64 M) (by go_keep) hb; have y2 := cell_keep (a := ⟨wr.heap.size, 2, none⟩) (v := .int .i64 D) (by go_keep) hb; have r0 := cell_keep (a := ⟨w.heap.size, 0, none⟩) (v := .int .i64 0) (by go_keep) hb; have r1 := cell_keep (a := ⟨w.heap.size, 1, none⟩) (v := .int .i64 0) (by go_keep) hb; have r2 := cell_keep (a := ⟨w.heap.size, 2, none⟩) (v := .int .i64 0) (by go_keep) hb; have s0 := (hb.frozen (p := ⟨w.heap.size, 0, none⟩) (by simp; omega)).trans d0; have s1 := (hb.frozen (p := ⟨w.heap.size, 1, none⟩) (by simp; omega)).trans d1; have s2 := (hb.frozen (p := ⟨w.heap.size, 2, none⟩) (by simp; omega)).trans d2; clear hb))
      all_goals go_wp2_with fail
      all_goals refine bodyPost_ret (v := .tuple #[.agg #[.int .i64 Y, .int .i64 M, .int .i64 D], .bool v]) (by simp [results, Tryz.results14, go_sem, r0, r1, r2]) rfl ⟨rfl, ?_⟩
      all_goals repeat (first | exact HW2.out | refine blw_drewN ?_ _ | refine Below.drew ?_ | refine Below.setCell ?_ (by simp) _)
end Go.Proofs.YtdcemkfljhdceaaGreatDoor
