/- The law WeekTells: it returns true of whatever day, week and year. -/
import Derived.Test.YtdcemkfljhdceaaDoorWkTellsB
namespace Go.Proofs.YtdcemkfljhdceaaDoor
open Go.RowKit

theorem rwd_no (y k d : Int) (w : World) (h : ¬ (rightWk y k d ∧ Cal.fst y + 7 * (k - 1) + d - 1 < 3652059)) :
    Calls Tryd.prog 10 #[.agg #[.int .i64 y, .int .i64 k, .int .i64 d]] w fun e w' => e = .returned (.tuple #[.agg #[.int .i64 0, .int .i64 0, .int .i64 0], .bool false]) ∧ Below w.heap.size w w' := by
  by_cases h1 : y < 1
  · exact rwd_0 y k d w h1
  by_cases h2 : 9999 < y
  · exact rwd_1 y k d w h1 h2
  by_cases h3 : k < 1
  · exact rwd_2 y k d w h1 h2 h3
  by_cases h4 : 53 < k
  · exact rwd_3 y k d w h1 h2 h3 h4
  by_cases h5 : d < 1
  · exact rwd_4 y k d w h1 h2 h3 h4 h5
  by_cases h6 : 7 < d
  · exact rwd_5 y k d w h1 h2 h3 h4 h5 h6
  by_cases h7 : Cal.wks y < k
  · exact rwd_6 y k d w h1 h2 h3 h4 h5 h6 h7
  have hr : rightWk y k d := ⟨by omega, by omega, by omega, by omega, by omega, by omega⟩
  have hl : 3652059 ≤ Cal.fst y + 7 * (k - 1) + d - 1 := by
    rcases Int.lt_or_le (Cal.fst y + 7 * (k - 1) + d - 1) 3652059 with g | g
    · exact absurd ⟨hr, g⟩ h
    · exact g
  exact rwd_late y k d _ w hr rfl (Lib.hid fun w => rdof_no _ w (.inr hl))

theorem day_pair {y m d : Int} (h : Cal.vld y m d) : ∃ a b c : Int, (∀ w : World, Calls Tryd.prog 7 #[.agg #[.int .i64 y, .int .i64 m, .int .i64 d]] w fun e w' => e = .returned (.agg #[.int .i64 a, .int .i64 b, .int .i64 c]) ∧ Below w.heap.size w w') ∧
    ∀ w : World, TPH w → Calls Tryd.prog 8 #[.agg #[.int .i64 y, .int .i64 m, .int .i64 d]] w fun e w' => e = .returned (.tuple #[.agg #[.int .i64 a, .int .i64 b, .int .i64 c], .nilIface]) ∧ Below w.heap.size w w' := by
  obtain ⟨Y, hk, h1, h2⟩ := Cal.has_wk h
  refine ⟨Y, _, _, fun w => rweekOf_any y m d Y w h h1 h2 hk.1 hk.2, fun w hT => (weekOf_yes y m d w h hT.t).mono ?_⟩
  rintro e w' ⟨Y', rfl, hk', hb⟩
  obtain rfl := Cal.isWk_inj hk hk'
  exact ⟨rfl, hb⟩
theorem week_pair {y k d : Int} (h : rightWk y k d) (hn : Cal.fst y + 7 * (k - 1) + d - 1 < 3652059) : ∃ a b c : Int, (∀ w : World, Calls Tryd.prog 10 #[.agg #[.int .i64 y, .int .i64 k, .int .i64 d]] w fun e w' => e = .returned (.tuple #[.agg #[.int .i64 a, .int .i64 b, .int .i64 c], .bool true]) ∧ Below w.heap.size w w') ∧
    ∀ w : World, TPH w → Calls Tryd.prog 12 #[.agg #[.int .i64 y, .int .i64 k, .int .i64 d]] w fun e w' => e = .returned (.tuple #[.agg #[.int .i64 a, .int .i64 b, .int .i64 c], .nilIface]) ∧ Below w.heap.size w w' := by
  have f1 := Cal.fst_rng y h.1 (by have := h.2.1; omega)
  have kb := h.2.2
  obtain ⟨a, b, c, hv, he⟩ := Cal.has_day (Cal.fst y + 7 * (k - 1) + d - 1) (by omega) hn
  refine ⟨a, b, c, fun w => rwd_yes y k d _ a b c w h rfl (Lib.hid fun w => rdof_yes _ a b c w hv he), fun w hT => (weekDate_yes y k d w h hT.t hn).mono ?_⟩
  rintro e w' ⟨a', b', c', rfl, hv', he', hb⟩
  obtain ⟨rfl, rfl, rfl⟩ := Cal.num_inj hv hv' (he.trans he'.symm)
  exact ⟨rfl, hb⟩
theorem bel_same {P : Program} {f : FuncId} {args : Array Value} {v : Value} (h : ∀ w : World, Calls P f args w fun e w' => e = .returned v ∧ w = w') (w : World) : Calls P f args w fun e w' => e = .returned v ∧ w = w' := h w

theorem weekTells_any (y m d p q r x : Int) (w : World) (hT : TPH w) (bp : p ≤ 9223372036854775807) (bq : q ≤ 9223372036854775807) (br : r ≤ 9223372036854775807) :
    Calls Tryd.prog 3 #[.agg #[.int .i64 y, .int .i64 m, .int .i64 d], .agg #[.int .i64 p, .int .i64 q, .int .i64 r], .int .i64 x] w fun e w' => e = .returned (.bool true) ∧ Below w.heap.size w w' := by
  have d1 := fun w => digits_any (max p 0) 4 w (by omega) (by omega) (by omega) (by omega)
  have d2 := fun w => digits_any (max q 0) 2 w (by omega) (by omega) (by omega) (by omega)
  have d3 := fun w => digits_any (max r 0) 1 w (by omega) (by omega) (by omega) (by omega)
  have lp := pad_len 4 (max p 0).toNat (by omega) (by omega)
  have lq := pad_len 2 (max q 0).toNat (by omega) (by omega)
  have lr := pad_len 1 (max r 0).toNat (by omega) (by omega)
  by_cases h : Cal.vld y m d
  · obtain ⟨A1, A2, A3, a1, a2⟩ := day_pair h
    by_cases g : rightWk p q r ∧ Cal.fst p + 7 * (q - 1) + r - 1 < 3652059
    · obtain ⟨X1, X2, X3, b1, b2⟩ := week_pair g.1 g.2
      have c1 := fun w (hT : TPH w) => wtext_yes p q r w hT.t hT.p g.1 g.2
      obtain ⟨g1, g2, g3, g4, g5, g6⟩ := g.1
      have e1 : Dtx.pad 4 (max p 0).toNat ++ [45, 87] ++ Dtx.pad 2 (max q 0).toNat ++ [45] ++ Dtx.pad 1 (max r 0).toNat = wtxt p q r := by
        rw [show max p 0 = p by omega, show max q 0 = q by omega, show max r 0 = r by omega]; rfl
      by_cases x1 : x < 1
      · exact weekTells_dwlt _ _ _ _ _ _ _ _ _ _ _ _ _ _ _ _ _ _ _ _ w hT lp lq lr e1 rfl rfl rfl (Lib.hid fun w => rfault_yes y m d w h) (Lib.hid a1) (Lib.hid a2) (Lib.hid fun w => b1 w) (Lib.hid d1) (Lib.hid d2) (Lib.hid d3) (Lib.hid b2) (Lib.hid fun w (hT : TPH w) => c1 w hT) x1 (Lib.hid fun w => weeks_no x w (.inl x1))
      by_cases x2 : 9999 < x
      · exact weekTells_dwgt _ _ _ _ _ _ _ _ _ _ _ _ _ _ _ _ _ _ _ _ w hT lp lq lr e1 rfl rfl rfl (Lib.hid fun w => rfault_yes y m d w h) (Lib.hid a1) (Lib.hid a2) (Lib.hid fun w => b1 w) (Lib.hid d1) (Lib.hid d2) (Lib.hid d3) (Lib.hid b2) (Lib.hid fun w (hT : TPH w) => c1 w hT) x1 x2 (Lib.hid fun w => weeks_no x w (.inr x2))
      exact weekTells_dwok _ _ _ _ _ _ _ _ _ _ _ _ _ _ _ _ _ _ _ _ _ w hT lp lq lr e1 rfl rfl rfl (Lib.hid fun w => rfault_yes y m d w h) (Lib.hid a1) (Lib.hid a2) (Lib.hid fun w => b1 w) (Lib.hid d1) (Lib.hid d2) (Lib.hid d3) (Lib.hid b2) (Lib.hid fun w (hT : TPH w) => c1 w hT) x1 x2 (Lib.hid fun w => rweeks_any x w (by omega) (by omega)) (Lib.hid fun w => weeks_yes x w (by omega) (by omega))
    · skip
      by_cases x1 : x < 1
      · exact weekTells_dnlt _ _ _ _ _ _ _ _ _ _ _ _ _ _ _ _ _ w hT lp lq lr rfl rfl rfl rfl (Lib.hid fun w => rfault_yes y m d w h) (Lib.hid a1) (Lib.hid a2) (Lib.hid fun w => rwd_no p q r w g) (Lib.hid d1) (Lib.hid d2) (Lib.hid d3) (Lib.hid fun w (_ : TPH w) => weekDate_no p q r w g) (Lib.hid fun w (hT : TPH w) => wtext_no p q r w g) x1 (Lib.hid fun w => weeks_no x w (.inl x1))
      by_cases x2 : 9999 < x
      · exact weekTells_dngt _ _ _ _ _ _ _ _ _ _ _ _ _ _ _ _ _ w hT lp lq lr rfl rfl rfl rfl (Lib.hid fun w => rfault_yes y m d w h) (Lib.hid a1) (Lib.hid a2) (Lib.hid fun w => rwd_no p q r w g) (Lib.hid d1) (Lib.hid d2) (Lib.hid d3) (Lib.hid fun w (_ : TPH w) => weekDate_no p q r w g) (Lib.hid fun w (hT : TPH w) => wtext_no p q r w g) x1 x2 (Lib.hid fun w => weeks_no x w (.inr x2))
      exact weekTells_dnok _ _ _ _ _ _ _ _ _ _ _ _ _ _ _ _ _ _ w hT lp lq lr rfl rfl rfl rfl (Lib.hid fun w => rfault_yes y m d w h) (Lib.hid a1) (Lib.hid a2) (Lib.hid fun w => rwd_no p q r w g) (Lib.hid d1) (Lib.hid d2) (Lib.hid d3) (Lib.hid fun w (_ : TPH w) => weekDate_no p q r w g) (Lib.hid fun w (hT : TPH w) => wtext_no p q r w g) x1 x2 (Lib.hid fun w => rweeks_any x w (by omega) (by omega)) (Lib.hid fun w => weeks_yes x w (by omega) (by omega))
  · skip
    by_cases g : rightWk p q r ∧ Cal.fst p + 7 * (q - 1) + r - 1 < 3652059
    · obtain ⟨X1, X2, X3, b1, b2⟩ := week_pair g.1 g.2
      have c1 := fun w (hT : TPH w) => wtext_yes p q r w hT.t hT.p g.1 g.2
      obtain ⟨g1, g2, g3, g4, g5, g6⟩ := g.1
      have e1 : Dtx.pad 4 (max p 0).toNat ++ [45, 87] ++ Dtx.pad 2 (max q 0).toNat ++ [45] ++ Dtx.pad 1 (max r 0).toNat = wtxt p q r := by
        rw [show max p 0 = p by omega, show max q 0 = q by omega, show max r 0 = r by omega]; rfl
      by_cases x1 : x < 1
      · exact weekTells_nwlt _ _ _ _ _ _ _ _ _ _ _ _ _ _ _ _ _ w hT lp lq lr e1 rfl rfl rfl (Lib.hid fun w => rfault_no y m d w h) (Lib.hid fun w (hT : TPH w) => weekOf_no y m d w h hT.t) (Lib.hid fun w => b1 w) (Lib.hid d1) (Lib.hid d2) (Lib.hid d3) (Lib.hid b2) (Lib.hid fun w (hT : TPH w) => c1 w hT) x1 (Lib.hid fun w => weeks_no x w (.inl x1))
      by_cases x2 : 9999 < x
      · exact weekTells_nwgt _ _ _ _ _ _ _ _ _ _ _ _ _ _ _ _ _ w hT lp lq lr e1 rfl rfl rfl (Lib.hid fun w => rfault_no y m d w h) (Lib.hid fun w (hT : TPH w) => weekOf_no y m d w h hT.t) (Lib.hid fun w => b1 w) (Lib.hid d1) (Lib.hid d2) (Lib.hid d3) (Lib.hid b2) (Lib.hid fun w (hT : TPH w) => c1 w hT) x1 x2 (Lib.hid fun w => weeks_no x w (.inr x2))
      exact weekTells_nwok _ _ _ _ _ _ _ _ _ _ _ _ _ _ _ _ _ _ w hT lp lq lr e1 rfl rfl rfl (Lib.hid fun w => rfault_no y m d w h) (Lib.hid fun w (hT : TPH w) => weekOf_no y m d w h hT.t) (Lib.hid fun w => b1 w) (Lib.hid d1) (Lib.hid d2) (Lib.hid d3) (Lib.hid b2) (Lib.hid fun w (hT : TPH w) => c1 w hT) x1 x2 (Lib.hid fun w => rweeks_any x w (by omega) (by omega)) (Lib.hid fun w => weeks_yes x w (by omega) (by omega))
    · skip
      by_cases x1 : x < 1
      · exact weekTells_nnlt _ _ _ _ _ _ _ _ _ _ _ _ _ _ w hT lp lq lr rfl rfl rfl rfl (Lib.hid fun w => rfault_no y m d w h) (Lib.hid fun w (hT : TPH w) => weekOf_no y m d w h hT.t) (Lib.hid fun w => rwd_no p q r w g) (Lib.hid d1) (Lib.hid d2) (Lib.hid d3) (Lib.hid fun w (_ : TPH w) => weekDate_no p q r w g) (Lib.hid fun w (hT : TPH w) => wtext_no p q r w g) x1 (Lib.hid fun w => weeks_no x w (.inl x1))
      by_cases x2 : 9999 < x
      · exact weekTells_nngt _ _ _ _ _ _ _ _ _ _ _ _ _ _ w hT lp lq lr rfl rfl rfl rfl (Lib.hid fun w => rfault_no y m d w h) (Lib.hid fun w (hT : TPH w) => weekOf_no y m d w h hT.t) (Lib.hid fun w => rwd_no p q r w g) (Lib.hid d1) (Lib.hid d2) (Lib.hid d3) (Lib.hid fun w (_ : TPH w) => weekDate_no p q r w g) (Lib.hid fun w (hT : TPH w) => wtext_no p q r w g) x1 x2 (Lib.hid fun w => weeks_no x w (.inr x2))
      exact weekTells_nnok _ _ _ _ _ _ _ _ _ _ _ _ _ _ _ w hT lp lq lr rfl rfl rfl rfl (Lib.hid fun w => rfault_no y m d w h) (Lib.hid fun w (hT : TPH w) => weekOf_no y m d w h hT.t) (Lib.hid fun w => rwd_no p q r w g) (Lib.hid d1) (Lib.hid d2) (Lib.hid d3) (Lib.hid fun w (_ : TPH w) => weekDate_no p q r w g) (Lib.hid fun w (hT : TPH w) => wtext_no p q r w g) x1 x2 (Lib.hid fun w => rweeks_any x w (by omega) (by omega)) (Lib.hid fun w => weeks_yes x w (by omega) (by omega))
end Go.Proofs.YtdcemkfljhdceaaDoor
