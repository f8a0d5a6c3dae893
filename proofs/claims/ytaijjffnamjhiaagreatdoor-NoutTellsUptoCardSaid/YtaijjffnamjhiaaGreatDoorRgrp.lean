/- The walk of linguisterref1.Grouped. -/
import Derived.Test.YtaijjffnamjhiaaGreatDoorOnly
import Derived.Test.YtaijjffnamjhiaaGreatDoorGput
import Derived.Test.YtaijjffnamjhiaaGreatDoorGout
import Derived.Test.YtaijjffnamjhiaaGreatDoorGrpPut
namespace Go.Proofs.YtaijjffnamjhiaaGreatDoor
open Go.RowKit

set_option maxRecDepth 100000 in
set_option maxHeartbeats 1000000 in
theorem rgrouped_few (s : List UInt8) (g g2 : Int) (c : List UInt8) (w : World) (h : g = 0 ∨ (s.length : Int) ≤ g) (_hs : s.length ≤ 1000000000) :
    Calls Tryz.prog 98 #[.string ⟨s.toArray⟩, .int .i64 g, .int .i64 g2, .string ⟨c.toArray⟩] w fun e w' => e = .returned (.string ⟨s.toArray⟩) ∧ Drew w w' := by
  by_cases h0 : g = 0
  · have b1 : (g == 0) = true := beq_yes h0
    clear h h0
    go_enter Tryz.func98, Tryz.ntmps98
    go_wp2
    go_ret
    exact ⟨rfl, Drew.refl _⟩
  · have b1 : (g == 0) = false := beq_no h0
    have b2 : decide ((s.length : Int) ≤ g) = true := dec_yes (by omega)
    clear h h0
    go_enter Tryz.func98, Tryz.ntmps98
    go_wp2
    go_ret
    exact ⟨rfl, Drew.refl _⟩

set_option maxRecDepth 100000 in
set_option maxHeartbeats 1000000 in
theorem rgrouped_by (n : Nat) : ∀ (s : List UInt8) (g g2 : Nat) (c : UInt8) (w : World), s.length ≤ n → s.length ≤ 1000000000 → 0 < g → g ≤ 4 → 0 < g2 → g2 ≤ 4 →
    Calls Tryz.prog 98 #[.string ⟨s.toArray⟩, .int .i64 g, .int .i64 g2, .string ⟨[c].toArray⟩] w fun e w' => e = .returned (.string ⟨(Grp.grouped g g2 s c).toArray⟩) ∧ Drew w w' := by
  induction n with
  | zero =>
    intro s g g2 c w hn hs g1 g4 h1 h4
    rw [Grp.grouped_one c (by omega)]
    exact rgrouped_few s g g2 [c] w (.inr (by omega)) hs
  | succ n ih =>
    intro s g g2 c w hn hs g1 g4 h1 h4
    by_cases hlt : g < s.length
    · have IH := Lib.hid ih
      clear ih
      have b1 : ((g : Int) == 0) = false := beq_no (by omega)
      have d1 : decide ((s.length : Int) ≤ (g : Int)) = false := dec_no (by omega)
      have b2 : ((g2 : Int) == 0) = false := beq_no (by omega)
      have HG := Lib.hid (Grp.grouped_cut (g2 := g2) c g1 hlt)
      have HL := Lib.hid (Grp.grouped_len s.length g2 g2 (s.take (s.length - g)) c (by simp))
      have S1 := fun w => slice_fromI (P := Tryz.prog) 9 Tryz.underlying9 s ((s.length : Int) - (g : Int)) (s.length - g) (by omega) (by omega) w
      have S2 := fun w => slice_toI (P := Tryz.prog) 9 Tryz.underlying9 s ((s.length : Int) - (g : Int)) (s.length - g) (by omega) (by omega) w
      have CI := Lib.hid fun w => IH.out (s.take (s.length - g)) g2 g2 c w (by simp; omega) (by simp; omega) h1 h4 h1 h4
      have t1 : (s.take (s.length - g)).length ≤ s.length := by simp
      have t2 : (s.drop (s.length - g)).length ≤ s.length := by simp
      generalize Grp.grouped g g2 s c = RES at *
      generalize Grp.grouped g2 g2 (s.take (s.length - g)) c = X at *
      generalize s.take (s.length - g) = U at *
      generalize s.drop (s.length - g) = V at *
      have hx := HL.out.1
      have A1 := fun w => add_str (P := Tryz.prog) X [c] (by simp; omega) w
      have A2 : ∀ w, (Op.stringOp .add ⟨(X ++ [c]).toArray⟩ ⟨V.toArray⟩).run Tryz.prog w = .ok (.string ⟨RES.toArray⟩) w := fun w => by rw [HG.out]; exact add_str (P := Tryz.prog) (X ++ [c]) V (by simp; omega) w
      generalize X ++ [c] = Y at *
      clear HG HL
      go_enter Tryz.func98, Tryz.ntmps98
      go_wp2_with fail
      go_big_quiet ((go_at_call 98; exact quiet_drew (CI.out _)))
      go_wp2_with fail
      go_ret
      exact ⟨rfl, by repeat (first | exact Drew.refl _ | refine Drew.drewN ?_ _)⟩
    · rw [Grp.grouped_one c (by omega)]
      exact rgrouped_few s g g2 [c] w (.inr (by omega)) hs
set_option maxRecDepth 100000 in
set_option maxHeartbeats 1000000 in
theorem rgrouped_alike (s : List UInt8) (g : Nat) (c : UInt8) (w : World) (hs : s.length ≤ 1000000000) (g1 : 0 < g) (g4 : g ≤ 4) :
    Calls Tryz.prog 98 #[.string ⟨s.toArray⟩, .int .i64 g, .int .i64 0, .string ⟨[c].toArray⟩] w fun e w' => e = .returned (.string ⟨(Grp.grouped g g s c).toArray⟩) ∧ Drew w w' := by
  by_cases hlt : g < s.length
  · skip
    have b1 : ((g : Int) == 0) = false := beq_no (by omega)
    have d1 : decide ((s.length : Int) ≤ (g : Int)) = false := dec_no (by omega)
    have HG := Lib.hid (Grp.grouped_cut (g2 := g) c g1 hlt)
    have HL := Lib.hid (Grp.grouped_len s.length g g (s.take (s.length - g)) c (by simp))
    have S1 := fun w => slice_fromI (P := Tryz.prog) 9 Tryz.underlying9 s ((s.length : Int) - (g : Int)) (s.length - g) (by omega) (by omega) w
    have S2 := fun w => slice_toI (P := Tryz.prog) 9 Tryz.underlying9 s ((s.length : Int) - (g : Int)) (s.length - g) (by omega) (by omega) w
    have CI := Lib.hid fun w => rgrouped_by s.length (s.take (s.length - g)) g g c w (by simp) (by simp; omega) g1 g4 g1 g4
    have t1 : (s.take (s.length - g)).length ≤ s.length := by simp
    have t2 : (s.drop (s.length - g)).length ≤ s.length := by simp
    generalize Grp.grouped g g s c = RES at *
    generalize Grp.grouped g g (s.take (s.length - g)) c = X at *
    generalize s.take (s.length - g) = U at *
    generalize s.drop (s.length - g) = V at *
    have hx := HL.out.1
    have A1 := fun w => add_str (P := Tryz.prog) X [c] (by simp; omega) w
    have A2 : ∀ w, (Op.stringOp .add ⟨(X ++ [c]).toArray⟩ ⟨V.toArray⟩).run Tryz.prog w = .ok (.string ⟨RES.toArray⟩) w := fun w => by rw [HG.out]; exact add_str (P := Tryz.prog) (X ++ [c]) V (by simp; omega) w
    generalize X ++ [c] = Y at *
    clear HG HL
    go_enter Tryz.func98, Tryz.ntmps98
    go_wp2_with fail
    go_big_quiet ((go_at_call 98; exact quiet_drew (CI.out _)))
    go_wp2_with fail
    go_ret
    exact ⟨rfl, by repeat (first | exact Drew.refl _ | refine Drew.drewN ?_ _)⟩
  · rw [Grp.grouped_one c (by omega)]
    exact rgrouped_few s g 0 [c] w (.inr (by omega)) hs
theorem rgrouped_any (s : List UInt8) (g g2 : Int) (c : UInt8) (w : World) (hs : s.length ≤ 1000000000) (hG : rightG g g2) :
    Calls Tryz.prog 98 #[.string ⟨s.toArray⟩, .int .i64 g, .int .i64 g2, .string ⟨#[c]⟩] w fun e w' => e = .returned (.string ⟨(gout s g g2 c).toArray⟩) ∧ Drew w w' := by
  obtain ⟨h1, h2, h3, h4⟩ := hG
  obtain ⟨a, rfl⟩ := Int.eq_ofNat_of_zero_le h1
  obtain ⟨b, rfl⟩ := Int.eq_ofNat_of_zero_le h3
  unfold gout
  by_cases ha : (a : Int) = 0
  · rw [if_pos ha]
    exact rgrouped_few s a b [c] w (.inl ha) hs
  · rw [if_neg ha]
    by_cases hb : (b : Int) = 0
    · rw [if_pos hb, hb]
      exact rgrouped_alike s a c w hs (by omega) (by omega)
    · rw [if_neg hb]
      exact rgrouped_by s.length s a b c w (Nat.le_refl _) hs (by omega) (by omega) (by omega) (by omega)
end Go.Proofs.YtaijjffnamjhiaaGreatDoor
