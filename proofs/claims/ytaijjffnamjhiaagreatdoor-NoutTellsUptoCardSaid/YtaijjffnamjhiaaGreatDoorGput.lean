/- The walk of group.Put, whole. Conditions: the text is of at most 1000000000 bytes. -/
import Derived.Test.YtaijjffnamjhiaaGreatDoorGrpPut
import Derived.Test.YtaijjffnamjhiaaGreatDoorGout
namespace Go.Proofs.YtaijjffnamjhiaaGreatDoor
open Go.RowKit
theorem put_ok (s : List UInt8) (g g2 : Int) (c : UInt8) (w : World) (hs : s.length ≤ 1000000000) (h : digB s = true) (hc : ¬ (48 ≤ (c.toNat : Int) ∧ (c.toNat : Int) ≤ 57)) (hG : rightG g g2) :
    Calls Tryz.prog 80 #[.string ⟨s.toArray⟩, .int .i64 g, .int .i64 g2, .int .u8 (c.toNat : Int)] w fun e w' => e = .returned (.tuple #[.string ⟨(gout s g g2 c).toArray⟩, .nilIface]) ∧ Below w.heap.size w w' := by
  have hG' := hG
  obtain ⟨h1, h2, h3, h4⟩ := hG
  obtain ⟨a, rfl⟩ := Int.eq_ofNat_of_zero_le h1
  obtain ⟨b, rfl⟩ := Int.eq_ofNat_of_zero_le h3
  unfold gout
  by_cases ha : (a : Int) = 0
  · rw [if_pos ha, ha]
    rw [ha] at hG'
    exact put_zero s b _ w (by omega) h hc hG'
  · rw [if_neg ha]
    by_cases hb : (b : Int) = 0
    · rw [if_pos hb, hb]
      exact put_some0 s a c w hs h hc (by omega) (by omega)
    · rw [if_neg hb]
      exact put_some s a b c w hs h hc (by omega) (by omega) (by omega) (by omega)
/-- what is wrong with sizes and sign: its error -/
theorem put_form (s : List UInt8) (g g2 c : Int) (w : World) (hs : s.length ≤ 1000000000) (h : digB s = true) (h1 : 48 ≤ c) (h2 : c ≤ 57) :
    Calls Tryz.prog 80 #[.string ⟨s.toArray⟩, .int .i64 g, .int .i64 g2, .int .u8 c] w fun e w' => e = .returned (.tuple #[.string ⟨#[]⟩, errV 3]) ∧ Below w.heap.size w w' :=
  put_err s g g2 c 3 w (by omega) h (Lib.hid fun w => gcheck_form g g2 c w h1 h2)
theorem put_range (s : List UInt8) (g g2 c : Int) (w : World) (hs : s.length ≤ 1000000000) (h : digB s = true) (hc : ¬ (48 ≤ c ∧ c ≤ 57)) (hG : ¬ rightG g g2) :
    Calls Tryz.prog 80 #[.string ⟨s.toArray⟩, .int .i64 g, .int .i64 g2, .int .u8 c] w fun e w' => e = .returned (.tuple #[.string ⟨#[]⟩, errV 1]) ∧ Below w.heap.size w w' :=
  put_err s g g2 c 1 w (by omega) h (Lib.hid fun w => gcheck_range g g2 c w hc hG)
theorem conv_by (c : UInt8) (w : World) : (convert 140 9 (.slice (some ⟨w.heap.size, 0, none⟩) 1 1)).run Tryz.prog (w.alloc (.cells #[byV c] 5)) = .ok (.string ⟨[c].toArray⟩) (w.alloc (.cells #[byV c] 5)) := by
  have cb := c.toNat_lt
  have q := conv_one (P := Tryz.prog) 140 9 5 Tryz.underlying140 Tryz.underlying5 Tryz.underlying9 (c.toNat : Int) w (by omega) (by omega)
  rw [show UInt8.ofNat (c.toNat : Int).toNat = c by simp] at q
  exact q
end Go.Proofs.YtaijjffnamjhiaaGreatDoor
