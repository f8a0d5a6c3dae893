/- The law GroupTells: it returns true of whatever texts and sizes. -/
import Derived.Test.YtadolhlkpnphmaaDoorGrpTellsB
namespace Go.Proofs.YtadolhlkpnphmaaDoor
open Go.RowKit

theorem groupTells_any (d s : List UInt8) (g g2 : Int) (c : UInt8) (w : World) (hT : MH w) (hd : d.length ≤ 100000000) (hs : s.length ≤ 100000000) :
    Calls Tryd.prog 13 #[.string ⟨d.toArray⟩, .string ⟨s.toArray⟩, .int .i64 g, .int .i64 g2, .int .u8 (c.toNat : Int)] w fun e w' => e = .returned (.bool true) ∧ Below w.heap.size w w' := by
  by_cases hf : 48 ≤ (c.toNat : Int) ∧ (c.toNat : Int) ≤ 57
  · have t := fun (w : World) (_ : MaxW w) => take_err ⟨s.toArray⟩ g g2 (c.toNat : Int) 3 w (Lib.hid fun w => gcheck_form g g2 _ w hf.1 hf.2)
    cases h : digB d with
    | true => exact groupTells_fy d s g g2 c w hT hd hs hf.1 hf.2 h (Lib.hid fun w => put_form d g g2 _ w (by omega) h hf.1 hf.2) (Lib.hid t)
    | false => exact groupTells_fn d s g g2 c w hT hd hs hf.1 hf.2 h (Lib.hid fun w => put_bad d g g2 _ w (by omega) h) (Lib.hid t)
  by_cases hG : rightG g g2
  · have tn := fun (h : ¬ (digB (without c s) = true ∧ gout (without c s) g g2 c = s)) (w : World) (hM : MaxW w) => take_no s g g2 c w hM (by omega) hf hG h
    obtain ⟨h1, h2, h3, h4⟩ := hG
    by_cases hq : digB d = true
    · skip
      by_cases n : (c.toNat : Int) < 48
      · cases hb : digB (without c s) with
        | false => exact groupTells_l0ya d s g g2 c w hT hd hs n (by omega) (by omega) (by omega) (by omega) hq hb (Lib.hid fun w => put_ok d g g2 c w (by omega) hq hf ⟨h1, h2, h3, h4⟩) (Lib.hid (tn (fun x => by rw [hb] at x; cases x.1)))
        | true =>
          by_cases ho : gout (without c s) g g2 c = s
          · exact groupTells_l0yy d s g g2 c w hT hd hs n (by omega) (by omega) (by omega) (by omega) hq hb ho (Lib.hid fun w => put_ok d g g2 c w (by omega) hq hf ⟨h1, h2, h3, h4⟩) (Lib.hid fun w hM => take_yes s g g2 c w hM (by omega) hf ⟨h1, h2, h3, h4⟩ hb ho)
          · exact groupTells_l0yb d s g g2 c w hT hd hs n (by omega) (by omega) (by omega) (by omega) hq hb ho (Lib.hid fun w => put_ok d g g2 c w (by omega) hq hf ⟨h1, h2, h3, h4⟩) (Lib.hid (tn (fun x => ho x.2)))
      · cases hb : digB (without c s) with
        | false => exact groupTells_h0ya d s g g2 c w hT hd hs (by omega) (by omega) (by omega) (by omega) (by omega) hq hb (Lib.hid fun w => put_ok d g g2 c w (by omega) hq hf ⟨h1, h2, h3, h4⟩) (Lib.hid (tn (fun x => by rw [hb] at x; cases x.1)))
        | true =>
          by_cases ho : gout (without c s) g g2 c = s
          · exact groupTells_h0yy d s g g2 c w hT hd hs (by omega) (by omega) (by omega) (by omega) (by omega) hq hb ho (Lib.hid fun w => put_ok d g g2 c w (by omega) hq hf ⟨h1, h2, h3, h4⟩) (Lib.hid fun w hM => take_yes s g g2 c w hM (by omega) hf ⟨h1, h2, h3, h4⟩ hb ho)
          · exact groupTells_h0yb d s g g2 c w hT hd hs (by omega) (by omega) (by omega) (by omega) (by omega) hq hb ho (Lib.hid fun w => put_ok d g g2 c w (by omega) hq hf ⟨h1, h2, h3, h4⟩) (Lib.hid (tn (fun x => ho x.2)))
    · have hq : digB d = false := by simpa using hq
      by_cases n : (c.toNat : Int) < 48
      · cases hb : digB (without c s) with
        | false => exact groupTells_l0na d s g g2 c w hT hd hs n (by omega) (by omega) (by omega) (by omega) hq hb (Lib.hid fun w => put_bad d g g2 _ w (by omega) hq) (Lib.hid (tn (fun x => by rw [hb] at x; cases x.1)))
        | true =>
          by_cases ho : gout (without c s) g g2 c = s
          · exact groupTells_l0ny d s g g2 c w hT hd hs n (by omega) (by omega) (by omega) (by omega) hq hb ho (Lib.hid fun w => put_bad d g g2 _ w (by omega) hq) (Lib.hid fun w hM => take_yes s g g2 c w hM (by omega) hf ⟨h1, h2, h3, h4⟩ hb ho)
          · exact groupTells_l0nb d s g g2 c w hT hd hs n (by omega) (by omega) (by omega) (by omega) hq hb ho (Lib.hid fun w => put_bad d g g2 _ w (by omega) hq) (Lib.hid (tn (fun x => ho x.2)))
      · cases hb : digB (without c s) with
        | false => exact groupTells_h0na d s g g2 c w hT hd hs (by omega) (by omega) (by omega) (by omega) (by omega) hq hb (Lib.hid fun w => put_bad d g g2 _ w (by omega) hq) (Lib.hid (tn (fun x => by rw [hb] at x; cases x.1)))
        | true =>
          by_cases ho : gout (without c s) g g2 c = s
          · exact groupTells_h0ny d s g g2 c w hT hd hs (by omega) (by omega) (by omega) (by omega) (by omega) hq hb ho (Lib.hid fun w => put_bad d g g2 _ w (by omega) hq) (Lib.hid fun w hM => take_yes s g g2 c w hM (by omega) hf ⟨h1, h2, h3, h4⟩ hb ho)
          · exact groupTells_h0nb d s g g2 c w hT hd hs (by omega) (by omega) (by omega) (by omega) (by omega) hq hb ho (Lib.hid fun w => put_bad d g g2 _ w (by omega) hq) (Lib.hid (tn (fun x => ho x.2)))
  · have t := fun (w : World) (_ : MaxW w) => take_err ⟨s.toArray⟩ g g2 (c.toNat : Int) 1 w (Lib.hid fun w => gcheck_range g g2 _ w hf hG)
    have hn := hG
    unfold rightG at hn
    by_cases hq : digB d = true
    · skip
      by_cases n : (c.toNat : Int) < 48
      · by_cases r1 : g < 0
        · exact groupTells_l1y d s g g2 c w hT hd hs n r1 hq (Lib.hid fun w => put_range d g g2 _ w (by omega) hq hf hG) (Lib.hid t)
        by_cases r2 : 4 < g
        · exact groupTells_l2y d s g g2 c w hT hd hs n r1 r2 hq (Lib.hid fun w => put_range d g g2 _ w (by omega) hq hf hG) (Lib.hid t)
        by_cases r3 : g2 < 0
        · exact groupTells_l3y d s g g2 c w hT hd hs n r1 r2 r3 hq (Lib.hid fun w => put_range d g g2 _ w (by omega) hq hf hG) (Lib.hid t)
        exact groupTells_l4y d s g g2 c w hT hd hs n r1 r2 r3 (by omega) hq (Lib.hid fun w => put_range d g g2 _ w (by omega) hq hf hG) (Lib.hid t)
      · by_cases r1 : g < 0
        · exact groupTells_h1y d s g g2 c w hT hd hs (by omega) r1 hq (Lib.hid fun w => put_range d g g2 _ w (by omega) hq hf hG) (Lib.hid t)
        by_cases r2 : 4 < g
        · exact groupTells_h2y d s g g2 c w hT hd hs (by omega) r1 r2 hq (Lib.hid fun w => put_range d g g2 _ w (by omega) hq hf hG) (Lib.hid t)
        by_cases r3 : g2 < 0
        · exact groupTells_h3y d s g g2 c w hT hd hs (by omega) r1 r2 r3 hq (Lib.hid fun w => put_range d g g2 _ w (by omega) hq hf hG) (Lib.hid t)
        exact groupTells_h4y d s g g2 c w hT hd hs (by omega) r1 r2 r3 (by omega) hq (Lib.hid fun w => put_range d g g2 _ w (by omega) hq hf hG) (Lib.hid t)
    · have hq : digB d = false := by simpa using hq
      by_cases n : (c.toNat : Int) < 48
      · by_cases r1 : g < 0
        · exact groupTells_l1n d s g g2 c w hT hd hs n r1 hq (Lib.hid fun w => put_bad d g g2 _ w (by omega) hq) (Lib.hid t)
        by_cases r2 : 4 < g
        · exact groupTells_l2n d s g g2 c w hT hd hs n r1 r2 hq (Lib.hid fun w => put_bad d g g2 _ w (by omega) hq) (Lib.hid t)
        by_cases r3 : g2 < 0
        · exact groupTells_l3n d s g g2 c w hT hd hs n r1 r2 r3 hq (Lib.hid fun w => put_bad d g g2 _ w (by omega) hq) (Lib.hid t)
        exact groupTells_l4n d s g g2 c w hT hd hs n r1 r2 r3 (by omega) hq (Lib.hid fun w => put_bad d g g2 _ w (by omega) hq) (Lib.hid t)
      · by_cases r1 : g < 0
        · exact groupTells_h1n d s g g2 c w hT hd hs (by omega) r1 hq (Lib.hid fun w => put_bad d g g2 _ w (by omega) hq) (Lib.hid t)
        by_cases r2 : 4 < g
        · exact groupTells_h2n d s g g2 c w hT hd hs (by omega) r1 r2 hq (Lib.hid fun w => put_bad d g g2 _ w (by omega) hq) (Lib.hid t)
        by_cases r3 : g2 < 0
        · exact groupTells_h3n d s g g2 c w hT hd hs (by omega) r1 r2 r3 hq (Lib.hid fun w => put_bad d g g2 _ w (by omega) hq) (Lib.hid t)
        exact groupTells_h4n d s g g2 c w hT hd hs (by omega) r1 r2 r3 (by omega) hq (Lib.hid fun w => put_bad d g g2 _ w (by omega) hq) (Lib.hid t)
end Go.Proofs.YtadolhlkpnphmaaDoor
