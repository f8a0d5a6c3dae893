/- date.Parse and date.Of by their contracts, outright. -/
import Derived.Test.YtdcemkfljhdceaaGreatDoorParse
import Derived.Test.YtdcemkfljhdceaaGreatDoorHasDay
import Derived.Test.YtdcemkfljhdceaaGreatDoorDated
import Derived.Test.YtdcemkfljhdceaaGreatDoorOf
namespace Go.Proofs.YtdcemkfljhdceaaGreatDoor
open Go.RowKit

/-- a day's text tells that day -/
theorem parse_yes (y m d : Int) (w : World) (hT : PM w) (h : Cal.vld y m d) :
    Calls Tryz.prog 15 #[.string ⟨(dtxt y m d).toArray⟩] w fun e w' => e = .returned (.tuple #[.agg #[.int .i64 y, .int .i64 m, .int .i64 d], .nilIface]) ∧ Below w.heap.size w w' := by
  refine (dparse_any (dtxt y m d) w hT (by rw [dtxt_len h]; omega)).mono ?_
  rintro e w' (⟨y', m', d', hv, he, rfl, hb⟩ | ⟨hno, _⟩)
  · have a := dtxt_nums h rfl
    have b := dtxt_nums hv (show Lib.splitN (dtxt y' m' d') [45] 3 = Lib.splitN (dtxt y m d) [45] 3 by rw [he])
    obtain ⟨_, _, a1, a2, a3⟩ := a
    obtain ⟨_, _, b1, b2, b3⟩ := b
    have e1 : y' = y := b1.symm.trans a1
    have e2 : m' = m := b2.symm.trans a2
    have e3 : d' = d := b3.symm.trans a3
    subst e1 e2 e3
    exact ⟨rfl, hb⟩
  · exact absurd rfl (hno y m d h)
theorem parse_no (s : List UInt8) (w : World) (hT : PM w) (hs : s.length ≤ 4000000000) (h : ¬ ∃ y m d : Int, Cal.vld y m d ∧ dtxt y m d = s) :
    Calls Tryz.prog 15 #[.string ⟨s.toArray⟩] w fun e w' => e = .returned (.tuple #[.agg #[.int .i64 0, .int .i64 0, .int .i64 0], errV 3]) ∧ Below w.heap.size w w' := by
  refine (dparse_any s w hT hs).mono ?_
  rintro e w' (⟨y', m', d', hv, he, rfl, hb⟩ | ⟨_, rfl, hb⟩)
  · exact absurd ⟨y', m', d', hv, he⟩ h
  · exact ⟨rfl, hb⟩
theorem of_day (y m d : Int) (w : World) (hT : TabW w) (h : Cal.vld y m d) :
    Calls Tryz.prog 13 #[.int .i64 (Cal.num y m d)] w fun e w' => e = .returned (.tuple #[.agg #[.int .i64 y, .int .i64 m, .int .i64 d], .nilIface]) ∧ Below w.heap.size w w' := by
  have hr := Cal.num_rng y m d h
  refine (of_yes _ w hr.1 hr.2 hT).mono ?_
  rintro e w' ⟨y', m', d', rfl, hv, he, hb⟩
  obtain ⟨rfl, rfl, rfl⟩ := Cal.num_inj h hv he.symm
  exact ⟨rfl, hb⟩
end Go.Proofs.YtdcemkfljhdceaaGreatDoor
