/- The walk of linguisterlaw1.tagged; tag.Parse and TagOf as the laws use them. -/
import Derived.Test.YtlhleojigcnjeaaDoorTagParse
import Derived.Test.YtlhleojigcnjeaaDoorTagOf
import Derived.Test.YtlhleojigcnjeaaDoorHan
namespace Go.Proofs.YtlhleojigcnjeaaDoor
open Go.RowKit

/-- what the laws of tags lean on -/
structure TM (w : World) : Prop where
  m : MaxW w
  h : HanW w
theorem TM.below {w w' : World} (h : TM w) (hb : Below w.heap.size w w') : TM w' := ⟨h.m.below hb, h.h.below hb⟩
theorem errE_no (n : Int) : ErrNo (errE n) n := by
  by_cases h : n = 0
  · subst h; exact .nil
  · rw [errE_some h]; exact .no n
theorem read_yes {s : List UInt8} (h : readOk s = true) : errE (if readOk s then 0 else 3) = .nilIface := by rw [h]; rfl
theorem read_no {s : List UInt8} (h : readOk s = false) : errE (if readOk s then 0 else 3) = errV 3 := by rw [h]; rfl
theorem parse_is (s : List UInt8) (t : Tg) (E : Value) (ht : readT s = t) (ho : errE (if readOk s then 0 else 3) = E) (w : World) (hM : MaxW w) (hs : s.length ≤ 10000000) :
    Calls Tryd.prog 13 #[.string ⟨s.toArray⟩] w fun e w' => ∃ a n c, e = .returned (.tuple #[.agg #[.string ⟨t.l.toArray⟩, .string ⟨t.s.toArray⟩, .string ⟨t.r.toArray⟩, .slice a n c], E]) ∧ StrsAt w' (.slice a n c) t.vs ∧ Nil0 (.slice a n c) ∧ Below w.heap.size w w' := by
  subst ht ho
  refine (tparse_any s w hM hs).mono ?_
  rintro e w' ⟨V, rfl, hV, h0, hb⟩
  obtain ⟨a, n, c, rfl⟩ := hV.isSlice
  exact ⟨a, n, c, rfl, hV, h0, hb⟩
theorem tagof_is (s : List UInt8) (t : Tg) (o : Bool) (ht : readT s = t) (ho : readOk s = o) (w : World) (hs : s.length ≤ 10000000) :
    Calls Tryd.prog 27 #[.string ⟨s.toArray⟩] w fun e w' => ∃ a n c, e = .returned (.tuple #[.agg #[.string ⟨t.l.toArray⟩, .string ⟨t.s.toArray⟩, .string ⟨t.r.toArray⟩, .slice a n c], .bool o]) ∧ StrsAt w' (.slice a n c) t.vs ∧ Nil0 (.slice a n c) ∧ Below w.heap.size w w' := by
  subst ht ho
  refine (tagof_any s w hs).mono ?_
  rintro e w' ⟨V, rfl, hV, h0, hb⟩
  obtain ⟨a, n, c, rfl⟩ := hV.isSlice
  exact ⟨a, n, c, rfl, hV, h0, hb⟩
theorem fact_text : readTag PS1 PR1 [68, 69, 45, 108, 97, 116, 110, 45, 97, 116] = some ⟨[100, 101], [76, 97, 116, 110], [65, 84], []⟩ := by
  have h : Lib.split (([68, 69, 45, 108, 97, 116, 110, 45, 97, 116] : List UInt8).map lowC) [45] = [[100, 101], [108, 97, 116, 110], [97, 116]] := by decide +kernel
  unfold readTag
  rw [h]
  dsimp only
  have a1 : cutS PS1 [[108, 97, 116, 110], [97, 116]] = ([76, 97, 116, 110], [[97, 116]]) := by decide +kernel
  rw [a1]
  dsimp only
  have a2 : cutR PR1 [[97, 116]] = ([65, 84], []) := by decide +kernel
  rw [a2]
  dsimp only
  rw [if_pos (by decide +kernel)]
set_option maxRecDepth 100000 in
set_option maxHeartbeats 1000000 in
theorem tagged_any (w : World) (hM : MaxW w) : Calls Tryd.prog 12 #[] w fun e w' => e = .returned (.bool true) ∧ Below w.heap.size w w' := by
  have C := Lib.hid fun w hM => parse_is [68, 69, 45, 108, 97, 116, 110, 45, 97, 116] ⟨[100, 101], [76, 97, 116, 110], [65, 84], []⟩ .nilIface (by unfold readT; rw [fact_text]; rfl) (read_yes (by unfold readOk; rw [fact_text]; rfl)) w hM (by decide)
  go_enter Tryd.func12, Tryd.ntmps12
  go_wp2_with fail
  refine (C.out _ hM).mono ?_
  rintro e w1 ⟨a, n, c, rfl, _, _, hb⟩
  go_wp2_with fail
  go_ret
  exact ⟨ret_bool (by first | rfl | (simp; done)), by repeat (first | exact hb | refine Below.alloc ?_ (by first | (simp; done) | omega | exact hb.size) _ | refine Below.setCell ?_ (by first | (simp; done) | omega | exact hb.size) _)⟩
end Go.Proofs.YtlhleojigcnjeaaDoor
