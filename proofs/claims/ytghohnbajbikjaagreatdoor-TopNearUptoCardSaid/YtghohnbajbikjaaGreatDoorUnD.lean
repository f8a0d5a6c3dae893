/- The walk of maps.DeleteFunc at the one version that there is, and of store.clean: nothing goes. -/
import Derived.Test.YtghohnbajbikjaaGreatDoorUnS
import Derived.Maps.RangeRun
import Derived.LoopN
namespace Go.Proofs.YtghohnbajbikjaaGreatDoor
open Go.RowKit Go.MapKept
namespace Tn
def oneE (vp : Nat) : Array MapEntry := #[{ key := .int .i64 1, val := .pointer (some ⟨vp, 0, none⟩), born := 0 }]
theorem left_one (vp : Nat) : leftOf (oneE vp) #[] = oneE vp := by simp [leftOf, oneE]
theorem left_none (vp : Nat) : leftOf (oneE vp) #[0] = #[] := by simp [leftOf, oneE]
/-- but for block r -/
structure But (r : Nat) (w w' : World) : Prop where
  os : w'.os = w.os
  tape : w'.tape = w.tape
  output : w'.output = w.output
  size : w'.heap.size = w.heap.size
  block : ∀ k, k ≠ r → w'.heap[k]? = w.heap[k]?
theorem next_first (w : World) (ty : TypeId) (r bm vp : Nat) (hr : w.heap[r]? = some (.mapIter (some bm) 1 #[] 1)) (hb : w.heap[bm]? = some (.map (oneE vp) 1)) :
    ∃ w2, (Instr.next (.pointer (some ⟨r, 0, none⟩)) false ty).run Tryz.prog w = .ok (.tuple #[.bool true, .int .i64 1, .pointer (some ⟨vp, 0, none⟩)]) w2 ∧ w2.heap[r]? = some (.mapIter (some bm) 1 #[0] 1) ∧ But r w w2 := by
  rcases run_next_at (P := Tryz.prog) w ty r bm 1 1 #[] (oneE vp) 1 hr hb (by simp [oneE]) (Nat.le_refl _) with ⟨h, _⟩ | ⟨e, he, w1, hw, h⟩
  · rw [left_one] at h; simp [oneE] at h
  · rw [left_one] at he
    obtain rfl : e = { key := .int .i64 1, val := .pointer (some ⟨vp, 0, none⟩), born := 0 } := by simpa [oneE] using he
    have hr1 : w1.heap[r]? = some (.mapIter (some bm) 1 #[] 1) := by rcases hw with rfl | rfl <;> exact hr
    have hs := heap_set (o' := .mapIter (some bm) 1 ((#[] : Array Nat).push 0) 1) hr1
    refine ⟨_, h, hs.1, ?_⟩
    rcases hw with rfl | rfl <;> exact ⟨rfl, rfl, rfl, Array.size_setIfInBounds, fun k hk => hs.2 k hk⟩
theorem next_last (w : World) (ty : TypeId) (r bm vp : Nat) (hr : w.heap[r]? = some (.mapIter (some bm) 1 #[0] 1)) (hb : w.heap[bm]? = some (.map (oneE vp) 1)) :
    (Instr.next (.pointer (some ⟨r, 0, none⟩)) false ty).run Tryz.prog w = .ok (.tuple #[.bool false]) w := by
  rcases run_next_at (P := Tryz.prog) w ty r bm 1 1 #[0] (oneE vp) 1 hr hb (by simp [oneE]) (Nat.le_refl _) with ⟨_, h⟩ | ⟨e, he, _⟩
  · exact h
  · rw [left_none] at he; simp at he

set_option maxRecDepth 100000 in
set_option maxHeartbeats 1000000 in
theorem clean1_any (bx st : Nat) (vp : Value) (w : World) (h0 : w.cell? ⟨bx, 0, none⟩ = some (.pointer (some ⟨st, 0, none⟩))) (h1 : w.cell? ⟨st, 0, none⟩ = some (.int .i64 1)) :
    Calls Tryz.prog 82 #[.int .i64 1, vp, .pointer (some ⟨bx, 0, none⟩)] w fun e w' => e = .returned (.bool false) ∧ w = w' := by
  have l0 := World.block_lt_of_cell? _ _ h0
  have l1 := World.block_lt_of_cell? _ _ h1
  go_enter Tryz.func82, Tryz.ntmps82
  go_wp2_with fail
  go_ret
  exact ⟨rfl, rfl⟩
theorem clean1_at (args : Array Value) (w : World) : (callFunc 82 args).run Tryz.prog w = .ok (.enter 82 args) w := enters_of Tryz.func82 (by kernel_rfl) rfl args w
set_option maxRecDepth 100000 in
set_option maxHeartbeats 1000000 in
theorem delf_any (al bx st vp : Nat) (w : World) (hm : w.heap[al]? = some (.map (oneE vp) 1)) (h0 : w.cell? ⟨bx, 0, none⟩ = some (.pointer (some ⟨st, 0, none⟩))) (h1 : w.cell? ⟨st, 0, none⟩ = some (.int .i64 1)) :
    Calls Tryz.prog 81 #[.map (some al), .func (.func 82) #[] #[.pointer (some ⟨bx, 0, none⟩)]] w fun e w' => e = .returned (.tuple #[]) ∧ Below w.heap.size w w' := by
  have hl : al < w.heap.size := (Array.getElem?_eq_some_iff.1 hm).1
  have RG := run_range_map (P := Tryz.prog) w 109 3 112 al (oneE vp) 1 Tryz.underlying109 hm
  have hb1 := ((blw_alloc w (.mapIter (some al) 1 #[] 1)).block _ hl).trans hm
  have hr1 : (w.alloc (.mapIter (some al) 1 #[] 1)).heap[w.heap.size]? = some (.mapIter (some al) 1 #[] 1) := heap_alloc_new _ _
  go_enter Tryz.func81, Tryz.ntmps81
  go_wp2_with fail
  obtain ⟨w2, NX, hr2, hB⟩ := next_first (w.alloc (.mapIter (some al) 1 #[] 1)) 0 w.heap.size al vp hr1 hb1
  have hb2 : w2.heap[al]? = some (.map (oneE vp) 1) := (hB.block al (by omega)).trans hb1
  have EN := run_entry_at (P := Tryz.prog) w2 w.heap.size al 1 #[] (oneE vp) 1 { key := .int .i64 1, val := .pointer (some ⟨vp, 0, none⟩), born := 0 } hr2 hb2 (by simp [oneE]) (by simp [oneE])
  have NL := next_last w2 0 w.heap.size al vp hr2 hb2
  have WB : Below w.heap.size w w2 := ⟨hB.os, hB.tape, hB.output, by rw [hB.size]; simp, fun k hk => (hB.block k (by omega)).trans ((blw_alloc w _).block k hk)⟩
  have CL := Lib.hid (clean1_any bx st (.pointer (some ⟨vp, 0, none⟩)) w2 (cell_keep h0 WB) (cell_keep h1 WB))
  have eg := clean1_at
  have WH := Lib.hid WB
  clear hm h0 h1 RG hb1 hr1 hr2 hB hb2 WB
  dsimp only at EN
  refine wp_loop_rounds 2 ?_
  rw [rounds_succ]
  go_wp2_with (go_at_fn 82; refine CL.out.mono ?_; rintro e w' ⟨rfl, rfl⟩)
  rw [rounds_succ]
  go_wp2_with fail
  go_end0
  exact ⟨rfl, WH.out⟩
set_option maxRecDepth 100000 in
set_option maxHeartbeats 1000000 in
theorem clean_any (al st vp : Nat) (w : World) (hs : Boxed w st #[.int .i64 1, .map (some al)]) (hm : w.heap[al]? = some (.map (oneE vp) 1)) :
    Calls Tryz.prog 55 #[.pointer (some ⟨st, 0, none⟩)] w fun e w' => e = .returned (.tuple #[]) ∧ Below w.heap.size w w' := by
  have hl : al < w.heap.size := (Array.getElem?_eq_some_iff.1 hm).1
  have BB := Boxed.made w #[.pointer (some ⟨st, 0, none⟩)] 77
  have HS := hs.alloc (.cells #[.pointer (some ⟨st, 0, none⟩)] 77)
  have CD := Lib.hid (delf_any al w.heap.size st vp (w.alloc (.cells #[.pointer (some ⟨st, 0, none⟩)] 77)) (((blw_alloc w _).block _ hl).trans hm) (BB.cell 0 _ rfl) (HS.cell 0 _ rfl))
  have y1 := HS.cell 1 _ rfl
  have yl := HS.lt
  have hsl := hs.lt
  have hmf : ∀ (fn : Fn) (first cap : Array Value) (w : World), (Instr.makeFunc fn first cap).run Tryz.prog w = .ok (.func fn first cap) w := fun _ _ _ _ => rfl
  clear BB HS hm hs
  go_enter Tryz.func55, Tryz.ntmps55
  go_wp2_with fail
  refine CD.out.mono ?_
  rintro e w1 ⟨rfl, hb⟩
  have W1 := Lib.hid (blw_trans (blw_alloc w _) hb)
  clear hb CD
  go_wp2_with fail
  go_end0
  exact ⟨rfl, W1.out⟩
end Tn
end Go.Proofs.YtghohnbajbikjaaGreatDoor
