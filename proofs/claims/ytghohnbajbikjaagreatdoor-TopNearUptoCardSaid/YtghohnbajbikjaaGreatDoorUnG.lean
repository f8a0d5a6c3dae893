/- The message that is hello: the walks of msg.Cases, size, fine, check, Check at it. -/
import Derived.Test.YtghohnbajbikjaaGreatDoorUnW
import Derived.Test.YtghohnbajbikjaaGreatDoorTa1
import Derived.Test.YtghohnbajbikjaaGreatDoorProg
import Derived.LoopN
namespace Go.Proofs.YtghohnbajbikjaaGreatDoor
open Go.RowKit
namespace Tn
/-- a message of one node: the words hello -/
def HiM (w : World) (v : Value) : Prop := ∃ b off cap, v = .slice (some ⟨b, off, none⟩) 1 cap ∧ 1 ≤ cap ∧ w.cell? ⟨b, off, none⟩ = some (.int .i64 1) ∧ w.cell? ⟨b, off + 1, none⟩ = some (.string ⟨#[104, 101, 108, 108, 111]⟩) ∧ w.cell? ⟨b, off + 2, none⟩ = some (.int .i64 0) ∧ w.cell? ⟨b, off + 3, none⟩ = some (.slice none 0 0)
theorem HiM.below {w w' : World} {v : Value} (h : HiM w v) (hb : Below w.heap.size w w') : HiM w' v := by
  obtain ⟨b, off, cap, e, h1, h2, h3, h4, h5⟩ := h
  exact ⟨b, off, cap, e, h1, cell_keep h2 hb, cell_keep h3 hb, cell_keep h4 hb, cell_keep h5 hb⟩
def hiC : Array Value := #[.int .i64 1, .string ⟨#[104, 101, 108, 108, 111]⟩, .int .i64 0, .slice none 0 0]
set_option maxRecDepth 100000 in
set_option maxHeartbeats 1000000 in
theorem gcases_any (w : World) : Calls Tryz.prog 119 #[.agg #[.int .i64 1, .string ⟨#[104, 101, 108, 108, 111]⟩, .int .i64 0, .slice none 0 0]] w fun e w' => e = .returned (.slice none 0 0) ∧ Below w.heap.size w w' := by
  go_enter Tryz.func119, Tryz.ntmps119
  go_wp2_with fail
  go_ret
  exact ⟨rfl, blw_alloc _ _⟩
set_option maxRecDepth 100000 in
set_option maxHeartbeats 1000000 in
theorem gsize_any (v : Value) (w : World) (h : HiM w v) : Calls Tryz.prog 117 #[v, .int .i64 0] w fun e w' => e = .returned (.tuple #[.int .i64 1, .bool false]) ∧ Below w.heap.size w w' := by
  have CC := Lib.hid gcases_any
  obtain ⟨b, off, cap, rfl, hc, x0, x1, x2, x3⟩ := h
  have lb := World.block_lt_of_cell? _ _ x0
  dsimp only at lb
  go_enter Tryz.func117, Tryz.ntmps117
  go_wp2_with fail
  refine wp_loop_rounds 2 ?_
  rw [rounds_succ]
  go_wp2_with fail
  refine (CC.out _).mono ?_
  rintro e w1 ⟨rfl, hb⟩
  have W1 := Lib.hid (blw_trans (blw_alloc w (.cells hiC 139)) hb)
  clear hb CC
  go_wp2_with fail
  refine wp_loop_rounds 1 ?_
  rw [rounds_succ]
  go_wp2_with fail
  rw [rounds_succ]
  go_wp2_with fail
  go_ret2
  exact ⟨rfl, W1.out⟩
set_option maxRecDepth 100000 in
set_option maxHeartbeats 1000000 in
theorem gfine_any (a : Option Addr) (c : Nat) (w : World) : Calls Tryz.prog 157 #[.agg #[.int .i64 1, .string ⟨#[104, 101, 108, 108, 111]⟩, .int .i64 0, .slice none 0 0], .slice a 0 c, .bool false] w fun e w' => e = .returned (.bool true) ∧ Below w.heap.size w w' := by
  go_enter Tryz.func157, Tryz.ntmps157
  go_wp2_with fail
  go_ret
  exact ⟨rfl, blw_alloc _ _⟩
end Tn
end Go.Proofs.YtghohnbajbikjaaGreatDoor
