/- The reader of the text hello: the walks of (*reader).cut where nothing is left, and of the two deferred functions. -/
import Derived.Test.YtghohnbajbikjaaGreatDoorUnQ
import Derived.Test.YtghohnbajbikjaaGreatDoorTb0
import Derived.Test.YtghohnbajbikjaaGreatDoorShelfC
import Derived.Defers
import Derived.Recover
namespace Go.Proofs.YtghohnbajbikjaaGreatDoor
open Go.RowKit
namespace Tn
theorem bare_hello (w : World) : Calls Tryz.prog 114 #[.string ⟨#[104, 101, 108, 108, 111]⟩, .bool false] w fun e w' => e = .returned (.tuple #[.string ⟨#[104, 101, 108, 108, 111]⟩, .int .i64 5, .nilIface]) ∧ Below w.heap.size w w' := by
  have h := bare_any [104, 101, 108, 108, 111] false 6 w (by decide) (by decide)
  rw [show Lx.bar 6 6 [104, 101, 108, 108, 111] false 0 [] = some ([104, 101, 108, 108, 111], 5) by decide +kernel] at h
  exact h
set_option maxRecDepth 100000 in
set_option maxHeartbeats 1000000 in
theorem cut_none (rb : Nat) (d : Value) (w : World) (h : Boxed w rb #[.string ⟨#[]⟩, d]) :
    Calls Tryz.prog 115 #[.pointer (some ⟨rb, 0, none⟩), .string ⟨#[123]⟩] w fun e w' => e = .returned (.bool false) ∧ Below w.heap.size w w' := by
  have CP := Lib.hid (show ∀ w, Calls Tryz.prog 127 #[.string ⟨#[]⟩, .string ⟨#[123]⟩] w fun e w' => e = .returned (.tuple #[.string ⟨#[]⟩, .bool false]) ∧ w' = w from fun w => (Tryz.strings_CutPrefix ⟨#[]⟩ ⟨#[123]⟩ w).mono fun e w' h => by
    rw [show (Lib.trimPrefix ((⟨#[]⟩ : ByteArray).data.toList) ((⟨#[123]⟩ : ByteArray).data.toList)) = [] by decide, show Lib.hasPrefix ((⟨#[]⟩ : ByteArray).data.toList) ((⟨#[123]⟩ : ByteArray).data.toList) = false by decide] at h
    exact h)
  have c0 := h.cell 0 _ rfl
  have cl := h.lt
  go_enter Tryz.func115, Tryz.ntmps115
  go_wp2_with fail
  refine (CP.out _).mono ?_
  rintro e w1 ⟨rfl, rfl⟩
  go_wp2_with fail
  go_ret
  exact ⟨rfl, Below.refl _ _⟩
set_option maxRecDepth 100000 in
set_option maxHeartbeats 1000000 in
theorem mdef_any (q rb : Nat) (u : FrameMode) (w : World) (hq : w.cell? ⟨q, 0, none⟩ = some (.pointer (some ⟨rb, 0, none⟩))) (hd : w.cell? ⟨rb, 1, none⟩ = some (.int .i64 1)) (hz : w.frozen? ⟨rb, 1, none⟩ = false) :
    CallsD Tryz.prog 113 #[.pointer (some ⟨q, 0, none⟩)] u w fun e u' w' => u' = u ∧ (e = .returned (.tuple #[]) ∧ w' = w.setCell ⟨rb, 1, none⟩ (.int .i64 0)) := by
  have l0 := World.block_lt_of_cell? _ _ hq
  have l1 := World.block_lt_of_cell? _ _ hd
  go_enter_d Tryz.func113, Tryz.ntmps113
  go_wp2_with fail
  go_end0
  exact ⟨rfl, rfl⟩
end Tn
end Go.Proofs.YtghohnbajbikjaaGreatDoor
