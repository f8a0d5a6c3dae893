/- The walks of the cache's functions at an empty cache of one place. -/
import Derived.Test.YtghohnbajbikjaaGreatDoorUnS
import Derived.Test.YtghohnbajbikjaaGreatDoorUnX
namespace Go.Proofs.YtghohnbajbikjaaGreatDoor
open Go.RowKit
namespace Tn
def plC : Array Value := #[.string ⟨#[]⟩, .string ⟨#[]⟩, .bool false, .bool false]
set_option maxRecDepth 100000 in
set_option maxHeartbeats 2000000 in
theorem cat_any (ca cb : Nat) (key : List UInt8) (w : World) (hA : Boxed w ca #[.slice (some ⟨cb, 0, none⟩) 1 1, .int .i64 0]) (hB : Boxed w cb #[.string ⟨#[]⟩, .string ⟨#[]⟩, .bool false, .bool false]) :
    Calls Tryz.prog 84 #[.pointer (some ⟨ca, 0, none⟩), .string ⟨key.toArray⟩] w fun e w' => e = .returned (.int .i64 (-1)) ∧ Below w.heap.size w w' := by
  have c0 := hA.cell 0 _ rfl
  have al := hA.lt
  have b0 := hB.cell 0 _ rfl
  have b1 := hB.cell 1 _ rfl
  have b2 := hB.cell 2 _ rfl
  have b3 := hB.cell 3 _ rfl
  have bl := hB.lt
  clear hA hB
  go_enter Tryz.func84, Tryz.ntmps84
  go_wp2_with fail
  refine wp_loop_rounds 2 ?_
  rw [rounds_succ]
  go_wp2_with fail
  rw [rounds_succ]
  go_wp2_with fail
  go_ret
  exact ⟨rfl, blw_alloc _ _⟩
set_option maxRecDepth 100000 in
set_option maxHeartbeats 2000000 in
theorem cfree_any (ca cb : Nat) (w : World) (hA : Boxed w ca #[.slice (some ⟨cb, 0, none⟩) 1 1, .int .i64 0]) (hB : Boxed w cb #[.string ⟨#[]⟩, .string ⟨#[]⟩, .bool false, .bool false]) :
    Calls Tryz.prog 90 #[.pointer (some ⟨ca, 0, none⟩)] w fun e w' => e = .returned (.int .i64 0) ∧ Below w.heap.size w w' := by
  have c0 := hA.cell 0 _ rfl
  have al := hA.lt
  have b0 := hB.cell 0 _ rfl
  have b1 := hB.cell 1 _ rfl
  have b2 := hB.cell 2 _ rfl
  have b3 := hB.cell 3 _ rfl
  have bl := hB.lt
  clear hA hB
  go_enter Tryz.func90, Tryz.ntmps90
  go_wp2_with fail
  refine wp_loop_rounds 2 ?_
  rw [rounds_succ]
  go_wp2_with fail
  go_ret
  exact ⟨rfl, blw_alloc _ _⟩
set_option maxRecDepth 100000 in
set_option maxHeartbeats 2000000 in
theorem cget_any (ca cb : Nat) (key : List UInt8) (w : World) (hA : Boxed w ca #[.slice (some ⟨cb, 0, none⟩) 1 1, .int .i64 0]) (hB : Boxed w cb #[.string ⟨#[]⟩, .string ⟨#[]⟩, .bool false, .bool false]) :
    Calls Tryz.prog 57 #[.pointer (some ⟨ca, 0, none⟩), .string ⟨key.toArray⟩] w fun e w' => e = .returned (.tuple #[.string ⟨#[]⟩, .bool false]) ∧ Below w.heap.size w w' := by
  have CA := Lib.hid (cat_any ca cb key w hA hB)
  clear hA hB
  go_enter Tryz.func57, Tryz.ntmps57
  go_wp2_with fail
  refine CA.out.mono ?_
  rintro e w1 ⟨rfl, hb⟩
  go_wp2_with fail
  go_ret2
  exact ⟨rfl, hb⟩
set_option maxRecDepth 100000 in
set_option maxHeartbeats 2000000 in
theorem cput_any (ca cb : Nat) (key val : List UInt8) (w : World) (hA : Boxed w ca #[.slice (some ⟨cb, 0, none⟩) 1 1, .int .i64 0]) (hB : Boxed w cb #[.string ⟨#[]⟩, .string ⟨#[]⟩, .bool false, .bool false]) :
    Calls Tryz.prog 60 #[.pointer (some ⟨ca, 0, none⟩), .string ⟨key.toArray⟩, .string ⟨val.toArray⟩] w fun e w' => e = .returned (.tuple #[.string ⟨#[]⟩, .bool false]) ∧ Kpt (fun k => k = cb) w w' := by
  have CA := Lib.hid (cat_any ca cb key w hA hB)
  have CF := Lib.hid fun wx (hb : Below w.heap.size w wx) => cfree_any ca cb wx (hA.below hb) (hB.below hb)
  have HA := Lib.hid hA
  have HB := Lib.hid hB
  clear hA hB
  go_enter Tryz.func60, Tryz.ntmps60
  go_wp2_with fail
  refine CA.out.mono ?_
  rintro e w1 ⟨rfl, hb⟩
  have W1 := Lib.hid hb
  clear hb CA
  go_wp2_with fail
  refine (CF.out _ W1.out).mono ?_
  rintro e w2 ⟨rfl, hb⟩
  have W2 := Lib.hid (blw_trans W1.out hb)
  have HA2 := Lib.hid (HA.out.below W2.out)
  have HB2 := Lib.hid (HB.out.below W2.out)
  clear hb CF W1 HA HB
  have c0 := HA2.out.cell 0 _ rfl
  have al := HA2.out.lt
  have b0 := HB2.out.cell 0 _ rfl
  have b1 := HB2.out.cell 1 _ rfl
  have b2 := HB2.out.cell 2 _ rfl
  have b3 := HB2.out.cell 3 _ rfl
  have f0 := HB2.out.free 0 (by simp)
  have f1 := HB2.out.free 1 (by simp)
  have f2 := HB2.out.free 2 (by simp)
  have f3 := HB2.out.free 3 (by simp)
  have bl := HB2.out.lt
  go_wp2_with fail
  go_ret2
  exact ⟨rfl, ((((Kpt.of_below (S := fun k => k = cb) W2.out).setCell ⟨cb, 0, none⟩ _ (fun _ => rfl)).setCell ⟨cb, 1, none⟩ _ (fun _ => rfl)).setCell ⟨cb, 2, none⟩ _ (fun _ => rfl)).setCell ⟨cb, 3, none⟩ _ (fun _ => rfl)⟩
end Tn
end Go.Proofs.YtghohnbajbikjaaGreatDoor
