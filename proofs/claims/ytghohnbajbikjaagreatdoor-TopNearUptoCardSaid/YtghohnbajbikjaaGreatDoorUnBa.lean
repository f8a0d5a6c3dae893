/- The walk of the cache's Clear, and what the built-in clear does to a map without entries. -/
import Derived.Test.YtghohnbajbikjaaGreatDoorUnT
namespace Go.Proofs.YtghohnbajbikjaaGreatDoor
open Go.RowKit Go.MapKept
namespace Tn
theorem clear_none (w : World) (cm c : Nat) (hm : w.heap[cm]? = some (.map #[] c)) :
    ∃ w', (∀ ty, (Builtin.clear_ #[79] ty #[.map (some cm)]).run Tryz.prog w = .ok (.tuple #[]) w') ∧ w'.heap[cm]? = some (.map #[] c) ∧ Kpt (fun k => k = cm) w w' := by
  refine ⟨{ w with heap := w.heap.setIfInBounds cm (.map #[] c) }, fun ty => ?_, (heap_set hm).1, ⟨rfl, rfl, rfl, by simp, fun k _ hk => (heap_set hm).2 k hk⟩⟩
  simp [Builtin.clear_, run_underlying Tryz.underlying79, MapKept.run_getObj_map hm, MapKept.run_setObj_map _ hm, Result.andThen]
set_option maxRecDepth 100000 in
set_option maxHeartbeats 2000000 in
theorem cclear_any (ca cb : Nat) (w : World) (hA : Boxed w ca #[.slice (some ⟨cb, 0, none⟩) 1 1, .int .i64 0]) :
    Calls Tryz.prog 41 #[.pointer (some ⟨ca, 0, none⟩)] w fun e w' => e = .returned (.tuple #[]) ∧ Boxed w' ca #[.slice (some ⟨w.heap.size, 0, none⟩) 1 1, .int .i64 0] ∧ Boxed w' w.heap.size #[.string ⟨#[]⟩, .string ⟨#[]⟩, .bool false, .bool false] ∧ Kpt (fun k => k = ca) w w' := by
  have MK := make_places w
  have c0 := hA.cell 0 _ rfl
  have c1 := hA.cell 1 _ rfl
  have f0 := hA.free 0 (by simp)
  have f1 := hA.free 1 (by simp)
  have al := hA.lt
  go_enter Tryz.func41, Tryz.ntmps41
  go_wp2_with fail
  go_end0
  refine ⟨rfl, ?_, ?_, ?_⟩
  · exact ((hA.set 0 (.slice (some ⟨w.heap.size, 0, none⟩) 1 1) (by simp)).set 1 (.int .i64 0) (by simp)).alloc _
  · exact (Boxed.made ((w.setCell ⟨ca, 0, none⟩ (.slice (some ⟨w.heap.size, 0, none⟩) 1 1)).setCell ⟨ca, 1, none⟩ (.int .i64 0)) #[.string ⟨#[]⟩, .string ⟨#[]⟩, .bool false, .bool false] 163).at (by rw [size_setCell, size_setCell])
  · exact (((Kpt.refl (fun k => k = ca) w).setCell ⟨ca, 0, none⟩ (.slice (some ⟨w.heap.size, 0, none⟩) 1 1) (fun _ => rfl)).setCell ⟨ca, 1, none⟩ (.int .i64 0) (fun _ => rfl)).alloc _
end Tn
end Go.Proofs.YtghohnbajbikjaaGreatDoor
