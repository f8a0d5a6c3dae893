/- A start for rows that list a pinned table and a handle: the door's own run, and the data laid over it by the function. -/
import Derived.Test.YtjakpdfonnpchaaDoorRows
import Derived.Lay
import Derived.LaidMore
namespace Go.Proofs.YtjakpdfonnpchaaDoor
theorem laidMet_over {P : Program} {W : World} {L : List (String × DataW Unit)} (args : Array Value) (hf : W.layFits P L [] = true) (hi : W.layIfaces P L (W.layVars P L) = true) :
    laidMet P L ((W.layVars P L).forCall (fun _ _ => 0) ⟨#[], args, []⟩).memory := by
  have e1 : (L.filter fun x => (L.map (·.1)).contains x.1) = L := List.filter_eq_self.2 fun x hx => List.contains_iff_mem.2 (List.mem_map.2 ⟨x, hx, rfl⟩)
  have e2 : (L.filter fun x => !(L.map (·.1)).contains x.1) = [] := List.filter_eq_nil_iff.2 fun x hx => by rw [List.contains_iff_mem.2 (List.mem_map.2 ⟨x, hx, rfl⟩)]; simp
  have h : laidMet P L (W.layVars P L) := laidMet_layVars (w0 := W) (L.map (·.1)) [] (by rw [e1]) (by rw [e1]; exact hf) (by rw [e1]; exact hi) (by rw [e2]; exact LaidIn.none)
  exact h.of_heap (by simp [World.memory, World.forCall, Input.heap])
end Go.Proofs.YtjakpdfonnpchaaDoor
