/- The table of powers and the handle of errors, together. -/
import Derived.Test.YtdmenoimamnldaaGreatDoorRows
import Derived.Test.YtdmenoimamnldaaGreatDoorDz24
import Derived.LaidLaws
import Derived.LaidHandle
import Derived.Test.YtdmenoimamnldaaGreatDoorDz20
namespace Go.Proofs.YtdmenoimamnldaaGreatDoor
open Go.RowKit

theorem hanEt : Tryz.prog.globalNamed "errors.errorType" = some 0 := by kernel_rfl
theorem hanRt : (Tryz.prog.cutTypes.find? (·.1 == "internal/reflectlite.rtype")).map (·.2) = some 102 := by kernel_rfl
theorem hanOne : ((List.range 169).filter fun t => Tryz.prog.rowNamed t [101, 114, 114, 111, 114]) = [29] := by kernel_rfl
theorem hanSize : Tryz.prog.types.size = 169 := by kernel_rfl
theorem hanW_of {L : List (String × DataW Unit)} {W : World} (hm : ("errors.errorType", Rows.laid_errors_errorType) ∈ L) (h : laidMetH Tryz.prog L W) : HanW W := by
  have hf : ("errors.errorType", Rows.laid_errors_errorType) ∈ L.filter (fun x => x.snd.handleName?.isSome) := List.mem_filter.2 ⟨hm, rfl⟩
  unfold laidMetH at h
  split at h
  · rename_i hE; rw [hE] at hf; cases hf
  rename_i hE
  rw [hE] at hf
  obtain ⟨name, u, ty, e1, e2, e3, e4, e5⟩ := h.2 _ hf
  have en : name = [101, 114, 114, 111, 114] := (Option.some.inj e1).symm
  subst en
  obtain rfl := Option.some.inj (hanRt.symm.trans e2)
  have hm : ty ∈ (List.range 169).filter fun t => Tryz.prog.rowNamed t [101, 114, 114, 111, 114] := List.mem_filter.2 ⟨List.mem_range.2 (by rw [← hanSize]; exact e3), e4⟩
  rw [hanOne] at hm
  obtain rfl := List.mem_singleton.1 hm
  have hh : typeHandle Tryz.prog 29 = .pointer (some ⟨7, 29, none⟩) := by kernel_rfl
  rw [hh] at e5
  simpa [HanW] using World.var?_cell hanEt e5 0
end Go.Proofs.YtdmenoimamnldaaGreatDoor
namespace Go.Proofs.YtdmenoimamnldaaGreatDoor
open Go.RowKit
structure PH (w : World) : Prop where
  p : PowW w
  h : HanW w
theorem PH.below {w w' : World} (h : PH w) (hb : Below w.heap.size w w') : PH w' := ⟨h.p.below hb, h.h.below hb⟩
theorem PH.alloc {w : World} (h : PH w) (o : Obj) : PH (w.alloc o) := h.below (blw_alloc w o)
end Go.Proofs.YtdmenoimamnldaaGreatDoor
