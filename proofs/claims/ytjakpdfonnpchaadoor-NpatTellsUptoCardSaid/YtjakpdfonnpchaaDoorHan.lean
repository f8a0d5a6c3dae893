/- What the listed variable errors.errorType gives a walk: its handle. After the worked text ToyasProofs. -/
import Derived.Test.YtjakpdfonnpchaaDoorRows
import Derived.Test.YtjakpdfonnpchaaDoorFrame
import Derived.Test.YtjakpdfonnpchaaDoorAs
import Derived.LaidLaws
import Derived.LaidHandle
namespace Go.Proofs.YtjakpdfonnpchaaDoor
open Go.RowKit

theorem hanEt : Tryd.prog.globalNamed "errors.errorType" = some 1 := by kernel_rfl
theorem hanRt : (Tryd.prog.cutTypes.find? (·.1 == "internal/reflectlite.rtype")).map (·.2) = some 104 := by kernel_rfl
theorem hanOne : ((List.range 149).filter fun t => Tryd.prog.rowNamed t [101, 114, 114, 111, 114]) = [26] := by kernel_rfl
theorem hanSize : Tryd.prog.types.size = 149 := by kernel_rfl
theorem hanW_of {L : List (String × DataW Unit)} {W : World} (hm : ("errors.errorType", Rows.laid_errors_errorType) ∈ L) (h : laidMetH Tryd.prog L W) : HanW W := by
  have hf : ("errors.errorType", Rows.laid_errors_errorType) ∈ L.filter (fun x => x.snd.handleName?.isSome) := List.mem_filter.2 ⟨hm, rfl⟩
  unfold laidMetH at h
  split at h
  · rename_i hE; rw [hE] at hf; cases hf
  rename_i hE
  rw [hE] at hf
  obtain ⟨name, u, ty, e1, e2, e3, e4, e5⟩ := h.2 _ hf
  have en : name = [101, 114, 114, 111, 114] := (Option.some.inj e1).symm
  subst en
  obtain rfl := Option.some.inj (hanRt.symm.trans e2)
  have hm : ty ∈ (List.range 149).filter fun t => Tryd.prog.rowNamed t [101, 114, 114, 111, 114] := List.mem_filter.2 ⟨List.mem_range.2 (by rw [← hanSize]; exact e3), e4⟩
  rw [hanOne] at hm
  obtain rfl := List.mem_singleton.1 hm
  have hh : typeHandle Tryd.prog 26 = .pointer (some ⟨4, 26, none⟩) := by kernel_rfl
  rw [hh] at e5
  simpa [HanW] using World.var?_cell hanEt e5 0
end Go.Proofs.YtjakpdfonnpchaaDoor
