/- An error by its number; what ends a walk with two results. -/
import Derived.Test.YtjakpdfonnpchaaDoorBox
namespace Go.Proofs.YtjakpdfonnpchaaDoor
open Go.RowKit

/-- an error by its number -/
abbrev errV (n : Int) : Value := .iface 32 (.int .i64 n)
theorem ret_str_nil {a b : List UInt8} {v : Value} (h : a = b) : Ending.returned (.tuple #[.string ⟨a.toArray⟩, v]) = .returned (.tuple #[.string ⟨b.toArray⟩, v]) := by rw [h]
end Go.Proofs.YtjakpdfonnpchaaDoor
