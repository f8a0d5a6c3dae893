/- The walks of lang.rules, lang.Rules and linguisterref1.RulesOf: a language's rules. -/
import Derived.Test.YtdannkcacldhmaaDoorProg
import Derived.Test.YtdannkcacldhmaaDoorBox
import Derived.Test.YtdannkcacldhmaaDoorErrs
import Derived.Test.YtdannkcacldhmaaDoorMaps
namespace Go.Proofs.YtdannkcacldhmaaDoor
open Go.RowKit

/-- the map's first entries -/
def lgE0 : Array MapEntry := #[]
def lgE1 : Array MapEntry := lgE0.push { key := .string ⟨#[101, 110]⟩, val := .agg #[.string ⟨#[]⟩, .string ⟨#[105, 32, 61, 32, 49, 32, 97, 110, 100, 32, 118, 32, 61, 32, 48]⟩, .string ⟨#[]⟩, .string ⟨#[]⟩, .string ⟨#[]⟩], born := 0 }
def lgE2 : Array MapEntry := lgE1.push { key := .string ⟨#[100, 101]⟩, val := .agg #[.string ⟨#[]⟩, .string ⟨#[105, 32, 61, 32, 49, 32, 97, 110, 100, 32, 118, 32, 61, 32, 48]⟩, .string ⟨#[]⟩, .string ⟨#[]⟩, .string ⟨#[]⟩], born := 1 }
def lgE3 : Array MapEntry := lgE2.push { key := .string ⟨#[102, 114]⟩, val := .agg #[.string ⟨#[]⟩, .string ⟨#[105, 32, 61, 32, 48, 44, 49]⟩, .string ⟨#[]⟩, .string ⟨#[]⟩, .string ⟨#[]⟩], born := 2 }
def lgE4 : Array MapEntry := lgE3.push { key := .string ⟨#[106, 97]⟩, val := .agg #[.string ⟨#[]⟩, .string ⟨#[]⟩, .string ⟨#[]⟩, .string ⟨#[]⟩, .string ⟨#[]⟩], born := 3 }
def lgE5 : Array MapEntry := lgE4.push { key := .string ⟨#[112, 108]⟩, val := .agg #[.string ⟨#[]⟩, .string ⟨#[105, 32, 61, 32, 49, 32, 97, 110, 100, 32, 118, 32, 61, 32, 48]⟩, .string ⟨#[]⟩, .string ⟨#[118, 32, 61, 32, 48, 32, 97, 110, 100, 32, 105, 32, 37, 32, 49, 48, 32, 61, 32, 50, 46, 46, 52, 32, 97, 110, 100, 32, 105, 32, 37, 32, 49, 48, 48, 32, 33, 61, 32, 49, 50, 46, 46, 49, 52]⟩, .string ⟨#[118, 32, 61, 32, 48, 32, 97, 110, 100, 32, 105, 32, 33, 61, 32, 49, 32, 97, 110, 100, 32, 105, 32, 37, 32, 49, 48, 32, 61, 32, 48, 46, 46, 49, 32, 111, 114, 32, 118, 32, 61, 32, 48, 32, 97, 110, 100, 32, 105, 32, 37, 32, 49, 48, 32, 61, 32, 53, 46, 46, 57, 32, 111, 114, 32, 118, 32, 61, 32, 48, 32, 97, 110, 100, 32, 105, 32, 37, 32, 49, 48, 48, 32, 61, 32, 49, 50, 46, 46, 49, 52]⟩], born := 4 }
def lgE6 : Array MapEntry := lgE5.push { key := .string ⟨#[114, 117]⟩, val := .agg #[.string ⟨#[]⟩, .string ⟨#[118, 32, 61, 32, 48, 32, 97, 110, 100, 32, 105, 32, 37, 32, 49, 48, 32, 61, 32, 49, 32, 97, 110, 100, 32, 105, 32, 37, 32, 49, 48, 48, 32, 33, 61, 32, 49, 49]⟩, .string ⟨#[]⟩, .string ⟨#[118, 32, 61, 32, 48, 32, 97, 110, 100, 32, 105, 32, 37, 32, 49, 48, 32, 61, 32, 50, 46, 46, 52, 32, 97, 110, 100, 32, 105, 32, 37, 32, 49, 48, 48, 32, 33, 61, 32, 49, 50, 46, 46, 49, 52]⟩, .string ⟨#[118, 32, 61, 32, 48, 32, 97, 110, 100, 32, 105, 32, 37, 32, 49, 48, 32, 61, 32, 48, 32, 111, 114, 32, 118, 32, 61, 32, 48, 32, 97, 110, 100, 32, 105, 32, 37, 32, 49, 48, 32, 61, 32, 53, 46, 46, 57, 32, 111, 114, 32, 118, 32, 61, 32, 48, 32, 97, 110, 100, 32, 105, 32, 37, 32, 49, 48, 48, 32, 61, 32, 49, 49, 46, 46, 49, 52]⟩], born := 5 }
def lgE7 : Array MapEntry := lgE6.push { key := .string ⟨#[97, 114]⟩, val := .agg #[.string ⟨#[110, 32, 61, 32, 48]⟩, .string ⟨#[110, 32, 61, 32, 49]⟩, .string ⟨#[110, 32, 61, 32, 50]⟩, .string ⟨#[110, 32, 37, 32, 49, 48, 48, 32, 61, 32, 51, 46, 46, 49, 48]⟩, .string ⟨#[110, 32, 37, 32, 49, 48, 48, 32, 61, 32, 49, 49, 46, 46, 57, 57]⟩], born := 6 }
def lgE8 : Array MapEntry := lgE7.push { key := .string ⟨#[108, 118]⟩, val := .agg #[.string ⟨#[110, 32, 37, 32, 49, 48, 32, 61, 32, 48, 32, 111, 114, 32, 110, 32, 37, 32, 49, 48, 48, 32, 61, 32, 49, 49, 46, 46, 49, 57, 32, 111, 114, 32, 118, 32, 61, 32, 50, 32, 97, 110, 100, 32, 102, 32, 37, 32, 49, 48, 48, 32, 61, 32, 49, 49, 46, 46, 49, 57]⟩, .string ⟨#[110, 32, 37, 32, 49, 48, 32, 61, 32, 49, 32, 97, 110, 100, 32, 110, 32, 37, 32, 49, 48, 48, 32, 33, 61, 32, 49, 49, 32, 111, 114, 32, 118, 32, 61, 32, 50, 32, 97, 110, 100, 32, 102, 32, 37, 32, 49, 48, 32, 61, 32, 49, 32, 97, 110, 100, 32, 102, 32, 37, 32, 49, 48, 48, 32, 33, 61, 32, 49, 49, 32, 111, 114, 32, 118, 32, 33, 61, 32, 50, 32, 97, 110, 100, 32, 102, 32, 37, 32, 49, 48, 32, 61, 32, 49]⟩, .string ⟨#[]⟩, .string ⟨#[]⟩, .string ⟨#[]⟩], born := 7 }

set_option maxRecDepth 100000 in
set_option maxHeartbeats 1000000 in
theorem rules_any (w : World) : Calls Tryd.prog 26 #[] w fun e w' => e = .returned (.map (some (w.heap.size + 1))) ∧ w' = (w.alloc (.cells #[.string ⟨#[]⟩, .string ⟨#[105, 32, 61, 32, 49, 32, 97, 110, 100, 32, 118, 32, 61, 32, 48]⟩, .string ⟨#[]⟩, .string ⟨#[]⟩, .string ⟨#[]⟩] 35)).alloc (.map lgE8 8) := by
  have I0 : (Instr.mapUpdate 59 (.map (some (w.heap.size + 1))) (.string ⟨#[101, 110]⟩) (.agg #[.string ⟨#[]⟩, .string ⟨#[105, 32, 61, 32, 49, 32, 97, 110, 100, 32, 118, 32, 61, 32, 48]⟩, .string ⟨#[]⟩, .string ⟨#[]⟩, .string ⟨#[]⟩])).run Tryd.prog ((w.alloc (.cells #[.string ⟨#[]⟩, .string ⟨#[105, 32, 61, 32, 49, 32, 97, 110, 100, 32, 118, 32, 61, 32, 48]⟩, .string ⟨#[]⟩, .string ⟨#[]⟩, .string ⟨#[]⟩] 35)).alloc (.map lgE0 0)) = .ok () ((w.alloc (.cells #[.string ⟨#[]⟩, .string ⟨#[105, 32, 61, 32, 49, 32, 97, 110, 100, 32, 118, 32, 61, 32, 48]⟩, .string ⟨#[]⟩, .string ⟨#[]⟩, .string ⟨#[]⟩] 35)).alloc (.map lgE1 1)) := by
    have h := map_new (P := Tryd.prog) 59 9 35 Tryd.underlying59 Tryd.underlying9 lgE0 0 ⟨#[101, 110]⟩ (.agg #[.string ⟨#[]⟩, .string ⟨#[105, 32, 61, 32, 49, 32, 97, 110, 100, 32, 118, 32, 61, 32, 48]⟩, .string ⟨#[]⟩, .string ⟨#[]⟩, .string ⟨#[]⟩]) (by kernel_rfl) (w.alloc (.cells #[.string ⟨#[]⟩, .string ⟨#[105, 32, 61, 32, 49, 32, 97, 110, 100, 32, 118, 32, 61, 32, 48]⟩, .string ⟨#[]⟩, .string ⟨#[]⟩, .string ⟨#[]⟩] 35))
    rw [show (w.alloc (.cells #[.string ⟨#[]⟩, .string ⟨#[105, 32, 61, 32, 49, 32, 97, 110, 100, 32, 118, 32, 61, 32, 48]⟩, .string ⟨#[]⟩, .string ⟨#[]⟩, .string ⟨#[]⟩] 35)).heap.size = w.heap.size + 1 by simp] at h
    exact h
  have I1 : (Instr.mapUpdate 59 (.map (some (w.heap.size + 1))) (.string ⟨#[100, 101]⟩) (.agg #[.string ⟨#[]⟩, .string ⟨#[105, 32, 61, 32, 49, 32, 97, 110, 100, 32, 118, 32, 61, 32, 48]⟩, .string ⟨#[]⟩, .string ⟨#[]⟩, .string ⟨#[]⟩])).run Tryd.prog ((w.alloc (.cells #[.string ⟨#[]⟩, .string ⟨#[105, 32, 61, 32, 49, 32, 97, 110, 100, 32, 118, 32, 61, 32, 48]⟩, .string ⟨#[]⟩, .string ⟨#[]⟩, .string ⟨#[]⟩] 35)).alloc (.map lgE1 1)) = .ok () ((w.alloc (.cells #[.string ⟨#[]⟩, .string ⟨#[105, 32, 61, 32, 49, 32, 97, 110, 100, 32, 118, 32, 61, 32, 48]⟩, .string ⟨#[]⟩, .string ⟨#[]⟩, .string ⟨#[]⟩] 35)).alloc (.map lgE2 2)) := by
    have h := map_new (P := Tryd.prog) 59 9 35 Tryd.underlying59 Tryd.underlying9 lgE1 1 ⟨#[100, 101]⟩ (.agg #[.string ⟨#[]⟩, .string ⟨#[105, 32, 61, 32, 49, 32, 97, 110, 100, 32, 118, 32, 61, 32, 48]⟩, .string ⟨#[]⟩, .string ⟨#[]⟩, .string ⟨#[]⟩]) (by kernel_rfl) (w.alloc (.cells #[.string ⟨#[]⟩, .string ⟨#[105, 32, 61, 32, 49, 32, 97, 110, 100, 32, 118, 32, 61, 32, 48]⟩, .string ⟨#[]⟩, .string ⟨#[]⟩, .string ⟨#[]⟩] 35))
    rw [show (w.alloc (.cells #[.string ⟨#[]⟩, .string ⟨#[105, 32, 61, 32, 49, 32, 97, 110, 100, 32, 118, 32, 61, 32, 48]⟩, .string ⟨#[]⟩, .string ⟨#[]⟩, .string ⟨#[]⟩] 35)).heap.size = w.heap.size + 1 by simp] at h
    exact h
  have I2 : (Instr.mapUpdate 59 (.map (some (w.heap.size + 1))) (.string ⟨#[102, 114]⟩) (.agg #[.string ⟨#[]⟩, .string ⟨#[105, 32, 61, 32, 48, 44, 49]⟩, .string ⟨#[]⟩, .string ⟨#[]⟩, .string ⟨#[]⟩])).run Tryd.prog ((w.alloc (.cells #[.string ⟨#[]⟩, .string ⟨#[105, 32, 61, 32, 49, 32, 97, 110, 100, 32, 118, 32, 61, 32, 48]⟩, .string ⟨#[]⟩, .string ⟨#[]⟩, .string ⟨#[]⟩] 35)).alloc (.map lgE2 2)) = .ok () ((w.alloc (.cells #[.string ⟨#[]⟩, .string ⟨#[105, 32, 61, 32, 49, 32, 97, 110, 100, 32, 118, 32, 61, 32, 48]⟩, .string ⟨#[]⟩, .string ⟨#[]⟩, .string ⟨#[]⟩] 35)).alloc (.map lgE3 3)) := by
    have h := map_new (P := Tryd.prog) 59 9 35 Tryd.underlying59 Tryd.underlying9 lgE2 2 ⟨#[102, 114]⟩ (.agg #[.string ⟨#[]⟩, .string ⟨#[105, 32, 61, 32, 48, 44, 49]⟩, .string ⟨#[]⟩, .string ⟨#[]⟩, .string ⟨#[]⟩]) (by kernel_rfl) (w.alloc (.cells #[.string ⟨#[]⟩, .string ⟨#[105, 32, 61, 32, 49, 32, 97, 110, 100, 32, 118, 32, 61, 32, 48]⟩, .string ⟨#[]⟩, .string ⟨#[]⟩, .string ⟨#[]⟩] 35))
    rw [show (w.alloc (.cells #[.string ⟨#[]⟩, .string ⟨#[105, 32, 61, 32, 49, 32, 97, 110, 100, 32, 118, 32, 61, 32, 48]⟩, .string ⟨#[]⟩, .string ⟨#[]⟩, .string ⟨#[]⟩] 35)).heap.size = w.heap.size + 1 by simp] at h
    exact h
  have I3 : (Instr.mapUpdate 59 (.map (some (w.heap.size + 1))) (.string ⟨#[106, 97]⟩) (.agg #[.string ⟨#[]⟩, .string ⟨#[]⟩, .string ⟨#[]⟩, .string ⟨#[]⟩, .string ⟨#[]⟩])).run Tryd.prog ((w.alloc (.cells #[.string ⟨#[]⟩, .string ⟨#[105, 32, 61, 32, 49, 32, 97, 110, 100, 32, 118, 32, 61, 32, 48]⟩, .string ⟨#[]⟩, .string ⟨#[]⟩, .string ⟨#[]⟩] 35)).alloc (.map lgE3 3)) = .ok () ((w.alloc (.cells #[.string ⟨#[]⟩, .string ⟨#[105, 32, 61, 32, 49, 32, 97, 110, 100, 32, 118, 32, 61, 32, 48]⟩, .string ⟨#[]⟩, .string ⟨#[]⟩, .string ⟨#[]⟩] 35)).alloc (.map lgE4 4)) := by
    have h := map_new (P := Tryd.prog) 59 9 35 Tryd.underlying59 Tryd.underlying9 lgE3 3 ⟨#[106, 97]⟩ (.agg #[.string ⟨#[]⟩, .string ⟨#[]⟩, .string ⟨#[]⟩, .string ⟨#[]⟩, .string ⟨#[]⟩]) (by kernel_rfl) (w.alloc (.cells #[.string ⟨#[]⟩, .string ⟨#[105, 32, 61, 32, 49, 32, 97, 110, 100, 32, 118, 32, 61, 32, 48]⟩, .string ⟨#[]⟩, .string ⟨#[]⟩, .string ⟨#[]⟩] 35))
    rw [show (w.alloc (.cells #[.string ⟨#[]⟩, .string ⟨#[105, 32, 61, 32, 49, 32, 97, 110, 100, 32, 118, 32, 61, 32, 48]⟩, .string ⟨#[]⟩, .string ⟨#[]⟩, .string ⟨#[]⟩] 35)).heap.size = w.heap.size + 1 by simp] at h
    exact h
  have I4 : (Instr.mapUpdate 59 (.map (some (w.heap.size + 1))) (.string ⟨#[112, 108]⟩) (.agg #[.string ⟨#[]⟩, .string ⟨#[105, 32, 61, 32, 49, 32, 97, 110, 100, 32, 118, 32, 61, 32, 48]⟩, .string ⟨#[]⟩, .string ⟨#[118, 32, 61, 32, 48, 32, 97, 110, 100, 32, 105, 32, 37, 32, 49, 48, 32, 61, 32, 50, 46, 46, 52, 32, 97, 110, 100, 32, 105, 32, 37, 32, 49, 48, 48, 32, 33, 61, 32, 49, 50, 46, 46, 49, 52]⟩, .string ⟨#[118, 32, 61, 32, 48, 32, 97, 110, 100, 32, 105, 32, 33, 61, 32, 49, 32, 97, 110, 100, 32, 105, 32, 37, 32, 49, 48, 32, 61, 32, 48, 46, 46, 49, 32, 111, 114, 32, 118, 32, 61, 32, 48, 32, 97, 110, 100, 32, 105, 32, 37, 32, 49, 48, 32, 61, 32, 53, 46, 46, 57, 32, 111, 114, 32, 118, 32, 61, 32, 48, 32, 97, 110, 100, 32, 105, 32, 37, 32, 49, 48, 48, 32, 61, 32, 49, 50, 46, 46, 49, 52]⟩])).run Tryd.prog ((w.alloc (.cells #[.string ⟨#[]⟩, .string ⟨#[105, 32, 61, 32, 49, 32, 97, 110, 100, 32, 118, 32, 61, 32, 48]⟩, .string ⟨#[]⟩, .string ⟨#[]⟩, .string ⟨#[]⟩] 35)).alloc (.map lgE4 4)) = .ok () ((w.alloc (.cells #[.string ⟨#[]⟩, .string ⟨#[105, 32, 61, 32, 49, 32, 97, 110, 100, 32, 118, 32, 61, 32, 48]⟩, .string ⟨#[]⟩, .string ⟨#[]⟩, .string ⟨#[]⟩] 35)).alloc (.map lgE5 5)) := by
    have h := map_new (P := Tryd.prog) 59 9 35 Tryd.underlying59 Tryd.underlying9 lgE4 4 ⟨#[112, 108]⟩ (.agg #[.string ⟨#[]⟩, .string ⟨#[105, 32, 61, 32, 49, 32, 97, 110, 100, 32, 118, 32, 61, 32, 48]⟩, .string ⟨#[]⟩, .string ⟨#[118, 32, 61, 32, 48, 32, 97, 110, 100, 32, 105, 32, 37, 32, 49, 48, 32, 61, 32, 50, 46, 46, 52, 32, 97, 110, 100, 32, 105, 32, 37, 32, 49, 48, 48, 32, 33, 61, 32, 49, 50, 46, 46, 49, 52]⟩, .string ⟨#[118, 32, 61, 32, 48, 32, 97, 110, 100, 32, 105, 32, 33, 61, 32, 49, 32, 97, 110, 100, 32, 105, 32, 37, 32, 49, 48, 32, 61, 32, 48, 46, 46, 49, 32, 111, 114, 32, 118, 32, 61, 32, 48, 32, 97, 110, 100, 32, 105, 32, 37, 32, 49, 48, 32, 61, 32, 53, 46, 46, 57, 32, 111, 114, 32, 118, 32, 61, 32, 48, 32, 97, 110, 100, 32, 105, 32, 37, 32, 49, 48, 48, 32, 61, 32, 49, 50, 46, 46, 49, 52]⟩]) (by kernel_rfl) (w.alloc (.cells #[.string ⟨#[]⟩, .string ⟨#[105, 32, 61, 32, 49, 32, 97, 110, 100, 32, 118, 32, 61, 32, 48]⟩, .string ⟨#[]⟩, .string ⟨#[]⟩, .string ⟨#[]⟩] 35))
    rw [show (w.alloc (.cells #[.string ⟨#[]⟩, .string ⟨#[105, 32, 61, 32, 49, 32, 97, 110, 100, 32, 118, 32, 61, 32, 48]⟩, .string ⟨#[]⟩, .string ⟨#[]⟩, .string ⟨#[]⟩] 35)).heap.size = w.heap.size + 1 by simp] at h
    exact h
  have I5 : (Instr.mapUpdate 59 (.map (some (w.heap.size + 1))) (.string ⟨#[114, 117]⟩) (.agg #[.string ⟨#[]⟩, .string ⟨#[118, 32, 61, 32, 48, 32, 97, 110, 100, 32, 105, 32, 37, 32, 49, 48, 32, 61, 32, 49, 32, 97, 110, 100, 32, 105, 32, 37, 32, 49, 48, 48, 32, 33, 61, 32, 49, 49]⟩, .string ⟨#[]⟩, .string ⟨#[118, 32, 61, 32, 48, 32, 97, 110, 100, 32, 105, 32, 37, 32, 49, 48, 32, 61, 32, 50, 46, 46, 52, 32, 97, 110, 100, 32, 105, 32, 37, 32, 49, 48, 48, 32, 33, 61, 32, 49, 50, 46, 46, 49, 52]⟩, .string ⟨#[118, 32, 61, 32, 48, 32, 97, 110, 100, 32, 105, 32, 37, 32, 49, 48, 32, 61, 32, 48, 32, 111, 114, 32, 118, 32, 61, 32, 48, 32, 97, 110, 100, 32, 105, 32, 37, 32, 49, 48, 32, 61, 32, 53, 46, 46, 57, 32, 111, 114, 32, 118, 32, 61, 32, 48, 32, 97, 110, 100, 32, 105, 32, 37, 32, 49, 48, 48, 32, 61, 32, 49, 49, 46, 46, 49, 52]⟩])).run Tryd.prog ((w.alloc (.cells #[.string ⟨#[]⟩, .string ⟨#[105, 32, 61, 32, 49, 32, 97, 110, 100, 32, 118, 32, 61, 32, 48]⟩, .string ⟨#[]⟩, .string ⟨#[]⟩, .string ⟨#[]⟩] 35)).alloc (.map lgE5 5)) = .ok () ((w.alloc (.cells #[.string ⟨#[]⟩, .string ⟨#[105, 32, 61, 32, 49, 32, 97, 110, 100, 32, 118, 32, 61, 32, 48]⟩, .string ⟨#[]⟩, .string ⟨#[]⟩, .string ⟨#[]⟩] 35)).alloc (.map lgE6 6)) := by
    have h := map_new (P := Tryd.prog) 59 9 35 Tryd.underlying59 Tryd.underlying9 lgE5 5 ⟨#[114, 117]⟩ (.agg #[.string ⟨#[]⟩, .string ⟨#[118, 32, 61, 32, 48, 32, 97, 110, 100, 32, 105, 32, 37, 32, 49, 48, 32, 61, 32, 49, 32, 97, 110, 100, 32, 105, 32, 37, 32, 49, 48, 48, 32, 33, 61, 32, 49, 49]⟩, .string ⟨#[]⟩, .string ⟨#[118, 32, 61, 32, 48, 32, 97, 110, 100, 32, 105, 32, 37, 32, 49, 48, 32, 61, 32, 50, 46, 46, 52, 32, 97, 110, 100, 32, 105, 32, 37, 32, 49, 48, 48, 32, 33, 61, 32, 49, 50, 46, 46, 49, 52]⟩, .string ⟨#[118, 32, 61, 32, 48, 32, 97, 110, 100, 32, 105, 32, 37, 32, 49, 48, 32, 61, 32, 48, 32, 111, 114, 32, 118, 32, 61, 32, 48, 32, 97, 110, 100, 32, 105, 32, 37, 32, 49, 48, 32, 61, 32, 53, 46, 46, 57, 32, 111, 114, 32, 118, 32, 61, 32, 48, 32, 97, 110, 100, 32, 105, 32, 37, 32, 49, 48, 48, 32, 61, 32, 49, 49, 46, 46, 49, 52]⟩]) (by kernel_rfl) (w.alloc (.cells #[.string ⟨#[]⟩, .string ⟨#[105, 32, 61, 32, 49, 32, 97, 110, 100, 32, 118, 32, 61, 32, 48]⟩, .string ⟨#[]⟩, .string ⟨#[]⟩, .string ⟨#[]⟩] 35))
    rw [show (w.alloc (.cells #[.string ⟨#[]⟩, .string ⟨#[105, 32, 61, 32, 49, 32, 97, 110, 100, 32, 118, 32, 61, 32, 48]⟩, .string ⟨#[]⟩, .string ⟨#[]⟩, .string ⟨#[]⟩] 35)).heap.size = w.heap.size + 1 by simp] at h
    exact h
  have I6 : (Instr.mapUpdate 59 (.map (some (w.heap.size + 1))) (.string ⟨#[97, 114]⟩) (.agg #[.string ⟨#[110, 32, 61, 32, 48]⟩, .string ⟨#[110, 32, 61, 32, 49]⟩, .string ⟨#[110, 32, 61, 32, 50]⟩, .string ⟨#[110, 32, 37, 32, 49, 48, 48, 32, 61, 32, 51, 46, 46, 49, 48]⟩, .string ⟨#[110, 32, 37, 32, 49, 48, 48, 32, 61, 32, 49, 49, 46, 46, 57, 57]⟩])).run Tryd.prog ((w.alloc (.cells #[.string ⟨#[]⟩, .string ⟨#[105, 32, 61, 32, 49, 32, 97, 110, 100, 32, 118, 32, 61, 32, 48]⟩, .string ⟨#[]⟩, .string ⟨#[]⟩, .string ⟨#[]⟩] 35)).alloc (.map lgE6 6)) = .ok () ((w.alloc (.cells #[.string ⟨#[]⟩, .string ⟨#[105, 32, 61, 32, 49, 32, 97, 110, 100, 32, 118, 32, 61, 32, 48]⟩, .string ⟨#[]⟩, .string ⟨#[]⟩, .string ⟨#[]⟩] 35)).alloc (.map lgE7 7)) := by
    have h := map_new (P := Tryd.prog) 59 9 35 Tryd.underlying59 Tryd.underlying9 lgE6 6 ⟨#[97, 114]⟩ (.agg #[.string ⟨#[110, 32, 61, 32, 48]⟩, .string ⟨#[110, 32, 61, 32, 49]⟩, .string ⟨#[110, 32, 61, 32, 50]⟩, .string ⟨#[110, 32, 37, 32, 49, 48, 48, 32, 61, 32, 51, 46, 46, 49, 48]⟩, .string ⟨#[110, 32, 37, 32, 49, 48, 48, 32, 61, 32, 49, 49, 46, 46, 57, 57]⟩]) (by kernel_rfl) (w.alloc (.cells #[.string ⟨#[]⟩, .string ⟨#[105, 32, 61, 32, 49, 32, 97, 110, 100, 32, 118, 32, 61, 32, 48]⟩, .string ⟨#[]⟩, .string ⟨#[]⟩, .string ⟨#[]⟩] 35))
    rw [show (w.alloc (.cells #[.string ⟨#[]⟩, .string ⟨#[105, 32, 61, 32, 49, 32, 97, 110, 100, 32, 118, 32, 61, 32, 48]⟩, .string ⟨#[]⟩, .string ⟨#[]⟩, .string ⟨#[]⟩] 35)).heap.size = w.heap.size + 1 by simp] at h
    exact h
  have I7 : (Instr.mapUpdate 59 (.map (some (w.heap.size + 1))) (.string ⟨#[108, 118]⟩) (.agg #[.string ⟨#[110, 32, 37, 32, 49, 48, 32, 61, 32, 48, 32, 111, 114, 32, 110, 32, 37, 32, 49, 48, 48, 32, 61, 32, 49, 49, 46, 46, 49, 57, 32, 111, 114, 32, 118, 32, 61, 32, 50, 32, 97, 110, 100, 32, 102, 32, 37, 32, 49, 48, 48, 32, 61, 32, 49, 49, 46, 46, 49, 57]⟩, .string ⟨#[110, 32, 37, 32, 49, 48, 32, 61, 32, 49, 32, 97, 110, 100, 32, 110, 32, 37, 32, 49, 48, 48, 32, 33, 61, 32, 49, 49, 32, 111, 114, 32, 118, 32, 61, 32, 50, 32, 97, 110, 100, 32, 102, 32, 37, 32, 49, 48, 32, 61, 32, 49, 32, 97, 110, 100, 32, 102, 32, 37, 32, 49, 48, 48, 32, 33, 61, 32, 49, 49, 32, 111, 114, 32, 118, 32, 33, 61, 32, 50, 32, 97, 110, 100, 32, 102, 32, 37, 32, 49, 48, 32, 61, 32, 49]⟩, .string ⟨#[]⟩, .string ⟨#[]⟩, .string ⟨#[]⟩])).run Tryd.prog ((w.alloc (.cells #[.string ⟨#[]⟩, .string ⟨#[105, 32, 61, 32, 49, 32, 97, 110, 100, 32, 118, 32, 61, 32, 48]⟩, .string ⟨#[]⟩, .string ⟨#[]⟩, .string ⟨#[]⟩] 35)).alloc (.map lgE7 7)) = .ok () ((w.alloc (.cells #[.string ⟨#[]⟩, .string ⟨#[105, 32, 61, 32, 49, 32, 97, 110, 100, 32, 118, 32, 61, 32, 48]⟩, .string ⟨#[]⟩, .string ⟨#[]⟩, .string ⟨#[]⟩] 35)).alloc (.map lgE8 8)) := by
    have h := map_new (P := Tryd.prog) 59 9 35 Tryd.underlying59 Tryd.underlying9 lgE7 7 ⟨#[108, 118]⟩ (.agg #[.string ⟨#[110, 32, 37, 32, 49, 48, 32, 61, 32, 48, 32, 111, 114, 32, 110, 32, 37, 32, 49, 48, 48, 32, 61, 32, 49, 49, 46, 46, 49, 57, 32, 111, 114, 32, 118, 32, 61, 32, 50, 32, 97, 110, 100, 32, 102, 32, 37, 32, 49, 48, 48, 32, 61, 32, 49, 49, 46, 46, 49, 57]⟩, .string ⟨#[110, 32, 37, 32, 49, 48, 32, 61, 32, 49, 32, 97, 110, 100, 32, 110, 32, 37, 32, 49, 48, 48, 32, 33, 61, 32, 49, 49, 32, 111, 114, 32, 118, 32, 61, 32, 50, 32, 97, 110, 100, 32, 102, 32, 37, 32, 49, 48, 32, 61, 32, 49, 32, 97, 110, 100, 32, 102, 32, 37, 32, 49, 48, 48, 32, 33, 61, 32, 49, 49, 32, 111, 114, 32, 118, 32, 33, 61, 32, 50, 32, 97, 110, 100, 32, 102, 32, 37, 32, 49, 48, 32, 61, 32, 49]⟩, .string ⟨#[]⟩, .string ⟨#[]⟩, .string ⟨#[]⟩]) (by kernel_rfl) (w.alloc (.cells #[.string ⟨#[]⟩, .string ⟨#[105, 32, 61, 32, 49, 32, 97, 110, 100, 32, 118, 32, 61, 32, 48]⟩, .string ⟨#[]⟩, .string ⟨#[]⟩, .string ⟨#[]⟩] 35))
    rw [show (w.alloc (.cells #[.string ⟨#[]⟩, .string ⟨#[105, 32, 61, 32, 49, 32, 97, 110, 100, 32, 118, 32, 61, 32, 48]⟩, .string ⟨#[]⟩, .string ⟨#[]⟩, .string ⟨#[]⟩] 35)).heap.size = w.heap.size + 1 by simp] at h
    exact h
  have hmm : ∀ w, (Instr.makeMap 59 none).run Tryd.prog w = .ok (.map (some w.heap.size)) (w.alloc (.map lgE0 0)) := fun w => @run_makeMap Tryd.prog 59 w
  go_enter Tryd.func26, Tryd.ntmps26
  go_wp2_with fail
  go_ret
  exact ⟨rfl, rfl⟩

set_option maxRecDepth 100000 in
set_option maxHeartbeats 1000000 in
theorem langRules_en (w : World) : Calls Tryd.prog 12 #[.string ⟨#[101, 110]⟩] w fun e w' => e = .returned (.tuple #[.agg #[.string ⟨#[]⟩, .string ⟨#[105, 32, 61, 32, 49, 32, 97, 110, 100, 32, 118, 32, 61, 32, 48]⟩, .string ⟨#[]⟩, .string ⟨#[]⟩, .string ⟨#[]⟩], .nilIface]) ∧ Below w.heap.size w w' := by
  have LK : (Instr.lookup 59 (.map (some (w.heap.size + 1 + 1))) (.string ⟨#[101, 110]⟩) true).run Tryd.prog (((w.alloc (.cells #[.string ⟨#[]⟩, .string ⟨#[]⟩, .string ⟨#[]⟩, .string ⟨#[]⟩, .string ⟨#[]⟩] 35)).alloc (.cells #[.string ⟨#[]⟩, .string ⟨#[105, 32, 61, 32, 49, 32, 97, 110, 100, 32, 118, 32, 61, 32, 48]⟩, .string ⟨#[]⟩, .string ⟨#[]⟩, .string ⟨#[]⟩] 35)).alloc (.map lgE8 8)) = .ok (.tuple #[.agg #[.string ⟨#[]⟩, .string ⟨#[105, 32, 61, 32, 49, 32, 97, 110, 100, 32, 118, 32, 61, 32, 48]⟩, .string ⟨#[]⟩, .string ⟨#[]⟩, .string ⟨#[]⟩], .bool true]) (((w.alloc (.cells #[.string ⟨#[]⟩, .string ⟨#[]⟩, .string ⟨#[]⟩, .string ⟨#[]⟩, .string ⟨#[]⟩] 35)).alloc (.cells #[.string ⟨#[]⟩, .string ⟨#[105, 32, 61, 32, 49, 32, 97, 110, 100, 32, 118, 32, 61, 32, 48]⟩, .string ⟨#[]⟩, .string ⟨#[]⟩, .string ⟨#[]⟩] 35)).alloc (.map lgE8 8)) :=
    map_look (P := Tryd.prog) 59 9 35 Tryd.underlying59 Tryd.underlying9 lgE8 8 (w.heap.size + 1 + 1) 0 ⟨#[101, 110]⟩ (.agg #[.string ⟨#[]⟩, .string ⟨#[105, 32, 61, 32, 49, 32, 97, 110, 100, 32, 118, 32, 61, 32, 48]⟩, .string ⟨#[]⟩, .string ⟨#[]⟩, .string ⟨#[]⟩]) _ (top_alloc _ _ _ (by simp)) (by kernel_rfl)
  go_enter Tryd.func12, Tryd.ntmps12
  go_wp2_with fail
  refine (rules_any _).mono ?_
  rintro e w1 ⟨rfl, rfl⟩
  go_wp2_with fail
  refine bodyPost_ret (v := .tuple #[.agg #[.string ⟨#[]⟩, .string ⟨#[105, 32, 61, 32, 49, 32, 97, 110, 100, 32, 118, 32, 61, 32, 48]⟩, .string ⟨#[]⟩, .string ⟨#[]⟩, .string ⟨#[]⟩], .nilIface]) (by simp [results, Tryd.results12, go_sem]) rfl ⟨rfl, ?_⟩
  repeat (first | exact Below.refl _ _ | refine Below.setCell ?_ (by simp) _ | refine Below.alloc ?_ (by first | (simp; done) | (simp; omega)) _)

set_option maxRecDepth 100000 in
set_option maxHeartbeats 1000000 in
theorem rulesOf_en (w : World) : Calls Tryd.prog 13 #[.string ⟨#[101, 110]⟩] w fun e w' => e = .returned (.tuple #[.agg #[.string ⟨#[]⟩, .string ⟨#[105, 32, 61, 32, 49, 32, 97, 110, 100, 32, 118, 32, 61, 32, 48]⟩, .string ⟨#[]⟩, .string ⟨#[]⟩, .string ⟨#[]⟩], .bool true]) ∧ Below w.heap.size w w' := by
  go_enter Tryd.func13, Tryd.ntmps13
  go_wp2_with fail
  refine bodyPost_ret (v := .tuple #[.agg #[.string ⟨#[]⟩, .string ⟨#[105, 32, 61, 32, 49, 32, 97, 110, 100, 32, 118, 32, 61, 32, 48]⟩, .string ⟨#[]⟩, .string ⟨#[]⟩, .string ⟨#[]⟩], .bool true]) (by simp [results, Tryd.results13, go_sem]) rfl ⟨rfl, ?_⟩
  repeat (first | exact Below.refl _ _ | refine Below.setCell ?_ (by simp) _ | refine Below.alloc ?_ (by first | (simp; done) | (simp; omega)) _)

set_option maxRecDepth 100000 in
set_option maxHeartbeats 1000000 in
theorem langRules_de (w : World) : Calls Tryd.prog 12 #[.string ⟨#[100, 101]⟩] w fun e w' => e = .returned (.tuple #[.agg #[.string ⟨#[]⟩, .string ⟨#[105, 32, 61, 32, 49, 32, 97, 110, 100, 32, 118, 32, 61, 32, 48]⟩, .string ⟨#[]⟩, .string ⟨#[]⟩, .string ⟨#[]⟩], .nilIface]) ∧ Below w.heap.size w w' := by
  have LK : (Instr.lookup 59 (.map (some (w.heap.size + 1 + 1))) (.string ⟨#[100, 101]⟩) true).run Tryd.prog (((w.alloc (.cells #[.string ⟨#[]⟩, .string ⟨#[]⟩, .string ⟨#[]⟩, .string ⟨#[]⟩, .string ⟨#[]⟩] 35)).alloc (.cells #[.string ⟨#[]⟩, .string ⟨#[105, 32, 61, 32, 49, 32, 97, 110, 100, 32, 118, 32, 61, 32, 48]⟩, .string ⟨#[]⟩, .string ⟨#[]⟩, .string ⟨#[]⟩] 35)).alloc (.map lgE8 8)) = .ok (.tuple #[.agg #[.string ⟨#[]⟩, .string ⟨#[105, 32, 61, 32, 49, 32, 97, 110, 100, 32, 118, 32, 61, 32, 48]⟩, .string ⟨#[]⟩, .string ⟨#[]⟩, .string ⟨#[]⟩], .bool true]) (((w.alloc (.cells #[.string ⟨#[]⟩, .string ⟨#[]⟩, .string ⟨#[]⟩, .string ⟨#[]⟩, .string ⟨#[]⟩] 35)).alloc (.cells #[.string ⟨#[]⟩, .string ⟨#[105, 32, 61, 32, 49, 32, 97, 110, 100, 32, 118, 32, 61, 32, 48]⟩, .string ⟨#[]⟩, .string ⟨#[]⟩, .string ⟨#[]⟩] 35)).alloc (.map lgE8 8)) :=
    map_look (P := Tryd.prog) 59 9 35 Tryd.underlying59 Tryd.underlying9 lgE8 8 (w.heap.size + 1 + 1) 1 ⟨#[100, 101]⟩ (.agg #[.string ⟨#[]⟩, .string ⟨#[105, 32, 61, 32, 49, 32, 97, 110, 100, 32, 118, 32, 61, 32, 48]⟩, .string ⟨#[]⟩, .string ⟨#[]⟩, .string ⟨#[]⟩]) _ (top_alloc _ _ _ (by simp)) (by kernel_rfl)
  go_enter Tryd.func12, Tryd.ntmps12
  go_wp2_with fail
  refine (rules_any _).mono ?_
  rintro e w1 ⟨rfl, rfl⟩
  go_wp2_with fail
  refine bodyPost_ret (v := .tuple #[.agg #[.string ⟨#[]⟩, .string ⟨#[105, 32, 61, 32, 49, 32, 97, 110, 100, 32, 118, 32, 61, 32, 48]⟩, .string ⟨#[]⟩, .string ⟨#[]⟩, .string ⟨#[]⟩], .nilIface]) (by simp [results, Tryd.results12, go_sem]) rfl ⟨rfl, ?_⟩
  repeat (first | exact Below.refl _ _ | refine Below.setCell ?_ (by simp) _ | refine Below.alloc ?_ (by first | (simp; done) | (simp; omega)) _)

set_option maxRecDepth 100000 in
set_option maxHeartbeats 1000000 in
theorem rulesOf_de (w : World) : Calls Tryd.prog 13 #[.string ⟨#[100, 101]⟩] w fun e w' => e = .returned (.tuple #[.agg #[.string ⟨#[]⟩, .string ⟨#[105, 32, 61, 32, 49, 32, 97, 110, 100, 32, 118, 32, 61, 32, 48]⟩, .string ⟨#[]⟩, .string ⟨#[]⟩, .string ⟨#[]⟩], .bool true]) ∧ Below w.heap.size w w' := by
  go_enter Tryd.func13, Tryd.ntmps13
  go_wp2_with fail
  refine bodyPost_ret (v := .tuple #[.agg #[.string ⟨#[]⟩, .string ⟨#[105, 32, 61, 32, 49, 32, 97, 110, 100, 32, 118, 32, 61, 32, 48]⟩, .string ⟨#[]⟩, .string ⟨#[]⟩, .string ⟨#[]⟩], .bool true]) (by simp [results, Tryd.results13, go_sem]) rfl ⟨rfl, ?_⟩
  repeat (first | exact Below.refl _ _ | refine Below.setCell ?_ (by simp) _ | refine Below.alloc ?_ (by first | (simp; done) | (simp; omega)) _)

set_option maxRecDepth 100000 in
set_option maxHeartbeats 1000000 in
theorem langRules_fr (w : World) : Calls Tryd.prog 12 #[.string ⟨#[102, 114]⟩] w fun e w' => e = .returned (.tuple #[.agg #[.string ⟨#[]⟩, .string ⟨#[105, 32, 61, 32, 48, 44, 49]⟩, .string ⟨#[]⟩, .string ⟨#[]⟩, .string ⟨#[]⟩], .nilIface]) ∧ Below w.heap.size w w' := by
  have LK : (Instr.lookup 59 (.map (some (w.heap.size + 1 + 1))) (.string ⟨#[102, 114]⟩) true).run Tryd.prog (((w.alloc (.cells #[.string ⟨#[]⟩, .string ⟨#[]⟩, .string ⟨#[]⟩, .string ⟨#[]⟩, .string ⟨#[]⟩] 35)).alloc (.cells #[.string ⟨#[]⟩, .string ⟨#[105, 32, 61, 32, 49, 32, 97, 110, 100, 32, 118, 32, 61, 32, 48]⟩, .string ⟨#[]⟩, .string ⟨#[]⟩, .string ⟨#[]⟩] 35)).alloc (.map lgE8 8)) = .ok (.tuple #[.agg #[.string ⟨#[]⟩, .string ⟨#[105, 32, 61, 32, 48, 44, 49]⟩, .string ⟨#[]⟩, .string ⟨#[]⟩, .string ⟨#[]⟩], .bool true]) (((w.alloc (.cells #[.string ⟨#[]⟩, .string ⟨#[]⟩, .string ⟨#[]⟩, .string ⟨#[]⟩, .string ⟨#[]⟩] 35)).alloc (.cells #[.string ⟨#[]⟩, .string ⟨#[105, 32, 61, 32, 49, 32, 97, 110, 100, 32, 118, 32, 61, 32, 48]⟩, .string ⟨#[]⟩, .string ⟨#[]⟩, .string ⟨#[]⟩] 35)).alloc (.map lgE8 8)) :=
    map_look (P := Tryd.prog) 59 9 35 Tryd.underlying59 Tryd.underlying9 lgE8 8 (w.heap.size + 1 + 1) 2 ⟨#[102, 114]⟩ (.agg #[.string ⟨#[]⟩, .string ⟨#[105, 32, 61, 32, 48, 44, 49]⟩, .string ⟨#[]⟩, .string ⟨#[]⟩, .string ⟨#[]⟩]) _ (top_alloc _ _ _ (by simp)) (by kernel_rfl)
  go_enter Tryd.func12, Tryd.ntmps12
  go_wp2_with fail
  refine (rules_any _).mono ?_
  rintro e w1 ⟨rfl, rfl⟩
  go_wp2_with fail
  refine bodyPost_ret (v := .tuple #[.agg #[.string ⟨#[]⟩, .string ⟨#[105, 32, 61, 32, 48, 44, 49]⟩, .string ⟨#[]⟩, .string ⟨#[]⟩, .string ⟨#[]⟩], .nilIface]) (by simp [results, Tryd.results12, go_sem]) rfl ⟨rfl, ?_⟩
  repeat (first | exact Below.refl _ _ | refine Below.setCell ?_ (by simp) _ | refine Below.alloc ?_ (by first | (simp; done) | (simp; omega)) _)

set_option maxRecDepth 100000 in
set_option maxHeartbeats 1000000 in
theorem rulesOf_fr (w : World) : Calls Tryd.prog 13 #[.string ⟨#[102, 114]⟩] w fun e w' => e = .returned (.tuple #[.agg #[.string ⟨#[]⟩, .string ⟨#[105, 32, 61, 32, 48, 44, 49]⟩, .string ⟨#[]⟩, .string ⟨#[]⟩, .string ⟨#[]⟩], .bool true]) ∧ Below w.heap.size w w' := by
  go_enter Tryd.func13, Tryd.ntmps13
  go_wp2_with fail
  refine bodyPost_ret (v := .tuple #[.agg #[.string ⟨#[]⟩, .string ⟨#[105, 32, 61, 32, 48, 44, 49]⟩, .string ⟨#[]⟩, .string ⟨#[]⟩, .string ⟨#[]⟩], .bool true]) (by simp [results, Tryd.results13, go_sem]) rfl ⟨rfl, ?_⟩
  repeat (first | exact Below.refl _ _ | refine Below.setCell ?_ (by simp) _ | refine Below.alloc ?_ (by first | (simp; done) | (simp; omega)) _)

set_option maxRecDepth 100000 in
set_option maxHeartbeats 1000000 in
theorem langRules_ja (w : World) : Calls Tryd.prog 12 #[.string ⟨#[106, 97]⟩] w fun e w' => e = .returned (.tuple #[.agg #[.string ⟨#[]⟩, .string ⟨#[]⟩, .string ⟨#[]⟩, .string ⟨#[]⟩, .string ⟨#[]⟩], .nilIface]) ∧ Below w.heap.size w w' := by
  have LK : (Instr.lookup 59 (.map (some (w.heap.size + 1 + 1))) (.string ⟨#[106, 97]⟩) true).run Tryd.prog (((w.alloc (.cells #[.string ⟨#[]⟩, .string ⟨#[]⟩, .string ⟨#[]⟩, .string ⟨#[]⟩, .string ⟨#[]⟩] 35)).alloc (.cells #[.string ⟨#[]⟩, .string ⟨#[105, 32, 61, 32, 49, 32, 97, 110, 100, 32, 118, 32, 61, 32, 48]⟩, .string ⟨#[]⟩, .string ⟨#[]⟩, .string ⟨#[]⟩] 35)).alloc (.map lgE8 8)) = .ok (.tuple #[.agg #[.string ⟨#[]⟩, .string ⟨#[]⟩, .string ⟨#[]⟩, .string ⟨#[]⟩, .string ⟨#[]⟩], .bool true]) (((w.alloc (.cells #[.string ⟨#[]⟩, .string ⟨#[]⟩, .string ⟨#[]⟩, .string ⟨#[]⟩, .string ⟨#[]⟩] 35)).alloc (.cells #[.string ⟨#[]⟩, .string ⟨#[105, 32, 61, 32, 49, 32, 97, 110, 100, 32, 118, 32, 61, 32, 48]⟩, .string ⟨#[]⟩, .string ⟨#[]⟩, .string ⟨#[]⟩] 35)).alloc (.map lgE8 8)) :=
    map_look (P := Tryd.prog) 59 9 35 Tryd.underlying59 Tryd.underlying9 lgE8 8 (w.heap.size + 1 + 1) 3 ⟨#[106, 97]⟩ (.agg #[.string ⟨#[]⟩, .string ⟨#[]⟩, .string ⟨#[]⟩, .string ⟨#[]⟩, .string ⟨#[]⟩]) _ (top_alloc _ _ _ (by simp)) (by kernel_rfl)
  go_enter Tryd.func12, Tryd.ntmps12
  go_wp2_with fail
  refine (rules_any _).mono ?_
  rintro e w1 ⟨rfl, rfl⟩
  go_wp2_with fail
  refine bodyPost_ret (v := .tuple #[.agg #[.string ⟨#[]⟩, .string ⟨#[]⟩, .string ⟨#[]⟩, .string ⟨#[]⟩, .string ⟨#[]⟩], .nilIface]) (by simp [results, Tryd.results12, go_sem]) rfl ⟨rfl, ?_⟩
  repeat (first | exact Below.refl _ _ | refine Below.setCell ?_ (by simp) _ | refine Below.alloc ?_ (by first | (simp; done) | (simp; omega)) _)

set_option maxRecDepth 100000 in
set_option maxHeartbeats 1000000 in
theorem rulesOf_ja (w : World) : Calls Tryd.prog 13 #[.string ⟨#[106, 97]⟩] w fun e w' => e = .returned (.tuple #[.agg #[.string ⟨#[]⟩, .string ⟨#[]⟩, .string ⟨#[]⟩, .string ⟨#[]⟩, .string ⟨#[]⟩], .bool true]) ∧ Below w.heap.size w w' := by
  go_enter Tryd.func13, Tryd.ntmps13
  go_wp2_with fail
  refine bodyPost_ret (v := .tuple #[.agg #[.string ⟨#[]⟩, .string ⟨#[]⟩, .string ⟨#[]⟩, .string ⟨#[]⟩, .string ⟨#[]⟩], .bool true]) (by simp [results, Tryd.results13, go_sem]) rfl ⟨rfl, ?_⟩
  repeat (first | exact Below.refl _ _ | refine Below.setCell ?_ (by simp) _ | refine Below.alloc ?_ (by first | (simp; done) | (simp; omega)) _)

set_option maxRecDepth 100000 in
set_option maxHeartbeats 1000000 in
theorem langRules_pl (w : World) : Calls Tryd.prog 12 #[.string ⟨#[112, 108]⟩] w fun e w' => e = .returned (.tuple #[.agg #[.string ⟨#[]⟩, .string ⟨#[105, 32, 61, 32, 49, 32, 97, 110, 100, 32, 118, 32, 61, 32, 48]⟩, .string ⟨#[]⟩, .string ⟨#[118, 32, 61, 32, 48, 32, 97, 110, 100, 32, 105, 32, 37, 32, 49, 48, 32, 61, 32, 50, 46, 46, 52, 32, 97, 110, 100, 32, 105, 32, 37, 32, 49, 48, 48, 32, 33, 61, 32, 49, 50, 46, 46, 49, 52]⟩, .string ⟨#[118, 32, 61, 32, 48, 32, 97, 110, 100, 32, 105, 32, 33, 61, 32, 49, 32, 97, 110, 100, 32, 105, 32, 37, 32, 49, 48, 32, 61, 32, 48, 46, 46, 49, 32, 111, 114, 32, 118, 32, 61, 32, 48, 32, 97, 110, 100, 32, 105, 32, 37, 32, 49, 48, 32, 61, 32, 53, 46, 46, 57, 32, 111, 114, 32, 118, 32, 61, 32, 48, 32, 97, 110, 100, 32, 105, 32, 37, 32, 49, 48, 48, 32, 61, 32, 49, 50, 46, 46, 49, 52]⟩], .nilIface]) ∧ Below w.heap.size w w' := by
  have LK : (Instr.lookup 59 (.map (some (w.heap.size + 1 + 1))) (.string ⟨#[112, 108]⟩) true).run Tryd.prog (((w.alloc (.cells #[.string ⟨#[]⟩, .string ⟨#[]⟩, .string ⟨#[]⟩, .string ⟨#[]⟩, .string ⟨#[]⟩] 35)).alloc (.cells #[.string ⟨#[]⟩, .string ⟨#[105, 32, 61, 32, 49, 32, 97, 110, 100, 32, 118, 32, 61, 32, 48]⟩, .string ⟨#[]⟩, .string ⟨#[]⟩, .string ⟨#[]⟩] 35)).alloc (.map lgE8 8)) = .ok (.tuple #[.agg #[.string ⟨#[]⟩, .string ⟨#[105, 32, 61, 32, 49, 32, 97, 110, 100, 32, 118, 32, 61, 32, 48]⟩, .string ⟨#[]⟩, .string ⟨#[118, 32, 61, 32, 48, 32, 97, 110, 100, 32, 105, 32, 37, 32, 49, 48, 32, 61, 32, 50, 46, 46, 52, 32, 97, 110, 100, 32, 105, 32, 37, 32, 49, 48, 48, 32, 33, 61, 32, 49, 50, 46, 46, 49, 52]⟩, .string ⟨#[118, 32, 61, 32, 48, 32, 97, 110, 100, 32, 105, 32, 33, 61, 32, 49, 32, 97, 110, 100, 32, 105, 32, 37, 32, 49, 48, 32, 61, 32, 48, 46, 46, 49, 32, 111, 114, 32, 118, 32, 61, 32, 48, 32, 97, 110, 100, 32, 105, 32, 37, 32, 49, 48, 32, 61, 32, 53, 46, 46, 57, 32, 111, 114, 32, 118, 32, 61, 32, 48, 32, 97, 110, 100, 32, 105, 32, 37, 32, 49, 48, 48, 32, 61, 32, 49, 50, 46, 46, 49, 52]⟩], .bool true]) (((w.alloc (.cells #[.string ⟨#[]⟩, .string ⟨#[]⟩, .string ⟨#[]⟩, .string ⟨#[]⟩, .string ⟨#[]⟩] 35)).alloc (.cells #[.string ⟨#[]⟩, .string ⟨#[105, 32, 61, 32, 49, 32, 97, 110, 100, 32, 118, 32, 61, 32, 48]⟩, .string ⟨#[]⟩, .string ⟨#[]⟩, .string ⟨#[]⟩] 35)).alloc (.map lgE8 8)) :=
    map_look (P := Tryd.prog) 59 9 35 Tryd.underlying59 Tryd.underlying9 lgE8 8 (w.heap.size + 1 + 1) 4 ⟨#[112, 108]⟩ (.agg #[.string ⟨#[]⟩, .string ⟨#[105, 32, 61, 32, 49, 32, 97, 110, 100, 32, 118, 32, 61, 32, 48]⟩, .string ⟨#[]⟩, .string ⟨#[118, 32, 61, 32, 48, 32, 97, 110, 100, 32, 105, 32, 37, 32, 49, 48, 32, 61, 32, 50, 46, 46, 52, 32, 97, 110, 100, 32, 105, 32, 37, 32, 49, 48, 48, 32, 33, 61, 32, 49, 50, 46, 46, 49, 52]⟩, .string ⟨#[118, 32, 61, 32, 48, 32, 97, 110, 100, 32, 105, 32, 33, 61, 32, 49, 32, 97, 110, 100, 32, 105, 32, 37, 32, 49, 48, 32, 61, 32, 48, 46, 46, 49, 32, 111, 114, 32, 118, 32, 61, 32, 48, 32, 97, 110, 100, 32, 105, 32, 37, 32, 49, 48, 32, 61, 32, 53, 46, 46, 57, 32, 111, 114, 32, 118, 32, 61, 32, 48, 32, 97, 110, 100, 32, 105, 32, 37, 32, 49, 48, 48, 32, 61, 32, 49, 50, 46, 46, 49, 52]⟩]) _ (top_alloc _ _ _ (by simp)) (by kernel_rfl)
  go_enter Tryd.func12, Tryd.ntmps12
  go_wp2_with fail
  refine (rules_any _).mono ?_
  rintro e w1 ⟨rfl, rfl⟩
  go_wp2_with fail
  refine bodyPost_ret (v := .tuple #[.agg #[.string ⟨#[]⟩, .string ⟨#[105, 32, 61, 32, 49, 32, 97, 110, 100, 32, 118, 32, 61, 32, 48]⟩, .string ⟨#[]⟩, .string ⟨#[118, 32, 61, 32, 48, 32, 97, 110, 100, 32, 105, 32, 37, 32, 49, 48, 32, 61, 32, 50, 46, 46, 52, 32, 97, 110, 100, 32, 105, 32, 37, 32, 49, 48, 48, 32, 33, 61, 32, 49, 50, 46, 46, 49, 52]⟩, .string ⟨#[118, 32, 61, 32, 48, 32, 97, 110, 100, 32, 105, 32, 33, 61, 32, 49, 32, 97, 110, 100, 32, 105, 32, 37, 32, 49, 48, 32, 61, 32, 48, 46, 46, 49, 32, 111, 114, 32, 118, 32, 61, 32, 48, 32, 97, 110, 100, 32, 105, 32, 37, 32, 49, 48, 32, 61, 32, 53, 46, 46, 57, 32, 111, 114, 32, 118, 32, 61, 32, 48, 32, 97, 110, 100, 32, 105, 32, 37, 32, 49, 48, 48, 32, 61, 32, 49, 50, 46, 46, 49, 52]⟩], .nilIface]) (by simp [results, Tryd.results12, go_sem]) rfl ⟨rfl, ?_⟩
  repeat (first | exact Below.refl _ _ | refine Below.setCell ?_ (by simp) _ | refine Below.alloc ?_ (by first | (simp; done) | (simp; omega)) _)

set_option maxRecDepth 100000 in
set_option maxHeartbeats 1000000 in
theorem rulesOf_pl (w : World) : Calls Tryd.prog 13 #[.string ⟨#[112, 108]⟩] w fun e w' => e = .returned (.tuple #[.agg #[.string ⟨#[]⟩, .string ⟨#[105, 32, 61, 32, 49, 32, 97, 110, 100, 32, 118, 32, 61, 32, 48]⟩, .string ⟨#[]⟩, .string ⟨#[118, 32, 61, 32, 48, 32, 97, 110, 100, 32, 105, 32, 37, 32, 49, 48, 32, 61, 32, 50, 46, 46, 52, 32, 97, 110, 100, 32, 105, 32, 37, 32, 49, 48, 48, 32, 33, 61, 32, 49, 50, 46, 46, 49, 52]⟩, .string ⟨#[118, 32, 61, 32, 48, 32, 97, 110, 100, 32, 105, 32, 33, 61, 32, 49, 32, 97, 110, 100, 32, 105, 32, 37, 32, 49, 48, 32, 61, 32, 48, 46, 46, 49, 32, 111, 114, 32, 118, 32, 61, 32, 48, 32, 97, 110, 100, 32, 105, 32, 37, 32, 49, 48, 32, 61, 32, 53, 46, 46, 57, 32, 111, 114, 32, 118, 32, 61, 32, 48, 32, 97, 110, 100, 32, 105, 32, 37, 32, 49, 48, 48, 32, 61, 32, 49, 50, 46, 46, 49, 52]⟩], .bool true]) ∧ Below w.heap.size w w' := by
  go_enter Tryd.func13, Tryd.ntmps13
  go_wp2_with fail
  refine bodyPost_ret (v := .tuple #[.agg #[.string ⟨#[]⟩, .string ⟨#[105, 32, 61, 32, 49, 32, 97, 110, 100, 32, 118, 32, 61, 32, 48]⟩, .string ⟨#[]⟩, .string ⟨#[118, 32, 61, 32, 48, 32, 97, 110, 100, 32, 105, 32, 37, 32, 49, 48, 32, 61, 32, 50, 46, 46, 52, 32, 97, 110, 100, 32, 105, 32, 37, 32, 49, 48, 48, 32, 33, 61, 32, 49, 50, 46, 46, 49, 52]⟩, .string ⟨#[118, 32, 61, 32, 48, 32, 97, 110, 100, 32, 105, 32, 33, 61, 32, 49, 32, 97, 110, 100, 32, 105, 32, 37, 32, 49, 48, 32, 61, 32, 48, 46, 46, 49, 32, 111, 114, 32, 118, 32, 61, 32, 48, 32, 97, 110, 100, 32, 105, 32, 37, 32, 49, 48, 32, 61, 32, 53, 46, 46, 57, 32, 111, 114, 32, 118, 32, 61, 32, 48, 32, 97, 110, 100, 32, 105, 32, 37, 32, 49, 48, 48, 32, 61, 32, 49, 50, 46, 46, 49, 52]⟩], .bool true]) (by simp [results, Tryd.results13, go_sem]) rfl ⟨rfl, ?_⟩
  repeat (first | exact Below.refl _ _ | refine Below.setCell ?_ (by simp) _ | refine Below.alloc ?_ (by first | (simp; done) | (simp; omega)) _)

set_option maxRecDepth 100000 in
set_option maxHeartbeats 1000000 in
theorem langRules_ru (w : World) : Calls Tryd.prog 12 #[.string ⟨#[114, 117]⟩] w fun e w' => e = .returned (.tuple #[.agg #[.string ⟨#[]⟩, .string ⟨#[118, 32, 61, 32, 48, 32, 97, 110, 100, 32, 105, 32, 37, 32, 49, 48, 32, 61, 32, 49, 32, 97, 110, 100, 32, 105, 32, 37, 32, 49, 48, 48, 32, 33, 61, 32, 49, 49]⟩, .string ⟨#[]⟩, .string ⟨#[118, 32, 61, 32, 48, 32, 97, 110, 100, 32, 105, 32, 37, 32, 49, 48, 32, 61, 32, 50, 46, 46, 52, 32, 97, 110, 100, 32, 105, 32, 37, 32, 49, 48, 48, 32, 33, 61, 32, 49, 50, 46, 46, 49, 52]⟩, .string ⟨#[118, 32, 61, 32, 48, 32, 97, 110, 100, 32, 105, 32, 37, 32, 49, 48, 32, 61, 32, 48, 32, 111, 114, 32, 118, 32, 61, 32, 48, 32, 97, 110, 100, 32, 105, 32, 37, 32, 49, 48, 32, 61, 32, 53, 46, 46, 57, 32, 111, 114, 32, 118, 32, 61, 32, 48, 32, 97, 110, 100, 32, 105, 32, 37, 32, 49, 48, 48, 32, 61, 32, 49, 49, 46, 46, 49, 52]⟩], .nilIface]) ∧ Below w.heap.size w w' := by
  have LK : (Instr.lookup 59 (.map (some (w.heap.size + 1 + 1))) (.string ⟨#[114, 117]⟩) true).run Tryd.prog (((w.alloc (.cells #[.string ⟨#[]⟩, .string ⟨#[]⟩, .string ⟨#[]⟩, .string ⟨#[]⟩, .string ⟨#[]⟩] 35)).alloc (.cells #[.string ⟨#[]⟩, .string ⟨#[105, 32, 61, 32, 49, 32, 97, 110, 100, 32, 118, 32, 61, 32, 48]⟩, .string ⟨#[]⟩, .string ⟨#[]⟩, .string ⟨#[]⟩] 35)).alloc (.map lgE8 8)) = .ok (.tuple #[.agg #[.string ⟨#[]⟩, .string ⟨#[118, 32, 61, 32, 48, 32, 97, 110, 100, 32, 105, 32, 37, 32, 49, 48, 32, 61, 32, 49, 32, 97, 110, 100, 32, 105, 32, 37, 32, 49, 48, 48, 32, 33, 61, 32, 49, 49]⟩, .string ⟨#[]⟩, .string ⟨#[118, 32, 61, 32, 48, 32, 97, 110, 100, 32, 105, 32, 37, 32, 49, 48, 32, 61, 32, 50, 46, 46, 52, 32, 97, 110, 100, 32, 105, 32, 37, 32, 49, 48, 48, 32, 33, 61, 32, 49, 50, 46, 46, 49, 52]⟩, .string ⟨#[118, 32, 61, 32, 48, 32, 97, 110, 100, 32, 105, 32, 37, 32, 49, 48, 32, 61, 32, 48, 32, 111, 114, 32, 118, 32, 61, 32, 48, 32, 97, 110, 100, 32, 105, 32, 37, 32, 49, 48, 32, 61, 32, 53, 46, 46, 57, 32, 111, 114, 32, 118, 32, 61, 32, 48, 32, 97, 110, 100, 32, 105, 32, 37, 32, 49, 48, 48, 32, 61, 32, 49, 49, 46, 46, 49, 52]⟩], .bool true]) (((w.alloc (.cells #[.string ⟨#[]⟩, .string ⟨#[]⟩, .string ⟨#[]⟩, .string ⟨#[]⟩, .string ⟨#[]⟩] 35)).alloc (.cells #[.string ⟨#[]⟩, .string ⟨#[105, 32, 61, 32, 49, 32, 97, 110, 100, 32, 118, 32, 61, 32, 48]⟩, .string ⟨#[]⟩, .string ⟨#[]⟩, .string ⟨#[]⟩] 35)).alloc (.map lgE8 8)) :=
    map_look (P := Tryd.prog) 59 9 35 Tryd.underlying59 Tryd.underlying9 lgE8 8 (w.heap.size + 1 + 1) 5 ⟨#[114, 117]⟩ (.agg #[.string ⟨#[]⟩, .string ⟨#[118, 32, 61, 32, 48, 32, 97, 110, 100, 32, 105, 32, 37, 32, 49, 48, 32, 61, 32, 49, 32, 97, 110, 100, 32, 105, 32, 37, 32, 49, 48, 48, 32, 33, 61, 32, 49, 49]⟩, .string ⟨#[]⟩, .string ⟨#[118, 32, 61, 32, 48, 32, 97, 110, 100, 32, 105, 32, 37, 32, 49, 48, 32, 61, 32, 50, 46, 46, 52, 32, 97, 110, 100, 32, 105, 32, 37, 32, 49, 48, 48, 32, 33, 61, 32, 49, 50, 46, 46, 49, 52]⟩, .string ⟨#[118, 32, 61, 32, 48, 32, 97, 110, 100, 32, 105, 32, 37, 32, 49, 48, 32, 61, 32, 48, 32, 111, 114, 32, 118, 32, 61, 32, 48, 32, 97, 110, 100, 32, 105, 32, 37, 32, 49, 48, 32, 61, 32, 53, 46, 46, 57, 32, 111, 114, 32, 118, 32, 61, 32, 48, 32, 97, 110, 100, 32, 105, 32, 37, 32, 49, 48, 48, 32, 61, 32, 49, 49, 46, 46, 49, 52]⟩]) _ (top_alloc _ _ _ (by simp)) (by kernel_rfl)
  go_enter Tryd.func12, Tryd.ntmps12
  go_wp2_with fail
  refine (rules_any _).mono ?_
  rintro e w1 ⟨rfl, rfl⟩
  go_wp2_with fail
  refine bodyPost_ret (v := .tuple #[.agg #[.string ⟨#[]⟩, .string ⟨#[118, 32, 61, 32, 48, 32, 97, 110, 100, 32, 105, 32, 37, 32, 49, 48, 32, 61, 32, 49, 32, 97, 110, 100, 32, 105, 32, 37, 32, 49, 48, 48, 32, 33, 61, 32, 49, 49]⟩, .string ⟨#[]⟩, .string ⟨#[118, 32, 61, 32, 48, 32, 97, 110, 100, 32, 105, 32, 37, 32, 49, 48, 32, 61, 32, 50, 46, 46, 52, 32, 97, 110, 100, 32, 105, 32, 37, 32, 49, 48, 48, 32, 33, 61, 32, 49, 50, 46, 46, 49, 52]⟩, .string ⟨#[118, 32, 61, 32, 48, 32, 97, 110, 100, 32, 105, 32, 37, 32, 49, 48, 32, 61, 32, 48, 32, 111, 114, 32, 118, 32, 61, 32, 48, 32, 97, 110, 100, 32, 105, 32, 37, 32, 49, 48, 32, 61, 32, 53, 46, 46, 57, 32, 111, 114, 32, 118, 32, 61, 32, 48, 32, 97, 110, 100, 32, 105, 32, 37, 32, 49, 48, 48, 32, 61, 32, 49, 49, 46, 46, 49, 52]⟩], .nilIface]) (by simp [results, Tryd.results12, go_sem]) rfl ⟨rfl, ?_⟩
  repeat (first | exact Below.refl _ _ | refine Below.setCell ?_ (by simp) _ | refine Below.alloc ?_ (by first | (simp; done) | (simp; omega)) _)

set_option maxRecDepth 100000 in
set_option maxHeartbeats 1000000 in
theorem rulesOf_ru (w : World) : Calls Tryd.prog 13 #[.string ⟨#[114, 117]⟩] w fun e w' => e = .returned (.tuple #[.agg #[.string ⟨#[]⟩, .string ⟨#[118, 32, 61, 32, 48, 32, 97, 110, 100, 32, 105, 32, 37, 32, 49, 48, 32, 61, 32, 49, 32, 97, 110, 100, 32, 105, 32, 37, 32, 49, 48, 48, 32, 33, 61, 32, 49, 49]⟩, .string ⟨#[]⟩, .string ⟨#[118, 32, 61, 32, 48, 32, 97, 110, 100, 32, 105, 32, 37, 32, 49, 48, 32, 61, 32, 50, 46, 46, 52, 32, 97, 110, 100, 32, 105, 32, 37, 32, 49, 48, 48, 32, 33, 61, 32, 49, 50, 46, 46, 49, 52]⟩, .string ⟨#[118, 32, 61, 32, 48, 32, 97, 110, 100, 32, 105, 32, 37, 32, 49, 48, 32, 61, 32, 48, 32, 111, 114, 32, 118, 32, 61, 32, 48, 32, 97, 110, 100, 32, 105, 32, 37, 32, 49, 48, 32, 61, 32, 53, 46, 46, 57, 32, 111, 114, 32, 118, 32, 61, 32, 48, 32, 97, 110, 100, 32, 105, 32, 37, 32, 49, 48, 48, 32, 61, 32, 49, 49, 46, 46, 49, 52]⟩], .bool true]) ∧ Below w.heap.size w w' := by
  go_enter Tryd.func13, Tryd.ntmps13
  go_wp2_with fail
  refine bodyPost_ret (v := .tuple #[.agg #[.string ⟨#[]⟩, .string ⟨#[118, 32, 61, 32, 48, 32, 97, 110, 100, 32, 105, 32, 37, 32, 49, 48, 32, 61, 32, 49, 32, 97, 110, 100, 32, 105, 32, 37, 32, 49, 48, 48, 32, 33, 61, 32, 49, 49]⟩, .string ⟨#[]⟩, .string ⟨#[118, 32, 61, 32, 48, 32, 97, 110, 100, 32, 105, 32, 37, 32, 49, 48, 32, 61, 32, 50, 46, 46, 52, 32, 97, 110, 100, 32, 105, 32, 37, 32, 49, 48, 48, 32, 33, 61, 32, 49, 50, 46, 46, 49, 52]⟩, .string ⟨#[118, 32, 61, 32, 48, 32, 97, 110, 100, 32, 105, 32, 37, 32, 49, 48, 32, 61, 32, 48, 32, 111, 114, 32, 118, 32, 61, 32, 48, 32, 97, 110, 100, 32, 105, 32, 37, 32, 49, 48, 32, 61, 32, 53, 46, 46, 57, 32, 111, 114, 32, 118, 32, 61, 32, 48, 32, 97, 110, 100, 32, 105, 32, 37, 32, 49, 48, 48, 32, 61, 32, 49, 49, 46, 46, 49, 52]⟩], .bool true]) (by simp [results, Tryd.results13, go_sem]) rfl ⟨rfl, ?_⟩
  repeat (first | exact Below.refl _ _ | refine Below.setCell ?_ (by simp) _ | refine Below.alloc ?_ (by first | (simp; done) | (simp; omega)) _)

set_option maxRecDepth 100000 in
set_option maxHeartbeats 1000000 in
theorem langRules_ar (w : World) : Calls Tryd.prog 12 #[.string ⟨#[97, 114]⟩] w fun e w' => e = .returned (.tuple #[.agg #[.string ⟨#[110, 32, 61, 32, 48]⟩, .string ⟨#[110, 32, 61, 32, 49]⟩, .string ⟨#[110, 32, 61, 32, 50]⟩, .string ⟨#[110, 32, 37, 32, 49, 48, 48, 32, 61, 32, 51, 46, 46, 49, 48]⟩, .string ⟨#[110, 32, 37, 32, 49, 48, 48, 32, 61, 32, 49, 49, 46, 46, 57, 57]⟩], .nilIface]) ∧ Below w.heap.size w w' := by
  have LK : (Instr.lookup 59 (.map (some (w.heap.size + 1 + 1))) (.string ⟨#[97, 114]⟩) true).run Tryd.prog (((w.alloc (.cells #[.string ⟨#[]⟩, .string ⟨#[]⟩, .string ⟨#[]⟩, .string ⟨#[]⟩, .string ⟨#[]⟩] 35)).alloc (.cells #[.string ⟨#[]⟩, .string ⟨#[105, 32, 61, 32, 49, 32, 97, 110, 100, 32, 118, 32, 61, 32, 48]⟩, .string ⟨#[]⟩, .string ⟨#[]⟩, .string ⟨#[]⟩] 35)).alloc (.map lgE8 8)) = .ok (.tuple #[.agg #[.string ⟨#[110, 32, 61, 32, 48]⟩, .string ⟨#[110, 32, 61, 32, 49]⟩, .string ⟨#[110, 32, 61, 32, 50]⟩, .string ⟨#[110, 32, 37, 32, 49, 48, 48, 32, 61, 32, 51, 46, 46, 49, 48]⟩, .string ⟨#[110, 32, 37, 32, 49, 48, 48, 32, 61, 32, 49, 49, 46, 46, 57, 57]⟩], .bool true]) (((w.alloc (.cells #[.string ⟨#[]⟩, .string ⟨#[]⟩, .string ⟨#[]⟩, .string ⟨#[]⟩, .string ⟨#[]⟩] 35)).alloc (.cells #[.string ⟨#[]⟩, .string ⟨#[105, 32, 61, 32, 49, 32, 97, 110, 100, 32, 118, 32, 61, 32, 48]⟩, .string ⟨#[]⟩, .string ⟨#[]⟩, .string ⟨#[]⟩] 35)).alloc (.map lgE8 8)) :=
    map_look (P := Tryd.prog) 59 9 35 Tryd.underlying59 Tryd.underlying9 lgE8 8 (w.heap.size + 1 + 1) 6 ⟨#[97, 114]⟩ (.agg #[.string ⟨#[110, 32, 61, 32, 48]⟩, .string ⟨#[110, 32, 61, 32, 49]⟩, .string ⟨#[110, 32, 61, 32, 50]⟩, .string ⟨#[110, 32, 37, 32, 49, 48, 48, 32, 61, 32, 51, 46, 46, 49, 48]⟩, .string ⟨#[110, 32, 37, 32, 49, 48, 48, 32, 61, 32, 49, 49, 46, 46, 57, 57]⟩]) _ (top_alloc _ _ _ (by simp)) (by kernel_rfl)
  go_enter Tryd.func12, Tryd.ntmps12
  go_wp2_with fail
  refine (rules_any _).mono ?_
  rintro e w1 ⟨rfl, rfl⟩
  go_wp2_with fail
  refine bodyPost_ret (v := .tuple #[.agg #[.string ⟨#[110, 32, 61, 32, 48]⟩, .string ⟨#[110, 32, 61, 32, 49]⟩, .string ⟨#[110, 32, 61, 32, 50]⟩, .string ⟨#[110, 32, 37, 32, 49, 48, 48, 32, 61, 32, 51, 46, 46, 49, 48]⟩, .string ⟨#[110, 32, 37, 32, 49, 48, 48, 32, 61, 32, 49, 49, 46, 46, 57, 57]⟩], .nilIface]) (by simp [results, Tryd.results12, go_sem]) rfl ⟨rfl, ?_⟩
  repeat (first | exact Below.refl _ _ | refine Below.setCell ?_ (by simp) _ | refine Below.alloc ?_ (by first | (simp; done) | (simp; omega)) _)

set_option maxRecDepth 100000 in
set_option maxHeartbeats 1000000 in
theorem rulesOf_ar (w : World) : Calls Tryd.prog 13 #[.string ⟨#[97, 114]⟩] w fun e w' => e = .returned (.tuple #[.agg #[.string ⟨#[110, 32, 61, 32, 48]⟩, .string ⟨#[110, 32, 61, 32, 49]⟩, .string ⟨#[110, 32, 61, 32, 50]⟩, .string ⟨#[110, 32, 37, 32, 49, 48, 48, 32, 61, 32, 51, 46, 46, 49, 48]⟩, .string ⟨#[110, 32, 37, 32, 49, 48, 48, 32, 61, 32, 49, 49, 46, 46, 57, 57]⟩], .bool true]) ∧ Below w.heap.size w w' := by
  go_enter Tryd.func13, Tryd.ntmps13
  go_wp2_with fail
  refine bodyPost_ret (v := .tuple #[.agg #[.string ⟨#[110, 32, 61, 32, 48]⟩, .string ⟨#[110, 32, 61, 32, 49]⟩, .string ⟨#[110, 32, 61, 32, 50]⟩, .string ⟨#[110, 32, 37, 32, 49, 48, 48, 32, 61, 32, 51, 46, 46, 49, 48]⟩, .string ⟨#[110, 32, 37, 32, 49, 48, 48, 32, 61, 32, 49, 49, 46, 46, 57, 57]⟩], .bool true]) (by simp [results, Tryd.results13, go_sem]) rfl ⟨rfl, ?_⟩
  repeat (first | exact Below.refl _ _ | refine Below.setCell ?_ (by simp) _ | refine Below.alloc ?_ (by first | (simp; done) | (simp; omega)) _)

set_option maxRecDepth 100000 in
set_option maxHeartbeats 1000000 in
theorem langRules_lv (w : World) : Calls Tryd.prog 12 #[.string ⟨#[108, 118]⟩] w fun e w' => e = .returned (.tuple #[.agg #[.string ⟨#[110, 32, 37, 32, 49, 48, 32, 61, 32, 48, 32, 111, 114, 32, 110, 32, 37, 32, 49, 48, 48, 32, 61, 32, 49, 49, 46, 46, 49, 57, 32, 111, 114, 32, 118, 32, 61, 32, 50, 32, 97, 110, 100, 32, 102, 32, 37, 32, 49, 48, 48, 32, 61, 32, 49, 49, 46, 46, 49, 57]⟩, .string ⟨#[110, 32, 37, 32, 49, 48, 32, 61, 32, 49, 32, 97, 110, 100, 32, 110, 32, 37, 32, 49, 48, 48, 32, 33, 61, 32, 49, 49, 32, 111, 114, 32, 118, 32, 61, 32, 50, 32, 97, 110, 100, 32, 102, 32, 37, 32, 49, 48, 32, 61, 32, 49, 32, 97, 110, 100, 32, 102, 32, 37, 32, 49, 48, 48, 32, 33, 61, 32, 49, 49, 32, 111, 114, 32, 118, 32, 33, 61, 32, 50, 32, 97, 110, 100, 32, 102, 32, 37, 32, 49, 48, 32, 61, 32, 49]⟩, .string ⟨#[]⟩, .string ⟨#[]⟩, .string ⟨#[]⟩], .nilIface]) ∧ Below w.heap.size w w' := by
  have LK : (Instr.lookup 59 (.map (some (w.heap.size + 1 + 1))) (.string ⟨#[108, 118]⟩) true).run Tryd.prog (((w.alloc (.cells #[.string ⟨#[]⟩, .string ⟨#[]⟩, .string ⟨#[]⟩, .string ⟨#[]⟩, .string ⟨#[]⟩] 35)).alloc (.cells #[.string ⟨#[]⟩, .string ⟨#[105, 32, 61, 32, 49, 32, 97, 110, 100, 32, 118, 32, 61, 32, 48]⟩, .string ⟨#[]⟩, .string ⟨#[]⟩, .string ⟨#[]⟩] 35)).alloc (.map lgE8 8)) = .ok (.tuple #[.agg #[.string ⟨#[110, 32, 37, 32, 49, 48, 32, 61, 32, 48, 32, 111, 114, 32, 110, 32, 37, 32, 49, 48, 48, 32, 61, 32, 49, 49, 46, 46, 49, 57, 32, 111, 114, 32, 118, 32, 61, 32, 50, 32, 97, 110, 100, 32, 102, 32, 37, 32, 49, 48, 48, 32, 61, 32, 49, 49, 46, 46, 49, 57]⟩, .string ⟨#[110, 32, 37, 32, 49, 48, 32, 61, 32, 49, 32, 97, 110, 100, 32, 110, 32, 37, 32, 49, 48, 48, 32, 33, 61, 32, 49, 49, 32, 111, 114, 32, 118, 32, 61, 32, 50, 32, 97, 110, 100, 32, 102, 32, 37, 32, 49, 48, 32, 61, 32, 49, 32, 97, 110, 100, 32, 102, 32, 37, 32, 49, 48, 48, 32, 33, 61, 32, 49, 49, 32, 111, 114, 32, 118, 32, 33, 61, 32, 50, 32, 97, 110, 100, 32, 102, 32, 37, 32, 49, 48, 32, 61, 32, 49]⟩, .string ⟨#[]⟩, .string ⟨#[]⟩, .string ⟨#[]⟩], .bool true]) (((w.alloc (.cells #[.string ⟨#[]⟩, .string ⟨#[]⟩, .string ⟨#[]⟩, .string ⟨#[]⟩, .string ⟨#[]⟩] 35)).alloc (.cells #[.string ⟨#[]⟩, .string ⟨#[105, 32, 61, 32, 49, 32, 97, 110, 100, 32, 118, 32, 61, 32, 48]⟩, .string ⟨#[]⟩, .string ⟨#[]⟩, .string ⟨#[]⟩] 35)).alloc (.map lgE8 8)) :=
    map_look (P := Tryd.prog) 59 9 35 Tryd.underlying59 Tryd.underlying9 lgE8 8 (w.heap.size + 1 + 1) 7 ⟨#[108, 118]⟩ (.agg #[.string ⟨#[110, 32, 37, 32, 49, 48, 32, 61, 32, 48, 32, 111, 114, 32, 110, 32, 37, 32, 49, 48, 48, 32, 61, 32, 49, 49, 46, 46, 49, 57, 32, 111, 114, 32, 118, 32, 61, 32, 50, 32, 97, 110, 100, 32, 102, 32, 37, 32, 49, 48, 48, 32, 61, 32, 49, 49, 46, 46, 49, 57]⟩, .string ⟨#[110, 32, 37, 32, 49, 48, 32, 61, 32, 49, 32, 97, 110, 100, 32, 110, 32, 37, 32, 49, 48, 48, 32, 33, 61, 32, 49, 49, 32, 111, 114, 32, 118, 32, 61, 32, 50, 32, 97, 110, 100, 32, 102, 32, 37, 32, 49, 48, 32, 61, 32, 49, 32, 97, 110, 100, 32, 102, 32, 37, 32, 49, 48, 48, 32, 33, 61, 32, 49, 49, 32, 111, 114, 32, 118, 32, 33, 61, 32, 50, 32, 97, 110, 100, 32, 102, 32, 37, 32, 49, 48, 32, 61, 32, 49]⟩, .string ⟨#[]⟩, .string ⟨#[]⟩, .string ⟨#[]⟩]) _ (top_alloc _ _ _ (by simp)) (by kernel_rfl)
  go_enter Tryd.func12, Tryd.ntmps12
  go_wp2_with fail
  refine (rules_any _).mono ?_
  rintro e w1 ⟨rfl, rfl⟩
  go_wp2_with fail
  refine bodyPost_ret (v := .tuple #[.agg #[.string ⟨#[110, 32, 37, 32, 49, 48, 32, 61, 32, 48, 32, 111, 114, 32, 110, 32, 37, 32, 49, 48, 48, 32, 61, 32, 49, 49, 46, 46, 49, 57, 32, 111, 114, 32, 118, 32, 61, 32, 50, 32, 97, 110, 100, 32, 102, 32, 37, 32, 49, 48, 48, 32, 61, 32, 49, 49, 46, 46, 49, 57]⟩, .string ⟨#[110, 32, 37, 32, 49, 48, 32, 61, 32, 49, 32, 97, 110, 100, 32, 110, 32, 37, 32, 49, 48, 48, 32, 33, 61, 32, 49, 49, 32, 111, 114, 32, 118, 32, 61, 32, 50, 32, 97, 110, 100, 32, 102, 32, 37, 32, 49, 48, 32, 61, 32, 49, 32, 97, 110, 100, 32, 102, 32, 37, 32, 49, 48, 48, 32, 33, 61, 32, 49, 49, 32, 111, 114, 32, 118, 32, 33, 61, 32, 50, 32, 97, 110, 100, 32, 102, 32, 37, 32, 49, 48, 32, 61, 32, 49]⟩, .string ⟨#[]⟩, .string ⟨#[]⟩, .string ⟨#[]⟩], .nilIface]) (by simp [results, Tryd.results12, go_sem]) rfl ⟨rfl, ?_⟩
  repeat (first | exact Below.refl _ _ | refine Below.setCell ?_ (by simp) _ | refine Below.alloc ?_ (by first | (simp; done) | (simp; omega)) _)

set_option maxRecDepth 100000 in
set_option maxHeartbeats 1000000 in
theorem rulesOf_lv (w : World) : Calls Tryd.prog 13 #[.string ⟨#[108, 118]⟩] w fun e w' => e = .returned (.tuple #[.agg #[.string ⟨#[110, 32, 37, 32, 49, 48, 32, 61, 32, 48, 32, 111, 114, 32, 110, 32, 37, 32, 49, 48, 48, 32, 61, 32, 49, 49, 46, 46, 49, 57, 32, 111, 114, 32, 118, 32, 61, 32, 50, 32, 97, 110, 100, 32, 102, 32, 37, 32, 49, 48, 48, 32, 61, 32, 49, 49, 46, 46, 49, 57]⟩, .string ⟨#[110, 32, 37, 32, 49, 48, 32, 61, 32, 49, 32, 97, 110, 100, 32, 110, 32, 37, 32, 49, 48, 48, 32, 33, 61, 32, 49, 49, 32, 111, 114, 32, 118, 32, 61, 32, 50, 32, 97, 110, 100, 32, 102, 32, 37, 32, 49, 48, 32, 61, 32, 49, 32, 97, 110, 100, 32, 102, 32, 37, 32, 49, 48, 48, 32, 33, 61, 32, 49, 49, 32, 111, 114, 32, 118, 32, 33, 61, 32, 50, 32, 97, 110, 100, 32, 102, 32, 37, 32, 49, 48, 32, 61, 32, 49]⟩, .string ⟨#[]⟩, .string ⟨#[]⟩, .string ⟨#[]⟩], .bool true]) ∧ Below w.heap.size w w' := by
  go_enter Tryd.func13, Tryd.ntmps13
  go_wp2_with fail
  refine bodyPost_ret (v := .tuple #[.agg #[.string ⟨#[110, 32, 37, 32, 49, 48, 32, 61, 32, 48, 32, 111, 114, 32, 110, 32, 37, 32, 49, 48, 48, 32, 61, 32, 49, 49, 46, 46, 49, 57, 32, 111, 114, 32, 118, 32, 61, 32, 50, 32, 97, 110, 100, 32, 102, 32, 37, 32, 49, 48, 48, 32, 61, 32, 49, 49, 46, 46, 49, 57]⟩, .string ⟨#[110, 32, 37, 32, 49, 48, 32, 61, 32, 49, 32, 97, 110, 100, 32, 110, 32, 37, 32, 49, 48, 48, 32, 33, 61, 32, 49, 49, 32, 111, 114, 32, 118, 32, 61, 32, 50, 32, 97, 110, 100, 32, 102, 32, 37, 32, 49, 48, 32, 61, 32, 49, 32, 97, 110, 100, 32, 102, 32, 37, 32, 49, 48, 48, 32, 33, 61, 32, 49, 49, 32, 111, 114, 32, 118, 32, 33, 61, 32, 50, 32, 97, 110, 100, 32, 102, 32, 37, 32, 49, 48, 32, 61, 32, 49]⟩, .string ⟨#[]⟩, .string ⟨#[]⟩, .string ⟨#[]⟩], .bool true]) (by simp [results, Tryd.results13, go_sem]) rfl ⟨rfl, ?_⟩
  repeat (first | exact Below.refl _ _ | refine Below.setCell ?_ (by simp) _ | refine Below.alloc ?_ (by first | (simp; done) | (simp; omega)) _)

theorem find_none (l : List UInt8) (h0 : (l == [101, 110]) = false) (h1 : (l == [100, 101]) = false) (h2 : (l == [102, 114]) = false) (h3 : (l == [106, 97]) = false) (h4 : (l == [112, 108]) = false) (h5 : (l == [114, 117]) = false) (h6 : (l == [97, 114]) = false) (h7 : (l == [108, 118]) = false) : Instr.findNow .string (.string ⟨l.toArray⟩) lgE8.toList 0 = some none := by
  have g : ∀ (a : List UInt8), (l == a) = false → ((⟨l.toArray⟩ : ByteArray) == ⟨a.toArray⟩) = false := fun a h => by
    show (l.toArray == a.toArray) = false
    rw [beq_eq_false_iff_ne] at h ⊢
    intro e
    exact h (by simpa using e)
  have g0 := g _ h0
  have g1 := g _ h1
  have g2 := g _ h2
  have g3 := g _ h3
  have g4 := g _ h4
  have g5 := g _ h5
  have g6 := g _ h6
  have g7 := g _ h7
  simp [lgE8, lgE7, lgE6, lgE5, lgE4, lgE3, lgE2, lgE1, lgE0, Instr.findNow, Instr.sameNow, g0, g1, g2, g3, g4, g5, g6, g7]

set_option maxRecDepth 100000 in
set_option maxHeartbeats 1000000 in
theorem langRules_no (w : World) (l : List UInt8) (h0 : (l == [101, 110]) = false) (h1 : (l == [100, 101]) = false) (h2 : (l == [102, 114]) = false) (h3 : (l == [106, 97]) = false) (h4 : (l == [112, 108]) = false) (h5 : (l == [114, 117]) = false) (h6 : (l == [97, 114]) = false) (h7 : (l == [108, 118]) = false) : Calls Tryd.prog 12 #[.string ⟨l.toArray⟩] w fun e w' => e = .returned (.tuple #[.agg #[.string ⟨#[]⟩, .string ⟨#[]⟩, .string ⟨#[]⟩, .string ⟨#[]⟩, .string ⟨#[]⟩], errV 2]) ∧ Below w.heap.size w w' := by
  have hz : ∀ w, (zeroValue 35).run Tryd.prog w = .ok (.agg #[.string ⟨#[]⟩, .string ⟨#[]⟩, .string ⟨#[]⟩, .string ⟨#[]⟩, .string ⟨#[]⟩]) w := fun w => by kernel_rfl
  have LK : (Instr.lookup 59 (.map (some (w.heap.size + 1 + 1))) (.string ⟨l.toArray⟩) true).run Tryd.prog (((w.alloc (.cells #[.string ⟨#[]⟩, .string ⟨#[]⟩, .string ⟨#[]⟩, .string ⟨#[]⟩, .string ⟨#[]⟩] 35)).alloc (.cells #[.string ⟨#[]⟩, .string ⟨#[105, 32, 61, 32, 49, 32, 97, 110, 100, 32, 118, 32, 61, 32, 48]⟩, .string ⟨#[]⟩, .string ⟨#[]⟩, .string ⟨#[]⟩] 35)).alloc (.map lgE8 8)) = .ok (.tuple #[.agg #[.string ⟨#[]⟩, .string ⟨#[]⟩, .string ⟨#[]⟩, .string ⟨#[]⟩, .string ⟨#[]⟩], .bool false]) (((w.alloc (.cells #[.string ⟨#[]⟩, .string ⟨#[]⟩, .string ⟨#[]⟩, .string ⟨#[]⟩, .string ⟨#[]⟩] 35)).alloc (.cells #[.string ⟨#[]⟩, .string ⟨#[105, 32, 61, 32, 49, 32, 97, 110, 100, 32, 118, 32, 61, 32, 48]⟩, .string ⟨#[]⟩, .string ⟨#[]⟩, .string ⟨#[]⟩] 35)).alloc (.map lgE8 8)) :=
    map_none (P := Tryd.prog) 59 9 35 Tryd.underlying59 Tryd.underlying9 lgE8 8 (w.heap.size + 1 + 1) ⟨l.toArray⟩ (.agg #[.string ⟨#[]⟩, .string ⟨#[]⟩, .string ⟨#[]⟩, .string ⟨#[]⟩, .string ⟨#[]⟩]) _ (hz _) (top_alloc _ _ _ (by simp)) (find_none l h0 h1 h2 h3 h4 h5 h6 h7)
  clear h0 h1 h2 h3 h4 h5 h6 h7 hz
  go_enter Tryd.func12, Tryd.ntmps12
  go_wp2_with fail
  refine (rules_any _).mono ?_
  rintro e w1 ⟨rfl, rfl⟩
  go_wp2_with fail
  refine bodyPost_ret (v := .tuple #[.agg #[.string ⟨#[]⟩, .string ⟨#[]⟩, .string ⟨#[]⟩, .string ⟨#[]⟩, .string ⟨#[]⟩], errV 2]) (by simp [results, Tryd.results12, go_sem]) rfl ⟨rfl, ?_⟩
  repeat (first | exact Below.refl _ _ | refine Below.setCell ?_ (by simp) _ | refine Below.alloc ?_ (by first | (simp; done) | (simp; omega)) _)

set_option maxRecDepth 100000 in
set_option maxHeartbeats 1000000 in
theorem rulesOf_no (w : World) (l : List UInt8) (h0 : (l == [101, 110]) = false) (h1 : (l == [100, 101]) = false) (h2 : (l == [102, 114]) = false) (h3 : (l == [106, 97]) = false) (h4 : (l == [112, 108]) = false) (h5 : (l == [114, 117]) = false) (h6 : (l == [97, 114]) = false) (h7 : (l == [108, 118]) = false) : Calls Tryd.prog 13 #[.string ⟨l.toArray⟩] w fun e w' => e = .returned (.tuple #[.agg #[.string ⟨#[]⟩, .string ⟨#[]⟩, .string ⟨#[]⟩, .string ⟨#[]⟩, .string ⟨#[]⟩], .bool false]) ∧ Below w.heap.size w w' := by
  go_enter Tryd.func13, Tryd.ntmps13
  go_wp2_with fail
  refine bodyPost_ret (v := .tuple #[.agg #[.string ⟨#[]⟩, .string ⟨#[]⟩, .string ⟨#[]⟩, .string ⟨#[]⟩, .string ⟨#[]⟩], .bool false]) (by simp [results, Tryd.results13, go_sem]) rfl ⟨rfl, ?_⟩
  repeat (first | exact Below.refl _ _ | refine Below.setCell ?_ (by simp) _ | refine Below.alloc ?_ (by first | (simp; done) | (simp; omega)) _)

/-- whatever the language: both tell the same -/
theorem lang_cases (s : ByteArray) : ∃ (z o t f m : ByteArray) (b : Bool),
    (∀ w : World, Calls Tryd.prog 12 #[.string s] w fun e w' => e = .returned (.tuple #[.agg #[.string z, .string o, .string t, .string f, .string m], if b then .nilIface else errV 2]) ∧ Below w.heap.size w w') ∧
    (∀ w : World, Calls Tryd.prog 13 #[.string s] w fun e w' => e = .returned (.tuple #[.agg #[.string z, .string o, .string t, .string f, .string m], .bool b]) ∧ Below w.heap.size w w') := by
  obtain ⟨⟨l⟩⟩ := s
  by_cases h0 : l = [101, 110]
  · subst h0; exact ⟨_, _, _, _, _, true, langRules_en, rulesOf_en⟩
  by_cases h1 : l = [100, 101]
  · subst h1; exact ⟨_, _, _, _, _, true, langRules_de, rulesOf_de⟩
  by_cases h2 : l = [102, 114]
  · subst h2; exact ⟨_, _, _, _, _, true, langRules_fr, rulesOf_fr⟩
  by_cases h3 : l = [106, 97]
  · subst h3; exact ⟨_, _, _, _, _, true, langRules_ja, rulesOf_ja⟩
  by_cases h4 : l = [112, 108]
  · subst h4; exact ⟨_, _, _, _, _, true, langRules_pl, rulesOf_pl⟩
  by_cases h5 : l = [114, 117]
  · subst h5; exact ⟨_, _, _, _, _, true, langRules_ru, rulesOf_ru⟩
  by_cases h6 : l = [97, 114]
  · subst h6; exact ⟨_, _, _, _, _, true, langRules_ar, rulesOf_ar⟩
  by_cases h7 : l = [108, 118]
  · subst h7; exact ⟨_, _, _, _, _, true, langRules_lv, rulesOf_lv⟩
  have q : ∀ a : List UInt8, l ≠ a → (l == a) = false := fun a h => beq_eq_false_iff_ne.2 h
  exact ⟨_, _, _, _, _, false, fun w => langRules_no w l (q _ h0) (q _ h1) (q _ h2) (q _ h3) (q _ h4) (q _ h5) (q _ h6) (q _ h7), fun w => rulesOf_no w l (q _ h0) (q _ h1) (q _ h2) (q _ h3) (q _ h4) (q _ h5) (q _ h6) (q _ h7)⟩
end Go.Proofs.YtdannkcacldhmaaDoor
