/- slices.Grow and slices.DeleteFunc at texts: the shelf's conditions, met. -/
import Derived.Test.YtlhleojigcnjeaaDoorProg
import Derived.Shelf.Spec.SlicesGrow
import Derived.Shelf.SlicesE.DeleteFunc
namespace Go.Proofs.YtlhleojigcnjeaaDoor
open Go.Shelf

def growRen : Ren := ⟨fun | 4 => 71 | n => n, fun | 25 => 9 | 9 => 9 | 22 => 22 | 20 => 20 | 3 => 3 | 4 => 4 | 0 => 0 | n => n, fun n => n⟩
theorem laysGrow : Go.Proofs.Lays8.n4 Tryd.prog growRen := {
  mixed := by kernel_rfl
  f4 := ⟨ "slices.Grow[[]string,string]", by decide, Tryd.func71.trans (congrArg some (by kernel_rfl))⟩
  t0 := Tryd.underlying0
  a0 := Tryd.isAgg0
  z0 := Tryd.sizeOf0
  v0 := Tryd.zeroValue0
  t3 := Tryd.underlying3
  a3 := Tryd.isAgg3
  z3 := Tryd.sizeOf3
  v3 := Tryd.zeroValue3
  t4 := Tryd.underlying4
  a4 := Tryd.isAgg4
  z4 := Tryd.sizeOf4
  v4 := Tryd.zeroValue4
  t9 := Tryd.underlying9
  a9 := Tryd.isAgg9
  z9 := Tryd.sizeOf9
  v9 := Tryd.zeroValue9
  t20 := Tryd.underlying20
  a20 := Tryd.isAgg20
  z20 := Tryd.sizeOf20
  v20 := Tryd.zeroValue20
  t22 := Tryd.underlying22
  a22 := Tryd.isAgg22
  z22 := Tryd.sizeOf22
  v22 := Tryd.zeroValue22
}
def delRen : Ren := ⟨fun | 10 => 48 | 6 => 75 | n => n, fun | 23 => 9 | 22 => 22 | 25 => 72 | 3 => 3 | 4 => 4 | 0 => 0 | n => n, fun n => n⟩
theorem laysDel : Go.Proofs.SlLaysH.n10 Tryd.prog delRen := {
  mixed := by kernel_rfl
  f6 := ⟨ "slices.IndexFunc[[]string,string]", by decide, Tryd.func75.trans (congrArg some (by kernel_rfl))⟩
  f10 := ⟨ "slices.DeleteFunc[[]string,string]", by decide, Tryd.func48.trans (congrArg some (by kernel_rfl))⟩
  t0 := Tryd.underlying0
  a0 := Tryd.isAgg0
  z0 := Tryd.sizeOf0
  v0 := Tryd.zeroValue0
  t3 := Tryd.underlying3
  a3 := Tryd.isAgg3
  z3 := Tryd.sizeOf3
  v3 := Tryd.zeroValue3
  t4 := Tryd.underlying4
  a4 := Tryd.isAgg4
  z4 := Tryd.sizeOf4
  v4 := Tryd.zeroValue4
  t22 := Tryd.underlying22
  a22 := Tryd.isAgg22
  z22 := Tryd.sizeOf22
  v22 := Tryd.zeroValue22
  a23 := Tryd.isAgg9
  z23 := Tryd.sizeOf9
  t25 := Tryd.underlying72
  a25 := Tryd.isAgg72
  z25 := Tryd.sizeOf72
  v25 := Tryd.zeroValue72
}
end Go.Proofs.YtlhleojigcnjeaaDoor
