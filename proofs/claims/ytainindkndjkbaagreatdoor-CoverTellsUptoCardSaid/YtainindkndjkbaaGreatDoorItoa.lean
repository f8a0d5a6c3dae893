/- strconv.Itoa by its contract off the shelf, in the words of the boxes. Conditions: the library's table of powers holds its numbers. -/
import Derived.Test.YtainindkndjkbaaGreatDoorShelf
import Derived.Test.YtainindkndjkbaaGreatDoorBox
import Derived.WalkSmall
import Derived.Lib.LaidTab
namespace Go.Proofs.YtainindkndjkbaaGreatDoor
open Go.RowKit Go.Lib

theorem gPow : Tryz.prog.globalNamed "internal/strconv.uint64pow10" = some 7 := by kernel_rfl
/-- the table of powers holds its numbers -/
def PowW (w : World) : Prop := Lib.TabIs Tryz.prog w "internal/strconv.uint64pow10" .u64 Lib.pow10Tab
theorem PowW.lt {w : World} (h : PowW w) : 7 < w.heap.size :=
  World.block_lt_of_cell? w ⟨7, 0, none⟩ (TabIs.cell h gPow 0 (by rw [pow10Tab_length]; decide))
theorem PowW.below {w w' : World} (h : PowW w) (hb : Below w.heap.size w w') : PowW w' := var?_below hb gPow h.lt h
theorem PowW.alloc {w : World} (h : PowW w) (o : Obj) : PowW (w.alloc o) := h.below (blw_alloc w o)
theorem PowW.drewN {w : World} (h : PowW w) (n : Nat) : PowW (w.drewN n) := h.below (blw_drewN (Below.refl _ _) n)
theorem blw_grow (w : World) (k : Nat) (os : Array Obj) : Below w.heap.size w (Sort.grow (w.drewN k) os) :=
  ⟨rfl, rfl, rfl, by show w.heap.size ≤ (w.heap ++ os).size; rw [Array.size_append]; omega, fun _ hj => Sort.heap_grow_old (w.drewN k) os hj⟩
theorem itoa_any (n : Int) (w : World) (hp : PowW w) (n0 : -9223372036854775808 ≤ n) (n1 : n ≤ 9223372036854775807) :
    Calls Tryz.prog 127 #[.int .i64 n] w fun e w' => e = .returned (.string ⟨(Lib.itoa n).toArray⟩) ∧ Below w.heap.size w w' :=
  (Tryz.strconv_Itoa n n0 n1 w hp).mono fun _ _ ⟨he, k, os, hw⟩ => ⟨he, hw ▸ blw_grow w k os⟩
theorem itoa_pos (n : Int) (w : World) (hp : PowW w) (n0 : 0 ≤ n) (n1 : n ≤ 9223372036854775807) :
    Calls Tryz.prog 127 #[.int .i64 n] w fun e w' => e = .returned (.string ⟨(Lib.decDigits n.toNat).toArray⟩) ∧ Below w.heap.size w w' := by
  have c := itoa_any n w hp (by omega) n1
  unfold Lib.itoa at c
  rw [if_neg (by omega)] at c
  exact c
end Go.Proofs.YtainindkndjkbaaGreatDoor
