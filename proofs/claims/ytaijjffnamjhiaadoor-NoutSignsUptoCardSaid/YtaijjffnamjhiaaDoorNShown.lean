/- The law's helper shown. Conditions: the library's table of powers and its variable MaxLen are there. -/
import Derived.Test.YtaijjffnamjhiaaDoorNFmt
namespace Go.Proofs.YtaijjffnamjhiaaDoor
open Go.RowKit
open Go.Lib Byt
theorem shown_dig : decDigits 12345 = [49, 50, 51, 52, 53] := by
  rw [Dtx.dd2 (by omega), Dtx.dd2 (by omega), Dtx.dd2 (by omega), Dtx.dd2 (by omega), Dtx.dd1 (by omega)]; rfl
theorem shown_is : Nt.shown ⟨[], [], 1, 0, 2, 3, 0⟩ 46 44 1234500 3 = [49, 44, 50, 51, 52, 46, 53] := by
  have e1 : Nt.red 2 1234500 3 = (12345, 1) := by decide
  have hD : decDigits (12345 : Int).natAbs = [49, 50, 51, 52, 53] := shown_dig
  have e2 : Nt.wh 12345 1 = [49, 50, 51, 52] := by unfold Nt.wh zdig zn; rw [hD]; rfl
  have e3 : Nt.bh 12345 1 = [53] := by unfold Nt.bh zdig zn; rw [hD]; rfl
  have e4 : gout [49, 50, 51, 52] 3 0 44 = [49, 44, 50, 51, 52] := by
    unfold gout
    rw [if_neg (by decide), if_pos rfl, Grp.grouped_cut _ (by decide) (by decide), Grp.grouped_one _ (by decide)]
    rfl
  unfold Nt.shown
  simp only [e1]
  unfold Nt.body Nt.pad Nt.fr
  simp only [e2, e3]
  have e5 : List.replicate ((1 : Int).toNat - ([49, 50, 51, 52] : List UInt8).length) (48 : UInt8) ++ [49, 50, 51, 52] = [49, 50, 51, 52] := rfl
  rw [e5, e4]
  rfl
theorem shown_fine : Nt.fmtE ⟨[], [], 1, 0, 2, 3, 0⟩ 46 44 1234500 3 = 0 := by decide

set_option maxRecDepth 100000 in
set_option maxHeartbeats 1000000 in
theorem fact_any (w : World) (hT : PowW w) (hM : MaxW w) : Calls Tryd.prog 4 #[] w fun e w' => e = .returned (.bool true) ∧ Below w.heap.size w w' := by
  have c := fmt_text ⟨[], [], 1, 0, 2, 3, 0⟩ 46 44 1234500 3 w hT hM (by simp) (by simp) shown_fine
  rw [shown_is] at c
  have C := Lib.hid c
  clear c
  go_enter Tryd.func4, Tryd.ntmps4
  go_wp2_with fail
  refine (C.out).mono ?_
  rintro e w1 ⟨rfl, hb⟩
  go_wp2
  go_ret
  exact ⟨rfl, hb⟩
end Go.Proofs.YtaijjffnamjhiaaDoor
