/- The walk of code.Compile at the message that is hello. -/
import Derived.Test.YtghohnbajbikjaaGreatDoorUnX
namespace Go.Proofs.YtghohnbajbikjaaGreatDoor
open Go.RowKit
namespace Tn
set_option maxRecDepth 100000 in
set_option maxHeartbeats 2000000 in
theorem gcompile_any (v : Value) (w : World) (h : HiM w v) :
    Calls Tryz.prog 59 #[v] w fun e w' => ∃ g cap ab cl gu uc, e = .returned (.tuple #[.agg #[.slice (some ⟨g, 0, none⟩) 1 cap, .slice (some ⟨gu, 0, none⟩) 1 uc], .nilIface]) ∧ 1 ≤ cap ∧ Boxed w' g (stC (.slice ab 1 cl)) ∧ HiM w' (.slice (some ⟨gu, 0, none⟩) 1 uc) ∧ Below w.heap.size w w' := by
  have CK := Lib.hid fun wx (hb : Below w.heap.size w wx) => gCheck_any v wx (h.below hb)
  have CP := Lib.hid fun wx (hb : HiM wx v) => gcopied_any v wx hb
  have CA := Lib.hid fun cb wx (hb : HiM wx v) (hc : Boxed wx cb #[.slice none 0 0, .slice none 0 0]) => gadd_any cb (.slice none 0 0) v wx hb hc
  have HM := Lib.hid h
  obtain ⟨b, off, cap, rfl, _, x0, x1, x2, x3⟩ := h
  have lb := World.block_lt_of_cell? _ _ x0
  dsimp only at lb
  have W1 := Lib.hid (blw_alloc w (.cells #[.slice none 0 0, .slice none 0 0] 86))
  have BR := Lib.hid (Boxed.made w #[.slice none 0 0, .slice none 0 0] 86)
  clear x0 x1 x2 x3
  go_enter Tryz.func59, Tryz.ntmps59
  go_wp2_with fail
  refine (CK.out _ W1.out).mono ?_
  rintro e w1 ⟨rfl, hb⟩
  have W2 := Lib.hid (blw_trans W1.out hb)
  have BR1 := Lib.hid (BR.out.below hb)
  have BC := Lib.hid (Boxed.made w1 #[.slice none 0 0, .slice none 0 0] 86)
  have HM2 := Lib.hid ((HM.out.below W2.out).below (blw_alloc w1 (.cells #[.slice none 0 0, .slice none 0 0] 86)))
  clear hb CK BR W1
  go_wp2_with fail
  refine (CA.out w1.heap.size _ HM2.out BC.out).mono ?_
  rintro e w3 ⟨g, cp, ab, cl, rfl, hg, hcp, hC, hG, hk⟩
  have hs1 := W2.out.size
  have hgs : w1.heap.size + 1 ≤ g := by simpa using hg
  have W3 := Lib.hid (hk.toBelow (W := w) (W2.out.alloc W2.out.size (.cells #[.slice none 0 0, .slice none 0 0] 86)) (fun k hk e => by omega))
  have BR3 := Lib.hid (hk.box (BR1.out.alloc (.cells #[.slice none 0 0, .slice none 0 0] 86)) (fun e => by have := BR1.out.lt; omega))
  have HM3 := Lib.hid (HM.out.below W3.out)
  have HC3 := Lib.hid hC
  have HG3 := Lib.hid hG
  have hbr := BR1.out.lt
  clear hC hG hk CA HM2 BC BR1 W2 hg
  go_wp2_with fail
  refine (CP.out _ HM3.out).mono ?_
  rintro e w4 ⟨gu, uc, rfl, huc, hgu, hU, hb⟩
  have W4 := Lib.hid (blw_trans W3.out hb)
  have BR4 := Lib.hid (BR3.out.below hb)
  have HC4 := Lib.hid (HC3.out.below hb)
  have HG4 := Lib.hid (HG3.out.below hb)
  have HU4 := Lib.hid hU
  have hl3 := HC3.out.lt
  have hg3 := HG3.out.lt
  clear hb CP W3 BR3 HC3 HG3 HM3 hU
  generalize w1.heap.size = cb at *
  have c0 := HC4.out.cell 0 _ rfl
  have c1 := HC4.out.cell 1 _ rfl
  have f1 := HC4.out.free 1 (by simp)
  have r0 := BR4.out.cell 0 _ rfl
  have r1 := BR4.out.cell 1 _ rfl
  have s0 := BR4.out.free 0 (by simp)
  have s1 := BR4.out.free 1 (by simp)
  have cl4 := HC4.out.lt
  have rl4 := BR4.out.lt
  have ne1 : ¬ w.heap.size = cb := by omega
  have ne2 : ¬ cb = w.heap.size := by omega
  go_wp2_with fail
  refine bodyPost_ret (by simp [results, Tryz.results59, go_sem, c0, c1, r0, r1]; try rfl) rfl ?_
  have n1 : cb ≠ g := by omega
  have n2 : w.heap.size ≠ g := by omega
  have n3 : cb ≠ gu := by omega
  have n4 : w.heap.size ≠ gu := by omega
  exact ⟨g, cp, ab, cl, gu, uc, rfl, hcp, ((HG4.out.far n1 _ _).far n2 _ _).far n2 _ _, HiM.of_box (((HU4.out.far n3 _ _).far n4 _ _).far n4 _ _) huc, ((W4.out.setCell (by show w.heap.size ≤ cb; omega) _).setCell (Nat.le_refl _) _).setCell (Nat.le_refl _) _⟩
end Tn
end Go.Proofs.YtghohnbajbikjaaGreatDoor
