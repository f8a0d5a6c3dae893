/- The walk of (*Server).Say at de and hi, on a server that holds the one bundle. -/
import Derived.Test.YtghohnbajbikjaaGreatDoorUnU
import Derived.Test.YtghohnbajbikjaaGreatDoorUnI
import Derived.Test.YtghohnbajbikjaaGreatDoorUnE
import Derived.Test.YtghohnbajbikjaaGreatDoorUnZ
import Derived.Test.YtghohnbajbikjaaGreatDoorShelfC
namespace Go.Proofs.YtghohnbajbikjaaGreatDoor
open Go.RowKit Go.MapKept
namespace Tn
set_option maxRecDepth 100000 in
set_option maxHeartbeats 4000000 in
theorem say_any (W : World) (p st ca cb al cm b c : Nat) (w : World) (hM : MaxW W) (hP : PowW W) (hW : Below W.heap.size W w) (hS : Srv W.heap.size w p st ca cb al cm (.slice (some ⟨b, 0, none⟩) 1 c) 1 1) (hB : SlAt 2 BdC w (.slice (some ⟨b, 0, none⟩) 1 c) [hiB]) (h0 : w.cell? ⟨b, 0, none⟩ = some (.string ⟨#[101, 110]⟩)) :
    Calls Tryz.prog 23 #[.pointer (some ⟨p, 0, none⟩), .string ⟨#[100, 101]⟩, .string ⟨#[104, 105]⟩, .slice none 0 0] w fun e w' => e = .returned (.tuple #[.string ⟨#[104, 101, 108, 108, 111]⟩, .nilIface]) ∧ Below W.heap.size W w' := by
  have CF := tfind_any [hiB] [100, 101] [104, 105] (some ⟨b, 0, none⟩) 1 c w (hM.below hW) hB (by intro x hx; rw [List.mem_singleton] at hx; subst hx; exact ⟨by decide, by decide, by decide⟩) (by decide) (by decide)
  rw [hi_in] at CF
  dsimp only at CF
  rw [errE_none rfl] at CF
  have CF := Lib.hid CF
  have CR := Lib.hid fun wx (hb : Below w.heap.size w wx) (hs : Srv W.heap.size wx p st ca cb al cm (.slice (some ⟨b, 0, none⟩) 1 c) 1 1) => ready_any W.heap.size p st ca cb al cm (.slice (some ⟨b, 0, none⟩) 1 c) 1 1 wx ((hP.below hW).below hb) hs
  have CS := Lib.hid gsay_any
  obtain ⟨m, hm⟩ := hM
  have CC := Lib.hid fun wx (hb : Below W.heap.size W wx) => Tryz.strings_Cut ⟨#[101, 110]⟩ ⟨#[45]⟩ m wx (by decide) (cell_keep hm hb)
  rw [show Lib.cut (⟨#[101, 110]⟩ : ByteArray).data.toList (⟨#[45]⟩ : ByteArray).data.toList = ([101, 110], [], false) by decide +kernel] at CC
  have o1 := hS.o1
  have o2 := hS.o2
  have HS := Lib.hid hS
  have M0 : MapAt (fun v : Value => v) cm [] w := by obtain ⟨c, hc⟩ := hS.cod; exact ⟨#[], c, hc, rfl⟩
  have n1 := cell_ne h0 (hS.pla.cell 0 _ rfl) (by simp)
  have n2 := map_ne h0 M0
  have v4 := hS.srv.cell 4 _ rfl
  have v3 := hS.srv.cell 3 _ rfl
  have vl := hS.srv.lt
  have WW := Lib.hid hW
  have H0 := Lib.hid h0
  clear hS M0 hB h0 hW hP hm
  go_enter Tryz.func23, Tryz.ntmps23
  go_wp2_with fail
  refine CF.out.mono ?_
  rintro e w1 ⟨rfl, hb⟩
  have W1 := Lib.hid hb
  clear hb CF
  go_wp2_with fail
  refine (CR.out _ W1.out ⟨HS.out.srv.below W1.out, HS.out.sto.below W1.out, HS.out.cac.below W1.out, HS.out.pla.below W1.out, by obtain ⟨c, hc⟩ := HS.out.cod; exact ⟨c, (W1.out.block _ (Array.getElem?_eq_some_iff.1 hc).1).trans hc⟩, o1, o2⟩).mono ?_
  rintro e w2 ⟨g, cap, ab, cl, gu, uc, rfl, hcap, hG, hU, hk⟩
  have K2 := Lib.hid ((Kpt.of_below (S := fun k => k = cb ∨ k = cm) W1.out).trans hk)
  have W2 := Lib.hid (K2.out.toBelow WW.out (fun k hk e => by omega))
  have VP := Lib.hid (K2.out.box HS.out.srv (by omega))
  have VB := Lib.hid (K2.out.cell H0.out (by show ¬ (b = cb ∨ b = cm); omega))
  have HG := Lib.hid hG
  have HU := Lib.hid hU
  clear hk K2 W1 hG hU CR HS H0 WW v4 v3 vl
  have v3 := (VP.out.alloc (.cells #[.slice (some ⟨g, 0, none⟩) 1 cap, .slice (some ⟨gu, 0, none⟩) 1 uc] 86)).cell 3 _ rfl
  have vl := (VP.out.alloc (.cells #[.slice (some ⟨g, 0, none⟩) 1 cap, .slice (some ⟨gu, 0, none⟩) 1 uc] 86)).lt
  have b0 := cell_keep VB.out (blw_alloc _ (.cells #[.slice (some ⟨g, 0, none⟩) 1 cap, .slice (some ⟨gu, 0, none⟩) 1 uc] 86))
  have bl := World.block_lt_of_cell? _ _ b0
  dsimp only at bl
  have W3 := Lib.hid (W2.out.alloc W2.out.size (.cells #[.slice (some ⟨g, 0, none⟩) 1 cap, .slice (some ⟨gu, 0, none⟩) 1 uc] 86))
  have BC3 := Lib.hid (Boxed.made w2 #[.slice (some ⟨g, 0, none⟩) 1 cap, .slice (some ⟨gu, 0, none⟩) 1 uc] 86)
  have HG3 := Lib.hid (HG.out.alloc (.cells #[.slice (some ⟨g, 0, none⟩) 1 cap, .slice (some ⟨gu, 0, none⟩) 1 uc] 86))
  have HU3 := Lib.hid (HU.out.below (blw_alloc w2 (.cells #[.slice (some ⟨g, 0, none⟩) 1 cap, .slice (some ⟨gu, 0, none⟩) 1 uc] 86)))
  clear HG HU W2 VP VB
  go_wp2_with fail
  refine (CC.out _ W3.out).mono ?_
  rintro e w4 ⟨rfl, k, rfl⟩
  have D := blw_drewN (w := w2.alloc (.cells #[.slice (some ⟨g, 0, none⟩) 1 cap, .slice (some ⟨gu, 0, none⟩) 1 uc] 86)) (Below.refl (w2.alloc (.cells #[.slice (some ⟨g, 0, none⟩) 1 cap, .slice (some ⟨gu, 0, none⟩) 1 uc] 86)).heap.size _) k
  have BC4 := Lib.hid (BC3.out.below D)
  have HG4 := Lib.hid (HG3.out.below D)
  have HU4 := Lib.hid (HU3.out.below D)
  have W4 := Lib.hid (blw_trans W3.out D)
  clear D BC3 HG3 HU3 W3 v3 vl b0 bl CC
  generalize (w2.alloc (.cells #[.slice (some ⟨g, 0, none⟩) 1 cap, .slice (some ⟨gu, 0, none⟩) 1 uc] 86)).drewN k = w4 at *
  have c0 := BC4.out.cell 0 _ rfl
  have c1 := BC4.out.cell 1 _ rfl
  have cl4 := BC4.out.lt
  have CZ := Lib.hid (CS.out g cap gu uc cl ab w4 hcap HG4.out HU4.out)
  go_wp2_with fail
  refine CZ.out.mono ?_
  rintro e w5 ⟨rfl, hb⟩
  have W5 := Lib.hid (blw_trans W4.out hb)
  clear hb CZ
  go_wp2_with fail
  go_ret2
  exact ⟨rfl, W5.out⟩
end Tn
end Go.Proofs.YtghohnbajbikjaaGreatDoor
