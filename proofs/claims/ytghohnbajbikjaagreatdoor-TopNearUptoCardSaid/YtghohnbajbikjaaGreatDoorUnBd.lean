/- The walk of served: a server is made, the one bundle is loaded, and it says hello. Conditions: the library's MaxLen holds a number, and the table of powers stands. -/
import Derived.Test.YtghohnbajbikjaaGreatDoorUnBb
import Derived.Test.YtghohnbajbikjaaGreatDoorUnB
namespace Go.Proofs.YtghohnbajbikjaaGreatDoor
open Go.RowKit Go.MapKept
namespace Tn
set_option maxRecDepth 100000 in
set_option maxHeartbeats 4000000 in
theorem served_any (W : World) (hM : MaxW W) (hP : PowW W) :
    Calls Tryz.prog 6 #[] W fun e w' => e = .returned (.bool true) ∧ Below W.heap.size W w' := by
  have CN := Lib.hid (svnew_any W)
  have CL := Lib.hid fun p st ca cb al cm b0 e0 w => load_any W p st ca cb al cm b0 e0 w hM
  have CS := Lib.hid fun p st ca cb al cm b c w => say_any W p st ca cb al cm b c w hM hP
  clear hM hP
  go_enter Tryz.func6, Tryz.ntmps6
  go_wp2_with fail
  refine CN.out.mono ?_
  rintro e w1 ⟨p, st, ca, cb, al, cm, rfl, hS, hal, hb⟩
  have hpl := hS.srv.lt
  have A1 := Lib.hid (blw_alloc w1 (.cells #[.string ⟨#[104, 105]⟩, .string ⟨#[104, 101, 108, 108, 111]⟩] 41))
  have E1 := Lib.hid (Boxed.made w1 #[.string ⟨#[104, 105]⟩, .string ⟨#[104, 101, 108, 108, 111]⟩] 41)
  have A2 := Lib.hid (blw_alloc (w1.alloc (.cells #[.string ⟨#[104, 105]⟩, .string ⟨#[104, 101, 108, 108, 111]⟩] 41)) (.cells #[.string ⟨#[101, 110]⟩, .slice (some ⟨w1.heap.size, 0, none⟩) 1 1] 38))
  have B2 := Lib.hid ((Boxed.made (w1.alloc (.cells #[.string ⟨#[104, 105]⟩, .string ⟨#[104, 101, 108, 108, 111]⟩] 41)) #[.string ⟨#[101, 110]⟩, .slice (some ⟨w1.heap.size, 0, none⟩) 1 1] 38).at (q := w1.heap.size + 1) (by simp))
  have AA := Lib.hid (blw_trans A1.out A2.out)
  have E2 := Lib.hid (E1.out.below A2.out)
  have SS := Lib.hid hS
  have HL := Lib.hid hal
  have W1 := Lib.hid hb
  clear hS hal hb CN A1 A2 E1
  go_wp2_with fail
  refine (CL.out p st ca cb al cm (w1.heap.size + 1) w1.heap.size _ (blw_trans W1.out AA.out) ⟨SS.out.srv.below AA.out, SS.out.sto.below AA.out, SS.out.cac.below AA.out, SS.out.pla.below AA.out, by obtain ⟨c, hc⟩ := SS.out.cod; exact ⟨c, (AA.out.block _ (Array.getElem?_eq_some_iff.1 hc).1).trans hc⟩, SS.out.o1, SS.out.o2⟩ ((AA.out.block _ (Array.getElem?_eq_some_iff.1 HL.out).1).trans HL.out) ⟨by omega, by omega⟩ B2.out E2.out).mono ?_
  rintro e w2 ⟨rfl, cb', b, c, hS, hB, h0, hb⟩
  have SS2 := Lib.hid hS
  have BB2 := Lib.hid hB
  have H02 := Lib.hid h0
  have W2 := Lib.hid hb
  clear hS hB h0 hb CL SS HL W1 AA E2 B2
  go_wp2_with fail
  refine (CS.out p st ca cb' al cm b c _ W2.out SS2.out BB2.out H02.out).mono ?_
  rintro e w3 ⟨rfl, hb⟩
  have W3 := Lib.hid hb
  clear hb CS
  go_wp2_with fail
  go_ret
  exact ⟨rfl, W3.out⟩
end Tn
end Go.Proofs.YtghohnbajbikjaaGreatDoor
