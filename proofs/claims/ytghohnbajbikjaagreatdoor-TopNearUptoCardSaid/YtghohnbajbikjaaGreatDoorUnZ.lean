/- The walk of code.Say at the message that is hello, in English, with no args. -/
import Derived.Test.YtghohnbajbikjaaGreatDoorUnN
import Derived.Test.YtghohnbajbikjaaGreatDoorTb0
import Derived.Test.YtghohnbajbikjaaGreatDoorUnM
namespace Go.Proofs.YtghohnbajbikjaaGreatDoor
open Go.RowKit
namespace Tn
theorem zero_argc (w : World) : (zeroValue 133).run Tryz.prog w = .ok (.agg #[.string ⟨#[]⟩, .bool false, .int .i64 0, .int .i64 0, .string ⟨#[]⟩]) w := by kernel_rfl
set_option maxRecDepth 100000 in
set_option maxHeartbeats 4000000 in
theorem gsay_any (g cap gu uc cl : Nat) (ab : Option Addr) (w : World) (hcap : 1 ≤ cap) (hG : Boxed w g (stC (.slice ab 1 cl))) (hU : HiM w (.slice (some ⟨gu, 0, none⟩) 1 uc)) :
    Calls Tryz.prog 44 #[.agg #[.slice (some ⟨g, 0, none⟩) 1 cap, .slice (some ⟨gu, 0, none⟩) 1 uc], .string ⟨#[101, 110]⟩, .slice none 0 0] w fun e w' => e = .returned (.tuple #[.string ⟨#[104, 101, 108, 108, 111]⟩, .nilIface]) ∧ Below w.heap.size w w' := by
  have CF := Lib.hid fun wx (hb : Below w.heap.size w wx) => nfits1_any (.slice (some ⟨gu, 0, none⟩) 1 uc) wx (hU.below hb)
  have CL := Lib.hid langRules_en
  have MM := fun wx => (run_makeMap (P := Tryz.prog) (w := wx) 129)
  have BC := Lib.hid (Boxed.made w #[.slice (some ⟨g, 0, none⟩) 1 cap, .slice (some ⟨gu, 0, none⟩) 1 uc] 86)
  have W1 := Lib.hid (blw_alloc w (.cells #[.slice (some ⟨g, 0, none⟩) 1 cap, .slice (some ⟨gu, 0, none⟩) 1 uc] 86))
  have hgl := hG.lt
  have HG := Lib.hid hG
  clear hU hG
  go_enter Tryz.func44, Tryz.ntmps44
  go_wp2_with fail
  refine (CF.out _ W1.out).mono ?_
  rintro e w2 ⟨rfl, hb⟩
  have W2 := Lib.hid (blw_trans W1.out hb)
  have BC2 := Lib.hid (BC.out.below hb)
  clear hb CF BC W1
  go_wp2_with fail
  refine (CL.out _).mono ?_
  rintro e w3 ⟨rfl, hb⟩
  have W3 := Lib.hid ((blw_trans W2.out hb).alloc (blw_trans W2.out hb).size (.cells #[.string ⟨#[]⟩, .string ⟨#[105, 32, 61, 32, 49, 32, 97, 110, 100, 32, 118, 32, 61, 32, 48]⟩, .string ⟨#[]⟩, .string ⟨#[]⟩, .string ⟨#[]⟩] 126))
  have BC3 := Lib.hid ((BC2.out.below hb).alloc (.cells #[.string ⟨#[]⟩, .string ⟨#[105, 32, 61, 32, 49, 32, 97, 110, 100, 32, 118, 32, 61, 32, 48]⟩, .string ⟨#[]⟩, .string ⟨#[]⟩, .string ⟨#[]⟩] 126))
  clear hb CL BC2 W2
  go_upto_region 7 with fail
  generalize w3.alloc (.cells #[.string ⟨#[]⟩, .string ⟨#[105, 32, 61, 32, 49, 32, 97, 110, 100, 32, 118, 32, 61, 32, 48]⟩, .string ⟨#[]⟩, .string ⟨#[]⟩, .string ⟨#[]⟩] 126) = w4 at *
  have KM := Lib.hid (map_made (val := fun v : Value => v) w4)
  have W5 := Lib.hid (W3.out.alloc W3.out.size (.map #[] 0))
  have BC5 := Lib.hid (BC3.out.alloc (.map #[] 0))
  go_wp2_with fail
  refine wp_loop_rounds 1 ?_
  rw [rounds_succ]
  go_upto_region 13 with fail
  have HG5 := Lib.hid (HG.out.below W5.out)
  have hm5 := KM.out.lt
  generalize w4.alloc (.map #[] 0) = w5 at *
  generalize w4.heap.size = mp at *
  have HB6 := Lib.hid (Lib.IsBuilderF.of (Lib.fresh_isBuilder 97 5 w5))
  have W6 := Lib.hid (W5.out.alloc W5.out.size (.cells #[.pointer none, .slice none 0 0] 97))
  have BC6 := Lib.hid (BC5.out.alloc (.cells #[.pointer none, .slice none 0 0] 97))
  have HG6 := Lib.hid (HG5.out.alloc (.cells #[.pointer none, .slice none 0 0] 97))
  have KM6 := Lib.hid (KM.out.below (blw_alloc w5 (.cells #[.pointer none, .slice none 0 0] 97)))
  clear BC3 W3 BC5 HG KM
  go_upto_region 14 with fail
  have hb6 : w5.heap.size < (w5.alloc (.cells #[.pointer none, .slice none 0 0] 97)).heap.size := by simp
  generalize w5.alloc (.cells #[.pointer none, .slice none 0 0] 97) = w6 at *
  have hbs := W5.out.size
  generalize w5.heap.size = bb at *
  have c0 := BC6.out.cell 0 _ rfl
  have cl6 := BC6.out.lt
  go_upto_region 15 with fail
  have HF7 : (w6.alloc (.cells #[.int .i64 1, .int .i64 0, .int .i64 0, .int .i64 0] 135)).heap[w6.heap.size]? = some (.cells #[.int .i64 1, .int .i64 0, .int .i64 0, .int .i64 0] 135 (0, 0)) := by
    show (w6.heap.push _)[w6.heap.size]? = _
    simp
  have HF7 := Lib.hid HF7
  have BF7 := Lib.hid (Boxed.made w6 #[.int .i64 1, .int .i64 0, .int .i64 0, .int .i64 0] 135)
  have HB7 := Lib.hid (Lib.IsBuilderF.below HB6.out (blw_alloc w6 (.cells #[.int .i64 1, .int .i64 0, .int .i64 0, .int .i64 0] 135)))
  have W7 := Lib.hid (W6.out.alloc W6.out.size (.cells #[.int .i64 1, .int .i64 0, .int .i64 0, .int .i64 0] 135))
  have BC7 := Lib.hid (BC6.out.alloc (.cells #[.int .i64 1, .int .i64 0, .int .i64 0, .int .i64 0] 135))
  have HG7 := Lib.hid (HG6.out.alloc (.cells #[.int .i64 1, .int .i64 0, .int .i64 0, .int .i64 0] 135))
  have KM7 := Lib.hid (KM6.out.below (blw_alloc w6 (.cells #[.int .i64 1, .int .i64 0, .int .i64 0, .int .i64 0] 135)))
  clear HB6 W6 BC6 HG6 KM6 c0 cl6 W5 HG5
  have hfb : bb < w6.heap.size := hb6
  generalize w6.alloc (.cells #[.int .i64 1, .int .i64 0, .int .i64 0, .int .i64 0] 135) = w7 at *
  generalize w6.heap.size = fb at *
  have c0 := BC7.out.cell 0 _ rfl
  have cl7 := BC7.out.lt
  have a0 := BF7.out.cell 0 _ rfl
  have a1 := BF7.out.cell 1 _ rfl
  have a2 := BF7.out.cell 2 _ rfl
  have a3 := BF7.out.cell 3 _ rfl
  have al7 := BF7.out.lt
  have g0 : w7.cell? ⟨g, 0, none⟩ = some (.int .i64 1) := HG7.out.cell 0 _ rfl
  have g1 : w7.cell? ⟨g, 1, none⟩ = some (.string ⟨#[104, 101, 108, 108, 111]⟩) := HG7.out.cell 1 _ rfl
  have g2 : w7.cell? ⟨g, 2, none⟩ = some (.int .i64 0) := HG7.out.cell 2 _ rfl
  have g3 : w7.cell? ⟨g, 3, none⟩ = some (.slice none 0 0) := HG7.out.cell 3 _ rfl
  have g4 : w7.cell? ⟨g, 4, none⟩ = some (.slice ab 1 cl) := HG7.out.cell 4 _ rfl
  have g5 : w7.cell? ⟨g, 5, none⟩ = some (.int .i64 1) := HG7.out.cell 5 _ rfl
  have gl7 := HG7.out.lt
  go_wp2_with fail
  refine wp_loop_rounds 2 ?_
  rw [rounds_succ]
  go_upto_region 23 with fail
  have e1 : (w7.alloc (.cells #[.int .i64 1, .int .i64 0, .int .i64 0, .int .i64 0] 135)).heap.size = w7.heap.size + 1 := by simp
  have BT8 := Lib.hid ((Boxed.made w7 #[.int .i64 1, .int .i64 0, .int .i64 0, .int .i64 0] 135).alloc (.cells #[.int .i64 1, .string ⟨#[104, 101, 108, 108, 111]⟩, .int .i64 0, .slice none 0 0, .slice ab 1 cl, .int .i64 1] 142))
  have BS8 := Lib.hid ((Boxed.made (w7.alloc (.cells #[.int .i64 1, .int .i64 0, .int .i64 0, .int .i64 0] 135)) #[.int .i64 1, .string ⟨#[104, 101, 108, 108, 111]⟩, .int .i64 0, .slice none 0 0, .slice ab 1 cl, .int .i64 1] 142).at e1)
  have W8 := Lib.hid ((blw_alloc w7 (.cells #[.int .i64 1, .int .i64 0, .int .i64 0, .int .i64 0] 135)).alloc (by simp) (.cells #[.int .i64 1, .string ⟨#[104, 101, 108, 108, 111]⟩, .int .i64 0, .slice none 0 0, .slice ab 1 cl, .int .i64 1] 142))
  have LK := (KM7.out.below W8.out).none1 (P := Tryz.prog) 129 9 133 Tryz.underlying129 Tryz.underlying9 (t := [104, 101, 108, 108, 111]) (zero_argc _) rfl
  clear c0 cl7 a0 a1 a2 a3 al7 g0 g1 g2 g3 g4 g5 gl7
  have hz8 : w7.heap.size + 1 < ((w7.alloc (.cells #[.int .i64 1, .int .i64 0, .int .i64 0, .int .i64 0] 135)).alloc (.cells #[.int .i64 1, .string ⟨#[104, 101, 108, 108, 111]⟩, .int .i64 0, .slice none 0 0, .slice ab 1 cl, .int .i64 1] 142)).heap.size := by simp
  generalize (w7.alloc (.cells #[.int .i64 1, .int .i64 0, .int .i64 0, .int .i64 0] 135)).alloc (.cells #[.int .i64 1, .string ⟨#[104, 101, 108, 108, 111]⟩, .int .i64 0, .slice none 0 0, .slice ab 1 cl, .int .i64 1] 142) = w8 at *
  have s0 := BS8.out.cell 0 _ rfl
  have s1 := BS8.out.cell 1 _ rfl
  have t2 := BT8.out.cell 2 _ rfl
  have t3 := BT8.out.cell 3 _ rfl
  have tl := BT8.out.lt
  go_upto_region 24 with fail
  have BS9 := Lib.hid (BS8.out.alloc (.cells #[.string ⟨#[]⟩, .bool false, .int .i64 0, .int .i64 0, .string ⟨#[]⟩] 133))
  have BT9 := Lib.hid (BT8.out.alloc (.cells #[.string ⟨#[]⟩, .bool false, .int .i64 0, .int .i64 0, .string ⟨#[]⟩] 133))
  have W9 := Lib.hid (W8.out.alloc W8.out.size (.cells #[.string ⟨#[]⟩, .bool false, .int .i64 0, .int .i64 0, .string ⟨#[]⟩] 133))
  clear s0 s1 t2 t3 tl LK BS8 BT8 W8
  have hz9 : w7.heap.size + 1 < (w8.alloc (.cells #[.string ⟨#[]⟩, .bool false, .int .i64 0, .int .i64 0, .string ⟨#[]⟩] 133)).heap.size := by simp; omega
  clear hz8
  generalize w8.alloc (.cells #[.string ⟨#[]⟩, .bool false, .int .i64 0, .int .i64 0, .string ⟨#[]⟩] 133) = w9 at *
  have s0 : w9.cell? ⟨w7.heap.size + 1, 0, none⟩ = some (.int .i64 1) := BS9.out.cell 0 _ rfl
  have s1 : w9.cell? ⟨w7.heap.size + 1, 1, none⟩ = some (.string ⟨#[104, 101, 108, 108, 111]⟩) := BS9.out.cell 1 _ rfl
  have t2 : w9.cell? ⟨w7.heap.size, 2, none⟩ = some (.int .i64 0) := BT9.out.cell 2 _ rfl
  have t3 : w9.cell? ⟨w7.heap.size, 3, none⟩ = some (.int .i64 0) := BT9.out.cell 3 _ rfl
  have tl := BT9.out.lt
  go_region
  have W10 := Lib.hid (Below.drew (W9.out.alloc W9.out.size (.cells #[.int .i64 0, .int .i64 0] 131)))
  have BS10 := Lib.hid ((BS9.out.alloc (.cells #[.int .i64 0, .int .i64 0] 131)).drew)
  clear s0 s1 t2 t3 tl BS9 BT9 W9
  generalize (w9.alloc (.cells #[.int .i64 0, .int .i64 0] 131)).drew = w10 at *
  have s0 : w10.cell? ⟨w7.heap.size + 1, 0, none⟩ = some (.int .i64 1) := BS10.out.cell 0 _ rfl
  have sl := BS10.out.lt
  have HB10 := Lib.hid (Lib.IsBuilderF.below HB7.out W10.out)
  have HF10 := Lib.hid ((W10.out.block fb (Array.getElem?_eq_some_iff.1 HF7.out).1).trans HF7.out)
  have WW10 := Lib.hid (blw_trans W7.out W10.out)
  have CW := Lib.hid (wstr_any bb bb [] [104, 101, 108, 108, 111] w10 HB10.out (by decide) (by have := WW10.out.size; have := W10.out.size; have := (Array.getElem?_eq_some_iff.1 HF7.out).1; omega))
  go_wp2_with fail
  refine CW.out.mono ?_
  rintro e w11 ⟨rfl, hB, hb, ho⟩
  have HB11 := Lib.hid hB
  have W11 := Lib.hid (WW10.out.trans (hb.mono hbs))
  have HF11 := Lib.hid (ho fb _ HF10.out (by intro e; injection e with e; omega) (by intro c fz e; injection e with _ e _; exact absurd e (by decide)))
  clear hB hb ho CW HB10 HF10 WW10 W10 s0 sl BS10 HB7 HF7 W7 BC7 HG7 KM7 BF7
  go_wp2_with fail
  rw [rounds_succ]
  have a0 : w11.cell? ⟨fb, 0, none⟩ = some (.int .i64 1) := by simp [World.cell?, HF11.out]
  have a1 : w11.cell? ⟨fb, 1, none⟩ = some (.int .i64 0) := by simp [World.cell?, HF11.out]
  have a2 : w11.cell? ⟨fb, 2, none⟩ = some (.int .i64 0) := by simp [World.cell?, HF11.out]
  have a3 : w11.cell? ⟨fb, 3, none⟩ = some (.int .i64 0) := by simp [World.cell?, HF11.out]
  have al := (Array.getElem?_eq_some_iff.1 HF11.out).1
  have HB12 := Lib.hid (Lib.IsBuilderF.below HB11.out (blw_alloc w11 (.cells #[.int .i64 1, .int .i64 0, .int .i64 0, .int .i64 0] 135)))
  have W12 := Lib.hid (W11.out.alloc W11.out.size (.cells #[.int .i64 1, .int .i64 0, .int .i64 0, .int .i64 0] 135))
  have CS := Lib.hid (bstr_any bb bb _ _ HB12.out (by simp; omega))
  go_wp2_with fail
  refine CS.out.mono ?_
  rintro e w13 ⟨rfl, _, hb⟩
  have W13 := Lib.hid (W12.out.trans (hb.mono hbs))
  clear hb CS
  go_wp2_with fail
  go_ret2
  exact ⟨rfl, W13.out⟩
end Tn
end Go.Proofs.YtghohnbajbikjaaGreatDoor
