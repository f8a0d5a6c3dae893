/- The walk of the law LangTells: it returns true of whatever language. -/
import Derived.Test.YtdannkcacldhmaaDoorLang
import Derived.Test.YtdannkcacldhmaaDoorAs
namespace Go.Proofs.YtdannkcacldhmaaDoor
open Go.RowKit


set_option maxRecDepth 100000 in
set_option maxHeartbeats 1000000 in
theorem langTells_yes (s z o t f m : ByteArray) (w : World) (hT : HanW w)
    (C1 : Hid (∀ w : World, Calls Tryd.prog 13 #[.string s] w fun e w' => e = .returned (.tuple #[.agg #[.string z, .string o, .string t, .string f, .string m], .bool true]) ∧ Below w.heap.size w w'))
    (C2 : Hid (∀ w : World, Calls Tryd.prog 12 #[.string s] w fun e w' => e = .returned (.tuple #[.agg #[.string z, .string o, .string t, .string f, .string m], .nilIface]) ∧ Below w.heap.size w w')) :
    Calls Tryd.prog 4 #[.string s] w fun e w' => e = .returned (.bool true) ∧ Below w.heap.size w w' := by
  have C0 := Lib.hid langRules_ja
  have C4 := Lib.hid langRules_en
  have CE := Lib.hid fun w hT => sameErr_yes ErrNo.nil w hT
  go_enter Tryd.func4, Tryd.ntmps4
  go_wp2_with fail
  refine (C0.out _).mono ?_
  rintro e w1 ⟨rfl, hb⟩
  have T1 := hT.below hb
  have W1 := Lib.hid (blw_trans (Below.refl w.heap.size w) hb)
  clear hb 
  go_wp2_with fail
  refine (C1.out _).mono ?_
  rintro e w2 ⟨rfl, hb⟩
  have T2 := (T1.alloc _).below hb
  have B2_x := Boxed.below (Boxed.made _ #[.string ⟨#[]⟩, .string ⟨#[]⟩, .string ⟨#[]⟩, .string ⟨#[]⟩, .string ⟨#[]⟩] 35) hb
  have W2 := Lib.hid (blw_trans (blw_trans W1.out (blw_alloc _ _)) hb)
  clear hb T1 W1
  have kx0 := B2_x.cell 0 _ rfl
  have kx1 := B2_x.cell 1 _ rfl
  have kx2 := B2_x.cell 2 _ rfl
  have kx3 := B2_x.cell 3 _ rfl
  have kx4 := B2_x.cell 4 _ rfl
  have kxl := B2_x.lt
  try simp at kx0 kx1 kx2 kx3 kx4 kxl
  go_wp2_with fail
  refine (C2.out _).mono ?_
  rintro e w3 ⟨rfl, hb⟩
  clear kx0 kx1 kx2 kx3 kx4 kxl
  have T3 := (T2.alloc _).below hb
  have B3_x := (B2_x.alloc _).below hb
  have B3_want := Boxed.below (Boxed.made _ #[.string z, .string o, .string t, .string f, .string m] 35) hb
  have W3 := Lib.hid (blw_trans (blw_trans W2.out (blw_alloc _ _)) hb)
  clear hb T2 B2_x W2
  have kx0 := B3_x.cell 0 _ rfl
  have kx1 := B3_x.cell 1 _ rfl
  have kx2 := B3_x.cell 2 _ rfl
  have kx3 := B3_x.cell 3 _ rfl
  have kx4 := B3_x.cell 4 _ rfl
  have kxl := B3_x.lt
  try simp at kx0 kx1 kx2 kx3 kx4 kxl
  have kwant0 := B3_want.cell 0 _ rfl
  have kwant1 := B3_want.cell 1 _ rfl
  have kwant2 := B3_want.cell 2 _ rfl
  have kwant3 := B3_want.cell 3 _ rfl
  have kwant4 := B3_want.cell 4 _ rfl
  have kwantl := B3_want.lt
  try simp at kwant0 kwant1 kwant2 kwant3 kwant4 kwantl
  go_wp2_with fail
  refine (CE.out _ (by exact (T3.alloc _))).mono ?_
  rintro e w4 ⟨rfl, hb⟩
  clear kx0 kx1 kx2 kx3 kx4 kxl kwant0 kwant1 kwant2 kwant3 kwant4 kwantl
  have T4 := (T3.alloc _).below hb
  have B4_x := (B3_x.alloc _).below hb
  have B4_want := (B3_want.alloc _).below hb
  have B4_got := Boxed.below (Boxed.made _ #[.string z, .string o, .string t, .string f, .string m] 35) hb
  have W4 := Lib.hid (blw_trans (blw_trans W3.out (blw_alloc _ _)) hb)
  clear hb T3 B3_x B3_want W3
  have kx0 := B4_x.cell 0 _ rfl
  have kx1 := B4_x.cell 1 _ rfl
  have kx2 := B4_x.cell 2 _ rfl
  have kx3 := B4_x.cell 3 _ rfl
  have kx4 := B4_x.cell 4 _ rfl
  have kxl := B4_x.lt
  try simp at kx0 kx1 kx2 kx3 kx4 kxl
  have kwant0 := B4_want.cell 0 _ rfl
  have kwant1 := B4_want.cell 1 _ rfl
  have kwant2 := B4_want.cell 2 _ rfl
  have kwant3 := B4_want.cell 3 _ rfl
  have kwant4 := B4_want.cell 4 _ rfl
  have kwantl := B4_want.lt
  try simp at kwant0 kwant1 kwant2 kwant3 kwant4 kwantl
  have kgot0 := B4_got.cell 0 _ rfl
  have kgot1 := B4_got.cell 1 _ rfl
  have kgot2 := B4_got.cell 2 _ rfl
  have kgot3 := B4_got.cell 3 _ rfl
  have kgot4 := B4_got.cell 4 _ rfl
  have kgotl := B4_got.lt
  try simp at kgot0 kgot1 kgot2 kgot3 kgot4 kgotl
  go_wp2_with fail
  refine (C4.out _).mono ?_
  rintro e w5 ⟨rfl, hb⟩
  clear kx0 kx1 kx2 kx3 kx4 kxl kwant0 kwant1 kwant2 kwant3 kwant4 kwantl kgot0 kgot1 kgot2 kgot3 kgot4 kgotl
  have T5 := T4.below hb
  have B5_x := B4_x.below hb
  have B5_want := B4_want.below hb
  have B5_got := B4_got.below hb
  have W5 := Lib.hid (blw_trans W4.out hb)
  clear hb T4 B4_x B4_want B4_got W4
  have kx0 := B5_x.cell 0 _ rfl
  have kx1 := B5_x.cell 1 _ rfl
  have kx2 := B5_x.cell 2 _ rfl
  have kx3 := B5_x.cell 3 _ rfl
  have kx4 := B5_x.cell 4 _ rfl
  have kxl := B5_x.lt
  try simp at kx0 kx1 kx2 kx3 kx4 kxl
  have kwant0 := B5_want.cell 0 _ rfl
  have kwant1 := B5_want.cell 1 _ rfl
  have kwant2 := B5_want.cell 2 _ rfl
  have kwant3 := B5_want.cell 3 _ rfl
  have kwant4 := B5_want.cell 4 _ rfl
  have kwantl := B5_want.lt
  try simp at kwant0 kwant1 kwant2 kwant3 kwant4 kwantl
  have kgot0 := B5_got.cell 0 _ rfl
  have kgot1 := B5_got.cell 1 _ rfl
  have kgot2 := B5_got.cell 2 _ rfl
  have kgot3 := B5_got.cell 3 _ rfl
  have kgot4 := B5_got.cell 4 _ rfl
  have kgotl := B5_got.lt
  try simp at kgot0 kgot1 kgot2 kgot3 kgot4 kgotl
  clear T5 B5_x B5_want B5_got
  go_wp2
  go_ret
  exact ⟨ret_bool (by simp), (blw_trans W5.out (blw_alloc _ _))⟩

set_option maxRecDepth 100000 in
set_option maxHeartbeats 1000000 in
theorem langTells_no (s z o t f m : ByteArray) (w : World) (hT : HanW w)
    (C1 : Hid (∀ w : World, Calls Tryd.prog 13 #[.string s] w fun e w' => e = .returned (.tuple #[.agg #[.string z, .string o, .string t, .string f, .string m], .bool false]) ∧ Below w.heap.size w w'))
    (C2 : Hid (∀ w : World, Calls Tryd.prog 12 #[.string s] w fun e w' => e = .returned (.tuple #[.agg #[.string z, .string o, .string t, .string f, .string m], errV 2]) ∧ Below w.heap.size w w')) :
    Calls Tryd.prog 4 #[.string s] w fun e w' => e = .returned (.bool true) ∧ Below w.heap.size w w' := by
  have C0 := Lib.hid langRules_ja
  have C4 := Lib.hid langRules_en
  have CE := Lib.hid fun w hT => sameErr_yes (ErrNo.no 2) w hT
  go_enter Tryd.func4, Tryd.ntmps4
  go_wp2_with fail
  refine (C0.out _).mono ?_
  rintro e w1 ⟨rfl, hb⟩
  have T1 := hT.below hb
  have W1 := Lib.hid (blw_trans (Below.refl w.heap.size w) hb)
  clear hb 
  go_wp2_with fail
  refine (C1.out _).mono ?_
  rintro e w2 ⟨rfl, hb⟩
  have T2 := (T1.alloc _).below hb
  have B2_x := Boxed.below (Boxed.made _ #[.string ⟨#[]⟩, .string ⟨#[]⟩, .string ⟨#[]⟩, .string ⟨#[]⟩, .string ⟨#[]⟩] 35) hb
  have W2 := Lib.hid (blw_trans (blw_trans W1.out (blw_alloc _ _)) hb)
  clear hb T1 W1
  have kx0 := B2_x.cell 0 _ rfl
  have kx1 := B2_x.cell 1 _ rfl
  have kx2 := B2_x.cell 2 _ rfl
  have kx3 := B2_x.cell 3 _ rfl
  have kx4 := B2_x.cell 4 _ rfl
  have kxl := B2_x.lt
  try simp at kx0 kx1 kx2 kx3 kx4 kxl
  go_wp2_with fail
  refine (C2.out _).mono ?_
  rintro e w3 ⟨rfl, hb⟩
  clear kx0 kx1 kx2 kx3 kx4 kxl
  have T3 := (T2.alloc _).below hb
  have B3_x := (B2_x.alloc _).below hb
  have B3_want := Boxed.below (Boxed.made _ #[.string z, .string o, .string t, .string f, .string m] 35) hb
  have W3 := Lib.hid (blw_trans (blw_trans W2.out (blw_alloc _ _)) hb)
  clear hb T2 B2_x W2
  have kx0 := B3_x.cell 0 _ rfl
  have kx1 := B3_x.cell 1 _ rfl
  have kx2 := B3_x.cell 2 _ rfl
  have kx3 := B3_x.cell 3 _ rfl
  have kx4 := B3_x.cell 4 _ rfl
  have kxl := B3_x.lt
  try simp at kx0 kx1 kx2 kx3 kx4 kxl
  have kwant0 := B3_want.cell 0 _ rfl
  have kwant1 := B3_want.cell 1 _ rfl
  have kwant2 := B3_want.cell 2 _ rfl
  have kwant3 := B3_want.cell 3 _ rfl
  have kwant4 := B3_want.cell 4 _ rfl
  have kwantl := B3_want.lt
  try simp at kwant0 kwant1 kwant2 kwant3 kwant4 kwantl
  go_wp2_with fail
  refine (CE.out _ (by exact (T3.alloc _))).mono ?_
  rintro e w4 ⟨rfl, hb⟩
  clear kx0 kx1 kx2 kx3 kx4 kxl kwant0 kwant1 kwant2 kwant3 kwant4 kwantl
  have T4 := (T3.alloc _).below hb
  have B4_x := (B3_x.alloc _).below hb
  have B4_want := (B3_want.alloc _).below hb
  have B4_got := Boxed.below (Boxed.made _ #[.string z, .string o, .string t, .string f, .string m] 35) hb
  have W4 := Lib.hid (blw_trans (blw_trans W3.out (blw_alloc _ _)) hb)
  clear hb T3 B3_x B3_want W3
  have kx0 := B4_x.cell 0 _ rfl
  have kx1 := B4_x.cell 1 _ rfl
  have kx2 := B4_x.cell 2 _ rfl
  have kx3 := B4_x.cell 3 _ rfl
  have kx4 := B4_x.cell 4 _ rfl
  have kxl := B4_x.lt
  try simp at kx0 kx1 kx2 kx3 kx4 kxl
  have kwant0 := B4_want.cell 0 _ rfl
  have kwant1 := B4_want.cell 1 _ rfl
  have kwant2 := B4_want.cell 2 _ rfl
  have kwant3 := B4_want.cell 3 _ rfl
  have kwant4 := B4_want.cell 4 _ rfl
  have kwantl := B4_want.lt
  try simp at kwant0 kwant1 kwant2 kwant3 kwant4 kwantl
  have kgot0 := B4_got.cell 0 _ rfl
  have kgot1 := B4_got.cell 1 _ rfl
  have kgot2 := B4_got.cell 2 _ rfl
  have kgot3 := B4_got.cell 3 _ rfl
  have kgot4 := B4_got.cell 4 _ rfl
  have kgotl := B4_got.lt
  try simp at kgot0 kgot1 kgot2 kgot3 kgot4 kgotl
  go_wp2_with fail
  refine (C4.out _).mono ?_
  rintro e w5 ⟨rfl, hb⟩
  clear kx0 kx1 kx2 kx3 kx4 kxl kwant0 kwant1 kwant2 kwant3 kwant4 kwantl kgot0 kgot1 kgot2 kgot3 kgot4 kgotl
  have T5 := T4.below hb
  have B5_x := B4_x.below hb
  have B5_want := B4_want.below hb
  have B5_got := B4_got.below hb
  have W5 := Lib.hid (blw_trans W4.out hb)
  clear hb T4 B4_x B4_want B4_got W4
  have kx0 := B5_x.cell 0 _ rfl
  have kx1 := B5_x.cell 1 _ rfl
  have kx2 := B5_x.cell 2 _ rfl
  have kx3 := B5_x.cell 3 _ rfl
  have kx4 := B5_x.cell 4 _ rfl
  have kxl := B5_x.lt
  try simp at kx0 kx1 kx2 kx3 kx4 kxl
  have kwant0 := B5_want.cell 0 _ rfl
  have kwant1 := B5_want.cell 1 _ rfl
  have kwant2 := B5_want.cell 2 _ rfl
  have kwant3 := B5_want.cell 3 _ rfl
  have kwant4 := B5_want.cell 4 _ rfl
  have kwantl := B5_want.lt
  try simp at kwant0 kwant1 kwant2 kwant3 kwant4 kwantl
  have kgot0 := B5_got.cell 0 _ rfl
  have kgot1 := B5_got.cell 1 _ rfl
  have kgot2 := B5_got.cell 2 _ rfl
  have kgot3 := B5_got.cell 3 _ rfl
  have kgot4 := B5_got.cell 4 _ rfl
  have kgotl := B5_got.lt
  try simp at kgot0 kgot1 kgot2 kgot3 kgot4 kgotl
  clear T5 B5_x B5_want B5_got
  go_wp2
  go_ret
  exact ⟨ret_bool (by simp), (blw_trans W5.out (blw_alloc _ _))⟩

theorem langTells_any (s : ByteArray) (w : World) (hT : HanW w) :
    Calls Tryd.prog 4 #[.string s] w fun e w' => e = .returned (.bool true) ∧ Below w.heap.size w w' := by
  obtain ⟨z, o, t, f, m, b, h1, h2⟩ := lang_cases s
  cases b
  · exact langTells_no s z o t f m w hT (Lib.hid h2) (Lib.hid h1)
  · exact langTells_yes s z o t f m w hT (Lib.hid h2) (Lib.hid h1)
end Go.Proofs.YtdannkcacldhmaaDoor
