/- The walk of the law OpsTells: it returns true of whatever number. -/
import Derived.Test.YtdannkcacldhmaaDoorOpsOf
import Derived.Test.YtdannkcacldhmaaDoorAs
namespace Go.Proofs.YtdannkcacldhmaaDoor
open Go.RowKit
open Dcm (P10 okD)

theorem ops_half (w : World) : Calls Tryd.prog 8 #[.agg #[.int .i64 150, .int .i64 2]] w fun e w' => e = .returned (.tuple #[.agg #[.int .i64 1, .int .i64 2, .int .i64 1, .int .i64 50, .int .i64 5], .nilIface]) ∧ Below w.heap.size w w' := by
  have c := ops_yes 150 2 w (by decide)
  have e1 : Dcm.mag 150 / P10 2 = 1 := by decide
  have e2 : Dcm.mag 150 % P10 2 = 50 := by decide
  have e3 : Dcm.strip (2 : Int).toNat 50 = (1, 5) := by decide
  rw [e2, e1, e3] at c
  exact c

set_option maxRecDepth 100000 in
set_option maxHeartbeats 1000000 in
theorem opsTells_no (c s : Int) (w : World) (hT : HanW w) (h : ¬ okD c s) :
    Calls Tryd.prog 3 #[.agg #[.int .i64 c, .int .i64 s]] w fun e w' => e = .returned (.bool true) ∧ Below w.heap.size w w' := by
  have C1 := Lib.hid fun w => ops_no c s w h
  have C0 := Lib.hid fun w => dflt_yes c s w h
  have CE := Lib.hid fun w hT => sameErr_yes (ErrNo.no 1) w hT
  clear h
  go_enter Tryd.func3, Tryd.ntmps3
  go_wp2_with fail
  refine (ops_half _).mono ?_
  rintro e w1 ⟨rfl, hb⟩
  have T1 := (hT.alloc _).below hb
  have B1_d := Boxed.below (Boxed.made _ #[.int .i64 c, .int .i64 s] 23) hb
  have W1 := Lib.hid (blw_trans (blw_trans (Below.refl w.heap.size w) (blw_alloc _ _)) hb)
  clear hb 
  have kd0 := B1_d.cell 0 _ rfl
  have kd1 := B1_d.cell 1 _ rfl
  have kdl := B1_d.lt
  try simp at kd0 kd1 kdl
  go_wp2_with fail
  refine (C0.out _).mono ?_
  rintro e w2 ⟨rfl, hb⟩
  clear kd0 kd1 kdl
  have T2 := ((T1.alloc _).alloc _).below hb
  have B2_d := ((B1_d.alloc _).alloc _).below hb
  have B2_x := Boxed.below (Boxed.alloc (Boxed.made _ #[.int .i64 1, .int .i64 2, .int .i64 1, .int .i64 50, .int .i64 5] 25) _) hb
  have B2_want := Boxed.below (Boxed.made _ #[.int .i64 0, .int .i64 0, .int .i64 0, .int .i64 0, .int .i64 0] 25) hb
  have W2 := Lib.hid (blw_trans (blw_trans (blw_trans W1.out (blw_alloc _ _)) (blw_alloc _ _)) hb)
  clear hb T1 B1_d W1
  have kd0 := B2_d.cell 0 _ rfl
  have kd1 := B2_d.cell 1 _ rfl
  have kdl := B2_d.lt
  try simp at kd0 kd1 kdl
  have kx0 := B2_x.cell 0 _ rfl
  have kx1 := B2_x.cell 1 _ rfl
  have kx2 := B2_x.cell 2 _ rfl
  have kx3 := B2_x.cell 3 _ rfl
  have kx4 := B2_x.cell 4 _ rfl
  have kxl := B2_x.lt
  try simp at kx0 kx1 kx2 kx3 kx4 kxl
  have kwant0 := B2_want.cell 0 _ rfl
  have kwant1 := B2_want.cell 1 _ rfl
  have kwant2 := B2_want.cell 2 _ rfl
  have kwant3 := B2_want.cell 3 _ rfl
  have kwant4 := B2_want.cell 4 _ rfl
  have kwantl := B2_want.lt
  try simp at kwant0 kwant1 kwant2 kwant3 kwant4 kwantl
  go_wp2_with fail
  refine (C1.out _).mono ?_
  rintro e w3 ⟨rfl, hb⟩
  clear kd0 kd1 kdl kx0 kx1 kx2 kx3 kx4 kxl kwant0 kwant1 kwant2 kwant3 kwant4 kwantl
  have T3 := T2.below hb
  have B3_d := B2_d.below hb
  have B3_x := B2_x.below hb
  have B3_want := B2_want.below hb
  have W3 := Lib.hid (blw_trans W2.out hb)
  clear hb T2 B2_d B2_x B2_want W2
  have kx0 := B3_x.cell 0 _ rfl
  have kx1 := B3_x.cell 1 _ rfl
  have kx2 := B3_x.cell 2 _ rfl
  have kx3 := B3_x.cell 3 _ rfl
  have kx4 := B3_x.cell 4 _ rfl
  have kxl := B3_x.lt
  try simp at kx0 kx1 kx2 kx3 kx4 kxl
  have kwant0 := B3_want.cell 0 _ rfl
  have kwant1 := B3_want.cell 1 _ rfl
  have kwant2 := B3_want.cell 2 _ rfl
  have kwant3 := B3_want.cell 3 _ rfl
  have kwant4 := B3_want.cell 4 _ rfl
  have kwantl := B3_want.lt
  try simp at kwant0 kwant1 kwant2 kwant3 kwant4 kwantl
  go_wp2_with fail
  refine (CE.out _ (by exact (T3.alloc _))).mono ?_
  rintro e w4 ⟨rfl, hb⟩
  clear kx0 kx1 kx2 kx3 kx4 kxl kwant0 kwant1 kwant2 kwant3 kwant4 kwantl
  have T4 := (T3.alloc _).below hb
  have B4_d := (B3_d.alloc _).below hb
  have B4_x := (B3_x.alloc _).below hb
  have B4_want := (B3_want.alloc _).below hb
  have B4_o := Boxed.below (Boxed.made _ #[.int .i64 0, .int .i64 0, .int .i64 0, .int .i64 0, .int .i64 0] 25) hb
  have W4 := Lib.hid (blw_trans (blw_trans W3.out (blw_alloc _ _)) hb)
  clear hb T3 B3_d B3_x B3_want W3
  have kx0 := B4_x.cell 0 _ rfl
  have kx1 := B4_x.cell 1 _ rfl
  have kx2 := B4_x.cell 2 _ rfl
  have kx3 := B4_x.cell 3 _ rfl
  have kx4 := B4_x.cell 4 _ rfl
  have kxl := B4_x.lt
  try simp at kx0 kx1 kx2 kx3 kx4 kxl
  have kwant0 := B4_want.cell 0 _ rfl
  have kwant1 := B4_want.cell 1 _ rfl
  have kwant2 := B4_want.cell 2 _ rfl
  have kwant3 := B4_want.cell 3 _ rfl
  have kwant4 := B4_want.cell 4 _ rfl
  have kwantl := B4_want.lt
  try simp at kwant0 kwant1 kwant2 kwant3 kwant4 kwantl
  have ko0 := B4_o.cell 0 _ rfl
  have ko1 := B4_o.cell 1 _ rfl
  have ko2 := B4_o.cell 2 _ rfl
  have ko3 := B4_o.cell 3 _ rfl
  have ko4 := B4_o.cell 4 _ rfl
  have kol := B4_o.lt
  try simp at ko0 ko1 ko2 ko3 ko4 kol
  clear T4 B4_d B4_x B4_want B4_o
  go_wp2
  go_ret
  exact ⟨ret_bool (by simp), W4.out⟩

set_option maxRecDepth 100000 in
set_option maxHeartbeats 1000000 in
theorem opsTells_ok (c s I N F T : Int) (w : World) (hT : HanW w) (h : okD c s) (C1 : Hid (∀ w, Calls Tryd.prog 8 #[.agg #[.int .i64 c, .int .i64 s]] w fun e w' => e = .returned (.tuple #[.agg #[.int .i64 I, .int .i64 s, .int .i64 N, .int .i64 F, .int .i64 T], .nilIface]) ∧ Below w.heap.size w w'))
    (C2 : Hid (∀ w, Calls Tryd.prog 10 #[.agg #[.int .i64 c, .int .i64 s]] w fun e w' => e = .returned (.agg #[.int .i64 I, .int .i64 s, .int .i64 N, .int .i64 F, .int .i64 T]) ∧ Below w.heap.size w w')) :
    Calls Tryd.prog 3 #[.agg #[.int .i64 c, .int .i64 s]] w fun e w' => e = .returned (.bool true) ∧ Below w.heap.size w w' := by
  have C0 := Lib.hid fun w => dflt_no c s w h
  have CE := Lib.hid fun w hT => sameErr_yes ErrNo.nil w hT
  clear h
  go_enter Tryd.func3, Tryd.ntmps3
  go_wp2_with fail
  refine (ops_half _).mono ?_
  rintro e w1 ⟨rfl, hb⟩
  have T1 := (hT.alloc _).below hb
  have B1_d := Boxed.below (Boxed.made _ #[.int .i64 c, .int .i64 s] 23) hb
  have W1 := Lib.hid (blw_trans (blw_trans (Below.refl w.heap.size w) (blw_alloc _ _)) hb)
  clear hb 
  have kd0 := B1_d.cell 0 _ rfl
  have kd1 := B1_d.cell 1 _ rfl
  have kdl := B1_d.lt
  try simp at kd0 kd1 kdl
  have HLT := Lib.hid (show w.heap.size < w1.heap.size from B1_d.lt)
  go_wp2_with fail
  refine (C0.out _).mono ?_
  rintro e w2 ⟨rfl, hb⟩
  clear kd0 kd1 kdl
  have T2 := ((T1.alloc _).alloc _).below hb
  have B2_d := ((B1_d.alloc _).alloc _).below hb
  have B2_x := Boxed.below (Boxed.alloc (Boxed.made _ #[.int .i64 1, .int .i64 2, .int .i64 1, .int .i64 50, .int .i64 5] 25) _) hb
  have B2_want := Boxed.below (Boxed.made _ #[.int .i64 0, .int .i64 0, .int .i64 0, .int .i64 0, .int .i64 0] 25) hb
  have W2 := Lib.hid (blw_trans (blw_trans (blw_trans W1.out (blw_alloc _ _)) (blw_alloc _ _)) hb)
  have B2_want := Boxed.at (q := w1.heap.size + 1) B2_want (by simp)
  clear hb T1 B1_d W1
  have kd0 := B2_d.cell 0 _ rfl
  have kd1 := B2_d.cell 1 _ rfl
  have kdl := B2_d.lt
  try simp at kd0 kd1 kdl
  have kx0 := B2_x.cell 0 _ rfl
  have kx1 := B2_x.cell 1 _ rfl
  have kx2 := B2_x.cell 2 _ rfl
  have kx3 := B2_x.cell 3 _ rfl
  have kx4 := B2_x.cell 4 _ rfl
  have kxl := B2_x.lt
  try simp at kx0 kx1 kx2 kx3 kx4 kxl
  go_wp2_with fail
  refine (C2.out _).mono ?_
  rintro e w3 ⟨rfl, hb⟩
  clear kd0 kd1 kdl kx0 kx1 kx2 kx3 kx4 kxl
  have T3 := T2.below hb
  have B3_d := B2_d.below hb
  have B3_x := B2_x.below hb
  have B3_want := B2_want.below hb
  have W3 := Lib.hid (blw_trans W2.out hb)
  clear hb T2 B2_d B2_x B2_want W2
  have kd0 := B3_d.cell 0 _ rfl
  have kd1 := B3_d.cell 1 _ rfl
  have kdl := B3_d.lt
  try simp at kd0 kd1 kdl
  have kx0 := B3_x.cell 0 _ rfl
  have kx1 := B3_x.cell 1 _ rfl
  have kx2 := B3_x.cell 2 _ rfl
  have kx3 := B3_x.cell 3 _ rfl
  have kx4 := B3_x.cell 4 _ rfl
  have kxl := B3_x.lt
  try simp at kx0 kx1 kx2 kx3 kx4 kxl
  have kwant0 := B3_want.cell 0 _ rfl
  have kwant1 := B3_want.cell 1 _ rfl
  have kwant2 := B3_want.cell 2 _ rfl
  have kwant3 := B3_want.cell 3 _ rfl
  have kwant4 := B3_want.cell 4 _ rfl
  have kwantl := B3_want.lt
  try simp at kwant0 kwant1 kwant2 kwant3 kwant4 kwantl
  have fw0 := B3_want.free 0 (by simp)
  have fw1 := B3_want.free 1 (by simp)
  have fw2 := B3_want.free 2 (by simp)
  have fw3 := B3_want.free 3 (by simp)
  have fw4 := B3_want.free 4 (by simp)
  try simp at fw0 fw1 fw2 fw3 fw4
  have hlt : w.heap.size < w1.heap.size := HLT.out
  have n1 : ¬ w1.heap.size + 1 = w.heap.size := by omega
  have n2 : ¬ w.heap.size = w1.heap.size + 1 := by omega
  have n3 : ¬ w1.heap.size + 1 = w1.heap.size := by omega
  have n4 : ¬ w1.heap.size = w1.heap.size + 1 := by omega
  go_wp2_with fail
  have B4_want := (Boxed.set (Boxed.set (Boxed.set (Boxed.set (Boxed.set B3_want 0 (.int .i64 I) (by simp)) 1 (.int .i64 s) (by simp)) 2 (.int .i64 N) (by simp)) 3 (.int .i64 F) (by simp)) 4 (.int .i64 T) (by simp))
  have B4_d := (Boxed.far (Boxed.far (Boxed.far (Boxed.far (Boxed.far B3_d (q := w1.heap.size + 1) n1 0 (.int .i64 I)) (q := w1.heap.size + 1) n1 1 (.int .i64 s)) (q := w1.heap.size + 1) n1 2 (.int .i64 N)) (q := w1.heap.size + 1) n1 3 (.int .i64 F)) (q := w1.heap.size + 1) n1 4 (.int .i64 T))
  have B4_x := (Boxed.far (Boxed.far (Boxed.far (Boxed.far (Boxed.far B3_x (q := w1.heap.size + 1) n3 0 (.int .i64 I)) (q := w1.heap.size + 1) n3 1 (.int .i64 s)) (q := w1.heap.size + 1) n3 2 (.int .i64 N)) (q := w1.heap.size + 1) n3 3 (.int .i64 F)) (q := w1.heap.size + 1) n3 4 (.int .i64 T))
  have W4 := Lib.hid (show Below w.heap.size w (((((w3.setCell ⟨w1.heap.size + 1, 0, none⟩ (.int .i64 I)).setCell ⟨w1.heap.size + 1, 1, none⟩ (.int .i64 s)).setCell ⟨w1.heap.size + 1, 2, none⟩ (.int .i64 N)).setCell ⟨w1.heap.size + 1, 3, none⟩ (.int .i64 F)).setCell ⟨w1.heap.size + 1, 4, none⟩ (.int .i64 T)) from (Below.setCell (p := ⟨w1.heap.size + 1, 4, none⟩) (Below.setCell (p := ⟨w1.heap.size + 1, 3, none⟩) (Below.setCell (p := ⟨w1.heap.size + 1, 2, none⟩) (Below.setCell (p := ⟨w1.heap.size + 1, 1, none⟩) (Below.setCell (p := ⟨w1.heap.size + 1, 0, none⟩) W3.out (by simp; omega) (.int .i64 I)) (by simp; omega) (.int .i64 s)) (by simp; omega) (.int .i64 N)) (by simp; omega) (.int .i64 F)) (by simp; omega) (.int .i64 T)))
  have T4 := hT.below W4.out
  clear B3_want B3_d B3_x W3 T3 kd0 kd1 kdl kx0 kx1 kx2 kx3 kx4 kxl kwant0 kwant1 kwant2 kwant3 kwant4 kwantl fw0 fw1 fw2 fw3 fw4
  generalize (((((w3.setCell ⟨w1.heap.size + 1, 0, none⟩ (.int .i64 I)).setCell ⟨w1.heap.size + 1, 1, none⟩ (.int .i64 s)).setCell ⟨w1.heap.size + 1, 2, none⟩ (.int .i64 N)).setCell ⟨w1.heap.size + 1, 3, none⟩ (.int .i64 F)).setCell ⟨w1.heap.size + 1, 4, none⟩ (.int .i64 T)) = w4 at *
  refine (C1.out _).mono ?_
  rintro e w5 ⟨rfl, hb⟩
  have T5 := T4.below hb
  have B5_want := B4_want.below hb
  have B5_d := B4_d.below hb
  have B5_x := B4_x.below hb
  have W5 := Lib.hid (blw_trans W4.out hb)
  clear hb T4 B4_want B4_d B4_x W4
  have kx0 := B5_x.cell 0 _ rfl
  have kx1 := B5_x.cell 1 _ rfl
  have kx2 := B5_x.cell 2 _ rfl
  have kx3 := B5_x.cell 3 _ rfl
  have kx4 := B5_x.cell 4 _ rfl
  have kxl := B5_x.lt
  try simp at kx0 kx1 kx2 kx3 kx4 kxl
  have kwant0 := B5_want.cell 0 _ rfl
  have kwant1 := B5_want.cell 1 _ rfl
  have kwant2 := B5_want.cell 2 _ rfl
  have kwant3 := B5_want.cell 3 _ rfl
  have kwant4 := B5_want.cell 4 _ rfl
  have kwantl := B5_want.lt
  try simp at kwant0 kwant1 kwant2 kwant3 kwant4 kwantl
  go_wp2_with fail
  refine (CE.out _ (by exact (T5.alloc _))).mono ?_
  rintro e w6 ⟨rfl, hb⟩
  clear kx0 kx1 kx2 kx3 kx4 kxl kwant0 kwant1 kwant2 kwant3 kwant4 kwantl
  have T6 := (T5.alloc _).below hb
  have B6_want := (B5_want.alloc _).below hb
  have B6_d := (B5_d.alloc _).below hb
  have B6_x := (B5_x.alloc _).below hb
  have B6_o := Boxed.below (Boxed.made _ #[.int .i64 I, .int .i64 s, .int .i64 N, .int .i64 F, .int .i64 T] 25) hb
  have W6 := Lib.hid (blw_trans (blw_trans W5.out (blw_alloc _ _)) hb)
  clear hb T5 B5_want B5_d B5_x W5
  have kx0 := B6_x.cell 0 _ rfl
  have kx1 := B6_x.cell 1 _ rfl
  have kx2 := B6_x.cell 2 _ rfl
  have kx3 := B6_x.cell 3 _ rfl
  have kx4 := B6_x.cell 4 _ rfl
  have kxl := B6_x.lt
  try simp at kx0 kx1 kx2 kx3 kx4 kxl
  have kwant0 := B6_want.cell 0 _ rfl
  have kwant1 := B6_want.cell 1 _ rfl
  have kwant2 := B6_want.cell 2 _ rfl
  have kwant3 := B6_want.cell 3 _ rfl
  have kwant4 := B6_want.cell 4 _ rfl
  have kwantl := B6_want.lt
  try simp at kwant0 kwant1 kwant2 kwant3 kwant4 kwantl
  have ko0 := B6_o.cell 0 _ rfl
  have ko1 := B6_o.cell 1 _ rfl
  have ko2 := B6_o.cell 2 _ rfl
  have ko3 := B6_o.cell 3 _ rfl
  have ko4 := B6_o.cell 4 _ rfl
  have kol := B6_o.lt
  try simp at ko0 ko1 ko2 ko3 ko4 kol
  clear T6 B6_want B6_d B6_x B6_o
  go_wp2
  go_ret
  exact ⟨ret_bool (by simp), W6.out⟩

theorem opsTells_any (c s : Int) (w : World) (hT : HanW w) :
    Calls Tryd.prog 3 #[.agg #[.int .i64 c, .int .i64 s]] w fun e w' => e = .returned (.bool true) ∧ Below w.heap.size w w' := by
  by_cases h : okD c s
  · exact opsTells_ok c s _ _ _ _ w hT h (Lib.hid fun w => ops_yes c s w h) (Lib.hid fun w => opsOf_any c s w h)
  · exact opsTells_no c s w hT h
end Go.Proofs.YtdannkcacldhmaaDoor
