/- The walk of the law NoutSigns. Conditions: the library's table of powers and its variable MaxLen are there; the pattern's texts are short. -/
import Derived.Test.YtaijjffnamjhiaaDoorNShown
import Derived.Test.YtaijjffnamjhiaaDoorDrew
namespace Go.Proofs.YtaijjffnamjhiaaDoor
open Go.RowKit
open Dcm (okD)
/-- four boxes -/
structure B4 (w0 : World) (pv yv zv dv : Array Value) (w : World) : Prop where
  b : Below w0.heap.size w0 w
  p : Boxed w w0.heap.size pv
  y : Boxed w (w0.heap.size + 1) yv
  z : Boxed w (w0.heap.size + 2) zv
  d : Boxed w (w0.heap.size + 3) dv
theorem B4.made (w0 : World) (pv yv zv dv : Array Value) (t1 t2 t3 : TypeId) : B4 w0 pv yv zv dv ((((w0.alloc (.cells pv t1)).alloc (.cells yv t2)).alloc (.cells zv t2)).alloc (.cells dv t3)) :=
  ⟨blw_trans (blw_trans (blw_trans (blw_alloc _ _) (blw_alloc _ _)) (blw_alloc _ _)) (blw_alloc _ _), (((Boxed.made w0 pv t1).alloc _).alloc _).alloc _, (((Boxed.made _ yv t2).alloc _).alloc _).at (by simp), ((Boxed.made _ zv t2).alloc _).at (by simp), (Boxed.made _ dv t3).at (by simp)⟩
theorem B4.below {w0 w w' : World} {pv yv zv dv : Array Value} (h : B4 w0 pv yv zv dv w) (hb : Below w.heap.size w w') : B4 w0 pv yv zv dv w' :=
  ⟨blw_trans h.b hb, h.p.below hb, h.y.below hb, h.z.below hb, h.d.below hb⟩
theorem B4.drew {w0 w : World} {pv yv zv dv : Array Value} (h : B4 w0 pv yv zv dv w) (n : Nat) : B4 w0 pv yv zv dv (w.drewN n) :=
  ⟨blw_drewN h.b n, h.p.drewN n, h.y.drewN n, h.z.drewN n, h.d.drewN n⟩

set_option maxRecDepth 100000 in
set_option maxHeartbeats 4000000 in
theorem nsigns_a (p : Nt.Pt) (pt cm pt2 cm2 : UInt8) (c s : Int) (w : World) (hT : PowW w) (hM : MaxW w) (h1 : p.pre.length ≤ 1000000000) (h2 : p.suf.length ≤ 1000000000) (hE : Nt.fmtE p pt cm c s ≠ 0) :
    Calls Tryd.prog 3 #[pV p, yV pt cm, yV pt2 cm2, .agg #[.int .i64 c, .int .i64 s]] w fun e w' => e = .returned (.bool true) ∧ Below w.heap.size w w' := by
  have C0 := Lib.hid fun (wx : World) (hb : Below w.heap.size w wx) => fact_any wx (hT.below hb) (hM.below hb)
  have C1 := Lib.hid fun (wx : World) (hb : Below w.heap.size w wx) => fmt_any p pt cm c s wx (hT.below hb) (hM.below hb) h1 h2
  have C2 := Lib.hid fun (wx : World) (hb : Below w.heap.size w wx) => fmt_any p pt2 cm2 c s wx (hT.below hb) (hM.below hb) h1 h2
  generalize ftxt p pt cm c s = T1 at *
  generalize ftxt p pt2 cm2 c s = T2 at *
  rw [show errN (Nt.fmtE p pt cm c s) = errV (Nt.fmtE p pt cm c s) from if_neg hE] at C1
  generalize Nt.fmtE p pt cm c s = E1 at *
  generalize errN (Nt.fmtE p pt2 cm2 c s) = V2 at *
  unfold pV yV at *
  obtain ⟨pre, suf, mi, nf, mf, g, g2⟩ := p
  simp only at *
  have X0 := Lib.hid (B4.made w #[.string ⟨pre.toArray⟩, .string ⟨suf.toArray⟩, .int .i64 mi, .int .i64 nf, .int .i64 mf, .int .i64 g, .int .i64 g2] #[.int .u8 (pt.toNat : Int), .int .u8 (cm.toNat : Int)] #[.int .u8 (pt2.toNat : Int), .int .u8 (cm2.toNat : Int)] #[.int .i64 c, .int .i64 s] 23 25 27)
  clear hT hM h1 h2
  go_enter Tryd.func3, Tryd.ntmps3
  go_wp2_with fail
  refine (C0.out _ X0.out.b).mono ?_
  rintro e w1 ⟨rfl, hb⟩
  have X1 := Lib.hid (X0.out.below hb)
  clear hb X0 C0
  have cp0 := X1.out.p.cell 0 _ rfl
  have cp1 := X1.out.p.cell 1 _ rfl
  have cp2 := X1.out.p.cell 2 _ rfl
  have cp3 := X1.out.p.cell 3 _ rfl
  have cp4 := X1.out.p.cell 4 _ rfl
  have cp5 := X1.out.p.cell 5 _ rfl
  have cp6 := X1.out.p.cell 6 _ rfl
  have clp := X1.out.p.lt
  have cy0 := X1.out.y.cell 0 _ rfl
  have cy1 := X1.out.y.cell 1 _ rfl
  have cly := X1.out.y.lt
  have cz0 := X1.out.z.cell 0 _ rfl
  have cz1 := X1.out.z.cell 1 _ rfl
  have clz := X1.out.z.lt
  have cd0 := X1.out.d.cell 0 _ rfl
  have cd1 := X1.out.d.cell 1 _ rfl
  have cld := X1.out.d.lt
  go_wp2_with fail
  refine (C1.out _ X1.out.b).mono ?_
  rintro e w2 ⟨rfl, hb⟩
  have X2 := Lib.hid (X1.out.below hb)
  clear hb X1 C1
  clear cp0 cp1 cp2 cp3 cp4 cp5 cp6 clp cy0 cy1 cly cz0 cz1 clz cd0 cd1 cld
  have cp0 := X2.out.p.cell 0 _ rfl
  have cp1 := X2.out.p.cell 1 _ rfl
  have cp2 := X2.out.p.cell 2 _ rfl
  have cp3 := X2.out.p.cell 3 _ rfl
  have cp4 := X2.out.p.cell 4 _ rfl
  have cp5 := X2.out.p.cell 5 _ rfl
  have cp6 := X2.out.p.cell 6 _ rfl
  have clp := X2.out.p.lt
  have cy0 := X2.out.y.cell 0 _ rfl
  have cy1 := X2.out.y.cell 1 _ rfl
  have cly := X2.out.y.lt
  have cz0 := X2.out.z.cell 0 _ rfl
  have cz1 := X2.out.z.cell 1 _ rfl
  have clz := X2.out.z.lt
  have cd0 := X2.out.d.cell 0 _ rfl
  have cd1 := X2.out.d.cell 1 _ rfl
  have cld := X2.out.d.lt
  go_wp2_with fail
  refine (C2.out _ X2.out.b).mono ?_
  rintro e w3 ⟨rfl, hb⟩
  have X3 := Lib.hid (X2.out.below hb)
  clear hb X2 C2
  clear cp0 cp1 cp2 cp3 cp4 cp5 cp6 clp cy0 cy1 cly cz0 cz1 clz cd0 cd1 cld
  have cp0 := X3.out.p.cell 0 _ rfl
  have cp1 := X3.out.p.cell 1 _ rfl
  have cp2 := X3.out.p.cell 2 _ rfl
  have cp3 := X3.out.p.cell 3 _ rfl
  have cp4 := X3.out.p.cell 4 _ rfl
  have cp5 := X3.out.p.cell 5 _ rfl
  have cp6 := X3.out.p.cell 6 _ rfl
  have clp := X3.out.p.lt
  have cy0 := X3.out.y.cell 0 _ rfl
  have cy1 := X3.out.y.cell 1 _ rfl
  have cly := X3.out.y.lt
  have cz0 := X3.out.z.cell 0 _ rfl
  have cz1 := X3.out.z.cell 1 _ rfl
  have clz := X3.out.z.lt
  have cd0 := X3.out.d.cell 0 _ rfl
  have cd1 := X3.out.d.cell 1 _ rfl
  have cld := X3.out.d.lt
  go_wp2_with fail
  go_ret
  exact ⟨ret_bool (by simp), X3.out.b⟩

set_option maxRecDepth 100000 in
set_option maxHeartbeats 4000000 in
theorem nsigns_b (p : Nt.Pt) (pt cm pt2 cm2 : UInt8) (c s : Int) (w : World) (hT : PowW w) (hM : MaxW w) (h1 : p.pre.length ≤ 1000000000) (h2 : p.suf.length ≤ 1000000000) (hE : Nt.fmtE p pt cm c s = 0) (hF : Nt.fmtE p pt2 cm2 c s ≠ 0) :
    Calls Tryd.prog 3 #[pV p, yV pt cm, yV pt2 cm2, .agg #[.int .i64 c, .int .i64 s]] w fun e w' => e = .returned (.bool true) ∧ Below w.heap.size w w' := by
  have C0 := Lib.hid fun (wx : World) (hb : Below w.heap.size w wx) => fact_any wx (hT.below hb) (hM.below hb)
  have C1 := Lib.hid fun (wx : World) (hb : Below w.heap.size w wx) => fmt_any p pt cm c s wx (hT.below hb) (hM.below hb) h1 h2
  have C2 := Lib.hid fun (wx : World) (hb : Below w.heap.size w wx) => fmt_any p pt2 cm2 c s wx (hT.below hb) (hM.below hb) h1 h2
  generalize ftxt p pt cm c s = T1 at *
  generalize ftxt p pt2 cm2 c s = T2 at *
  rw [show errN (Nt.fmtE p pt cm c s) = .nilIface from if_pos hE] at C1
  rw [show errN (Nt.fmtE p pt2 cm2 c s) = errV (Nt.fmtE p pt2 cm2 c s) from if_neg hF] at C2
  generalize Nt.fmtE p pt2 cm2 c s = E2 at *
  clear hE
  unfold pV yV at *
  obtain ⟨pre, suf, mi, nf, mf, g, g2⟩ := p
  simp only at *
  have X0 := Lib.hid (B4.made w #[.string ⟨pre.toArray⟩, .string ⟨suf.toArray⟩, .int .i64 mi, .int .i64 nf, .int .i64 mf, .int .i64 g, .int .i64 g2] #[.int .u8 (pt.toNat : Int), .int .u8 (cm.toNat : Int)] #[.int .u8 (pt2.toNat : Int), .int .u8 (cm2.toNat : Int)] #[.int .i64 c, .int .i64 s] 23 25 27)
  clear hT hM h1 h2
  go_enter Tryd.func3, Tryd.ntmps3
  go_wp2_with fail
  refine (C0.out _ X0.out.b).mono ?_
  rintro e w1 ⟨rfl, hb⟩
  have X1 := Lib.hid (X0.out.below hb)
  clear hb X0 C0
  have cp0 := X1.out.p.cell 0 _ rfl
  have cp1 := X1.out.p.cell 1 _ rfl
  have cp2 := X1.out.p.cell 2 _ rfl
  have cp3 := X1.out.p.cell 3 _ rfl
  have cp4 := X1.out.p.cell 4 _ rfl
  have cp5 := X1.out.p.cell 5 _ rfl
  have cp6 := X1.out.p.cell 6 _ rfl
  have clp := X1.out.p.lt
  have cy0 := X1.out.y.cell 0 _ rfl
  have cy1 := X1.out.y.cell 1 _ rfl
  have cly := X1.out.y.lt
  have cz0 := X1.out.z.cell 0 _ rfl
  have cz1 := X1.out.z.cell 1 _ rfl
  have clz := X1.out.z.lt
  have cd0 := X1.out.d.cell 0 _ rfl
  have cd1 := X1.out.d.cell 1 _ rfl
  have cld := X1.out.d.lt
  go_wp2_with fail
  refine (C1.out _ X1.out.b).mono ?_
  rintro e w2 ⟨rfl, hb⟩
  have X2 := Lib.hid (X1.out.below hb)
  clear hb X1 C1
  clear cp0 cp1 cp2 cp3 cp4 cp5 cp6 clp cy0 cy1 cly cz0 cz1 clz cd0 cd1 cld
  have cp0 := X2.out.p.cell 0 _ rfl
  have cp1 := X2.out.p.cell 1 _ rfl
  have cp2 := X2.out.p.cell 2 _ rfl
  have cp3 := X2.out.p.cell 3 _ rfl
  have cp4 := X2.out.p.cell 4 _ rfl
  have cp5 := X2.out.p.cell 5 _ rfl
  have cp6 := X2.out.p.cell 6 _ rfl
  have clp := X2.out.p.lt
  have cy0 := X2.out.y.cell 0 _ rfl
  have cy1 := X2.out.y.cell 1 _ rfl
  have cly := X2.out.y.lt
  have cz0 := X2.out.z.cell 0 _ rfl
  have cz1 := X2.out.z.cell 1 _ rfl
  have clz := X2.out.z.lt
  have cd0 := X2.out.d.cell 0 _ rfl
  have cd1 := X2.out.d.cell 1 _ rfl
  have cld := X2.out.d.lt
  go_wp2_with fail
  refine (C2.out _ X2.out.b).mono ?_
  rintro e w3 ⟨rfl, hb⟩
  have X3 := Lib.hid (X2.out.below hb)
  clear hb X2 C2
  clear cp0 cp1 cp2 cp3 cp4 cp5 cp6 clp cy0 cy1 cly cz0 cz1 clz cd0 cd1 cld
  have cp0 := X3.out.p.cell 0 _ rfl
  have cp1 := X3.out.p.cell 1 _ rfl
  have cp2 := X3.out.p.cell 2 _ rfl
  have cp3 := X3.out.p.cell 3 _ rfl
  have cp4 := X3.out.p.cell 4 _ rfl
  have cp5 := X3.out.p.cell 5 _ rfl
  have cp6 := X3.out.p.cell 6 _ rfl
  have clp := X3.out.p.lt
  have cy0 := X3.out.y.cell 0 _ rfl
  have cy1 := X3.out.y.cell 1 _ rfl
  have cly := X3.out.y.lt
  have cz0 := X3.out.z.cell 0 _ rfl
  have cz1 := X3.out.z.cell 1 _ rfl
  have clz := X3.out.z.lt
  have cd0 := X3.out.d.cell 0 _ rfl
  have cd1 := X3.out.d.cell 1 _ rfl
  have cld := X3.out.d.lt
  go_wp2_with fail
  go_ret
  exact ⟨ret_bool (by simp), X3.out.b⟩

set_option maxRecDepth 100000 in
set_option maxHeartbeats 4000000 in
theorem nsigns_c (p : Nt.Pt) (pt cm pt2 cm2 : UInt8) (c s : Int) (w : World) (hT : PowW w) (hM : MaxW w) (h1 : p.pre.length ≤ 1000000000) (h2 : p.suf.length ≤ 1000000000) (hE : Nt.fmtE p pt cm c s = 0) (hF : Nt.fmtE p pt2 cm2 c s = 0) :
    Calls Tryd.prog 3 #[pV p, yV pt cm, yV pt2 cm2, .agg #[.int .i64 c, .int .i64 s]] w fun e w' => e = .returned (.bool true) ∧ Below w.heap.size w w' := by
  have C0 := Lib.hid fun (wx : World) (hb : Below w.heap.size w wx) => fact_any wx (hT.below hb) (hM.below hb)
  have C1 := Lib.hid fun (wx : World) (hb : Below w.heap.size w wx) => fmt_any p pt cm c s wx (hT.below hb) (hM.below hb) h1 h2
  have C2 := Lib.hid fun (wx : World) (hb : Below w.heap.size w wx) => fmt_any p pt2 cm2 c s wx (hT.below hb) (hM.below hb) h1 h2
  have C3 := Lib.hid fun (wx : World) (hb : Below w.heap.size w wx) => fmt_any p pt cm (-c) s wx (hT.below hb) (hM.below hb) h1 h2
  obtain ⟨hp, hy, hd⟩ := Nt.fmt_ok hE
  obtain ⟨_, hy2, _⟩ := Nt.fmt_ok hF
  have al := Nt.alike_shown p c s hp hy hy2
  have sn := Nt.shown_neg p pt cm c s hd hp
  rw [show (0 : Int) - c = -c by omega] at sn
  have hG : Nt.fmtE p pt cm (-c) s = 0 := by
    unfold Nt.fmtE Nt.allE at *
    unfold okD at hd
    rw [hp, hy] at *
    simp only [ne_eq, not_true_eq_false, if_true, if_false] at *
    rw [if_pos (by omega)]
  have sz := Nt.shown_len p pt cm c s hd hp
  obtain ⟨nq, _⟩ := Nt.sym_mem hy
  obtain ⟨nq2, _⟩ := Nt.sym_mem hy2
  rw [show errN (Nt.fmtE p pt cm c s) = .nilIface from if_pos hE, show ftxt p pt cm c s = Nt.shown p pt cm c s from if_pos hE] at C1
  rw [show errN (Nt.fmtE p pt2 cm2 c s) = .nilIface from if_pos hF, show ftxt p pt2 cm2 c s = Nt.shown p pt2 cm2 c s from if_pos hF] at C2
  rw [show errN (Nt.fmtE p pt cm (-c) s) = .nilIface from if_pos hG, show ftxt p pt cm (-c) s = Nt.shown p pt cm (-c) s from if_pos hG] at C3
  have wc : IntKind.i64.wrap (-c) = -c := IntWalk.i64_in _ (by unfold okD at hd; omega)
  clear hE hF hG hp hy hy2
  generalize Nt.shown p pt cm c s = T1 at *
  generalize Nt.shown p pt2 cm2 c s = T2 at *
  generalize Nt.shown p pt cm (-c) s = T3 at *
  have lT : T1.length = T2.length := al.1
  have HL := Lib.hid al.2
  have HS := Lib.hid sn
  have lx : T1.length ≤ 3000000000 := by omega
  have ly : T2.length ≤ 3000000000 := by omega
  clear al sn sz hd
  have pq : ((pt.toNat : Int) == (cm.toNat : Int)) = false := by rw [byte_eq]; exact beq_eq_false_iff_ne.2 nq
  have pq2 : ((pt2.toNat : Int) == (cm2.toNat : Int)) = false := by rw [byte_eq]; exact beq_eq_false_iff_ne.2 nq2
  have qp : ((cm.toNat : Int) == (pt.toNat : Int)) = false := by rw [byte_eq]; exact beq_eq_false_iff_ne.2 nq.symm
  have qp2 : ((cm2.toNat : Int) == (pt2.toNat : Int)) = false := by rw [byte_eq]; exact beq_eq_false_iff_ne.2 nq2.symm
  have HQ := Lib.hid (And.intro pq (And.intro pq2 (And.intro qp qp2)))
  clear nq nq2 pq pq2 qp qp2
  have HWC := Lib.hid wc
  clear wc
  unfold pV yV at *
  obtain ⟨pre, suf, mi, nf, mf, g, g2⟩ := p
  simp only at *
  have X0 := Lib.hid (B4.made w #[.string ⟨pre.toArray⟩, .string ⟨suf.toArray⟩, .int .i64 mi, .int .i64 nf, .int .i64 mf, .int .i64 g, .int .i64 g2] #[.int .u8 (pt.toNat : Int), .int .u8 (cm.toNat : Int)] #[.int .u8 (pt2.toNat : Int), .int .u8 (cm2.toNat : Int)] #[.int .i64 c, .int .i64 s] 23 25 27)
  clear hT hM h1 h2
  go_enter Tryd.func3, Tryd.ntmps3
  go_wp2_with fail
  refine (C0.out _ X0.out.b).mono ?_
  rintro e w1 ⟨rfl, hb⟩
  have X1 := Lib.hid (X0.out.below hb)
  clear hb X0 C0
  have cp0 := X1.out.p.cell 0 _ rfl
  have cp1 := X1.out.p.cell 1 _ rfl
  have cp2 := X1.out.p.cell 2 _ rfl
  have cp3 := X1.out.p.cell 3 _ rfl
  have cp4 := X1.out.p.cell 4 _ rfl
  have cp5 := X1.out.p.cell 5 _ rfl
  have cp6 := X1.out.p.cell 6 _ rfl
  have clp := X1.out.p.lt
  have cy0 := X1.out.y.cell 0 _ rfl
  have cy1 := X1.out.y.cell 1 _ rfl
  have cly := X1.out.y.lt
  have cz0 := X1.out.z.cell 0 _ rfl
  have cz1 := X1.out.z.cell 1 _ rfl
  have clz := X1.out.z.lt
  have cd0 := X1.out.d.cell 0 _ rfl
  have cd1 := X1.out.d.cell 1 _ rfl
  have cld := X1.out.d.lt
  go_wp2_with fail
  refine (C1.out _ X1.out.b).mono ?_
  rintro e w2 ⟨rfl, hb⟩
  have X2 := Lib.hid (X1.out.below hb)
  clear hb X1 C1
  clear cp0 cp1 cp2 cp3 cp4 cp5 cp6 clp cy0 cy1 cly cz0 cz1 clz cd0 cd1 cld
  have cp0 := X2.out.p.cell 0 _ rfl
  have cp1 := X2.out.p.cell 1 _ rfl
  have cp2 := X2.out.p.cell 2 _ rfl
  have cp3 := X2.out.p.cell 3 _ rfl
  have cp4 := X2.out.p.cell 4 _ rfl
  have cp5 := X2.out.p.cell 5 _ rfl
  have cp6 := X2.out.p.cell 6 _ rfl
  have clp := X2.out.p.lt
  have cy0 := X2.out.y.cell 0 _ rfl
  have cy1 := X2.out.y.cell 1 _ rfl
  have cly := X2.out.y.lt
  have cz0 := X2.out.z.cell 0 _ rfl
  have cz1 := X2.out.z.cell 1 _ rfl
  have clz := X2.out.z.lt
  have cd0 := X2.out.d.cell 0 _ rfl
  have cd1 := X2.out.d.cell 1 _ rfl
  have cld := X2.out.d.lt
  go_wp2_with fail
  refine (C2.out _ X2.out.b).mono ?_
  rintro e w3 ⟨rfl, hb⟩
  have X3 := Lib.hid (X2.out.below hb)
  clear hb X2 C2
  clear cp0 cp1 cp2 cp3 cp4 cp5 cp6 clp cy0 cy1 cly cz0 cz1 clz cd0 cd1 cld
  have cp0 := X3.out.p.cell 0 _ rfl
  have cp1 := X3.out.p.cell 1 _ rfl
  have cp2 := X3.out.p.cell 2 _ rfl
  have cp3 := X3.out.p.cell 3 _ rfl
  have cp4 := X3.out.p.cell 4 _ rfl
  have cp5 := X3.out.p.cell 5 _ rfl
  have cp6 := X3.out.p.cell 6 _ rfl
  have clp := X3.out.p.lt
  have cy0 := X3.out.y.cell 0 _ rfl
  have cy1 := X3.out.y.cell 1 _ rfl
  have cly := X3.out.y.lt
  have cz0 := X3.out.z.cell 0 _ rfl
  have cz1 := X3.out.z.cell 1 _ rfl
  have clz := X3.out.z.lt
  have cd0 := X3.out.d.cell 0 _ rfl
  have cd1 := X3.out.d.cell 1 _ rfl
  have cld := X3.out.d.lt
  have lI : (T1.length : Int) = (T2.length : Int) := by omega
  generalize hn2 : T2.length = n2 at *
  subst lT
  go_wp2_with fail
  go_loopw [14] (fun v wr => ∃ k : Nat, v = .int .i64 k ∧ k ≤ T1.length ∧ Hid (B4 w #[.string ⟨pre.toArray⟩, .string ⟨suf.toArray⟩, .int .i64 mi, .int .i64 nf, .int .i64 mf, .int .i64 g, .int .i64 g2] #[.int .u8 (pt.toNat : Int), .int .u8 (cm.toNat : Int)] #[.int .u8 (pt2.toNat : Int), .int .u8 (cm2.toNat : Int)] #[.int .i64 c, .int .i64 s] wr)) (fun v _ => T1.length - (RowKit.intOf v).toNat)
  case atStart => exact ⟨0, rfl, Nat.zero_le _, X3⟩
  case round =>
    obtain ⟨k, rfl, hk, X4⟩ := hrel
    clear X3 cp0 cp1 cp2 cp3 cp4 cp5 cp6 clp cy0 cy1 cly cz0 cz1 clz cd0 cd1 cld
    have cp0 := X4.out.p.cell 0 _ rfl
    have cp1 := X4.out.p.cell 1 _ rfl
    have cp2 := X4.out.p.cell 2 _ rfl
    have cp3 := X4.out.p.cell 3 _ rfl
    have cp4 := X4.out.p.cell 4 _ rfl
    have cp5 := X4.out.p.cell 5 _ rfl
    have cp6 := X4.out.p.cell 6 _ rfl
    have clp := X4.out.p.lt
    have cy0 := X4.out.y.cell 0 _ rfl
    have cy1 := X4.out.y.cell 1 _ rfl
    have cly := X4.out.y.lt
    have cz0 := X4.out.z.cell 0 _ rfl
    have cz1 := X4.out.z.cell 1 _ rfl
    have clz := X4.out.z.lt
    have cd0 := X4.out.d.cell 0 _ rfl
    have cd1 := X4.out.d.cell 1 _ rfl
    have cld := X4.out.d.lt
    by_cases hlt : k < T1.length
    · obtain ⟨x, hx⟩ : ∃ x, T1[k]? = some x := ⟨T1[k], List.getElem?_eq_getElem hlt⟩
      obtain ⟨x2, hx2⟩ : ∃ x, T2[k]? = some x := ⟨T2[k]'(by omega), List.getElem?_eq_getElem (by omega)⟩
      have IX := fun w => index_str (P := Tryd.prog) 9 Tryd.underlying9 T1 .i64 k x hx w
      have IY := fun w => index_str (P := Tryd.prog) 9 Tryd.underlying9 T2 .i64 k x2 hx2 w
      have RP := HL.out k x x2 hx hx2
      obtain ⟨pq, pq2, qp, qp2⟩ := HQ.out
      clear hx hx2 C3 HS HL HQ HWC
      rcases RP with ⟨rfl, rfl⟩ | ⟨rfl, rfl⟩ | ⟨rfl, n1, n2, n3, n4⟩
      · skip
        go_wp2_with fail
        go_big_quiet (fail)
        go_wp2_with fail
        go_roundw
        case rel => exact ⟨k + 1, by go_num, by omega, Lib.hid (by repeat (first | exact X4.out | exact X4.out.drew _ | exact X4.out.drew 1))⟩
        case measure => simp [RowKit.intOf]; omega
      · have qr : ((x.toNat : Int) != (pt.toNat : Int)) = true := by rw [bne, qp]; rfl
        go_wp2_with fail
        go_big_quiet (fail)
        go_wp2_with fail
        go_roundw
        case rel => exact ⟨k + 1, by go_num, by omega, Lib.hid (by repeat (first | exact X4.out | exact X4.out.drew _ | exact X4.out.drew 1))⟩
        case measure => simp [RowKit.intOf]; omega
      · have b1 : ((x.toNat : Int) == (pt.toNat : Int)) = false := by rw [byte_eq]; exact beq_eq_false_iff_ne.2 n1
        have b2 : ((x.toNat : Int) == (cm.toNat : Int)) = false := by rw [byte_eq]; exact beq_eq_false_iff_ne.2 n2
        have b3 : ((x.toNat : Int) == (pt2.toNat : Int)) = false := by rw [byte_eq]; exact beq_eq_false_iff_ne.2 n3
        have b4 : ((x.toNat : Int) == (cm2.toNat : Int)) = false := by rw [byte_eq]; exact beq_eq_false_iff_ne.2 n4
        have b5 : ((x.toNat : Int) != (pt.toNat : Int)) = true := by rw [bne, b1]; rfl
        have b6 : ((x.toNat : Int) != (cm.toNat : Int)) = true := by rw [bne, b2]; rfl
        clear n1 n2 n3 n4 pq pq2 qp qp2
        go_wp2_with fail
        go_big_quiet (fail)
        go_wp2_with fail
        go_roundw
        case rel => exact ⟨k + 1, by go_num, by omega, Lib.hid (by repeat (first | exact X4.out | exact X4.out.drew _ | exact X4.out.drew 1))⟩
        case measure => simp [RowKit.intOf]; omega
    · have hkk : k = T1.length := by omega
      subst hkk
      have hfin : ¬ (T1.length : Int) < (T1.length : Int) := by omega
      have wc := HWC.out
      clear HL HQ HWC
      go_wp2_with fail
      refine (C3.out _ (by repeat (first | exact X4.out.b | refine blw_drewN ?_ _))).mono ?_
      rintro e w5 ⟨rfl, hb⟩
      have W5 := Lib.hid (blw_trans (show Below w.heap.size w _ by repeat (first | exact X4.out.b | refine blw_drewN ?_ _)) hb)
      clear hb C3 X4 wc hfin cp0 cp1 cp2 cp3 cp4 cp5 cp6 clp cy0 cy1 cly cz0 cz1 clz cd0 cd1 cld
      have L1 : ([45] ++ T1).length = T1.length + 1 := by simp
      rcases HS.out with h | h | h
      · subst h
        clear HS
        go_wp2_with fail
        go_ret
        exact ⟨ret_bool (by simp), W5.out⟩
      · have q1 : (T3 == T1) = false := beq_eq_false_iff_ne.2 fun e => by have := congrArg List.length (e.symm.trans h); simp at this
        have A1 : ∀ w, (Op.stringOp .add ⟨#[45]⟩ ⟨T1.toArray⟩).run Tryd.prog w = .ok (.string ⟨T3.toArray⟩) w := fun w => by rw [h]; exact add_str (P := Tryd.prog) [45] T1 (by simp; omega) w
        clear HS h
        go_wp2_with fail
        go_ret
        exact ⟨ret_bool (by simp), W5.out⟩
      · have l3 : T1.length = T3.length + 1 := by rw [← h]; rfl
        obtain ⟨M, hM⟩ : ∃ M, M = [45] ++ T1 := ⟨_, rfl⟩
        have lM : M.length = T1.length + 1 := by rw [hM]; exact L1
        have q1 : (T3 == T1) = false := beq_eq_false_iff_ne.2 fun e => by have := congrArg List.length e; omega
        have q2 : (T3 == M) = false := beq_eq_false_iff_ne.2 fun e => by have := congrArg List.length e; omega
        have A1 : ∀ w, (Op.stringOp .add ⟨#[45]⟩ ⟨T1.toArray⟩).run Tryd.prog w = .ok (.string ⟨M.toArray⟩) w := fun w => by rw [hM]; exact add_str (P := Tryd.prog) [45] T1 (by simp; omega) w
        have A2 : ∀ w, (Op.stringOp .add ⟨#[45]⟩ ⟨T3.toArray⟩).run Tryd.prog w = .ok (.string ⟨T1.toArray⟩) w := fun w => by rw [← h]; exact add_str (P := Tryd.prog) [45] T3 (by simp; omega) w
        clear HS h hM lM l3
        go_wp2_with fail
        go_ret
        exact ⟨ret_bool (by simp), W5.out⟩
theorem nsigns_any (p : Nt.Pt) (pt cm pt2 cm2 : UInt8) (c s : Int) (w : World) (hT : PowW w) (hM : MaxW w) (h1 : p.pre.length ≤ 1000000000) (h2 : p.suf.length ≤ 1000000000) :
    Calls Tryd.prog 3 #[pV p, yV pt cm, yV pt2 cm2, .agg #[.int .i64 c, .int .i64 s]] w fun e w' => e = .returned (.bool true) ∧ Below w.heap.size w w' := by
  by_cases hE : Nt.fmtE p pt cm c s = 0
  · by_cases hF : Nt.fmtE p pt2 cm2 c s = 0
    · exact nsigns_c p pt cm pt2 cm2 c s w hT hM h1 h2 hE hF
    · exact nsigns_b p pt cm pt2 cm2 c s w hT hM h1 h2 hE hF
  · exact nsigns_a p pt cm pt2 cm2 c s w hT hM h1 h2 hE
end Go.Proofs.YtaijjffnamjhiaaDoor
