/- The walk of NpatBack. Conditions: the library's variables hold what they hold. -/
import Derived.Test.YtjakpdfonnpchaaDoorNpar
import Derived.Laws.StructEq
namespace Go.Proofs.YtjakpdfonnpchaaDoor
open Go.RowKit
def PM (w : World) : Prop := MaxW w ∧ Lib.Utf8Tabs 2 3 w
theorem PM.below {w w' : World} (h : PM w) (hb : Below w.heap.size w w') : PM w' := ⟨h.1.below hb, tabs_below h.2 hb⟩
theorem Nt.patT_len {p : Nt.Pt} (h : Nt.patE p = 0) : (Nt.patT p).length ≤ 28 := by
  obtain ⟨a1, a2, M, F, X, A, C, e, h1, h2, h3, h4, h5, h6, h7⟩ := Nt.parts_of h
  have l1 : p.pre.length ≤ 5 := by unfold Nt.affB at a1; simp at a1; omega
  have l2 : p.suf.length ≤ 5 := by unfold Nt.affB at a2; simp at a2; omega
  obtain ⟨m1, m2, m3, _⟩ := Nt.mid_of h1 h2 h3 h4 h5 h6 h7
  have eT : Nt.patT p = p.pre ++ ((Nt.ptG M A C ++ Nt.ptF F X) ++ p.suf) := by rw [e]; simp [Nt.patT]
  rw [eT, List.length_append, List.length_append]
  omega
theorem eq_pat (pre suf : List UInt8) (mi nf mf g g2 : Int) (w : World) : (Op.equalIn 10000 23 (.agg #[.string ⟨pre.toArray⟩, .string ⟨suf.toArray⟩, .int .i64 mi, .int .i64 nf, .int .i64 mf, .int .i64 g, .int .i64 g2]) (.agg #[.string ⟨pre.toArray⟩, .string ⟨suf.toArray⟩, .int .i64 mi, .int .i64 nf, .int .i64 mf, .int .i64 g, .int .i64 g2])).run Tryd.prog w = .ok true w := by
  have u3 := Tryd.underlying3
  have u9 := Tryd.underlying9
  have u5 := Tryd.underlying23
  have a3 := Tryd.isAgg3
  have z3 := Tryd.sizeOf3
  have a9 := Tryd.isAgg9
  have z9 := Tryd.sizeOf9
  have a5 := Tryd.isAgg23
  have z5 := Tryd.sizeOf23
  go_simp
set_option maxRecDepth 100000 in
set_option maxHeartbeats 4000000 in
/-- the fact: the text of one pattern -/
theorem fact_any (w : World) : Calls Tryd.prog 5 #[] w fun e w' => e = .returned (.bool true) ∧ Below w.heap.size w w' := by
  have C := Lib.hid fun wx => ptext_ok ⟨[], [], 1, 1, 2, 3, 0⟩ wx (by decide +kernel)
  rw [show Nt.patT ⟨[], [], 1, 1, 2, 3, 0⟩ = [35, 44, 35, 35, 48, 46, 48, 35] by decide +kernel] at C
  dsimp only at C
  go_enter Tryd.func5, Tryd.ntmps5
  go_wp2_with fail
  refine (C.out _).mono ?_
  rintro e w1 ⟨rfl, hb⟩
  have W1 := Lib.hid hb
  clear hb C
  go_wp2_with fail
  go_ret
  exact ⟨rfl, W1.out⟩
set_option maxRecDepth 100000 in
set_option maxHeartbeats 8000000 in
theorem pback_any (p : Nt.Pt) (s : List UInt8) (w : World) (hT : PM w) (h1 : p.pre.length ≤ 1000000000) (h2 : p.suf.length ≤ 1000000000) (hs : s.length ≤ 1000000000) :
    Calls Tryd.prog 3 #[.agg #[.string ⟨p.pre.toArray⟩, .string ⟨p.suf.toArray⟩, .int .i64 p.mi, .int .i64 p.nf, .int .i64 p.mf, .int .i64 p.g, .int .i64 p.g2], .string ⟨s.toArray⟩] w fun e w' => e = .returned (.bool true) ∧ Below w.heap.size w w' := by
  have C0 := Lib.hid fun wx => fact_any wx
  have C1 := Lib.hid fun (wx : World) (hb : Below w.heap.size w wx) => npar_any s wx (hT.below hb).2 (hT.below hb).1 hs
  have C2 := Lib.hid fun (q : Nt.Pt) (wx : World) (h : Nt.patE q = 0) => ptext_ok q wx h
  have C3 := Lib.hid fun wx => ptext_no p wx h1 h2
  have C4 := Lib.hid fun wx => ptext_ok p wx
  have C5 := Lib.hid fun (h : Nt.patE p = 0) (wx : World) (hb : Below w.heap.size w wx) => npar_any (Nt.patT p) wx (hT.below hb).2 (hT.below hb).1 (by have := Nt.patT_len h; omega)
  have ON := Lib.hid fun (h : Nt.patE p = 0) (r : Option Nt.Pt) (hr : Nt.Par (Nt.patT p) r) => hr.one (t := some p) ⟨h, rfl⟩
  obtain ⟨pre, suf, mi, nf, mf, g, g2⟩ := p
  dsimp only at C3 C4
  have EQ := fun wx => eq_pat pre suf mi nf mf g g2 wx
  have W0 := Lib.hid (blw_alloc w (.cells #[.string ⟨pre.toArray⟩, .string ⟨suf.toArray⟩, .int .i64 mi, .int .i64 nf, .int .i64 mf, .int .i64 g, .int .i64 g2] 23))
  have B0 := Lib.hid (Boxed.made w #[.string ⟨pre.toArray⟩, .string ⟨suf.toArray⟩, .int .i64 mi, .int .i64 nf, .int .i64 mf, .int .i64 g, .int .i64 g2] 23)
  clear hT h1 h2 hs
  generalize hEE : Nt.patE ⟨pre, suf, mi, nf, mf, g, g2⟩ = EE at *
  generalize hTT : Nt.patT ⟨pre, suf, mi, nf, mf, g, g2⟩ = TT at *
  clear hEE hTT
  go_enter Tryd.func3, Tryd.ntmps3
  go_wp2_with fail
  refine (C0.out _).mono ?_
  rintro e w1 ⟨rfl, hb⟩
  have W1 := Lib.hid (blw_trans W0.out hb)
  have B1 := Lib.hid (B0.out.below hb)
  clear hb W0 B0 C0
  go_wp2_with fail
  refine (C1.out _ W1.out).mono ?_
  rintro e w2 ⟨r, hr, rfl, hb⟩
  have W2 := Lib.hid (blw_trans W1.out hb)
  have B2 := Lib.hid (B1.out.below hb)
  clear hb W1 B1 C1
  cases r with
  | none =>
    dsimp only [Nt.patV, Nt.parE]
    have W3 := Lib.hid (blw_trans W2.out (blw_alloc w2 (.cells #[.string ⟨#[]⟩, .string ⟨#[]⟩, .int .i64 0, .int .i64 0, .int .i64 0, .int .i64 0, .int .i64 0] 23)))
    have B3 := Lib.hid (B2.out.alloc (.cells #[.string ⟨#[]⟩, .string ⟨#[]⟩, .int .i64 0, .int .i64 0, .int .i64 0, .int .i64 0, .int .i64 0] 23))
    go_upto_region 3 with fail
    generalize w2.alloc (.cells #[.string ⟨#[]⟩, .string ⟨#[]⟩, .int .i64 0, .int .i64 0, .int .i64 0, .int .i64 0, .int .i64 0] 23) = w3 at *
    clear W2 B2
    have c0 : w3.cell? ⟨w.heap.size, 0, none⟩ = some (.string ⟨pre.toArray⟩) := B3.out.cell 0 _ rfl
    have c1 : w3.cell? ⟨w.heap.size, 1, none⟩ = some (.string ⟨suf.toArray⟩) := B3.out.cell 1 _ rfl
    have c2 : w3.cell? ⟨w.heap.size, 2, none⟩ = some (.int .i64 mi) := B3.out.cell 2 _ rfl
    have c3 : w3.cell? ⟨w.heap.size, 3, none⟩ = some (.int .i64 nf) := B3.out.cell 3 _ rfl
    have c4 : w3.cell? ⟨w.heap.size, 4, none⟩ = some (.int .i64 mf) := B3.out.cell 4 _ rfl
    have c5 : w3.cell? ⟨w.heap.size, 5, none⟩ = some (.int .i64 g) := B3.out.cell 5 _ rfl
    have c6 : w3.cell? ⟨w.heap.size, 6, none⟩ = some (.int .i64 g2) := B3.out.cell 6 _ rfl
    have cl := B3.out.lt
    go_wp2_with fail
    by_cases hE : EE = 0
    · have HE := Lib.hid hE
      refine ((C4.out _ HE.out).mono ?_)
      rintro e wa ⟨rfl, hb⟩
      have WA := Lib.hid (blw_trans W3.out hb)
      have BA := Lib.hid (B3.out.below hb)
      clear hb hE c0 c1 c2 c3 c4 c5 c6 cl
      go_wp2_with fail
      refine (C5.out HE.out _ WA.out).mono ?_
      rintro e wb ⟨r2, hr2, rfl, hb⟩
      obtain rfl := ON.out HE.out r2 hr2
      have WB := Lib.hid (blw_trans WA.out hb)
      have BB := Lib.hid (BA.out.below hb)
      clear hb WA BA hr2
      dsimp only [Nt.patV, Nt.parE]
      have c0 : wb.cell? ⟨w.heap.size, 0, none⟩ = some (.string ⟨pre.toArray⟩) := BB.out.cell 0 _ rfl
      have c1 : wb.cell? ⟨w.heap.size, 1, none⟩ = some (.string ⟨suf.toArray⟩) := BB.out.cell 1 _ rfl
      have c2 : wb.cell? ⟨w.heap.size, 2, none⟩ = some (.int .i64 mi) := BB.out.cell 2 _ rfl
      have c3 : wb.cell? ⟨w.heap.size, 3, none⟩ = some (.int .i64 nf) := BB.out.cell 3 _ rfl
      have c4 : wb.cell? ⟨w.heap.size, 4, none⟩ = some (.int .i64 mf) := BB.out.cell 4 _ rfl
      have c5 : wb.cell? ⟨w.heap.size, 5, none⟩ = some (.int .i64 g) := BB.out.cell 5 _ rfl
      have c6 : wb.cell? ⟨w.heap.size, 6, none⟩ = some (.int .i64 g2) := BB.out.cell 6 _ rfl
      have cl := BB.out.lt
      go_wp2_with fail
      go_ret
      exact ⟨rfl, by repeat (first | with_reducible exact WB.out | refine Below.drew ?_ | refine blw_drewN ?_ _ | refine Below.alloc ?_ (by first | exact WB.out.size | (simp; done) | (simp; exact WB.out.size)) _)⟩
    · have HE := Lib.hid hE
      refine ((C3.out _ HE.out).mono ?_)
      rintro e wa ⟨rfl, hb⟩
      have WA := Lib.hid (blw_trans W3.out hb)
      have hev : errN EE = errV EE := if_neg hE
      rw [hev]
      clear hb hE hev
      go_wp2_with fail
      go_ret
      exact ⟨rfl, WA.out⟩
  | some q =>
    dsimp only [Nt.patV, Nt.parE]
    obtain ⟨hq1, hq2⟩ := hr
    have C2' := Lib.hid fun wx => C2.out q wx hq1
    rw [hq2] at C2'
    clear C2 hq1 hq2
    have W3 := Lib.hid (blw_trans W2.out (blw_alloc w2 (.cells #[.string ⟨q.pre.toArray⟩, .string ⟨q.suf.toArray⟩, .int .i64 q.mi, .int .i64 q.nf, .int .i64 q.mf, .int .i64 q.g, .int .i64 q.g2] 23)))
    have B3 := Lib.hid (B2.out.alloc (.cells #[.string ⟨q.pre.toArray⟩, .string ⟨q.suf.toArray⟩, .int .i64 q.mi, .int .i64 q.nf, .int .i64 q.mf, .int .i64 q.g, .int .i64 q.g2] 23))
    have D3 := Lib.hid (Boxed.made w2 #[.string ⟨q.pre.toArray⟩, .string ⟨q.suf.toArray⟩, .int .i64 q.mi, .int .i64 q.nf, .int .i64 q.mf, .int .i64 q.g, .int .i64 q.g2] 23)
    go_upto_region 3 with fail
    generalize w2.alloc (.cells #[.string ⟨q.pre.toArray⟩, .string ⟨q.suf.toArray⟩, .int .i64 q.mi, .int .i64 q.nf, .int .i64 q.mf, .int .i64 q.g, .int .i64 q.g2] 23) = w3 at *
    clear W2 B2
    have d0 : w3.cell? ⟨w2.heap.size, 0, none⟩ = some (.string ⟨q.pre.toArray⟩) := D3.out.cell 0 _ rfl
    have d1 : w3.cell? ⟨w2.heap.size, 1, none⟩ = some (.string ⟨q.suf.toArray⟩) := D3.out.cell 1 _ rfl
    have d2 : w3.cell? ⟨w2.heap.size, 2, none⟩ = some (.int .i64 q.mi) := D3.out.cell 2 _ rfl
    have d3 : w3.cell? ⟨w2.heap.size, 3, none⟩ = some (.int .i64 q.nf) := D3.out.cell 3 _ rfl
    have d4 : w3.cell? ⟨w2.heap.size, 4, none⟩ = some (.int .i64 q.mf) := D3.out.cell 4 _ rfl
    have d5 : w3.cell? ⟨w2.heap.size, 5, none⟩ = some (.int .i64 q.g) := D3.out.cell 5 _ rfl
    have d6 : w3.cell? ⟨w2.heap.size, 6, none⟩ = some (.int .i64 q.g2) := D3.out.cell 6 _ rfl
    have dl := D3.out.lt
    go_wp2_with fail
    refine (C2'.out _).mono ?_
    rintro e w4 ⟨rfl, hb⟩
    have W4 := Lib.hid (blw_trans W3.out hb)
    have B4 := Lib.hid (B3.out.below hb)
    clear hb W3 B3 D3 C2' d0 d1 d2 d3 d4 d5 d6 dl
    have c0 : w4.cell? ⟨w.heap.size, 0, none⟩ = some (.string ⟨pre.toArray⟩) := B4.out.cell 0 _ rfl
    have c1 : w4.cell? ⟨w.heap.size, 1, none⟩ = some (.string ⟨suf.toArray⟩) := B4.out.cell 1 _ rfl
    have c2 : w4.cell? ⟨w.heap.size, 2, none⟩ = some (.int .i64 mi) := B4.out.cell 2 _ rfl
    have c3 : w4.cell? ⟨w.heap.size, 3, none⟩ = some (.int .i64 nf) := B4.out.cell 3 _ rfl
    have c4 : w4.cell? ⟨w.heap.size, 4, none⟩ = some (.int .i64 mf) := B4.out.cell 4 _ rfl
    have c5 : w4.cell? ⟨w.heap.size, 5, none⟩ = some (.int .i64 g) := B4.out.cell 5 _ rfl
    have c6 : w4.cell? ⟨w.heap.size, 6, none⟩ = some (.int .i64 g2) := B4.out.cell 6 _ rfl
    have cl := B4.out.lt
    go_wp2_with fail
    by_cases hE : EE = 0
    · have HE := Lib.hid hE
      refine ((C4.out _ HE.out).mono ?_)
      rintro e wa ⟨rfl, hb⟩
      have WA := Lib.hid (blw_trans W4.out hb)
      have BA := Lib.hid (B4.out.below hb)
      clear hb hE c0 c1 c2 c3 c4 c5 c6 cl
      go_wp2_with fail
      refine (C5.out HE.out _ WA.out).mono ?_
      rintro e wb ⟨r2, hr2, rfl, hb⟩
      obtain rfl := ON.out HE.out r2 hr2
      have WB := Lib.hid (blw_trans WA.out hb)
      have BB := Lib.hid (BA.out.below hb)
      clear hb WA BA hr2
      dsimp only [Nt.patV, Nt.parE]
      have c0 : wb.cell? ⟨w.heap.size, 0, none⟩ = some (.string ⟨pre.toArray⟩) := BB.out.cell 0 _ rfl
      have c1 : wb.cell? ⟨w.heap.size, 1, none⟩ = some (.string ⟨suf.toArray⟩) := BB.out.cell 1 _ rfl
      have c2 : wb.cell? ⟨w.heap.size, 2, none⟩ = some (.int .i64 mi) := BB.out.cell 2 _ rfl
      have c3 : wb.cell? ⟨w.heap.size, 3, none⟩ = some (.int .i64 nf) := BB.out.cell 3 _ rfl
      have c4 : wb.cell? ⟨w.heap.size, 4, none⟩ = some (.int .i64 mf) := BB.out.cell 4 _ rfl
      have c5 : wb.cell? ⟨w.heap.size, 5, none⟩ = some (.int .i64 g) := BB.out.cell 5 _ rfl
      have c6 : wb.cell? ⟨w.heap.size, 6, none⟩ = some (.int .i64 g2) := BB.out.cell 6 _ rfl
      have cl := BB.out.lt
      go_wp2_with fail
      go_ret
      exact ⟨rfl, by repeat (first | with_reducible exact WB.out | refine Below.drew ?_ | refine blw_drewN ?_ _ | refine Below.alloc ?_ (by first | exact WB.out.size | (simp; done) | (simp; exact WB.out.size)) _)⟩
    · have HE := Lib.hid hE
      refine ((C3.out _ HE.out).mono ?_)
      rintro e wa ⟨rfl, hb⟩
      have WA := Lib.hid (blw_trans W4.out hb)
      have hev : errN EE = errV EE := if_neg hE
      rw [hev]
      clear hb hE hev
      go_wp2_with fail
      go_ret
      exact ⟨rfl, WA.out⟩
end Go.Proofs.YtjakpdfonnpchaaDoor
