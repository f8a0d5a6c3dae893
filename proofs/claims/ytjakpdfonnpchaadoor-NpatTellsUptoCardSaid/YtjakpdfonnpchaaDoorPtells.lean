/- The walk of NpatTells. Conditions: the library's variables hold what they hold. -/
import Derived.Test.YtjakpdfonnpchaaDoorPback
import Derived.Test.YtjakpdfonnpchaaDoorRpof
import Derived.Test.YtjakpdfonnpchaaDoorAs
namespace Go.Proofs.YtjakpdfonnpchaaDoor
open Go.RowKit
theorem errNo_N (n : Int) : ErrNo (errN n) n := by
  unfold errN
  split
  · rename_i h; subst h; exact .nil
  · exact .no n
set_option maxRecDepth 100000 in
set_option maxHeartbeats 8000000 in
theorem ptells_any (p : Nt.Pt) (s : List UInt8) (w : World) (hT : PM w) (hH : HanW w) (h1 : p.pre.length ≤ 1000000000) (h2 : p.suf.length ≤ 1000000000) (hs : s.length ≤ 1000000000) :
    Calls Tryd.prog 4 #[.agg #[.string ⟨p.pre.toArray⟩, .string ⟨p.suf.toArray⟩, .int .i64 p.mi, .int .i64 p.nf, .int .i64 p.mf, .int .i64 p.g, .int .i64 p.g2], .string ⟨s.toArray⟩] w fun e w' => e = .returned (.bool true) ∧ Below w.heap.size w w' := by
  have C0 := Lib.hid fun wx => fact_any wx
  have C1 := Lib.hid fun wx => pfl_any p wx h1 h2
  have C2 := Lib.hid fun wx => pck_any p wx h1 h2
  have C3 := Lib.hid fun (wx : World) (hb : Below w.heap.size w wx) => sameErr_yes (errNo_N (Nt.patE p)) wx (hH.below hb)
  have C4 := Lib.hid fun wx => rpt_any p wx
  have C5 := Lib.hid fun wx => ptext_ok p wx
  have C6 := Lib.hid fun wx => ptext_no p wx h1 h2
  have C7 := Lib.hid fun wx => rpof_any s wx hs
  have C8 := Lib.hid fun (wx : World) (hb : Below w.heap.size w wx) => npar_any s wx (hT.below hb).2 (hT.below hb).1 hs
  have C9 := Lib.hid fun (wx : World) (hb : Below w.heap.size w wx) => sameErr_yes ErrNo.nil wx (hH.below hb)
  have CA := Lib.hid fun (wx : World) (hb : Below w.heap.size w wx) => sameErr_yes (ErrNo.no 3) wx (hH.below hb)
  have ON := Lib.hid fun (r : Option Nt.Pt) (h : Nt.Par s r) (t : Option Nt.Pt) (h' : Nt.Par s t) => h.one h'
  obtain ⟨pre, suf, mi, nf, mf, g, g2⟩ := p
  dsimp only at C1 C2 C4 C5 C6
  have EQ : ∀ (q : Nt.Pt) wx, (Op.equalIn 10000 23 (.agg #[.string ⟨q.pre.toArray⟩, .string ⟨q.suf.toArray⟩, .int .i64 q.mi, .int .i64 q.nf, .int .i64 q.mf, .int .i64 q.g, .int .i64 q.g2]) (.agg #[.string ⟨q.pre.toArray⟩, .string ⟨q.suf.toArray⟩, .int .i64 q.mi, .int .i64 q.nf, .int .i64 q.mf, .int .i64 q.g, .int .i64 q.g2])).run Tryd.prog wx = .ok true wx := fun q wx => eq_pat q.pre q.suf q.mi q.nf q.mf q.g q.g2 wx
  have EZ : ∀ wx, (Op.equalIn 10000 23 (.agg #[.string ⟨#[]⟩, .string ⟨#[]⟩, .int .i64 0, .int .i64 0, .int .i64 0, .int .i64 0, .int .i64 0]) (.agg #[.string ⟨#[]⟩, .string ⟨#[]⟩, .int .i64 0, .int .i64 0, .int .i64 0, .int .i64 0, .int .i64 0])).run Tryd.prog wx = .ok true wx := fun wx => eq_pat [] [] 0 0 0 0 0 wx
  have W0 := Lib.hid (blw_alloc w (.cells #[.string ⟨pre.toArray⟩, .string ⟨suf.toArray⟩, .int .i64 mi, .int .i64 nf, .int .i64 mf, .int .i64 g, .int .i64 g2] 23))
  have B0 := Lib.hid (Boxed.made w #[.string ⟨pre.toArray⟩, .string ⟨suf.toArray⟩, .int .i64 mi, .int .i64 nf, .int .i64 mf, .int .i64 g, .int .i64 g2] 23)
  clear hT hH h1 h2 hs
  generalize hEE : Nt.patE ⟨pre, suf, mi, nf, mf, g, g2⟩ = EE at *
  generalize hTT : Nt.patT ⟨pre, suf, mi, nf, mf, g, g2⟩ = TT at *
  clear hEE hTT
  go_enter Tryd.func4, Tryd.ntmps4
  go_wp2_with fail
  refine (C0.out _).mono ?_
  rintro e w1 ⟨rfl, hb⟩
  have W1 := Lib.hid (blw_trans W0.out hb)
  have B1 := Lib.hid (B0.out.below hb)
  clear hb W0 B0 C0
  have c0 : w1.cell? ⟨w.heap.size, 0, none⟩ = some (.string ⟨pre.toArray⟩) := B1.out.cell 0 _ rfl
  have c1 : w1.cell? ⟨w.heap.size, 1, none⟩ = some (.string ⟨suf.toArray⟩) := B1.out.cell 1 _ rfl
  have c2 : w1.cell? ⟨w.heap.size, 2, none⟩ = some (.int .i64 mi) := B1.out.cell 2 _ rfl
  have c3 : w1.cell? ⟨w.heap.size, 3, none⟩ = some (.int .i64 nf) := B1.out.cell 3 _ rfl
  have c4 : w1.cell? ⟨w.heap.size, 4, none⟩ = some (.int .i64 mf) := B1.out.cell 4 _ rfl
  have c5 : w1.cell? ⟨w.heap.size, 5, none⟩ = some (.int .i64 g) := B1.out.cell 5 _ rfl
  have c6 : w1.cell? ⟨w.heap.size, 6, none⟩ = some (.int .i64 g2) := B1.out.cell 6 _ rfl
  have cl := B1.out.lt
  go_wp2_with fail
  refine (C1.out _).mono ?_
  rintro e w2 ⟨rfl, hb⟩
  have W2 := Lib.hid (blw_trans W1.out hb)
  have B2 := Lib.hid (B1.out.below hb)
  clear hb W1 B1 c0 c1 c2 c3 c4 c5 c6 cl
  have c0 : w2.cell? ⟨w.heap.size, 0, none⟩ = some (.string ⟨pre.toArray⟩) := B2.out.cell 0 _ rfl
  have c1 : w2.cell? ⟨w.heap.size, 1, none⟩ = some (.string ⟨suf.toArray⟩) := B2.out.cell 1 _ rfl
  have c2 : w2.cell? ⟨w.heap.size, 2, none⟩ = some (.int .i64 mi) := B2.out.cell 2 _ rfl
  have c3 : w2.cell? ⟨w.heap.size, 3, none⟩ = some (.int .i64 nf) := B2.out.cell 3 _ rfl
  have c4 : w2.cell? ⟨w.heap.size, 4, none⟩ = some (.int .i64 mf) := B2.out.cell 4 _ rfl
  have c5 : w2.cell? ⟨w.heap.size, 5, none⟩ = some (.int .i64 g) := B2.out.cell 5 _ rfl
  have c6 : w2.cell? ⟨w.heap.size, 6, none⟩ = some (.int .i64 g2) := B2.out.cell 6 _ rfl
  have cl := B2.out.lt
  go_wp2_with fail
  refine (C2.out _).mono ?_
  rintro e w3 ⟨rfl, hb⟩
  have W3 := Lib.hid (blw_trans W2.out hb)
  have B3 := Lib.hid (B2.out.below hb)
  clear hb W2 B2 c0 c1 c2 c3 c4 c5 c6 cl
  go_wp2_with fail
  refine (C3.out _ W3.out).mono ?_
  rintro e w4 ⟨rfl, hb⟩
  have W4 := Lib.hid (blw_trans W3.out hb)
  have B4 := Lib.hid (B3.out.below hb)
  clear hb W3 B3
  by_cases hE : EE = 0
  · have HE := Lib.hid hE
    have e0 : (EE == 0) = true := beq_yes hE
    subst hE
    have c0 : w4.cell? ⟨w.heap.size, 0, none⟩ = some (.string ⟨pre.toArray⟩) := B4.out.cell 0 _ rfl
    have c1 : w4.cell? ⟨w.heap.size, 1, none⟩ = some (.string ⟨suf.toArray⟩) := B4.out.cell 1 _ rfl
    have c2 : w4.cell? ⟨w.heap.size, 2, none⟩ = some (.int .i64 mi) := B4.out.cell 2 _ rfl
    have c3 : w4.cell? ⟨w.heap.size, 3, none⟩ = some (.int .i64 nf) := B4.out.cell 3 _ rfl
    have c4 : w4.cell? ⟨w.heap.size, 4, none⟩ = some (.int .i64 mf) := B4.out.cell 4 _ rfl
    have c5 : w4.cell? ⟨w.heap.size, 5, none⟩ = some (.int .i64 g) := B4.out.cell 5 _ rfl
    have c6 : w4.cell? ⟨w.heap.size, 6, none⟩ = some (.int .i64 g2) := B4.out.cell 6 _ rfl
    have cl := B4.out.lt
    go_wp2_with fail
    refine (C4.out _ HE.out).mono ?_
    rintro e w5 ⟨rfl, hb⟩
    have W5 := Lib.hid (blw_trans W4.out hb)
    have B5 := Lib.hid (B4.out.below hb)
    clear hb W4 B4 c0 c1 c2 c3 c4 c5 c6 cl
    have c0 : w5.cell? ⟨w.heap.size, 0, none⟩ = some (.string ⟨pre.toArray⟩) := B5.out.cell 0 _ rfl
    have c1 : w5.cell? ⟨w.heap.size, 1, none⟩ = some (.string ⟨suf.toArray⟩) := B5.out.cell 1 _ rfl
    have c2 : w5.cell? ⟨w.heap.size, 2, none⟩ = some (.int .i64 mi) := B5.out.cell 2 _ rfl
    have c3 : w5.cell? ⟨w.heap.size, 3, none⟩ = some (.int .i64 nf) := B5.out.cell 3 _ rfl
    have c4 : w5.cell? ⟨w.heap.size, 4, none⟩ = some (.int .i64 mf) := B5.out.cell 4 _ rfl
    have c5 : w5.cell? ⟨w.heap.size, 5, none⟩ = some (.int .i64 g) := B5.out.cell 5 _ rfl
    have c6 : w5.cell? ⟨w.heap.size, 6, none⟩ = some (.int .i64 g2) := B5.out.cell 6 _ rfl
    have cl := B5.out.lt
    go_wp2_with fail
    refine (C5.out _ HE.out).mono ?_
    rintro e w6 ⟨rfl, hb⟩
    have W6 := Lib.hid (blw_trans W5.out hb)
    have B6 := Lib.hid (B5.out.below hb)
    clear hb W5 B5 c0 c1 c2 c3 c4 c5 c6 cl
    go_wp2_with fail
    refine (C9.out _ W6.out).mono ?_
    rintro e w7 ⟨rfl, hb⟩
    have W7 := Lib.hid (blw_trans W6.out hb)
    have B7 := Lib.hid (B6.out.below hb)
    clear hb W6 B6
    go_wp2_with fail
    refine (C7.out _).mono ?_
    rintro e w8 ⟨r, hr, rfl, hb⟩
    have W8 := Lib.hid (blw_trans W7.out hb)
    have B8 := Lib.hid (B7.out.below hb)
    clear hb W7 B7
    have HR := Lib.hid hr
    clear hr
    cases r with
    | none =>
      dsimp only [Nt.patV, Nt.parE, Option.isSome]
      have W9 := Lib.hid (blw_trans W8.out (blw_alloc w8 (.cells #[.string ⟨#[]⟩, .string ⟨#[]⟩, .int .i64 0, .int .i64 0, .int .i64 0, .int .i64 0, .int .i64 0] 23)))
      have D9 := Lib.hid (Boxed.made w8 #[.string ⟨#[]⟩, .string ⟨#[]⟩, .int .i64 0, .int .i64 0, .int .i64 0, .int .i64 0, .int .i64 0] 23)
      go_upto_region 10 with fail
      generalize w8.alloc (.cells #[.string ⟨#[]⟩, .string ⟨#[]⟩, .int .i64 0, .int .i64 0, .int .i64 0, .int .i64 0, .int .i64 0] 23) = w9 at *
      generalize w8.heap.size = pw at *
      clear W8 B8
      go_wp2_with fail
      refine (C8.out _ W9.out).mono ?_
      rintro e w10 ⟨r2, hr2, rfl, hb⟩
      obtain rfl := ON.out _ hr2 _ HR.out
      have W10 := Lib.hid (blw_trans W9.out hb)
      have D10 := Lib.hid (D9.out.below hb)
      clear hb W9 D9 hr2
      dsimp only [Nt.patV, Nt.parE]
      have W11 := Lib.hid (blw_trans W10.out (blw_alloc w10 (.cells #[.string ⟨#[]⟩, .string ⟨#[]⟩, .int .i64 0, .int .i64 0, .int .i64 0, .int .i64 0, .int .i64 0] 23)))
      have E11 := Lib.hid (Boxed.made w10 #[.string ⟨#[]⟩, .string ⟨#[]⟩, .int .i64 0, .int .i64 0, .int .i64 0, .int .i64 0, .int .i64 0] 23)
      have D11 := Lib.hid (D10.out.alloc (.cells #[.string ⟨#[]⟩, .string ⟨#[]⟩, .int .i64 0, .int .i64 0, .int .i64 0, .int .i64 0, .int .i64 0] 23))
      go_upto_region 14 with fail
      generalize w10.alloc (.cells #[.string ⟨#[]⟩, .string ⟨#[]⟩, .int .i64 0, .int .i64 0, .int .i64 0, .int .i64 0, .int .i64 0] 23) = w11 at *
      generalize w10.heap.size = qw at *
      clear W10 D10
      go_wp2_with fail
      refine (CA.out _ W11.out).mono ?_
      rintro e w12 ⟨rfl, hb⟩
      have W12 := Lib.hid (blw_trans W11.out hb)
      have D12 := Lib.hid (D11.out.below hb)
      have E12 := Lib.hid (E11.out.below hb)
      clear hb W11 D11 E11
      have d0 : w12.cell? ⟨pw, 0, none⟩ = some (.string ⟨#[]⟩) := D12.out.cell 0 _ rfl
      have d1 : w12.cell? ⟨pw, 1, none⟩ = some (.string ⟨#[]⟩) := D12.out.cell 1 _ rfl
      have d2 : w12.cell? ⟨pw, 2, none⟩ = some (.int .i64 0) := D12.out.cell 2 _ rfl
      have d3 : w12.cell? ⟨pw, 3, none⟩ = some (.int .i64 0) := D12.out.cell 3 _ rfl
      have d4 : w12.cell? ⟨pw, 4, none⟩ = some (.int .i64 0) := D12.out.cell 4 _ rfl
      have d5 : w12.cell? ⟨pw, 5, none⟩ = some (.int .i64 0) := D12.out.cell 5 _ rfl
      have d6 : w12.cell? ⟨pw, 6, none⟩ = some (.int .i64 0) := D12.out.cell 6 _ rfl
      have dl := D12.out.lt
      have e0 : w12.cell? ⟨qw, 0, none⟩ = some (.string ⟨#[]⟩) := E12.out.cell 0 _ rfl
      have e1 : w12.cell? ⟨qw, 1, none⟩ = some (.string ⟨#[]⟩) := E12.out.cell 1 _ rfl
      have e2 : w12.cell? ⟨qw, 2, none⟩ = some (.int .i64 0) := E12.out.cell 2 _ rfl
      have e3 : w12.cell? ⟨qw, 3, none⟩ = some (.int .i64 0) := E12.out.cell 3 _ rfl
      have e4 : w12.cell? ⟨qw, 4, none⟩ = some (.int .i64 0) := E12.out.cell 4 _ rfl
      have e5 : w12.cell? ⟨qw, 5, none⟩ = some (.int .i64 0) := E12.out.cell 5 _ rfl
      have e6 : w12.cell? ⟨qw, 6, none⟩ = some (.int .i64 0) := E12.out.cell 6 _ rfl
      have el := E12.out.lt
      go_wp2_with fail
      go_ret
      exact ⟨rfl, W12.out⟩
    | some q =>
      dsimp only [Nt.patV, Nt.parE, Option.isSome]
      have W9 := Lib.hid (blw_trans W8.out (blw_alloc w8 (.cells #[.string ⟨q.pre.toArray⟩, .string ⟨q.suf.toArray⟩, .int .i64 q.mi, .int .i64 q.nf, .int .i64 q.mf, .int .i64 q.g, .int .i64 q.g2] 23)))
      have D9 := Lib.hid (Boxed.made w8 #[.string ⟨q.pre.toArray⟩, .string ⟨q.suf.toArray⟩, .int .i64 q.mi, .int .i64 q.nf, .int .i64 q.mf, .int .i64 q.g, .int .i64 q.g2] 23)
      go_upto_region 10 with fail
      generalize w8.alloc (.cells #[.string ⟨q.pre.toArray⟩, .string ⟨q.suf.toArray⟩, .int .i64 q.mi, .int .i64 q.nf, .int .i64 q.mf, .int .i64 q.g, .int .i64 q.g2] 23) = w9 at *
      generalize w8.heap.size = pw at *
      clear W8 B8
      go_wp2_with fail
      refine (C8.out _ W9.out).mono ?_
      rintro e w10 ⟨r2, hr2, rfl, hb⟩
      obtain rfl := ON.out _ hr2 _ HR.out
      have W10 := Lib.hid (blw_trans W9.out hb)
      have D10 := Lib.hid (D9.out.below hb)
      clear hb W9 D9 hr2
      dsimp only [Nt.patV, Nt.parE]
      have W11 := Lib.hid (blw_trans W10.out (blw_alloc w10 (.cells #[.string ⟨q.pre.toArray⟩, .string ⟨q.suf.toArray⟩, .int .i64 q.mi, .int .i64 q.nf, .int .i64 q.mf, .int .i64 q.g, .int .i64 q.g2] 23)))
      have E11 := Lib.hid (Boxed.made w10 #[.string ⟨q.pre.toArray⟩, .string ⟨q.suf.toArray⟩, .int .i64 q.mi, .int .i64 q.nf, .int .i64 q.mf, .int .i64 q.g, .int .i64 q.g2] 23)
      have D11 := Lib.hid (D10.out.alloc (.cells #[.string ⟨q.pre.toArray⟩, .string ⟨q.suf.toArray⟩, .int .i64 q.mi, .int .i64 q.nf, .int .i64 q.mf, .int .i64 q.g, .int .i64 q.g2] 23))
      go_upto_region 14 with fail
      generalize w10.alloc (.cells #[.string ⟨q.pre.toArray⟩, .string ⟨q.suf.toArray⟩, .int .i64 q.mi, .int .i64 q.nf, .int .i64 q.mf, .int .i64 q.g, .int .i64 q.g2] 23) = w11 at *
      generalize w10.heap.size = qw at *
      clear W10 D10
      go_wp2_with fail
      refine (C9.out _ W11.out).mono ?_
      rintro e w12 ⟨rfl, hb⟩
      have W12 := Lib.hid (blw_trans W11.out hb)
      have D12 := Lib.hid (D11.out.below hb)
      have E12 := Lib.hid (E11.out.below hb)
      clear hb W11 D11 E11
      have d0 : w12.cell? ⟨pw, 0, none⟩ = some (.string ⟨q.pre.toArray⟩) := D12.out.cell 0 _ rfl
      have d1 : w12.cell? ⟨pw, 1, none⟩ = some (.string ⟨q.suf.toArray⟩) := D12.out.cell 1 _ rfl
      have d2 : w12.cell? ⟨pw, 2, none⟩ = some (.int .i64 q.mi) := D12.out.cell 2 _ rfl
      have d3 : w12.cell? ⟨pw, 3, none⟩ = some (.int .i64 q.nf) := D12.out.cell 3 _ rfl
      have d4 : w12.cell? ⟨pw, 4, none⟩ = some (.int .i64 q.mf) := D12.out.cell 4 _ rfl
      have d5 : w12.cell? ⟨pw, 5, none⟩ = some (.int .i64 q.g) := D12.out.cell 5 _ rfl
      have d6 : w12.cell? ⟨pw, 6, none⟩ = some (.int .i64 q.g2) := D12.out.cell 6 _ rfl
      have dl := D12.out.lt
      have e0 : w12.cell? ⟨qw, 0, none⟩ = some (.string ⟨q.pre.toArray⟩) := E12.out.cell 0 _ rfl
      have e1 : w12.cell? ⟨qw, 1, none⟩ = some (.string ⟨q.suf.toArray⟩) := E12.out.cell 1 _ rfl
      have e2 : w12.cell? ⟨qw, 2, none⟩ = some (.int .i64 q.mi) := E12.out.cell 2 _ rfl
      have e3 : w12.cell? ⟨qw, 3, none⟩ = some (.int .i64 q.nf) := E12.out.cell 3 _ rfl
      have e4 : w12.cell? ⟨qw, 4, none⟩ = some (.int .i64 q.mf) := E12.out.cell 4 _ rfl
      have e5 : w12.cell? ⟨qw, 5, none⟩ = some (.int .i64 q.g) := E12.out.cell 5 _ rfl
      have e6 : w12.cell? ⟨qw, 6, none⟩ = some (.int .i64 q.g2) := E12.out.cell 6 _ rfl
      have el := E12.out.lt
      go_wp2_with fail
      go_ret
      exact ⟨rfl, W12.out⟩
  · have HE := Lib.hid hE
    have e0 : (EE == 0) = false := beq_no hE
    have hev : errN EE = errV EE := if_neg hE
    rw [hev] at C6 C3
    clear hev
    have c0 : w4.cell? ⟨w.heap.size, 0, none⟩ = some (.string ⟨pre.toArray⟩) := B4.out.cell 0 _ rfl
    have c1 : w4.cell? ⟨w.heap.size, 1, none⟩ = some (.string ⟨suf.toArray⟩) := B4.out.cell 1 _ rfl
    have c2 : w4.cell? ⟨w.heap.size, 2, none⟩ = some (.int .i64 mi) := B4.out.cell 2 _ rfl
    have c3 : w4.cell? ⟨w.heap.size, 3, none⟩ = some (.int .i64 nf) := B4.out.cell 3 _ rfl
    have c4 : w4.cell? ⟨w.heap.size, 4, none⟩ = some (.int .i64 mf) := B4.out.cell 4 _ rfl
    have c5 : w4.cell? ⟨w.heap.size, 5, none⟩ = some (.int .i64 g) := B4.out.cell 5 _ rfl
    have c6 : w4.cell? ⟨w.heap.size, 6, none⟩ = some (.int .i64 g2) := B4.out.cell 6 _ rfl
    have cl := B4.out.lt
    go_wp2_with fail
    refine (C6.out _ HE.out).mono ?_
    rintro e w5 ⟨rfl, hb⟩
    have W5 := Lib.hid (blw_trans W4.out hb)
    have B5 := Lib.hid (B4.out.below hb)
    clear hb W4 B4 c0 c1 c2 c3 c4 c5 c6 cl
    clear hE
    go_wp2_with fail
    refine (C3.out _ W5.out).mono ?_
    rintro e w6 ⟨rfl, hb⟩
    have W6 := Lib.hid (blw_trans W5.out hb)
    have B6 := Lib.hid (B5.out.below hb)
    clear hb W5 B5
    go_wp2_with fail
    refine (C7.out _).mono ?_
    rintro e w7 ⟨r, hr, rfl, hb⟩
    have W7 := Lib.hid (blw_trans W6.out hb)
    have B7 := Lib.hid (B6.out.below hb)
    clear hb W6 B6
    have HR := Lib.hid hr
    clear hr
    cases r with
    | none =>
      dsimp only [Nt.patV, Nt.parE, Option.isSome]
      have W8 := Lib.hid (blw_trans W7.out (blw_alloc w7 (.cells #[.string ⟨#[]⟩, .string ⟨#[]⟩, .int .i64 0, .int .i64 0, .int .i64 0, .int .i64 0, .int .i64 0] 23)))
      have D8 := Lib.hid (Boxed.made w7 #[.string ⟨#[]⟩, .string ⟨#[]⟩, .int .i64 0, .int .i64 0, .int .i64 0, .int .i64 0, .int .i64 0] 23)
      go_upto_region 10 with fail
      generalize w7.alloc (.cells #[.string ⟨#[]⟩, .string ⟨#[]⟩, .int .i64 0, .int .i64 0, .int .i64 0, .int .i64 0, .int .i64 0] 23) = w8 at *
      generalize w7.heap.size = pw at *
      clear W7 B7
      go_wp2_with fail
      refine (C8.out _ W8.out).mono ?_
      rintro e w9 ⟨r2, hr2, rfl, hb⟩
      obtain rfl := ON.out _ hr2 _ HR.out
      have W9 := Lib.hid (blw_trans W8.out hb)
      have D9 := Lib.hid (D8.out.below hb)
      clear hb W8 D8 hr2
      dsimp only [Nt.patV, Nt.parE]
      have W10 := Lib.hid (blw_trans W9.out (blw_alloc w9 (.cells #[.string ⟨#[]⟩, .string ⟨#[]⟩, .int .i64 0, .int .i64 0, .int .i64 0, .int .i64 0, .int .i64 0] 23)))
      have E10 := Lib.hid (Boxed.made w9 #[.string ⟨#[]⟩, .string ⟨#[]⟩, .int .i64 0, .int .i64 0, .int .i64 0, .int .i64 0, .int .i64 0] 23)
      have D10 := Lib.hid (D9.out.alloc (.cells #[.string ⟨#[]⟩, .string ⟨#[]⟩, .int .i64 0, .int .i64 0, .int .i64 0, .int .i64 0, .int .i64 0] 23))
      go_upto_region 14 with fail
      generalize w9.alloc (.cells #[.string ⟨#[]⟩, .string ⟨#[]⟩, .int .i64 0, .int .i64 0, .int .i64 0, .int .i64 0, .int .i64 0] 23) = w10 at *
      generalize w9.heap.size = qw at *
      clear W9 D9
      go_wp2_with fail
      refine (CA.out _ W10.out).mono ?_
      rintro e w11 ⟨rfl, hb⟩
      have W11 := Lib.hid (blw_trans W10.out hb)
      have D11 := Lib.hid (D10.out.below hb)
      have E11 := Lib.hid (E10.out.below hb)
      clear hb W10 D10 E10
      have d0 : w11.cell? ⟨pw, 0, none⟩ = some (.string ⟨#[]⟩) := D11.out.cell 0 _ rfl
      have d1 : w11.cell? ⟨pw, 1, none⟩ = some (.string ⟨#[]⟩) := D11.out.cell 1 _ rfl
      have d2 : w11.cell? ⟨pw, 2, none⟩ = some (.int .i64 0) := D11.out.cell 2 _ rfl
      have d3 : w11.cell? ⟨pw, 3, none⟩ = some (.int .i64 0) := D11.out.cell 3 _ rfl
      have d4 : w11.cell? ⟨pw, 4, none⟩ = some (.int .i64 0) := D11.out.cell 4 _ rfl
      have d5 : w11.cell? ⟨pw, 5, none⟩ = some (.int .i64 0) := D11.out.cell 5 _ rfl
      have d6 : w11.cell? ⟨pw, 6, none⟩ = some (.int .i64 0) := D11.out.cell 6 _ rfl
      have dl := D11.out.lt
      have e0 : w11.cell? ⟨qw, 0, none⟩ = some (.string ⟨#[]⟩) := E11.out.cell 0 _ rfl
      have e1 : w11.cell? ⟨qw, 1, none⟩ = some (.string ⟨#[]⟩) := E11.out.cell 1 _ rfl
      have e2 : w11.cell? ⟨qw, 2, none⟩ = some (.int .i64 0) := E11.out.cell 2 _ rfl
      have e3 : w11.cell? ⟨qw, 3, none⟩ = some (.int .i64 0) := E11.out.cell 3 _ rfl
      have e4 : w11.cell? ⟨qw, 4, none⟩ = some (.int .i64 0) := E11.out.cell 4 _ rfl
      have e5 : w11.cell? ⟨qw, 5, none⟩ = some (.int .i64 0) := E11.out.cell 5 _ rfl
      have e6 : w11.cell? ⟨qw, 6, none⟩ = some (.int .i64 0) := E11.out.cell 6 _ rfl
      have el := E11.out.lt
      go_wp2_with fail
      go_ret
      exact ⟨rfl, W11.out⟩
    | some q =>
      dsimp only [Nt.patV, Nt.parE, Option.isSome]
      have W8 := Lib.hid (blw_trans W7.out (blw_alloc w7 (.cells #[.string ⟨q.pre.toArray⟩, .string ⟨q.suf.toArray⟩, .int .i64 q.mi, .int .i64 q.nf, .int .i64 q.mf, .int .i64 q.g, .int .i64 q.g2] 23)))
      have D8 := Lib.hid (Boxed.made w7 #[.string ⟨q.pre.toArray⟩, .string ⟨q.suf.toArray⟩, .int .i64 q.mi, .int .i64 q.nf, .int .i64 q.mf, .int .i64 q.g, .int .i64 q.g2] 23)
      go_upto_region 10 with fail
      generalize w7.alloc (.cells #[.string ⟨q.pre.toArray⟩, .string ⟨q.suf.toArray⟩, .int .i64 q.mi, .int .i64 q.nf, .int .i64 q.mf, .int .i64 q.g, .int .i64 q.g2] 23) = w8 at *
      generalize w7.heap.size = pw at *
      clear W7 B7
      go_wp2_with fail
      refine (C8.out _ W8.out).mono ?_
      rintro e w9 ⟨r2, hr2, rfl, hb⟩
      obtain rfl := ON.out _ hr2 _ HR.out
      have W9 := Lib.hid (blw_trans W8.out hb)
      have D9 := Lib.hid (D8.out.below hb)
      clear hb W8 D8 hr2
      dsimp only [Nt.patV, Nt.parE]
      have W10 := Lib.hid (blw_trans W9.out (blw_alloc w9 (.cells #[.string ⟨q.pre.toArray⟩, .string ⟨q.suf.toArray⟩, .int .i64 q.mi, .int .i64 q.nf, .int .i64 q.mf, .int .i64 q.g, .int .i64 q.g2] 23)))
      have E10 := Lib.hid (Boxed.made w9 #[.string ⟨q.pre.toArray⟩, .string ⟨q.suf.toArray⟩, .int .i64 q.mi, .int .i64 q.nf, .int .i64 q.mf, .int .i64 q.g, .int .i64 q.g2] 23)
      have D10 := Lib.hid (D9.out.alloc (.cells #[.string ⟨q.pre.toArray⟩, .string ⟨q.suf.toArray⟩, .int .i64 q.mi, .int .i64 q.nf, .int .i64 q.mf, .int .i64 q.g, .int .i64 q.g2] 23))
      go_upto_region 14 with fail
      generalize w9.alloc (.cells #[.string ⟨q.pre.toArray⟩, .string ⟨q.suf.toArray⟩, .int .i64 q.mi, .int .i64 q.nf, .int .i64 q.mf, .int .i64 q.g, .int .i64 q.g2] 23) = w10 at *
      generalize w9.heap.size = qw at *
      clear W9 D9
      go_wp2_with fail
      refine (C9.out _ W10.out).mono ?_
      rintro e w11 ⟨rfl, hb⟩
      have W11 := Lib.hid (blw_trans W10.out hb)
      have D11 := Lib.hid (D10.out.below hb)
      have E11 := Lib.hid (E10.out.below hb)
      clear hb W10 D10 E10
      have d0 : w11.cell? ⟨pw, 0, none⟩ = some (.string ⟨q.pre.toArray⟩) := D11.out.cell 0 _ rfl
      have d1 : w11.cell? ⟨pw, 1, none⟩ = some (.string ⟨q.suf.toArray⟩) := D11.out.cell 1 _ rfl
      have d2 : w11.cell? ⟨pw, 2, none⟩ = some (.int .i64 q.mi) := D11.out.cell 2 _ rfl
      have d3 : w11.cell? ⟨pw, 3, none⟩ = some (.int .i64 q.nf) := D11.out.cell 3 _ rfl
      have d4 : w11.cell? ⟨pw, 4, none⟩ = some (.int .i64 q.mf) := D11.out.cell 4 _ rfl
      have d5 : w11.cell? ⟨pw, 5, none⟩ = some (.int .i64 q.g) := D11.out.cell 5 _ rfl
      have d6 : w11.cell? ⟨pw, 6, none⟩ = some (.int .i64 q.g2) := D11.out.cell 6 _ rfl
      have dl := D11.out.lt
      have e0 : w11.cell? ⟨qw, 0, none⟩ = some (.string ⟨q.pre.toArray⟩) := E11.out.cell 0 _ rfl
      have e1 : w11.cell? ⟨qw, 1, none⟩ = some (.string ⟨q.suf.toArray⟩) := E11.out.cell 1 _ rfl
      have e2 : w11.cell? ⟨qw, 2, none⟩ = some (.int .i64 q.mi) := E11.out.cell 2 _ rfl
      have e3 : w11.cell? ⟨qw, 3, none⟩ = some (.int .i64 q.nf) := E11.out.cell 3 _ rfl
      have e4 : w11.cell? ⟨qw, 4, none⟩ = some (.int .i64 q.mf) := E11.out.cell 4 _ rfl
      have e5 : w11.cell? ⟨qw, 5, none⟩ = some (.int .i64 q.g) := E11.out.cell 5 _ rfl
      have e6 : w11.cell? ⟨qw, 6, none⟩ = some (.int .i64 q.g2) := E11.out.cell 6 _ rfl
      have el := E11.out.lt
      go_wp2_with fail
      go_ret
      exact ⟨rfl, W11.out⟩
end Go.Proofs.YtjakpdfonnpchaaDoor
