/- The walk of npat.Parse: the pattern of a text, if there is one. Conditions: the library's variables hold what they hold. -/
import Derived.Test.YtjakpdfonnpchaaDoorPatL
import Derived.Test.YtjakpdfonnpchaaDoorSplitT1
import Derived.Test.YtjakpdfonnpchaaDoorBoxS
namespace Go.Proofs.YtjakpdfonnpchaaDoor
open Go.RowKit
namespace Nt
theorem last_one {l : List UInt8} {V U : Int} (h : LastAt l V) (h' : LastAt l U) : V = U := by
  rcases h with ⟨rfl, h⟩ | ⟨i, b, rfl, h1, h2, h3⟩
  · rcases h' with ⟨rfl, _⟩ | ⟨j, c, rfl, g1, g2, _⟩
    · rfl
    · rw [h j c (Nat.zero_le _) g1] at g2; cases g2
  · rcases h' with ⟨rfl, h'⟩ | ⟨j, c, rfl, g1, g2, g3⟩
    · rw [h' i b (Nat.zero_le _) h1] at h2; cases h2
    · have e1 : j ≤ i := by
        refine Nat.le_of_not_lt fun hlt => ?_
        rw [h3 j c hlt g1] at g2; cases g2
      have e2 : i ≤ j := by
        refine Nat.le_of_not_lt fun hlt => ?_
        rw [g3 i b hlt h1] at h2; cases h2
      omega
theorem idx_le : ∀ {l : List UInt8} {i : Nat} {b : UInt8}, l[i]? = some b → sgn.contains b = true → 0 ≤ Lib.indexAny l sgn ∧ Lib.indexAny l sgn ≤ i
  | [], i, b, h, _ => by simp at h
  | c :: l, 0, b, h, hb => by
    obtain rfl : c = b := by simpa using h
    unfold Lib.indexAny
    rw [if_pos hb]; omega
  | c :: l, i + 1, b, h, hb => by
    obtain ⟨h1, h2⟩ := idx_le (l := l) (i := i) (by simpa using h) hb
    unfold Lib.indexAny
    split
    · omega
    · split
      · rename_i e; have := beq_iff_eq.1 e; omega
      · omega
/-- where the signs lie -/
theorem ends_at {l : List UInt8} {V : Int} (h : LastAt l V) : (V = -1 ∧ Lib.indexAny l sgn = -1) ∨ ∃ a b : Nat, Lib.indexAny l sgn = (a : Int) ∧ V + 1 = (b : Int) ∧ a < b ∧ b ≤ l.length := by
  rcases h with ⟨rfl, h⟩ | ⟨i, b, rfl, h1, h2, h3⟩
  · exact .inl ⟨rfl, Lib.indexAny_none fun j b _ hb => h j b (Nat.zero_le _) hb⟩
  · obtain ⟨g1, g2⟩ := idx_le h1 h2
    have g3 : i < l.length := (List.getElem?_eq_some_iff.1 h1).1
    exact .inr ⟨(Lib.indexAny l sgn).toNat, i + 1, by omega, by omega, by omega, by omega⟩
def patV : Option Pt → Value
  | some p => .agg #[.string ⟨p.pre.toArray⟩, .string ⟨p.suf.toArray⟩, .int .i64 p.mi, .int .i64 p.nf, .int .i64 p.mf, .int .i64 p.g, .int .i64 p.g2]
  | none => .agg #[.string ⟨#[]⟩, .string ⟨#[]⟩, .int .i64 0, .int .i64 0, .int .i64 0, .int .i64 0, .int .i64 0]
def parE : Option Pt → Value
  | some _ => .nilIface
  | none => errV 3
theorem par_cand {s : List UInt8} {V : Int} {a b : Nat} (hV : LastAt s V) (ha : Lib.indexAny s sgn = (a : Int)) (hb : V + 1 = (b : Int)) (h : patE (candP s a b) ≠ 0 ∨ patT (candP s a b) ≠ s) : Par s none := by
  intro p hp hs
  subst hs
  have hc := (cand_back hp hV).2
  rw [ha, hb, Int.toNat_natCast, Int.toNat_natCast] at hc
  rw [hc] at h
  exact h.elim (fun k => k hp) fun k => k rfl
theorem par_none {s : List UInt8} {V : Int} (hV : LastAt s V) (ha : Lib.indexAny s sgn = -1) : Par s none := by
  intro p hp hs
  subst hs
  have := (cand_back hp hV).1
  omega
end Nt
theorem tabs_below {g1 g2 : Nat} {w w' : World} (h : Lib.Utf8Tabs g1 g2 w) (hb : Below w.heap.size w w') : Lib.Utf8Tabs g1 g2 w' :=
  ⟨fun c hc => cell_keep (h.1 c hc) hb, fun i hi => ⟨cell_keep (h.2 i hi).1 hb, cell_keep (h.2 i hi).2 hb⟩⟩
theorem count_one (s : List UInt8) (c : UInt8) (w : World) :
    Calls Tryd.prog 16 #[.string ⟨s.toArray⟩, .string ⟨#[c]⟩] w fun e w' => e = .returned (.int .i64 (Lib.countByte s c : Nat)) ∧ w' = w := Any.strings_Count_one Tryd.lays138 ⟨s.toArray⟩ c w
set_option maxRecDepth 100000 in
set_option maxHeartbeats 4000000 in
theorem parse_bad (s : List UInt8) (w : World) (hT : Lib.Utf8Tabs 2 3 w) (hs : s.length ≤ 4000000000) (V : Int) (hV : LastAt s V) (hi : Lib.indexAny s sgn = -1) (he : V = -1) :
    Calls Tryd.prog 6 #[.string ⟨s.toArray⟩] w fun e w' => e = .returned (.tuple #[.agg #[.string ⟨#[]⟩, .string ⟨#[]⟩, .int .i64 0, .int .i64 0, .int .i64 0, .int .i64 0, .int .i64 0], errV 3]) ∧ Below w.heap.size w w' := by
  have C1 := Lib.hid fun wx => nia_any ⟨s.toArray⟩ wx (by rw [size_mkl]; omega)
  rw [show (⟨s.toArray⟩ : ByteArray).data.toList = s by simp, hi] at C1
  have C2 := Lib.hid fun (wx : World) (hb : Below w.heap.size w wx) => nla_any s wx (tabs_below hT hb) (by omega)
  have W0 := Lib.hid (blw_alloc w (.cells #[.string ⟨#[]⟩, .string ⟨#[]⟩, .int .i64 0, .int .i64 0, .int .i64 0, .int .i64 0, .int .i64 0] 23))
  have B0 := Lib.hid (Boxed.made w #[.string ⟨#[]⟩, .string ⟨#[]⟩, .int .i64 0, .int .i64 0, .int .i64 0, .int .i64 0, .int .i64 0] 23)
  have HV := Lib.hid hV
  have HE := Lib.hid he
  clear hT hs hV hi he
  go_enter Tryd.func6, Tryd.ntmps6
  go_wp2_with fail
  refine (C1.out _).mono ?_
  rintro e w1 ⟨rfl, hb⟩
  have W1 := Lib.hid (blw_trans W0.out hb)
  have B1 := Lib.hid (B0.out.below hb)
  clear hb W0 B0 C1
  go_wp2_with fail
  refine (C2.out _ W1.out).mono ?_
  rintro e w2 ⟨V', rfl, hV', hb⟩
  obtain rfl : V' = -1 := Nt.last_one hV' (HE.out ▸ HV.out)
  have W2 := Lib.hid (blw_trans W1.out hb)
  have B2 := Lib.hid (B1.out.below hb)
  clear hb W1 B1 C2 hV'
  have y0 : w2.cell? ⟨w.heap.size, 0, none⟩ = some (.string ⟨#[]⟩) := B2.out.cell 0 _ rfl
  have yf0 := B2.out.free 0 (by simp)
  have y1 : w2.cell? ⟨w.heap.size, 1, none⟩ = some (.string ⟨#[]⟩) := B2.out.cell 1 _ rfl
  have yf1 := B2.out.free 1 (by simp)
  have y2 : w2.cell? ⟨w.heap.size, 2, none⟩ = some (.int .i64 0) := B2.out.cell 2 _ rfl
  have yf2 := B2.out.free 2 (by simp)
  have y3 : w2.cell? ⟨w.heap.size, 3, none⟩ = some (.int .i64 0) := B2.out.cell 3 _ rfl
  have yf3 := B2.out.free 3 (by simp)
  have y4 : w2.cell? ⟨w.heap.size, 4, none⟩ = some (.int .i64 0) := B2.out.cell 4 _ rfl
  have yf4 := B2.out.free 4 (by simp)
  have y5 : w2.cell? ⟨w.heap.size, 5, none⟩ = some (.int .i64 0) := B2.out.cell 5 _ rfl
  have yf5 := B2.out.free 5 (by simp)
  have y6 : w2.cell? ⟨w.heap.size, 6, none⟩ = some (.int .i64 0) := B2.out.cell 6 _ rfl
  have yf6 := B2.out.free 6 (by simp)
  have yl := B2.out.lt
  clear B2
  go_wp2_with fail
  refine bodyPost_ret (v := .tuple #[.agg #[.string ⟨#[]⟩, .string ⟨#[]⟩, .int .i64 0, .int .i64 0, .int .i64 0, .int .i64 0, .int .i64 0], errV 3]) (by simp [results, Tryd.results6, go_sem, y0, y1, y2, y3, y4, y5, y6]) rfl ?_
  exact ⟨rfl, by repeat (first | with_reducible exact W2.out | refine Below.setCell ?_ (by simp) _)⟩
set_option maxRecDepth 100000 in
set_option maxHeartbeats 8000000 in
theorem parse_one (s U T MI WH BE : List UInt8) (fd : Bool) (PS : List (List UInt8)) (a b c1 c2 l2 : Nat) (w : World) (hT : Lib.Utf8Tabs 2 3 w) (hM : MaxW w) (hs : s.length ≤ 4000000000) (V : Int) (hV : LastAt s V) (hi : Lib.indexAny s sgn = (a : Int)) (he : V + 1 = (b : Int)) (hab : a < b) (hbs : b ≤ s.length)
    (hU : s.take a = U) (hT2 : s.drop b = T) (hMI : (s.take b).drop a = MI) (hcut : Lib.cut MI [46] = (WH, BE, fd)) (hc1 : Lib.countByte WH 48 = c1) (hc2 : Lib.countByte BE 48 = c2) (hl2 : BE.length = l2) (hPS : Lib.split WH [44] = PS) (hWl : WH.length ≤ 4000000000) (hUl : U.length ≤ 1000000000 ∧ T.length ≤ 1000000000) (hk : PS.length = 1) :
    Calls Tryd.prog 6 #[.string ⟨s.toArray⟩] w fun e w' => ∃ r, (r = none ∧ (Nt.patE ⟨U, T, (c1 : Int), (c2 : Int), (l2 : Int), 0, 0⟩ ≠ 0 ∨ Nt.patT ⟨U, T, (c1 : Int), (c2 : Int), (l2 : Int), 0, 0⟩ ≠ s) ∨ r = some ⟨U, T, (c1 : Int), (c2 : Int), (l2 : Int), 0, 0⟩ ∧ Nt.patE ⟨U, T, (c1 : Int), (c2 : Int), (l2 : Int), 0, 0⟩ = 0 ∧ Nt.patT ⟨U, T, (c1 : Int), (c2 : Int), (l2 : Int), 0, 0⟩ = s) ∧ e = .returned (.tuple #[Nt.patV r, Nt.parE r]) ∧ Below w.heap.size w w' := by
  have C1 := Lib.hid fun wx => nia_any ⟨s.toArray⟩ wx (by rw [size_mkl]; omega)
  rw [show (⟨s.toArray⟩ : ByteArray).data.toList = s by simp, hi] at C1
  have C2 := Lib.hid fun (wx : World) (hb : Below w.heap.size w wx) => nla_any s wx (tabs_below hT hb) (by omega)
  have hMl : MI.length ≤ 4000000000 := by rw [← hMI]; simp; omega
  have C3 := Lib.hid fun (wx : World) (hb : Below w.heap.size w wx) => cutp_any MI wx (hM.below hb) hMl
  rw [hcut] at C3
  have C4 := Lib.hid fun wx => count_one WH 48 wx
  have C5 := Lib.hid fun wx => count_one BE 48 wx
  rw [hc1] at C4
  rw [hc2] at C5
  have C6 := Lib.hid fun (wx : World) (hb : Below w.heap.size w wx) => split_any WH 44 wx (hM.below hb) hWl
  rw [hPS, hk] at C6
  have C7 := Lib.hid fun wx => ptext_no ⟨U, T, (c1 : Int), (c2 : Int), (l2 : Int), 0, 0⟩ wx hUl.1 hUl.2
  have C8 := Lib.hid fun wx => ptext_ok ⟨U, T, (c1 : Int), (c2 : Int), (l2 : Int), 0, 0⟩ wx
  dsimp only at C3 C6 C7 C8
  have W0 := Lib.hid (blw_alloc w (.cells #[.string ⟨#[]⟩, .string ⟨#[]⟩, .int .i64 0, .int .i64 0, .int .i64 0, .int .i64 0, .int .i64 0] 23))
  have B0 := Lib.hid (Boxed.made w #[.string ⟨#[]⟩, .string ⟨#[]⟩, .int .i64 0, .int .i64 0, .int .i64 0, .int .i64 0, .int .i64 0] 23)
  have HV := Lib.hid hV
  have e1 : V = (b : Int) - 1 := by omega
  have HE2 := Lib.hid e1
  have hb1 : IntKind.i64.wrap ((b : Int) - 1 + 1) = (b : Int) := by rw [IntWalk.i64_in _ (by omega)]; omega
  have hb2 : IntKind.i64.wrap (b : Int) = (b : Int) := IntWalk.i64_in _ (by omega)
  have ha0 : decide ((a : Int) < 0) = false := dec_no (by omega)
  have S1 := fun w => slice_to (P := Tryd.prog) 9 Tryd.underlying9 s .i64 a (by omega) w
  have S2 := fun w => slice_from (P := Tryd.prog) 9 Tryd.underlying9 s .i64 b (by omega) w
  have S3 := fun w => slice_mid (P := Tryd.prog) 9 Tryd.underlying9 s .i64 .i64 a b (by omega) (by omega) w
  rw [hU] at S1
  rw [hT2] at S2
  rw [← List.drop_take, hMI] at S3
  have hBz : (⟨BE.toArray⟩ : ByteArray).size = l2 := by rw [size_mkl, hl2]
  clear hT hM hs hV hi he hab hbs hU hT2 hMI hcut hc1 hc2 hPS hWl hUl hMl e1 hk
  obtain ⟨QQ, hQQ⟩ : ∃ Q : Nt.Pt, Q = ⟨U, T, (c1 : Int), (c2 : Int), (l2 : Int), 0, 0⟩ := ⟨_, rfl⟩
  rw [← hQQ] at C7 C8 ⊢
  have HQ := Lib.hid hQQ
  clear hQQ
  go_enter Tryd.func6, Tryd.ntmps6
  go_wp2_with fail
  refine (C1.out _).mono ?_
  rintro e w1 ⟨rfl, hb⟩
  have W1 := Lib.hid (blw_trans W0.out hb)
  have B1 := Lib.hid (B0.out.below hb)
  clear hb W0 B0 C1
  go_wp2_with fail
  refine (C2.out _ W1.out).mono ?_
  rintro e w2 ⟨V', rfl, hV', hb⟩
  obtain rfl : V' = (b : Int) - 1 := (Nt.last_one hV' HV.out).trans HE2.out
  have W2 := Lib.hid (blw_trans W1.out hb)
  have B2 := Lib.hid (B1.out.below hb)
  clear hb W1 B1 C2 hV'
  go_wp2_with fail
  go_region
  have W3 := Lib.hid (Below.drew (blw_trans W2.out (blw_alloc w2 (.cells #[.string ⟨U.toArray⟩, .string ⟨T.toArray⟩, .int .i64 0, .int .i64 0, .int .i64 0, .int .i64 0, .int .i64 0] 23))))
  have B3 := Lib.hid (B2.out.alloc (.cells #[.string ⟨U.toArray⟩, .string ⟨T.toArray⟩, .int .i64 0, .int .i64 0, .int .i64 0, .int .i64 0, .int .i64 0] 23)).drew
  have D3 := Lib.hid (Boxed.made w2 #[.string ⟨U.toArray⟩, .string ⟨T.toArray⟩, .int .i64 0, .int .i64 0, .int .i64 0, .int .i64 0, .int .i64 0] 23).drew
  have hp := B2.out.lt
  generalize (w2.alloc (.cells #[.string ⟨U.toArray⟩, .string ⟨T.toArray⟩, .int .i64 0, .int .i64 0, .int .i64 0, .int .i64 0, .int .i64 0] 23)).drew = w3 at *
  clear W2 B2
  generalize w2.heap.size = p6 at *
  have hne : ¬ p6 = w.heap.size := by omega
  have hne' : ¬ w.heap.size = p6 := by omega
  have HP := Lib.hid (show w.heap.size ≤ p6 by omega)
  clear hp
  go_wp2_with fail
  refine (C3.out _ W3.out).mono ?_
  rintro e w4 ⟨rfl, hb⟩
  have W4 := Lib.hid (blw_trans W3.out hb)
  have B4 := Lib.hid (B3.out.below hb)
  have D4 := Lib.hid (D3.out.below hb)
  clear hb W3 B3 D3 C3
  have d0 : w4.cell? ⟨p6, 0, none⟩ = some (.string ⟨U.toArray⟩) := D4.out.cell 0 _ rfl
  have df0 := D4.out.free 0 (by simp)
  have d1 : w4.cell? ⟨p6, 1, none⟩ = some (.string ⟨T.toArray⟩) := D4.out.cell 1 _ rfl
  have df1 := D4.out.free 1 (by simp)
  have d2 : w4.cell? ⟨p6, 2, none⟩ = some (.int .i64 0) := D4.out.cell 2 _ rfl
  have df2 := D4.out.free 2 (by simp)
  have d3 : w4.cell? ⟨p6, 3, none⟩ = some (.int .i64 0) := D4.out.cell 3 _ rfl
  have df3 := D4.out.free 3 (by simp)
  have d4 : w4.cell? ⟨p6, 4, none⟩ = some (.int .i64 0) := D4.out.cell 4 _ rfl
  have df4 := D4.out.free 4 (by simp)
  have d5 : w4.cell? ⟨p6, 5, none⟩ = some (.int .i64 0) := D4.out.cell 5 _ rfl
  have df5 := D4.out.free 5 (by simp)
  have d6 : w4.cell? ⟨p6, 6, none⟩ = some (.int .i64 0) := D4.out.cell 6 _ rfl
  have df6 := D4.out.free 6 (by simp)
  have dl := D4.out.lt
  go_wp2_with fail
  refine (C4.out _).mono ?_
  rintro e w5 ⟨rfl, rfl⟩
  go_wp2_with fail
  refine (C5.out _).mono ?_
  rintro e w6 ⟨rfl, h6⟩
  subst h6
  go_wp2_with fail
  have W6 := Lib.hid (show Below w.heap.size w (((w5.setCell ⟨p6, 2, none⟩ (.int .i64 (c1 : Int))).setCell ⟨p6, 3, none⟩ (.int .i64 (c2 : Int))).setCell ⟨p6, 4, none⟩ (.int .i64 (l2 : Int))) from ((W4.out.setCell HP.out _).setCell HP.out _).setCell HP.out _)
  have B6 := Lib.hid (show Boxed (((w5.setCell ⟨p6, 2, none⟩ (.int .i64 (c1 : Int))).setCell ⟨p6, 3, none⟩ (.int .i64 (c2 : Int))).setCell ⟨p6, 4, none⟩ (.int .i64 (l2 : Int))) w.heap.size _ from ((B4.out.far hne _ _).far hne _ _).far hne _ _)
  have D6 := Lib.hid (show Boxed (((w5.setCell ⟨p6, 2, none⟩ (.int .i64 (c1 : Int))).setCell ⟨p6, 3, none⟩ (.int .i64 (c2 : Int))).setCell ⟨p6, 4, none⟩ (.int .i64 (l2 : Int))) p6 #[.string ⟨U.toArray⟩, .string ⟨T.toArray⟩, .int .i64 (c1 : Int), .int .i64 (c2 : Int), .int .i64 (l2 : Int), .int .i64 0, .int .i64 0] from ((D4.out.set 2 _ (by simp)).set 3 _ (by simp)).set 4 _ (by simp))
  clear d0 d1 d2 d3 d4 d5 d6 df0 df1 df2 df3 df4 df5 df6 dl W4 B4 D4
  generalize ((w5.setCell ⟨p6, 2, none⟩ (.int .i64 (c1 : Int))).setCell ⟨p6, 3, none⟩ (.int .i64 (c2 : Int))).setCell ⟨p6, 4, none⟩ (.int .i64 (l2 : Int)) = w7 at *
  refine (C6.out _ W6.out).mono ?_
  rintro e w8 ⟨rfl, _, _, hcell, hb⟩
  have W8 := Lib.hid (blw_trans W6.out hb)
  have B8 := Lib.hid (B6.out.below hb)
  have D8 := Lib.hid (D6.out.below hb)
  have hlt7 := hb.size
  have hpq : ¬ p6 = w7.heap.size := by have := D6.out.lt; omega
  have hpq' : ¬ w7.heap.size = p6 := by omega
  clear hb W6 B6 D6 C6 hcell hlt7
  generalize w7.heap.size = q at *
  have d0 : w8.cell? ⟨p6, 0, none⟩ = some (.string ⟨U.toArray⟩) := D8.out.cell 0 _ rfl
  have df0 := D8.out.free 0 (by simp)
  have d1 : w8.cell? ⟨p6, 1, none⟩ = some (.string ⟨T.toArray⟩) := D8.out.cell 1 _ rfl
  have df1 := D8.out.free 1 (by simp)
  have d2 : w8.cell? ⟨p6, 2, none⟩ = some (.int .i64 (c1 : Int)) := D8.out.cell 2 _ rfl
  have df2 := D8.out.free 2 (by simp)
  have d3 : w8.cell? ⟨p6, 3, none⟩ = some (.int .i64 (c2 : Int)) := D8.out.cell 3 _ rfl
  have df3 := D8.out.free 3 (by simp)
  have d4 : w8.cell? ⟨p6, 4, none⟩ = some (.int .i64 (l2 : Int)) := D8.out.cell 4 _ rfl
  have df4 := D8.out.free 4 (by simp)
  have d5 : w8.cell? ⟨p6, 5, none⟩ = some (.int .i64 0) := D8.out.cell 5 _ rfl
  have df5 := D8.out.free 5 (by simp)
  have d6 : w8.cell? ⟨p6, 6, none⟩ = some (.int .i64 0) := D8.out.cell 6 _ rfl
  have df6 := D8.out.free 6 (by simp)
  have dl := D8.out.lt
  go_wp2_with fail
  have W9 := W8
  have B9 := B8
  have D9 := D8
  rename World => w9
  by_cases hE : Nt.patE QQ = 0
  · have HE := Lib.hid hE
    refine ((C8.out _ HE.out).mono ?_)
    rintro e wa ⟨rfl, hb⟩
    have WA := Lib.hid (blw_trans W9.out hb)
    have BA := Lib.hid (B9.out.below hb)
    have DA := Lib.hid (D9.out.below hb)
    clear hb hE
    have d0 : wa.cell? ⟨p6, 0, none⟩ = some (.string ⟨U.toArray⟩) := DA.out.cell 0 _ rfl
    have df0 := DA.out.free 0 (by simp)
    have d1 : wa.cell? ⟨p6, 1, none⟩ = some (.string ⟨T.toArray⟩) := DA.out.cell 1 _ rfl
    have df1 := DA.out.free 1 (by simp)
    have d2 : wa.cell? ⟨p6, 2, none⟩ = some (.int .i64 (c1 : Int)) := DA.out.cell 2 _ rfl
    have df2 := DA.out.free 2 (by simp)
    have d3 : wa.cell? ⟨p6, 3, none⟩ = some (.int .i64 (c2 : Int)) := DA.out.cell 3 _ rfl
    have df3 := DA.out.free 3 (by simp)
    have d4 : wa.cell? ⟨p6, 4, none⟩ = some (.int .i64 (l2 : Int)) := DA.out.cell 4 _ rfl
    have df4 := DA.out.free 4 (by simp)
    have d5 : wa.cell? ⟨p6, 5, none⟩ = some (.int .i64 0) := DA.out.cell 5 _ rfl
    have df5 := DA.out.free 5 (by simp)
    have d6 : wa.cell? ⟨p6, 6, none⟩ = some (.int .i64 0) := DA.out.cell 6 _ rfl
    have df6 := DA.out.free 6 (by simp)
    have dl := DA.out.lt
    have y0 : wa.cell? ⟨w.heap.size, 0, none⟩ = some (.string ⟨#[]⟩) := BA.out.cell 0 _ rfl
    have yf0 := BA.out.free 0 (by simp)
    have y1 : wa.cell? ⟨w.heap.size, 1, none⟩ = some (.string ⟨#[]⟩) := BA.out.cell 1 _ rfl
    have yf1 := BA.out.free 1 (by simp)
    have y2 : wa.cell? ⟨w.heap.size, 2, none⟩ = some (.int .i64 0) := BA.out.cell 2 _ rfl
    have yf2 := BA.out.free 2 (by simp)
    have y3 : wa.cell? ⟨w.heap.size, 3, none⟩ = some (.int .i64 0) := BA.out.cell 3 _ rfl
    have yf3 := BA.out.free 3 (by simp)
    have y4 : wa.cell? ⟨w.heap.size, 4, none⟩ = some (.int .i64 0) := BA.out.cell 4 _ rfl
    have yf4 := BA.out.free 4 (by simp)
    have y5 : wa.cell? ⟨w.heap.size, 5, none⟩ = some (.int .i64 0) := BA.out.cell 5 _ rfl
    have yf5 := BA.out.free 5 (by simp)
    have y6 : wa.cell? ⟨w.heap.size, 6, none⟩ = some (.int .i64 0) := BA.out.cell 6 _ rfl
    have yf6 := BA.out.free 6 (by simp)
    have yl := BA.out.lt
    generalize hX : Nt.patT QQ = X at *
    have HX := Lib.hid hX
    clear hX
    by_cases hq : X = s
    · have q1 : (X == s) = true := by rw [hq]; simp
      have q2 : (X != s) = false := by rw [bne, q1]; rfl
      have HH := Lib.hid (HX.out.trans hq)
      clear hq
      go_wp2_with fail
      refine bodyPost_ret (v := .tuple #[.agg #[.string ⟨U.toArray⟩, .string ⟨T.toArray⟩, .int .i64 (c1 : Int), .int .i64 (c2 : Int), .int .i64 (l2 : Int), .int .i64 0, .int .i64 0], .nilIface]) (by simp [results, Tryd.results6, go_sem, y0, y1, y2, y3, y4, y5, y6]) rfl ?_
      exact ⟨some QQ, .inr ⟨rfl, HE.out, HH.out⟩, by rw [HQ.out]; rfl, by repeat (first | with_reducible exact WA.out | refine Below.setCell ?_ (by simp) _)⟩
    · have q1 : (X == s) = false := beq_eq_false_iff_ne.2 hq
      have q2 : (X != s) = true := by rw [bne, q1]; rfl
      have HH := Lib.hid (fun e => hq (HX.out.symm.trans e))
      clear hq
      go_wp2_with fail
      refine bodyPost_ret (v := .tuple #[.agg #[.string ⟨#[]⟩, .string ⟨#[]⟩, .int .i64 0, .int .i64 0, .int .i64 0, .int .i64 0, .int .i64 0], errV 3]) (by simp [results, Tryd.results6, go_sem, y0, y1, y2, y3, y4, y5, y6]) rfl ?_
      exact ⟨none, .inl ⟨rfl, .inr HH.out⟩, rfl, by repeat (first | with_reducible exact WA.out | refine Below.setCell ?_ (by simp) _)⟩
  · have HE := Lib.hid hE
    refine ((C7.out _ HE.out).mono ?_)
    rintro e wa ⟨rfl, hb⟩
    have WA := Lib.hid (blw_trans W9.out hb)
    have BA := Lib.hid (B9.out.below hb)
    have hev : errN (Nt.patE QQ) = errV (Nt.patE QQ) := if_neg hE
    rw [hev]
    generalize Nt.patE QQ = EE
    clear hb hE hev
    have y0 : wa.cell? ⟨w.heap.size, 0, none⟩ = some (.string ⟨#[]⟩) := BA.out.cell 0 _ rfl
    have yf0 := BA.out.free 0 (by simp)
    have y1 : wa.cell? ⟨w.heap.size, 1, none⟩ = some (.string ⟨#[]⟩) := BA.out.cell 1 _ rfl
    have yf1 := BA.out.free 1 (by simp)
    have y2 : wa.cell? ⟨w.heap.size, 2, none⟩ = some (.int .i64 0) := BA.out.cell 2 _ rfl
    have yf2 := BA.out.free 2 (by simp)
    have y3 : wa.cell? ⟨w.heap.size, 3, none⟩ = some (.int .i64 0) := BA.out.cell 3 _ rfl
    have yf3 := BA.out.free 3 (by simp)
    have y4 : wa.cell? ⟨w.heap.size, 4, none⟩ = some (.int .i64 0) := BA.out.cell 4 _ rfl
    have yf4 := BA.out.free 4 (by simp)
    have y5 : wa.cell? ⟨w.heap.size, 5, none⟩ = some (.int .i64 0) := BA.out.cell 5 _ rfl
    have yf5 := BA.out.free 5 (by simp)
    have y6 : wa.cell? ⟨w.heap.size, 6, none⟩ = some (.int .i64 0) := BA.out.cell 6 _ rfl
    have yf6 := BA.out.free 6 (by simp)
    have yl := BA.out.lt
    go_wp2_with fail
    refine bodyPost_ret (v := .tuple #[.agg #[.string ⟨#[]⟩, .string ⟨#[]⟩, .int .i64 0, .int .i64 0, .int .i64 0, .int .i64 0, .int .i64 0], errV 3]) (by simp [results, Tryd.results6, go_sem, y0, y1, y2, y3, y4, y5, y6]) rfl ?_
    exact ⟨none, .inl ⟨rfl, .inl HE.out⟩, rfl, by repeat (first | with_reducible exact WA.out | refine Below.setCell ?_ (by simp) _)⟩
set_option maxRecDepth 100000 in
set_option maxHeartbeats 8000000 in
theorem parse_two (s U T MI WH BE : List UInt8) (fd : Bool) (PS : List (List UInt8)) (LP : List UInt8) (a b c1 c2 l2 GL : Nat) (w : World) (hT : Lib.Utf8Tabs 2 3 w) (hM : MaxW w) (hs : s.length ≤ 4000000000) (V : Int) (hV : LastAt s V) (hi : Lib.indexAny s sgn = (a : Int)) (he : V + 1 = (b : Int)) (hab : a < b) (hbs : b ≤ s.length)
    (hU : s.take a = U) (hT2 : s.drop b = T) (hMI : (s.take b).drop a = MI) (hcut : Lib.cut MI [46] = (WH, BE, fd)) (hc1 : Lib.countByte WH 48 = c1) (hc2 : Lib.countByte BE 48 = c2) (hl2 : BE.length = l2) (hPS : Lib.split WH [44] = PS) (hWl : WH.length ≤ 4000000000) (hUl : U.length ≤ 1000000000 ∧ T.length ≤ 1000000000) (hk : PS.length = 2) (hLP : PS[1]? = some LP) (hGL : LP.length = GL) :
    Calls Tryd.prog 6 #[.string ⟨s.toArray⟩] w fun e w' => ∃ r, (r = none ∧ (Nt.patE ⟨U, T, (c1 : Int), (c2 : Int), (l2 : Int), (GL : Int), 0⟩ ≠ 0 ∨ Nt.patT ⟨U, T, (c1 : Int), (c2 : Int), (l2 : Int), (GL : Int), 0⟩ ≠ s) ∨ r = some ⟨U, T, (c1 : Int), (c2 : Int), (l2 : Int), (GL : Int), 0⟩ ∧ Nt.patE ⟨U, T, (c1 : Int), (c2 : Int), (l2 : Int), (GL : Int), 0⟩ = 0 ∧ Nt.patT ⟨U, T, (c1 : Int), (c2 : Int), (l2 : Int), (GL : Int), 0⟩ = s) ∧ e = .returned (.tuple #[Nt.patV r, Nt.parE r]) ∧ Below w.heap.size w w' := by
  have C1 := Lib.hid fun wx => nia_any ⟨s.toArray⟩ wx (by rw [size_mkl]; omega)
  rw [show (⟨s.toArray⟩ : ByteArray).data.toList = s by simp, hi] at C1
  have C2 := Lib.hid fun (wx : World) (hb : Below w.heap.size w wx) => nla_any s wx (tabs_below hT hb) (by omega)
  have hMl : MI.length ≤ 4000000000 := by rw [← hMI]; simp; omega
  have C3 := Lib.hid fun (wx : World) (hb : Below w.heap.size w wx) => cutp_any MI wx (hM.below hb) hMl
  rw [hcut] at C3
  have C4 := Lib.hid fun wx => count_one WH 48 wx
  have C5 := Lib.hid fun wx => count_one BE 48 wx
  rw [hc1] at C4
  rw [hc2] at C5
  have C6 := Lib.hid fun (wx : World) (hb : Below w.heap.size w wx) => split_any WH 44 wx (hM.below hb) hWl
  rw [hPS, hk] at C6
  have C7 := Lib.hid fun wx => ptext_no ⟨U, T, (c1 : Int), (c2 : Int), (l2 : Int), (GL : Int), 0⟩ wx hUl.1 hUl.2
  have C8 := Lib.hid fun wx => ptext_ok ⟨U, T, (c1 : Int), (c2 : Int), (l2 : Int), (GL : Int), 0⟩ wx
  dsimp only at C3 C6 C7 C8
  have W0 := Lib.hid (blw_alloc w (.cells #[.string ⟨#[]⟩, .string ⟨#[]⟩, .int .i64 0, .int .i64 0, .int .i64 0, .int .i64 0, .int .i64 0] 23))
  have B0 := Lib.hid (Boxed.made w #[.string ⟨#[]⟩, .string ⟨#[]⟩, .int .i64 0, .int .i64 0, .int .i64 0, .int .i64 0, .int .i64 0] 23)
  have HV := Lib.hid hV
  have e1 : V = (b : Int) - 1 := by omega
  have HE2 := Lib.hid e1
  have hb1 : IntKind.i64.wrap ((b : Int) - 1 + 1) = (b : Int) := by rw [IntWalk.i64_in _ (by omega)]; omega
  have hb2 : IntKind.i64.wrap (b : Int) = (b : Int) := IntWalk.i64_in _ (by omega)
  have ha0 : decide ((a : Int) < 0) = false := dec_no (by omega)
  have S1 := fun w => slice_to (P := Tryd.prog) 9 Tryd.underlying9 s .i64 a (by omega) w
  have S2 := fun w => slice_from (P := Tryd.prog) 9 Tryd.underlying9 s .i64 b (by omega) w
  have S3 := fun w => slice_mid (P := Tryd.prog) 9 Tryd.underlying9 s .i64 .i64 a b (by omega) (by omega) w
  rw [hU] at S1
  rw [hT2] at S2
  rw [← List.drop_take, hMI] at S3
  have hBz : (⟨BE.toArray⟩ : ByteArray).size = l2 := by rw [size_mkl, hl2]
  clear hT hM hs hV hi he hab hbs hU hT2 hMI hcut hc1 hc2 hPS hWl hUl hMl e1 hk
  obtain ⟨QQ, hQQ⟩ : ∃ Q : Nt.Pt, Q = ⟨U, T, (c1 : Int), (c2 : Int), (l2 : Int), (GL : Int), 0⟩ := ⟨_, rfl⟩
  rw [← hQQ] at C7 C8 ⊢
  have HQ := Lib.hid hQQ
  clear hQQ
  go_enter Tryd.func6, Tryd.ntmps6
  go_wp2_with fail
  refine (C1.out _).mono ?_
  rintro e w1 ⟨rfl, hb⟩
  have W1 := Lib.hid (blw_trans W0.out hb)
  have B1 := Lib.hid (B0.out.below hb)
  clear hb W0 B0 C1
  go_wp2_with fail
  refine (C2.out _ W1.out).mono ?_
  rintro e w2 ⟨V', rfl, hV', hb⟩
  obtain rfl : V' = (b : Int) - 1 := (Nt.last_one hV' HV.out).trans HE2.out
  have W2 := Lib.hid (blw_trans W1.out hb)
  have B2 := Lib.hid (B1.out.below hb)
  clear hb W1 B1 C2 hV'
  go_wp2_with fail
  go_region
  have W3 := Lib.hid (Below.drew (blw_trans W2.out (blw_alloc w2 (.cells #[.string ⟨U.toArray⟩, .string ⟨T.toArray⟩, .int .i64 0, .int .i64 0, .int .i64 0, .int .i64 0, .int .i64 0] 23))))
  have B3 := Lib.hid (B2.out.alloc (.cells #[.string ⟨U.toArray⟩, .string ⟨T.toArray⟩, .int .i64 0, .int .i64 0, .int .i64 0, .int .i64 0, .int .i64 0] 23)).drew
  have D3 := Lib.hid (Boxed.made w2 #[.string ⟨U.toArray⟩, .string ⟨T.toArray⟩, .int .i64 0, .int .i64 0, .int .i64 0, .int .i64 0, .int .i64 0] 23).drew
  have hp := B2.out.lt
  generalize (w2.alloc (.cells #[.string ⟨U.toArray⟩, .string ⟨T.toArray⟩, .int .i64 0, .int .i64 0, .int .i64 0, .int .i64 0, .int .i64 0] 23)).drew = w3 at *
  clear W2 B2
  generalize w2.heap.size = p6 at *
  have hne : ¬ p6 = w.heap.size := by omega
  have hne' : ¬ w.heap.size = p6 := by omega
  have HP := Lib.hid (show w.heap.size ≤ p6 by omega)
  clear hp
  go_wp2_with fail
  refine (C3.out _ W3.out).mono ?_
  rintro e w4 ⟨rfl, hb⟩
  have W4 := Lib.hid (blw_trans W3.out hb)
  have B4 := Lib.hid (B3.out.below hb)
  have D4 := Lib.hid (D3.out.below hb)
  clear hb W3 B3 D3 C3
  have d0 : w4.cell? ⟨p6, 0, none⟩ = some (.string ⟨U.toArray⟩) := D4.out.cell 0 _ rfl
  have df0 := D4.out.free 0 (by simp)
  have d1 : w4.cell? ⟨p6, 1, none⟩ = some (.string ⟨T.toArray⟩) := D4.out.cell 1 _ rfl
  have df1 := D4.out.free 1 (by simp)
  have d2 : w4.cell? ⟨p6, 2, none⟩ = some (.int .i64 0) := D4.out.cell 2 _ rfl
  have df2 := D4.out.free 2 (by simp)
  have d3 : w4.cell? ⟨p6, 3, none⟩ = some (.int .i64 0) := D4.out.cell 3 _ rfl
  have df3 := D4.out.free 3 (by simp)
  have d4 : w4.cell? ⟨p6, 4, none⟩ = some (.int .i64 0) := D4.out.cell 4 _ rfl
  have df4 := D4.out.free 4 (by simp)
  have d5 : w4.cell? ⟨p6, 5, none⟩ = some (.int .i64 0) := D4.out.cell 5 _ rfl
  have df5 := D4.out.free 5 (by simp)
  have d6 : w4.cell? ⟨p6, 6, none⟩ = some (.int .i64 0) := D4.out.cell 6 _ rfl
  have df6 := D4.out.free 6 (by simp)
  have dl := D4.out.lt
  go_wp2_with fail
  refine (C4.out _).mono ?_
  rintro e w5 ⟨rfl, rfl⟩
  go_wp2_with fail
  refine (C5.out _).mono ?_
  rintro e w6 ⟨rfl, h6⟩
  subst h6
  go_wp2_with fail
  have W6 := Lib.hid (show Below w.heap.size w (((w5.setCell ⟨p6, 2, none⟩ (.int .i64 (c1 : Int))).setCell ⟨p6, 3, none⟩ (.int .i64 (c2 : Int))).setCell ⟨p6, 4, none⟩ (.int .i64 (l2 : Int))) from ((W4.out.setCell HP.out _).setCell HP.out _).setCell HP.out _)
  have B6 := Lib.hid (show Boxed (((w5.setCell ⟨p6, 2, none⟩ (.int .i64 (c1 : Int))).setCell ⟨p6, 3, none⟩ (.int .i64 (c2 : Int))).setCell ⟨p6, 4, none⟩ (.int .i64 (l2 : Int))) w.heap.size _ from ((B4.out.far hne _ _).far hne _ _).far hne _ _)
  have D6 := Lib.hid (show Boxed (((w5.setCell ⟨p6, 2, none⟩ (.int .i64 (c1 : Int))).setCell ⟨p6, 3, none⟩ (.int .i64 (c2 : Int))).setCell ⟨p6, 4, none⟩ (.int .i64 (l2 : Int))) p6 #[.string ⟨U.toArray⟩, .string ⟨T.toArray⟩, .int .i64 (c1 : Int), .int .i64 (c2 : Int), .int .i64 (l2 : Int), .int .i64 0, .int .i64 0] from ((D4.out.set 2 _ (by simp)).set 3 _ (by simp)).set 4 _ (by simp))
  clear d0 d1 d2 d3 d4 d5 d6 df0 df1 df2 df3 df4 df5 df6 dl W4 B4 D4
  generalize ((w5.setCell ⟨p6, 2, none⟩ (.int .i64 (c1 : Int))).setCell ⟨p6, 3, none⟩ (.int .i64 (c2 : Int))).setCell ⟨p6, 4, none⟩ (.int .i64 (l2 : Int)) = w7 at *
  refine (C6.out _ W6.out).mono ?_
  rintro e w8 ⟨rfl, _, _, hcell, hb⟩
  have W8 := Lib.hid (blw_trans W6.out hb)
  have B8 := Lib.hid (B6.out.below hb)
  have D8 := Lib.hid (D6.out.below hb)
  have q1 := hcell 1 LP hLP
  have hlt7 := hb.size
  have hpq : ¬ p6 = w7.heap.size := by have := D6.out.lt; omega
  have hpq' : ¬ w7.heap.size = p6 := by omega
  clear hb W6 B6 D6 C6 hcell hlt7
  generalize w7.heap.size = q at *
  have d0 : w8.cell? ⟨p6, 0, none⟩ = some (.string ⟨U.toArray⟩) := D8.out.cell 0 _ rfl
  have df0 := D8.out.free 0 (by simp)
  have d1 : w8.cell? ⟨p6, 1, none⟩ = some (.string ⟨T.toArray⟩) := D8.out.cell 1 _ rfl
  have df1 := D8.out.free 1 (by simp)
  have d2 : w8.cell? ⟨p6, 2, none⟩ = some (.int .i64 (c1 : Int)) := D8.out.cell 2 _ rfl
  have df2 := D8.out.free 2 (by simp)
  have d3 : w8.cell? ⟨p6, 3, none⟩ = some (.int .i64 (c2 : Int)) := D8.out.cell 3 _ rfl
  have df3 := D8.out.free 3 (by simp)
  have d4 : w8.cell? ⟨p6, 4, none⟩ = some (.int .i64 (l2 : Int)) := D8.out.cell 4 _ rfl
  have df4 := D8.out.free 4 (by simp)
  have d5 : w8.cell? ⟨p6, 5, none⟩ = some (.int .i64 0) := D8.out.cell 5 _ rfl
  have df5 := D8.out.free 5 (by simp)
  have d6 : w8.cell? ⟨p6, 6, none⟩ = some (.int .i64 0) := D8.out.cell 6 _ rfl
  have df6 := D8.out.free 6 (by simp)
  have dl := D8.out.lt
  go_wp2_with fail
  have W9 := Lib.hid (show Below w.heap.size w (w8.setCell ⟨p6, 5, none⟩ (.int .i64 (GL : Int))) from (W8.out.setCell HP.out _))
  have B9 := Lib.hid (show Boxed (w8.setCell ⟨p6, 5, none⟩ (.int .i64 (GL : Int))) w.heap.size _ from (B8.out.far hne _ _))
  have D9 := Lib.hid (show Boxed (w8.setCell ⟨p6, 5, none⟩ (.int .i64 (GL : Int))) p6 #[.string ⟨U.toArray⟩, .string ⟨T.toArray⟩, .int .i64 (c1 : Int), .int .i64 (c2 : Int), .int .i64 (l2 : Int), .int .i64 (GL : Int), .int .i64 0] from (D8.out.set 5 _ (by simp)))
  clear d0 d1 d2 d3 d4 d5 d6 df0 df1 df2 df3 df4 df5 df6 dl W8 B8 D8
  generalize (w8.setCell ⟨p6, 5, none⟩ (.int .i64 (GL : Int))) = w9 at *
  by_cases hE : Nt.patE QQ = 0
  · have HE := Lib.hid hE
    refine ((C8.out _ HE.out).mono ?_)
    rintro e wa ⟨rfl, hb⟩
    have WA := Lib.hid (blw_trans W9.out hb)
    have BA := Lib.hid (B9.out.below hb)
    have DA := Lib.hid (D9.out.below hb)
    clear hb hE
    have d0 : wa.cell? ⟨p6, 0, none⟩ = some (.string ⟨U.toArray⟩) := DA.out.cell 0 _ rfl
    have df0 := DA.out.free 0 (by simp)
    have d1 : wa.cell? ⟨p6, 1, none⟩ = some (.string ⟨T.toArray⟩) := DA.out.cell 1 _ rfl
    have df1 := DA.out.free 1 (by simp)
    have d2 : wa.cell? ⟨p6, 2, none⟩ = some (.int .i64 (c1 : Int)) := DA.out.cell 2 _ rfl
    have df2 := DA.out.free 2 (by simp)
    have d3 : wa.cell? ⟨p6, 3, none⟩ = some (.int .i64 (c2 : Int)) := DA.out.cell 3 _ rfl
    have df3 := DA.out.free 3 (by simp)
    have d4 : wa.cell? ⟨p6, 4, none⟩ = some (.int .i64 (l2 : Int)) := DA.out.cell 4 _ rfl
    have df4 := DA.out.free 4 (by simp)
    have d5 : wa.cell? ⟨p6, 5, none⟩ = some (.int .i64 (GL : Int)) := DA.out.cell 5 _ rfl
    have df5 := DA.out.free 5 (by simp)
    have d6 : wa.cell? ⟨p6, 6, none⟩ = some (.int .i64 0) := DA.out.cell 6 _ rfl
    have df6 := DA.out.free 6 (by simp)
    have dl := DA.out.lt
    have y0 : wa.cell? ⟨w.heap.size, 0, none⟩ = some (.string ⟨#[]⟩) := BA.out.cell 0 _ rfl
    have yf0 := BA.out.free 0 (by simp)
    have y1 : wa.cell? ⟨w.heap.size, 1, none⟩ = some (.string ⟨#[]⟩) := BA.out.cell 1 _ rfl
    have yf1 := BA.out.free 1 (by simp)
    have y2 : wa.cell? ⟨w.heap.size, 2, none⟩ = some (.int .i64 0) := BA.out.cell 2 _ rfl
    have yf2 := BA.out.free 2 (by simp)
    have y3 : wa.cell? ⟨w.heap.size, 3, none⟩ = some (.int .i64 0) := BA.out.cell 3 _ rfl
    have yf3 := BA.out.free 3 (by simp)
    have y4 : wa.cell? ⟨w.heap.size, 4, none⟩ = some (.int .i64 0) := BA.out.cell 4 _ rfl
    have yf4 := BA.out.free 4 (by simp)
    have y5 : wa.cell? ⟨w.heap.size, 5, none⟩ = some (.int .i64 0) := BA.out.cell 5 _ rfl
    have yf5 := BA.out.free 5 (by simp)
    have y6 : wa.cell? ⟨w.heap.size, 6, none⟩ = some (.int .i64 0) := BA.out.cell 6 _ rfl
    have yf6 := BA.out.free 6 (by simp)
    have yl := BA.out.lt
    generalize hX : Nt.patT QQ = X at *
    have HX := Lib.hid hX
    clear hX
    by_cases hq : X = s
    · have q1 : (X == s) = true := by rw [hq]; simp
      have q2 : (X != s) = false := by rw [bne, q1]; rfl
      have HH := Lib.hid (HX.out.trans hq)
      clear hq
      go_wp2_with fail
      refine bodyPost_ret (v := .tuple #[.agg #[.string ⟨U.toArray⟩, .string ⟨T.toArray⟩, .int .i64 (c1 : Int), .int .i64 (c2 : Int), .int .i64 (l2 : Int), .int .i64 (GL : Int), .int .i64 0], .nilIface]) (by simp [results, Tryd.results6, go_sem, y0, y1, y2, y3, y4, y5, y6]) rfl ?_
      exact ⟨some QQ, .inr ⟨rfl, HE.out, HH.out⟩, by rw [HQ.out]; rfl, by repeat (first | with_reducible exact WA.out | refine Below.setCell ?_ (by simp) _)⟩
    · have q1 : (X == s) = false := beq_eq_false_iff_ne.2 hq
      have q2 : (X != s) = true := by rw [bne, q1]; rfl
      have HH := Lib.hid (fun e => hq (HX.out.symm.trans e))
      clear hq
      go_wp2_with fail
      refine bodyPost_ret (v := .tuple #[.agg #[.string ⟨#[]⟩, .string ⟨#[]⟩, .int .i64 0, .int .i64 0, .int .i64 0, .int .i64 0, .int .i64 0], errV 3]) (by simp [results, Tryd.results6, go_sem, y0, y1, y2, y3, y4, y5, y6]) rfl ?_
      exact ⟨none, .inl ⟨rfl, .inr HH.out⟩, rfl, by repeat (first | with_reducible exact WA.out | refine Below.setCell ?_ (by simp) _)⟩
  · have HE := Lib.hid hE
    refine ((C7.out _ HE.out).mono ?_)
    rintro e wa ⟨rfl, hb⟩
    have WA := Lib.hid (blw_trans W9.out hb)
    have BA := Lib.hid (B9.out.below hb)
    have hev : errN (Nt.patE QQ) = errV (Nt.patE QQ) := if_neg hE
    rw [hev]
    generalize Nt.patE QQ = EE
    clear hb hE hev
    have y0 : wa.cell? ⟨w.heap.size, 0, none⟩ = some (.string ⟨#[]⟩) := BA.out.cell 0 _ rfl
    have yf0 := BA.out.free 0 (by simp)
    have y1 : wa.cell? ⟨w.heap.size, 1, none⟩ = some (.string ⟨#[]⟩) := BA.out.cell 1 _ rfl
    have yf1 := BA.out.free 1 (by simp)
    have y2 : wa.cell? ⟨w.heap.size, 2, none⟩ = some (.int .i64 0) := BA.out.cell 2 _ rfl
    have yf2 := BA.out.free 2 (by simp)
    have y3 : wa.cell? ⟨w.heap.size, 3, none⟩ = some (.int .i64 0) := BA.out.cell 3 _ rfl
    have yf3 := BA.out.free 3 (by simp)
    have y4 : wa.cell? ⟨w.heap.size, 4, none⟩ = some (.int .i64 0) := BA.out.cell 4 _ rfl
    have yf4 := BA.out.free 4 (by simp)
    have y5 : wa.cell? ⟨w.heap.size, 5, none⟩ = some (.int .i64 0) := BA.out.cell 5 _ rfl
    have yf5 := BA.out.free 5 (by simp)
    have y6 : wa.cell? ⟨w.heap.size, 6, none⟩ = some (.int .i64 0) := BA.out.cell 6 _ rfl
    have yf6 := BA.out.free 6 (by simp)
    have yl := BA.out.lt
    go_wp2_with fail
    refine bodyPost_ret (v := .tuple #[.agg #[.string ⟨#[]⟩, .string ⟨#[]⟩, .int .i64 0, .int .i64 0, .int .i64 0, .int .i64 0, .int .i64 0], errV 3]) (by simp [results, Tryd.results6, go_sem, y0, y1, y2, y3, y4, y5, y6]) rfl ?_
    exact ⟨none, .inl ⟨rfl, .inl HE.out⟩, rfl, by repeat (first | with_reducible exact WA.out | refine Below.setCell ?_ (by simp) _)⟩
set_option maxRecDepth 100000 in
set_option maxHeartbeats 8000000 in
theorem parse_more (s U T MI WH BE : List UInt8) (fd : Bool) (PS : List (List UInt8)) (LP PP : List UInt8) (a b c1 c2 l2 GL GP : Nat) (w : World) (hT : Lib.Utf8Tabs 2 3 w) (hM : MaxW w) (hs : s.length ≤ 4000000000) (V : Int) (hV : LastAt s V) (hi : Lib.indexAny s sgn = (a : Int)) (he : V + 1 = (b : Int)) (hab : a < b) (hbs : b ≤ s.length)
    (hU : s.take a = U) (hT2 : s.drop b = T) (hMI : (s.take b).drop a = MI) (hcut : Lib.cut MI [46] = (WH, BE, fd)) (hc1 : Lib.countByte WH 48 = c1) (hc2 : Lib.countByte BE 48 = c2) (hl2 : BE.length = l2) (hPS : Lib.split WH [44] = PS) (hWl : WH.length ≤ 4000000000) (hUl : U.length ≤ 1000000000 ∧ T.length ≤ 1000000000) (NN J1 J2 : Nat) (hk : PS.length = NN) (hN : 2 < NN ∧ NN ≤ 4000000001) (hJ : J1 = NN - 1 ∧ J2 = NN - 2) (hLP : PS[J1]? = some LP) (hPP : PS[J2]? = some PP) (hGL : LP.length = GL) (hGP : PP.length = GP) :
    Calls Tryd.prog 6 #[.string ⟨s.toArray⟩] w fun e w' => ∃ r, (r = none ∧ (Nt.patE ⟨U, T, (c1 : Int), (c2 : Int), (l2 : Int), (GL : Int), (GP : Int)⟩ ≠ 0 ∨ Nt.patT ⟨U, T, (c1 : Int), (c2 : Int), (l2 : Int), (GL : Int), (GP : Int)⟩ ≠ s) ∨ r = some ⟨U, T, (c1 : Int), (c2 : Int), (l2 : Int), (GL : Int), (GP : Int)⟩ ∧ Nt.patE ⟨U, T, (c1 : Int), (c2 : Int), (l2 : Int), (GL : Int), (GP : Int)⟩ = 0 ∧ Nt.patT ⟨U, T, (c1 : Int), (c2 : Int), (l2 : Int), (GL : Int), (GP : Int)⟩ = s) ∧ e = .returned (.tuple #[Nt.patV r, Nt.parE r]) ∧ Below w.heap.size w w' := by
  have C1 := Lib.hid fun wx => nia_any ⟨s.toArray⟩ wx (by rw [size_mkl]; omega)
  rw [show (⟨s.toArray⟩ : ByteArray).data.toList = s by simp, hi] at C1
  have C2 := Lib.hid fun (wx : World) (hb : Below w.heap.size w wx) => nla_any s wx (tabs_below hT hb) (by omega)
  have hMl : MI.length ≤ 4000000000 := by rw [← hMI]; simp; omega
  have C3 := Lib.hid fun (wx : World) (hb : Below w.heap.size w wx) => cutp_any MI wx (hM.below hb) hMl
  rw [hcut] at C3
  have C4 := Lib.hid fun wx => count_one WH 48 wx
  have C5 := Lib.hid fun wx => count_one BE 48 wx
  rw [hc1] at C4
  rw [hc2] at C5
  have C6 := Lib.hid fun (wx : World) (hb : Below w.heap.size w wx) => split_any WH 44 wx (hM.below hb) hWl
  rw [hPS, hk] at C6
  have C7 := Lib.hid fun wx => ptext_no ⟨U, T, (c1 : Int), (c2 : Int), (l2 : Int), (GL : Int), (GP : Int)⟩ wx hUl.1 hUl.2
  have C8 := Lib.hid fun wx => ptext_ok ⟨U, T, (c1 : Int), (c2 : Int), (l2 : Int), (GL : Int), (GP : Int)⟩ wx
  dsimp only at C3 C6 C7 C8
  have W0 := Lib.hid (blw_alloc w (.cells #[.string ⟨#[]⟩, .string ⟨#[]⟩, .int .i64 0, .int .i64 0, .int .i64 0, .int .i64 0, .int .i64 0] 23))
  have B0 := Lib.hid (Boxed.made w #[.string ⟨#[]⟩, .string ⟨#[]⟩, .int .i64 0, .int .i64 0, .int .i64 0, .int .i64 0, .int .i64 0] 23)
  have HV := Lib.hid hV
  have e1 : V = (b : Int) - 1 := by omega
  have HE2 := Lib.hid e1
  have hb1 : IntKind.i64.wrap ((b : Int) - 1 + 1) = (b : Int) := by rw [IntWalk.i64_in _ (by omega)]; omega
  have hb2 : IntKind.i64.wrap (b : Int) = (b : Int) := IntWalk.i64_in _ (by omega)
  have ha0 : decide ((a : Int) < 0) = false := dec_no (by omega)
  have S1 := fun w => slice_to (P := Tryd.prog) 9 Tryd.underlying9 s .i64 a (by omega) w
  have S2 := fun w => slice_from (P := Tryd.prog) 9 Tryd.underlying9 s .i64 b (by omega) w
  have S3 := fun w => slice_mid (P := Tryd.prog) 9 Tryd.underlying9 s .i64 .i64 a b (by omega) (by omega) w
  rw [hU] at S1
  rw [hT2] at S2
  rw [← List.drop_take, hMI] at S3
  have hBz : (⟨BE.toArray⟩ : ByteArray).size = l2 := by rw [size_mkl, hl2]
  have hj1 : IntKind.i64.wrap ((NN : Int) - 1) = (J1 : Int) := by rw [IntWalk.i64_in _ (by omega)]; omega
  have hj2 : IntKind.i64.wrap ((NN : Int) - 2) = (J2 : Int) := by rw [IntWalk.i64_in _ (by omega)]; omega
  have hj3 : J1 < NN := by omega
  have hj4 : J2 < NN := by omega
  have hn1 : decide ((1 : Int) < (NN : Int)) = true := dec_yes (by omega)
  have hn2 : decide ((2 : Int) < (NN : Int)) = true := dec_yes (by omega)
  have hn3 : 1 < NN := by omega
  have hn4 : 2 < NN := by omega
  clear hT hM hs hV hi he hab hbs hU hT2 hMI hcut hc1 hc2 hPS hWl hUl hMl e1 hk hN hJ
  obtain ⟨QQ, hQQ⟩ : ∃ Q : Nt.Pt, Q = ⟨U, T, (c1 : Int), (c2 : Int), (l2 : Int), (GL : Int), (GP : Int)⟩ := ⟨_, rfl⟩
  rw [← hQQ] at C7 C8 ⊢
  have HQ := Lib.hid hQQ
  clear hQQ
  go_enter Tryd.func6, Tryd.ntmps6
  go_wp2_with fail
  refine (C1.out _).mono ?_
  rintro e w1 ⟨rfl, hb⟩
  have W1 := Lib.hid (blw_trans W0.out hb)
  have B1 := Lib.hid (B0.out.below hb)
  clear hb W0 B0 C1
  go_wp2_with fail
  refine (C2.out _ W1.out).mono ?_
  rintro e w2 ⟨V', rfl, hV', hb⟩
  obtain rfl : V' = (b : Int) - 1 := (Nt.last_one hV' HV.out).trans HE2.out
  have W2 := Lib.hid (blw_trans W1.out hb)
  have B2 := Lib.hid (B1.out.below hb)
  clear hb W1 B1 C2 hV'
  go_wp2_with fail
  go_region
  have W3 := Lib.hid (Below.drew (blw_trans W2.out (blw_alloc w2 (.cells #[.string ⟨U.toArray⟩, .string ⟨T.toArray⟩, .int .i64 0, .int .i64 0, .int .i64 0, .int .i64 0, .int .i64 0] 23))))
  have B3 := Lib.hid (B2.out.alloc (.cells #[.string ⟨U.toArray⟩, .string ⟨T.toArray⟩, .int .i64 0, .int .i64 0, .int .i64 0, .int .i64 0, .int .i64 0] 23)).drew
  have D3 := Lib.hid (Boxed.made w2 #[.string ⟨U.toArray⟩, .string ⟨T.toArray⟩, .int .i64 0, .int .i64 0, .int .i64 0, .int .i64 0, .int .i64 0] 23).drew
  have hp := B2.out.lt
  generalize (w2.alloc (.cells #[.string ⟨U.toArray⟩, .string ⟨T.toArray⟩, .int .i64 0, .int .i64 0, .int .i64 0, .int .i64 0, .int .i64 0] 23)).drew = w3 at *
  clear W2 B2
  generalize w2.heap.size = p6 at *
  have hne : ¬ p6 = w.heap.size := by omega
  have hne' : ¬ w.heap.size = p6 := by omega
  have HP := Lib.hid (show w.heap.size ≤ p6 by omega)
  clear hp
  go_wp2_with fail
  refine (C3.out _ W3.out).mono ?_
  rintro e w4 ⟨rfl, hb⟩
  have W4 := Lib.hid (blw_trans W3.out hb)
  have B4 := Lib.hid (B3.out.below hb)
  have D4 := Lib.hid (D3.out.below hb)
  clear hb W3 B3 D3 C3
  have d0 : w4.cell? ⟨p6, 0, none⟩ = some (.string ⟨U.toArray⟩) := D4.out.cell 0 _ rfl
  have df0 := D4.out.free 0 (by simp)
  have d1 : w4.cell? ⟨p6, 1, none⟩ = some (.string ⟨T.toArray⟩) := D4.out.cell 1 _ rfl
  have df1 := D4.out.free 1 (by simp)
  have d2 : w4.cell? ⟨p6, 2, none⟩ = some (.int .i64 0) := D4.out.cell 2 _ rfl
  have df2 := D4.out.free 2 (by simp)
  have d3 : w4.cell? ⟨p6, 3, none⟩ = some (.int .i64 0) := D4.out.cell 3 _ rfl
  have df3 := D4.out.free 3 (by simp)
  have d4 : w4.cell? ⟨p6, 4, none⟩ = some (.int .i64 0) := D4.out.cell 4 _ rfl
  have df4 := D4.out.free 4 (by simp)
  have d5 : w4.cell? ⟨p6, 5, none⟩ = some (.int .i64 0) := D4.out.cell 5 _ rfl
  have df5 := D4.out.free 5 (by simp)
  have d6 : w4.cell? ⟨p6, 6, none⟩ = some (.int .i64 0) := D4.out.cell 6 _ rfl
  have df6 := D4.out.free 6 (by simp)
  have dl := D4.out.lt
  go_wp2_with fail
  refine (C4.out _).mono ?_
  rintro e w5 ⟨rfl, rfl⟩
  go_wp2_with fail
  refine (C5.out _).mono ?_
  rintro e w6 ⟨rfl, h6⟩
  subst h6
  go_wp2_with fail
  have W6 := Lib.hid (show Below w.heap.size w (((w5.setCell ⟨p6, 2, none⟩ (.int .i64 (c1 : Int))).setCell ⟨p6, 3, none⟩ (.int .i64 (c2 : Int))).setCell ⟨p6, 4, none⟩ (.int .i64 (l2 : Int))) from ((W4.out.setCell HP.out _).setCell HP.out _).setCell HP.out _)
  have B6 := Lib.hid (show Boxed (((w5.setCell ⟨p6, 2, none⟩ (.int .i64 (c1 : Int))).setCell ⟨p6, 3, none⟩ (.int .i64 (c2 : Int))).setCell ⟨p6, 4, none⟩ (.int .i64 (l2 : Int))) w.heap.size _ from ((B4.out.far hne _ _).far hne _ _).far hne _ _)
  have D6 := Lib.hid (show Boxed (((w5.setCell ⟨p6, 2, none⟩ (.int .i64 (c1 : Int))).setCell ⟨p6, 3, none⟩ (.int .i64 (c2 : Int))).setCell ⟨p6, 4, none⟩ (.int .i64 (l2 : Int))) p6 #[.string ⟨U.toArray⟩, .string ⟨T.toArray⟩, .int .i64 (c1 : Int), .int .i64 (c2 : Int), .int .i64 (l2 : Int), .int .i64 0, .int .i64 0] from ((D4.out.set 2 _ (by simp)).set 3 _ (by simp)).set 4 _ (by simp))
  clear d0 d1 d2 d3 d4 d5 d6 df0 df1 df2 df3 df4 df5 df6 dl W4 B4 D4
  generalize ((w5.setCell ⟨p6, 2, none⟩ (.int .i64 (c1 : Int))).setCell ⟨p6, 3, none⟩ (.int .i64 (c2 : Int))).setCell ⟨p6, 4, none⟩ (.int .i64 (l2 : Int)) = w7 at *
  refine (C6.out _ W6.out).mono ?_
  rintro e w8 ⟨rfl, _, _, hcell, hb⟩
  have W8 := Lib.hid (blw_trans W6.out hb)
  have B8 := Lib.hid (B6.out.below hb)
  have D8 := Lib.hid (D6.out.below hb)
  have q1 := hcell J1 LP hLP
  have q2 := hcell J2 PP hPP
  have hlt7 := hb.size
  have hpq : ¬ p6 = w7.heap.size := by have := D6.out.lt; omega
  have hpq' : ¬ w7.heap.size = p6 := by omega
  clear hb W6 B6 D6 C6 hcell hlt7
  generalize w7.heap.size = q at *
  have d0 : w8.cell? ⟨p6, 0, none⟩ = some (.string ⟨U.toArray⟩) := D8.out.cell 0 _ rfl
  have df0 := D8.out.free 0 (by simp)
  have d1 : w8.cell? ⟨p6, 1, none⟩ = some (.string ⟨T.toArray⟩) := D8.out.cell 1 _ rfl
  have df1 := D8.out.free 1 (by simp)
  have d2 : w8.cell? ⟨p6, 2, none⟩ = some (.int .i64 (c1 : Int)) := D8.out.cell 2 _ rfl
  have df2 := D8.out.free 2 (by simp)
  have d3 : w8.cell? ⟨p6, 3, none⟩ = some (.int .i64 (c2 : Int)) := D8.out.cell 3 _ rfl
  have df3 := D8.out.free 3 (by simp)
  have d4 : w8.cell? ⟨p6, 4, none⟩ = some (.int .i64 (l2 : Int)) := D8.out.cell 4 _ rfl
  have df4 := D8.out.free 4 (by simp)
  have d5 : w8.cell? ⟨p6, 5, none⟩ = some (.int .i64 0) := D8.out.cell 5 _ rfl
  have df5 := D8.out.free 5 (by simp)
  have d6 : w8.cell? ⟨p6, 6, none⟩ = some (.int .i64 0) := D8.out.cell 6 _ rfl
  have df6 := D8.out.free 6 (by simp)
  have dl := D8.out.lt
  go_wp2_with fail
  have W9 := Lib.hid (show Below w.heap.size w ((w8.setCell ⟨p6, 5, none⟩ (.int .i64 (GL : Int))).setCell ⟨p6, 6, none⟩ (.int .i64 (GP : Int))) from ((W8.out.setCell HP.out _).setCell HP.out _))
  have B9 := Lib.hid (show Boxed ((w8.setCell ⟨p6, 5, none⟩ (.int .i64 (GL : Int))).setCell ⟨p6, 6, none⟩ (.int .i64 (GP : Int))) w.heap.size _ from ((B8.out.far hne _ _).far hne _ _))
  have D9 := Lib.hid (show Boxed ((w8.setCell ⟨p6, 5, none⟩ (.int .i64 (GL : Int))).setCell ⟨p6, 6, none⟩ (.int .i64 (GP : Int))) p6 #[.string ⟨U.toArray⟩, .string ⟨T.toArray⟩, .int .i64 (c1 : Int), .int .i64 (c2 : Int), .int .i64 (l2 : Int), .int .i64 (GL : Int), .int .i64 (GP : Int)] from ((D8.out.set 5 _ (by simp)).set 6 _ (by simp)))
  clear d0 d1 d2 d3 d4 d5 d6 df0 df1 df2 df3 df4 df5 df6 dl W8 B8 D8
  generalize ((w8.setCell ⟨p6, 5, none⟩ (.int .i64 (GL : Int))).setCell ⟨p6, 6, none⟩ (.int .i64 (GP : Int))) = w9 at *
  by_cases hE : Nt.patE QQ = 0
  · have HE := Lib.hid hE
    refine ((C8.out _ HE.out).mono ?_)
    rintro e wa ⟨rfl, hb⟩
    have WA := Lib.hid (blw_trans W9.out hb)
    have BA := Lib.hid (B9.out.below hb)
    have DA := Lib.hid (D9.out.below hb)
    clear hb hE
    have d0 : wa.cell? ⟨p6, 0, none⟩ = some (.string ⟨U.toArray⟩) := DA.out.cell 0 _ rfl
    have df0 := DA.out.free 0 (by simp)
    have d1 : wa.cell? ⟨p6, 1, none⟩ = some (.string ⟨T.toArray⟩) := DA.out.cell 1 _ rfl
    have df1 := DA.out.free 1 (by simp)
    have d2 : wa.cell? ⟨p6, 2, none⟩ = some (.int .i64 (c1 : Int)) := DA.out.cell 2 _ rfl
    have df2 := DA.out.free 2 (by simp)
    have d3 : wa.cell? ⟨p6, 3, none⟩ = some (.int .i64 (c2 : Int)) := DA.out.cell 3 _ rfl
    have df3 := DA.out.free 3 (by simp)
    have d4 : wa.cell? ⟨p6, 4, none⟩ = some (.int .i64 (l2 : Int)) := DA.out.cell 4 _ rfl
    have df4 := DA.out.free 4 (by simp)
    have d5 : wa.cell? ⟨p6, 5, none⟩ = some (.int .i64 (GL : Int)) := DA.out.cell 5 _ rfl
    have df5 := DA.out.free 5 (by simp)
    have d6 : wa.cell? ⟨p6, 6, none⟩ = some (.int .i64 (GP : Int)) := DA.out.cell 6 _ rfl
    have df6 := DA.out.free 6 (by simp)
    have dl := DA.out.lt
    have y0 : wa.cell? ⟨w.heap.size, 0, none⟩ = some (.string ⟨#[]⟩) := BA.out.cell 0 _ rfl
    have yf0 := BA.out.free 0 (by simp)
    have y1 : wa.cell? ⟨w.heap.size, 1, none⟩ = some (.string ⟨#[]⟩) := BA.out.cell 1 _ rfl
    have yf1 := BA.out.free 1 (by simp)
    have y2 : wa.cell? ⟨w.heap.size, 2, none⟩ = some (.int .i64 0) := BA.out.cell 2 _ rfl
    have yf2 := BA.out.free 2 (by simp)
    have y3 : wa.cell? ⟨w.heap.size, 3, none⟩ = some (.int .i64 0) := BA.out.cell 3 _ rfl
    have yf3 := BA.out.free 3 (by simp)
    have y4 : wa.cell? ⟨w.heap.size, 4, none⟩ = some (.int .i64 0) := BA.out.cell 4 _ rfl
    have yf4 := BA.out.free 4 (by simp)
    have y5 : wa.cell? ⟨w.heap.size, 5, none⟩ = some (.int .i64 0) := BA.out.cell 5 _ rfl
    have yf5 := BA.out.free 5 (by simp)
    have y6 : wa.cell? ⟨w.heap.size, 6, none⟩ = some (.int .i64 0) := BA.out.cell 6 _ rfl
    have yf6 := BA.out.free 6 (by simp)
    have yl := BA.out.lt
    generalize hX : Nt.patT QQ = X at *
    have HX := Lib.hid hX
    clear hX
    by_cases hq : X = s
    · have q1 : (X == s) = true := by rw [hq]; simp
      have q2 : (X != s) = false := by rw [bne, q1]; rfl
      have HH := Lib.hid (HX.out.trans hq)
      clear hq
      go_wp2_with fail
      refine bodyPost_ret (v := .tuple #[.agg #[.string ⟨U.toArray⟩, .string ⟨T.toArray⟩, .int .i64 (c1 : Int), .int .i64 (c2 : Int), .int .i64 (l2 : Int), .int .i64 (GL : Int), .int .i64 (GP : Int)], .nilIface]) (by simp [results, Tryd.results6, go_sem, y0, y1, y2, y3, y4, y5, y6]) rfl ?_
      exact ⟨some QQ, .inr ⟨rfl, HE.out, HH.out⟩, by rw [HQ.out]; rfl, by repeat (first | with_reducible exact WA.out | refine Below.setCell ?_ (by simp) _)⟩
    · have q1 : (X == s) = false := beq_eq_false_iff_ne.2 hq
      have q2 : (X != s) = true := by rw [bne, q1]; rfl
      have HH := Lib.hid (fun e => hq (HX.out.symm.trans e))
      clear hq
      go_wp2_with fail
      refine bodyPost_ret (v := .tuple #[.agg #[.string ⟨#[]⟩, .string ⟨#[]⟩, .int .i64 0, .int .i64 0, .int .i64 0, .int .i64 0, .int .i64 0], errV 3]) (by simp [results, Tryd.results6, go_sem, y0, y1, y2, y3, y4, y5, y6]) rfl ?_
      exact ⟨none, .inl ⟨rfl, .inr HH.out⟩, rfl, by repeat (first | with_reducible exact WA.out | refine Below.setCell ?_ (by simp) _)⟩
  · have HE := Lib.hid hE
    refine ((C7.out _ HE.out).mono ?_)
    rintro e wa ⟨rfl, hb⟩
    have WA := Lib.hid (blw_trans W9.out hb)
    have BA := Lib.hid (B9.out.below hb)
    have hev : errN (Nt.patE QQ) = errV (Nt.patE QQ) := if_neg hE
    rw [hev]
    generalize Nt.patE QQ = EE
    clear hb hE hev
    have y0 : wa.cell? ⟨w.heap.size, 0, none⟩ = some (.string ⟨#[]⟩) := BA.out.cell 0 _ rfl
    have yf0 := BA.out.free 0 (by simp)
    have y1 : wa.cell? ⟨w.heap.size, 1, none⟩ = some (.string ⟨#[]⟩) := BA.out.cell 1 _ rfl
    have yf1 := BA.out.free 1 (by simp)
    have y2 : wa.cell? ⟨w.heap.size, 2, none⟩ = some (.int .i64 0) := BA.out.cell 2 _ rfl
    have yf2 := BA.out.free 2 (by simp)
    have y3 : wa.cell? ⟨w.heap.size, 3, none⟩ = some (.int .i64 0) := BA.out.cell 3 _ rfl
    have yf3 := BA.out.free 3 (by simp)
    have y4 : wa.cell? ⟨w.heap.size, 4, none⟩ = some (.int .i64 0) := BA.out.cell 4 _ rfl
    have yf4 := BA.out.free 4 (by simp)
    have y5 : wa.cell? ⟨w.heap.size, 5, none⟩ = some (.int .i64 0) := BA.out.cell 5 _ rfl
    have yf5 := BA.out.free 5 (by simp)
    have y6 : wa.cell? ⟨w.heap.size, 6, none⟩ = some (.int .i64 0) := BA.out.cell 6 _ rfl
    have yf6 := BA.out.free 6 (by simp)
    have yl := BA.out.lt
    go_wp2_with fail
    refine bodyPost_ret (v := .tuple #[.agg #[.string ⟨#[]⟩, .string ⟨#[]⟩, .int .i64 0, .int .i64 0, .int .i64 0, .int .i64 0, .int .i64 0], errV 3]) (by simp [results, Tryd.results6, go_sem, y0, y1, y2, y3, y4, y5, y6]) rfl ?_
    exact ⟨none, .inl ⟨rfl, .inl HE.out⟩, rfl, by repeat (first | with_reducible exact WA.out | refine Below.setCell ?_ (by simp) _)⟩
theorem split_ends (s : List UInt8) (c : UInt8) : 0 < (Lib.split s [c]).length ∧ (Lib.split s [c]).length ≤ s.length + 1 := by
  have h1 : 1 ≤ (⟨#[c]⟩ : ByteArray).size := Nat.le_refl 1
  have hz : (⟨s.toArray⟩ : ByteArray).size = s.length := size_mkl s
  have hd : (Lib.splitB ⟨#[c]⟩ 0 (Lib.countB ⟨s.toArray⟩ ⟨#[c]⟩) ⟨s.toArray⟩).map (·.data.toList) = Lib.split s [c] := by rw [Lib.splitB_data]; rfl
  have hlen := Lib.splitB_all ⟨#[c]⟩ h1 0 (Lib.countB ⟨s.toArray⟩ ⟨#[c]⟩) ⟨s.toArray⟩ rfl
  have hle := Lib.countB_le ⟨#[c]⟩ h1 s.length ⟨s.toArray⟩ (by rw [hz]; omega)
  rw [hz] at hle
  rw [← hd, List.length_map, hlen]
  omega
theorem cut_ends (m : List UInt8) : (Lib.cut m [46]).1.length ≤ m.length ∧ (Lib.cut m [46]).2.1.length ≤ m.length := by
  unfold Lib.cut
  split
  · exact ⟨by rw [List.length_take]; omega, by rw [List.length_drop]; omega⟩
  · simp
/-- npat.Parse: the pattern of a text, if there is one -/
theorem npar_any (s : List UInt8) (w : World) (hT : Lib.Utf8Tabs 2 3 w) (hM : MaxW w) (hs : s.length ≤ 1000000000) :
    Calls Tryd.prog 6 #[.string ⟨s.toArray⟩] w fun e w' => ∃ r, Nt.Par s r ∧ e = .returned (.tuple #[Nt.patV r, Nt.parE r]) ∧ Below w.heap.size w w' := by
  obtain ⟨V, hV⟩ := Nt.last_is s
  rcases Nt.ends_at hV with ⟨he, hi⟩ | ⟨a, b, hi, he, hab, hbs⟩
  · exact (parse_bad s w hT (by omega) V hV hi he).mono fun e w' h => ⟨none, Nt.par_none hV hi, h⟩
  · have hmi : ((s.take b).drop a).length ≤ s.length := by simp; omega
    have hu : (s.take a).length ≤ 1000000000 ∧ (s.drop b).length ≤ 1000000000 := by simp; omega
    have hce := cut_ends ((s.take b).drop a)
    have hse := split_ends (Lib.cut ((s.take b).drop a) [46]).1 44
    have fin : ∀ r : Option Nt.Pt, (r = none ∧ (Nt.patE (Nt.candP s a b) ≠ 0 ∨ Nt.patT (Nt.candP s a b) ≠ s) ∨ r = some (Nt.candP s a b) ∧ Nt.patE (Nt.candP s a b) = 0 ∧ Nt.patT (Nt.candP s a b) = s) → Nt.Par s r := by
      rintro r (⟨rfl, h⟩ | ⟨rfl, h1, h2⟩)
      · exact Nt.par_cand hV hi he h
      · exact ⟨h1, h2⟩
    obtain ⟨WH, BE, fd, hc⟩ : ∃ A B C, Lib.cut ((s.take b).drop a) [46] = (A, B, C) := ⟨_, _, _, rfl⟩
    rw [hc] at hce hse
    dsimp only at hce hse
    by_cases k1 : (Lib.split WH [44]).length = 1
    · have e : Nt.candP s a b = ⟨s.take a, s.drop b, (Lib.countByte WH 48 : Nat), (Lib.countByte BE 48 : Nat), (BE.length : Nat), 0, 0⟩ := by
        unfold Nt.candP Nt.gOf Nt.g2Of; rw [hc]; dsimp only; rw [if_neg (by omega), if_neg (by omega)]; rfl
      rw [e] at fin
      exact (parse_one s _ _ _ WH BE fd _ a b _ _ _ w hT hM (by omega) V hV hi he hab hbs rfl rfl rfl hc rfl rfl rfl rfl (by omega) hu k1).mono fun _ _ ⟨r, h1, h2⟩ => ⟨r, fin r h1, h2⟩
    by_cases k2 : (Lib.split WH [44]).length = 2
    · have hLP : (Lib.split WH [44])[1]? = some ((Lib.split WH [44]).getD 1 []) := by rw [List.getD_eq_getElem?_getD, List.getElem?_eq_getElem (by omega)]; rfl
      have e : Nt.candP s a b = ⟨s.take a, s.drop b, (Lib.countByte WH 48 : Nat), (Lib.countByte BE 48 : Nat), (BE.length : Nat), (((Lib.split WH [44]).getD 1 []).length : Nat), 0⟩ := by
        unfold Nt.candP Nt.gOf Nt.g2Of; rw [hc]; dsimp only; rw [if_pos (by omega), if_neg (by omega), k2]; rfl
      rw [e] at fin
      exact (parse_two s _ _ _ WH BE fd _ _ a b _ _ _ _ w hT hM (by omega) V hV hi he hab hbs rfl rfl rfl hc rfl rfl rfl rfl (by omega) hu k2 hLP rfl).mono fun _ _ ⟨r, h1, h2⟩ => ⟨r, fin r h1, h2⟩
    · have hLP : (Lib.split WH [44])[(Lib.split WH [44]).length - 1]? = some ((Lib.split WH [44]).getD ((Lib.split WH [44]).length - 1) []) := by rw [List.getD_eq_getElem?_getD, List.getElem?_eq_getElem (by omega)]; rfl
      have hPP : (Lib.split WH [44])[(Lib.split WH [44]).length - 2]? = some ((Lib.split WH [44]).getD ((Lib.split WH [44]).length - 2) []) := by rw [List.getD_eq_getElem?_getD, List.getElem?_eq_getElem (by omega)]; rfl
      have e : Nt.candP s a b = ⟨s.take a, s.drop b, (Lib.countByte WH 48 : Nat), (Lib.countByte BE 48 : Nat), (BE.length : Nat), (((Lib.split WH [44]).getD ((Lib.split WH [44]).length - 1) []).length : Nat), (((Lib.split WH [44]).getD ((Lib.split WH [44]).length - 2) []).length : Nat)⟩ := by
        unfold Nt.candP Nt.gOf Nt.g2Of; rw [hc]; dsimp only; rw [if_pos (by omega), if_pos (by omega)]
      rw [e] at fin
      exact (parse_more s _ _ _ WH BE fd _ _ _ a b _ _ _ _ _ w hT hM (by omega) V hV hi he hab hbs rfl rfl rfl hc rfl rfl rfl rfl (by omega) hu _ _ _ rfl (by omega) ⟨rfl, rfl⟩ hLP hPP rfl rfl).mono fun _ _ ⟨r, h1, h2⟩ => ⟨r, fin r h1, h2⟩
end Go.Proofs.YtjakpdfonnpchaaDoor
