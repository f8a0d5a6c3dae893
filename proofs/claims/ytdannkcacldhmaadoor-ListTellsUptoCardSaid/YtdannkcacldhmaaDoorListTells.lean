/- The walk of the law ListTells: it returns true of whatever texts, where they are not too great. -/
import Derived.Test.YtdannkcacldhmaaDoorList
import Derived.Test.YtdannkcacldhmaaDoorCut
import Derived.Test.YtdannkcacldhmaaDoorAs
namespace Go.Proofs.YtdannkcacldhmaaDoor
open Go.RowKit

theorem ljoin_fact (w : World) (v : Value) (h : StrsAt w v [[97], [98], [99]]) : Calls Tryd.prog 16 #[v, .string ⟨#[38]⟩, .string ⟨#[44]⟩, .string ⟨#[59]⟩] w fun e w' => e = .returned (.string ⟨#[97, 44, 98, 59, 99]⟩) ∧ Below w.heap.size w w' := by
  have c := ljoin_more [[97], [98]] [99] v [38] [44] [59] w h (by decide) (by decide) (by decide) (by decide)
  exact c
theorem abc_at (w : World) : StrsAt (w.alloc (.cells #[.string ⟨#[97]⟩, .string ⟨#[98]⟩, .string ⟨#[99]⟩] 9)) (.slice (some ⟨w.heap.size, 0, none⟩) 3 3) [[97], [98], [99]] := by
  refine .inr ⟨w.heap.size, 0, 3, rfl, by decide, by decide, by decide, fun j x hx => ?_⟩
  have hj : j < 3 := (List.getElem?_eq_some_iff.1 hx).1
  have h3 : j = 0 ∨ j = 1 ∨ j = 2 := by omega
  rcases h3 with rfl | rfl | rfl <;> (simp at hx; subst hx; simp)
/-- the listed handle, and the library's variable -/
structure TL (w : World) : Prop where
  h : HanW w
  m : ∃ m, w.cell? ⟨1, 0, none⟩ = some (.int .i64 m)
theorem StrsAt.shape {w : World} {v : Value} {l : List (List UInt8)} (h : StrsAt w v l) : ∃ a cap, v = .slice a l.length cap := by
  rcases h with ⟨rfl, a, cap, rfl⟩ | ⟨b, off, cap, rfl, _⟩
  · exact ⟨a, cap, rfl⟩
  · exact ⟨_, cap, rfl⟩
theorem StrsAt.cells {w : World} {b off n cap : Nat} {l : List (List UInt8)} (h : StrsAt w (.slice (some ⟨b, off, none⟩) n cap) l) (h0 : 0 < l.length) : l.length ≤ cap ∧ cap ≤ maxLen ∧ ∀ (j : Nat) x, l[j]? = some x → w.cell? ⟨b, off + j, none⟩ = some (.string ⟨x.toArray⟩) := by
  rcases h with ⟨rfl, _⟩ | ⟨b', off', cap', e, _, h3, h4, h5⟩
  · simp at h0
  · injection e with e1 e2 e3
    injection e1 with e1
    injection e1 with e4 e5
    subst e3 e4 e5
    exact ⟨h3, h4, h5⟩
theorem total_le (l : List (List UInt8)) (sep : List UInt8) (h : Lib.lens l + l.length + sep.length ≤ 1048576) : Lst.total l sep ≤ 2000000000000 := by
  have : sep.length * l.length ≤ 1048576 * 1048576 := Nat.mul_le_mul (by omega) (by omega)
  unfold Lst.total
  omega
theorem join_few (l : List (List UInt8)) (sep : List UInt8) (h : l.length < 2) : Lib.join l [] = Lib.join l sep := by
  match l, h with
  | [], _ => rfl
  | [x], _ => rw [Lib.join_one, Lib.join_one]
theorem TL.below {w w' : World} (h : TL w) (hb : Below w.heap.size w w') : TL w' := ⟨h.h.below hb, h.m.imp fun _ g => cell_keep g hb⟩
theorem TL.alloc {w : World} (h : TL w) (o : Obj) : TL (w.alloc o) := h.below (blw_alloc w o)
theorem TL.drewN {w : World} (h : TL w) (n : Nat) : TL (w.drewN n) := h.below (blw_drewN (Below.refl _ _) n)

set_option maxRecDepth 100000 in
set_option maxHeartbeats 1000000 in
theorem listTells_few_no (l : List (List UInt8)) (hn : l.length < 2) (a : Option Addr) (cap : Nat) (two last s : List UInt8) (w : World) (hT : TL w) (h : StrsAt w (.slice a l.length cap) l) (hb : Lib.lens l + l.length + two.length + last.length + s.length ≤ 1048576)  :
    Calls Tryd.prog 6 #[.slice a l.length cap, .string ⟨two.toArray⟩, .string ⟨#[]⟩, .string ⟨last.toArray⟩, .string ⟨s.toArray⟩] w fun e w' => e = .returned (.bool true) ∧ Below w.heap.size w w' := by
  have tt := total_le l [] (by first | omega | (simp only [List.length_nil]; omega))
  have CF := Lib.hid fun w h => ljoin_few l (.slice a l.length cap) two [] last w h hn (by omega)
  have CJ := Lib.hid fun w h => joined_any l (.slice a l.length cap) [] w h (by omega) tt (by first | omega | (simp only [List.length_nil]; omega))
  rw [join_few l [] hn] at CF
  have CC := Lib.hid fun w => lcount_no ⟨s.toArray⟩ w
  have CE := Lib.hid fun w (hT : TL w) => sameErr_yes (ErrNo.no 3) w hT.h
  have jl := Nat.le_trans (Lst.join_le l []) tt
  generalize Lib.join l [] = J at *
  clear tt hb
  go_enter Tryd.func6, Tryd.ntmps6
  go_wp2_with fail
  refine (ljoin_fact _ _ (abc_at w)).mono ?_
  rintro e w1 ⟨rfl, hb⟩
  have T1 := (hT.alloc _).below hb
  have B1_abc := Boxed.below (Boxed.made _ #[.string ⟨#[97]⟩, .string ⟨#[98]⟩, .string ⟨#[99]⟩] 9) hb
  have W1 := Lib.hid (blw_trans (blw_trans (Below.refl w.heap.size w) (blw_alloc _ _)) hb)
  have H1 := Lib.hid ((h.alloc _).below hb)
  clear hb 
  go_wp2_with fail
  refine (CJ.out _ H1.out).mono ?_
  rintro e w' ⟨rfl, rfl⟩
  go_wp2_with fail
  refine (CC.out _).mono ?_
  rintro e w2 ⟨rfl, hb⟩
  have T2 := T1.below hb
  have B2_abc := B1_abc.below hb
  have W2 := Lib.hid (blw_trans W1.out hb)
  have H2 := Lib.hid (H1.out.below hb)
  clear hb T1 B1_abc W1
  go_wp2_with fail
  refine (CE.out _ (by exact T2)).mono ?_
  rintro e w3 ⟨rfl, hb⟩
  have T3 := T2.below hb
  have B3_abc := B2_abc.below hb
  have W3 := Lib.hid (blw_trans W2.out hb)
  have H3 := Lib.hid (H2.out.below hb)
  clear hb T2 B2_abc W2
  go_wp2_with fail
  refine (CF.out _ H3.out).mono ?_
  rintro e w4 ⟨rfl, hb⟩
  have T4 := T3.below hb
  have B4_abc := B3_abc.below hb
  have W4 := Lib.hid (blw_trans W3.out hb)
  clear hb T3 B3_abc W3
  clear T4 B4_abc
  go_wp2
  go_ret
  exact ⟨ret_bool (by simp), W4.out⟩

set_option maxRecDepth 100000 in
set_option maxHeartbeats 1000000 in
theorem listTells_few_yes (l : List (List UInt8)) (hn : l.length < 2) (a : Option Addr) (cap : Nat) (two sep last s : List UInt8) (w : World) (hT : TL w) (h : StrsAt w (.slice a l.length cap) l) (hb : Lib.lens l + l.length + two.length + sep.length + last.length + s.length ≤ 1048576) (hs : sep ≠ []) :
    Calls Tryd.prog 6 #[.slice a l.length cap, .string ⟨two.toArray⟩, .string ⟨sep.toArray⟩, .string ⟨last.toArray⟩, .string ⟨s.toArray⟩] w fun e w' => e = .returned (.bool true) ∧ Below w.heap.size w w' := by
  have tt := total_le l sep (by first | omega | (simp only [List.length_nil]; omega))
  have CF := Lib.hid fun w h => ljoin_few l (.slice a l.length cap) two sep last w h hn (by omega)
  have CJ := Lib.hid fun w h => joined_any l (.slice a l.length cap) sep w h (by omega) tt (by first | omega | (simp only [List.length_nil]; omega))
  rw [join_few l sep hn] at CF
  have CX := Lib.hid fun w => cut_any s sep w hs (by omega) (by omega)
  have CC := Lib.hid fun m w hm => lcount_yes s sep m w hm hs (by omega)
  have CE := Lib.hid fun w (hT : TL w) => sameErr_yes ErrNo.nil w hT.h
  have ne : (sep == []) = false := beq_eq_false_iff_ne.2 hs
  have ne2 : sep.isEmpty = false := List.isEmpty_eq_false_iff.2 hs
  have jl := Nat.le_trans (Lst.join_le l sep) tt
  generalize Lib.join l sep = J at *
  clear tt hb hs
  go_enter Tryd.func6, Tryd.ntmps6
  go_wp2_with fail
  refine (ljoin_fact _ _ (abc_at w)).mono ?_
  rintro e w1 ⟨rfl, hb⟩
  have T1 := (hT.alloc _).below hb
  have B1_abc := Boxed.below (Boxed.made _ #[.string ⟨#[97]⟩, .string ⟨#[98]⟩, .string ⟨#[99]⟩] 9) hb
  have W1 := Lib.hid (blw_trans (blw_trans (Below.refl w.heap.size w) (blw_alloc _ _)) hb)
  have H1 := Lib.hid ((h.alloc _).below hb)
  clear hb 
  go_wp2_with fail
  refine (CJ.out _ H1.out).mono ?_
  rintro e w' ⟨rfl, rfl⟩
  go_wp2_with fail
  refine (CX.out _).mono ?_
  rintro e w2 ⟨u, rfl, hS, hb⟩
  have T2 := T1.below hb
  have B2_abc := B1_abc.below hb
  have W2 := Lib.hid (blw_trans W1.out hb)
  have H2 := Lib.hid (H1.out.below hb)
  obtain ⟨ua, uc, rfl⟩ := hS.shape
  clear hS
  clear hb T1 B1_abc W1
  obtain ⟨m, hm'⟩ := T2.m
  go_wp2_with fail
  refine (CC.out m _ hm').mono ?_
  rintro e w' ⟨rfl, rfl⟩
  clear hm'
  go_wp2_with fail
  refine (CE.out _ (by exact T2)).mono ?_
  rintro e w3 ⟨rfl, hb⟩
  have T3 := T2.below hb
  have B3_abc := B2_abc.below hb
  have W3 := Lib.hid (blw_trans W2.out hb)
  have H3 := Lib.hid (H2.out.below hb)
  clear hb T2 B2_abc W2
  go_wp2_with fail
  refine (CF.out _ H3.out).mono ?_
  rintro e w4 ⟨rfl, hb⟩
  have T4 := T3.below hb
  have B4_abc := B3_abc.below hb
  have W4 := Lib.hid (blw_trans W3.out hb)
  clear hb T3 B3_abc W3
  clear T4 B4_abc
  go_wp2
  go_ret
  exact ⟨ret_bool (by simp), W4.out⟩

set_option maxRecDepth 100000 in
set_option maxHeartbeats 1000000 in
theorem listTells_two_no (x y : List UInt8) (b off cap : Nat) (two last s : List UInt8) (w : World) (hT : TL w) (h : StrsAt w (.slice (some ⟨b, off, none⟩) 2 cap) [x, y]) (hb : Lib.lens [x, y] + [x, y].length + two.length + last.length + s.length ≤ 1048576)  :
    Calls Tryd.prog 6 #[.slice (some ⟨b, off, none⟩) 2 cap, .string ⟨two.toArray⟩, .string ⟨#[]⟩, .string ⟨last.toArray⟩, .string ⟨s.toArray⟩] w fun e w' => e = .returned (.bool true) ∧ Below w.heap.size w w' := by
  have tt := total_le [x, y] [] (by first | omega | (simp only [List.length_nil]; omega))
  simp only [List.length_cons, List.length_nil] at hb
  have CF := Lib.hid fun w h => ljoin_two x y (.slice (some ⟨b, off, none⟩) 2 cap) two [] last w h (by omega) (by omega)
  have CJ := Lib.hid fun w h => joined_any [x, y] (.slice (some ⟨b, off, none⟩) 2 cap) [] w h (by simp) tt (by first | omega | (simp only [List.length_nil]; omega))
  have CC := Lib.hid fun w => lcount_no ⟨s.toArray⟩ w
  have CE := Lib.hid fun w (hT : TL w) => sameErr_yes (ErrNo.no 3) w hT.h
  obtain ⟨hc, hm, hcell⟩ := h.cells (by simp)
  have K0 := Lib.hid (hcell 0 _ rfl)
  have K1 := Lib.hid (hcell 1 _ rfl)
  clear hcell
  unfold maxLen at hm
  simp at hc
  have xl := Lst.lens_at [x, y] 0 x rfl
  have yl := Lst.lens_at [x, y] 1 y rfl
  have A1 := fun w => add_str (P := Tryd.prog) x two (by omega) w
  have A2 := fun w => add_str (P := Tryd.prog) (x ++ two) y (by rw [List.length_append]; omega) w
  generalize hJ : Lib.join [x, y] [] = J at *
  clear hJ
  clear tt hb
  go_enter Tryd.func6, Tryd.ntmps6
  go_wp2_with fail
  refine (ljoin_fact _ _ (abc_at w)).mono ?_
  rintro e w1 ⟨rfl, hb⟩
  have T1 := (hT.alloc _).below hb
  have B1_abc := Boxed.below (Boxed.made _ #[.string ⟨#[97]⟩, .string ⟨#[98]⟩, .string ⟨#[99]⟩] 9) hb
  have W1 := Lib.hid (blw_trans (blw_trans (Below.refl w.heap.size w) (blw_alloc _ _)) hb)
  have H1 := Lib.hid ((h.alloc _).below hb)
  have k0 := cell_keep (cell_keep K0.out (blw_alloc _ _)) hb
  have k1 := cell_keep (cell_keep K1.out (blw_alloc _ _)) hb
  simp only [Nat.add_zero] at k0
  clear hb 
  go_wp2_with fail
  refine (CJ.out _ H1.out).mono ?_
  rintro e w' ⟨rfl, rfl⟩
  go_wp2_with fail
  go_big_quiet (fail)
  go_wp2_with fail
  refine (CC.out _).mono ?_
  rintro e w2 ⟨rfl, hb⟩
  clear k0 k1
  have T2 := (T1.drewN _).below hb
  have B2_abc := (Boxed.drewN B1_abc _).below hb
  have W2 := Lib.hid (blw_trans (blw_drewN W1.out _) hb)
  have H2 := Lib.hid ((H1.out.drewN _).below hb)
  clear hb T1 B1_abc W1
  go_wp2_with fail
  refine (CE.out _ (by exact T2)).mono ?_
  rintro e w3 ⟨rfl, hb⟩
  have T3 := T2.below hb
  have B3_abc := B2_abc.below hb
  have W3 := Lib.hid (blw_trans W2.out hb)
  have H3 := Lib.hid (H2.out.below hb)
  clear hb T2 B2_abc W2
  go_wp2_with fail
  refine (CF.out _ H3.out).mono ?_
  rintro e w4 ⟨rfl, hb⟩
  have T4 := T3.below hb
  have B4_abc := B3_abc.below hb
  have W4 := Lib.hid (blw_trans W3.out hb)
  clear hb T3 B3_abc W3
  clear T4 B4_abc
  go_wp2
  go_ret
  exact ⟨ret_bool (by simp), W4.out⟩

set_option maxRecDepth 100000 in
set_option maxHeartbeats 1000000 in
theorem listTells_two_yes (x y : List UInt8) (b off cap : Nat) (two sep last s : List UInt8) (w : World) (hT : TL w) (h : StrsAt w (.slice (some ⟨b, off, none⟩) 2 cap) [x, y]) (hb : Lib.lens [x, y] + [x, y].length + two.length + sep.length + last.length + s.length ≤ 1048576) (hs : sep ≠ []) :
    Calls Tryd.prog 6 #[.slice (some ⟨b, off, none⟩) 2 cap, .string ⟨two.toArray⟩, .string ⟨sep.toArray⟩, .string ⟨last.toArray⟩, .string ⟨s.toArray⟩] w fun e w' => e = .returned (.bool true) ∧ Below w.heap.size w w' := by
  have tt := total_le [x, y] sep (by first | omega | (simp only [List.length_nil]; omega))
  simp only [List.length_cons, List.length_nil] at hb
  have CF := Lib.hid fun w h => ljoin_two x y (.slice (some ⟨b, off, none⟩) 2 cap) two sep last w h (by omega) (by omega)
  have CJ := Lib.hid fun w h => joined_any [x, y] (.slice (some ⟨b, off, none⟩) 2 cap) sep w h (by simp) tt (by first | omega | (simp only [List.length_nil]; omega))
  have CX := Lib.hid fun w => cut_any s sep w hs (by omega) (by omega)
  have CC := Lib.hid fun m w hm => lcount_yes s sep m w hm hs (by omega)
  have CE := Lib.hid fun w (hT : TL w) => sameErr_yes ErrNo.nil w hT.h
  have ne : (sep == []) = false := beq_eq_false_iff_ne.2 hs
  have ne2 : sep.isEmpty = false := List.isEmpty_eq_false_iff.2 hs
  obtain ⟨hc, hm, hcell⟩ := h.cells (by simp)
  have K0 := Lib.hid (hcell 0 _ rfl)
  have K1 := Lib.hid (hcell 1 _ rfl)
  clear hcell
  unfold maxLen at hm
  simp at hc
  have xl := Lst.lens_at [x, y] 0 x rfl
  have yl := Lst.lens_at [x, y] 1 y rfl
  have A1 := fun w => add_str (P := Tryd.prog) x two (by omega) w
  have A2 := fun w => add_str (P := Tryd.prog) (x ++ two) y (by rw [List.length_append]; omega) w
  generalize hJ : Lib.join [x, y] sep = J at *
  clear hJ
  clear tt hb hs
  go_enter Tryd.func6, Tryd.ntmps6
  go_wp2_with fail
  refine (ljoin_fact _ _ (abc_at w)).mono ?_
  rintro e w1 ⟨rfl, hb⟩
  have T1 := (hT.alloc _).below hb
  have B1_abc := Boxed.below (Boxed.made _ #[.string ⟨#[97]⟩, .string ⟨#[98]⟩, .string ⟨#[99]⟩] 9) hb
  have W1 := Lib.hid (blw_trans (blw_trans (Below.refl w.heap.size w) (blw_alloc _ _)) hb)
  have H1 := Lib.hid ((h.alloc _).below hb)
  have k0 := cell_keep (cell_keep K0.out (blw_alloc _ _)) hb
  have k1 := cell_keep (cell_keep K1.out (blw_alloc _ _)) hb
  simp only [Nat.add_zero] at k0
  clear hb 
  go_wp2_with fail
  refine (CJ.out _ H1.out).mono ?_
  rintro e w' ⟨rfl, rfl⟩
  go_wp2_with fail
  go_big_quiet (fail)
  go_wp2_with fail
  refine (CX.out _).mono ?_
  rintro e w2 ⟨u, rfl, hS, hb⟩
  clear k0 k1
  have T2 := (T1.drewN _).below hb
  have B2_abc := (Boxed.drewN B1_abc _).below hb
  have W2 := Lib.hid (blw_trans (blw_drewN W1.out _) hb)
  have H2 := Lib.hid ((H1.out.drewN _).below hb)
  obtain ⟨ua, uc, rfl⟩ := hS.shape
  clear hS
  clear hb T1 B1_abc W1
  obtain ⟨m, hm'⟩ := T2.m
  go_wp2_with fail
  refine (CC.out m _ hm').mono ?_
  rintro e w' ⟨rfl, rfl⟩
  clear hm'
  go_wp2_with fail
  refine (CE.out _ (by exact T2)).mono ?_
  rintro e w3 ⟨rfl, hb⟩
  have T3 := T2.below hb
  have B3_abc := B2_abc.below hb
  have W3 := Lib.hid (blw_trans W2.out hb)
  have H3 := Lib.hid (H2.out.below hb)
  clear hb T2 B2_abc W2
  go_wp2_with fail
  refine (CF.out _ H3.out).mono ?_
  rintro e w4 ⟨rfl, hb⟩
  have T4 := T3.below hb
  have B4_abc := B3_abc.below hb
  have W4 := Lib.hid (blw_trans W3.out hb)
  clear hb T3 B3_abc W3
  clear T4 B4_abc
  go_wp2
  go_ret
  exact ⟨ret_bool (by simp), W4.out⟩

set_option maxRecDepth 100000 in
set_option maxHeartbeats 1000000 in
theorem listTells_more_no (l : List (List UInt8)) (z : List UInt8) (hn : 2 ≤ l.length) (b off cap : Nat) (two last s : List UInt8) (w : World) (hT : TL w) (h : StrsAt w (.slice (some ⟨b, off, none⟩) (l.length + 1) cap) (l ++ [z])) (hb : Lib.lens (l ++ [z]) + (l ++ [z]).length + two.length + last.length + s.length ≤ 1048576)  :
    Calls Tryd.prog 6 #[.slice (some ⟨b, off, none⟩) (l.length + 1) cap, .string ⟨two.toArray⟩, .string ⟨#[]⟩, .string ⟨last.toArray⟩, .string ⟨s.toArray⟩] w fun e w' => e = .returned (.bool true) ∧ Below w.heap.size w w' := by
  have tt := total_le (l ++ [z]) [] (by first | omega | (simp only [List.length_nil]; omega))
  simp only [List.length_append, List.length_cons, List.length_nil] at hb
  have CF := Lib.hid fun w h => ljoin_more l z (.slice (some ⟨b, off, none⟩) (l.length + 1) cap) two [] last w h hn (by omega) tt (by omega)
  have CJ := Lib.hid fun w h => joined_any (l ++ [z]) (.slice (some ⟨b, off, none⟩) (l.length + 1) cap) [] w h (by simp; omega) tt (by first | omega | (simp only [List.length_nil]; omega))
  have CC := Lib.hid fun w => lcount_no ⟨s.toArray⟩ w
  have CE := Lib.hid fun w (hT : TL w) => sameErr_yes (ErrNo.no 3) w hT.h
  obtain ⟨hc, hm, hcell⟩ := h.cells (by simp)
  have hz : (l ++ [z])[l.length]? = some z := by simp
  have K0 := Lib.hid (hcell l.length z hz)
  have zl := Lst.lens_at (l ++ [z]) l.length z hz
  have tl : Lst.total l [] ≤ Lst.total (l ++ [z]) [] := by
    unfold Lst.total
    have g := Lst.lens_take (l ++ [z]) l.length
    rw [List.take_left] at g
    have : ([] : List UInt8).length * l.length ≤ ([] : List UInt8).length * (l ++ [z]).length := Nat.mul_le_mul_left _ (by simp)
    omega
  have jl := Nat.le_trans (Lst.join_le l []) (Nat.le_trans tl tt)
  have HL : StrsAt w (.slice (some ⟨b, off, none⟩) l.length cap) l := by
    refine .inr ⟨b, off, cap, rfl, by omega, by simp at hc; omega, hm, fun j x hx => hcell j x ?_⟩
    rw [List.getElem?_append_left (List.getElem?_eq_some_iff.1 hx).1]
    exact hx
  have CL := Lib.hid fun w h => joined_any l (.slice (some ⟨b, off, none⟩) l.length cap) [] w h (by omega) (Nat.le_trans tl tt) (by first | omega | (simp only [List.length_nil]; omega))
  clear hcell hz tl
  rw [List.length_append, List.length_singleton] at hc
  unfold maxLen at hm
  have hc2 : l.length ≤ cap := by omega
  have hlt1 : (l.length : Int) < (l.length : Int) + 1 := by omega
  have A1 := fun w => add_str (P := Tryd.prog) (Lib.join l []) last (by omega) w
  have A2 := fun w => add_str (P := Tryd.prog) (Lib.join l [] ++ last) z (by rw [List.length_append]; omega) w
  generalize Lib.join l [] = J at *
  generalize hJ : Lib.join (l ++ [z]) [] = JJ at *
  clear hJ
  clear tt hb
  go_enter Tryd.func6, Tryd.ntmps6
  go_wp2_with fail
  refine (ljoin_fact _ _ (abc_at w)).mono ?_
  rintro e w1 ⟨rfl, hb⟩
  have T1 := (hT.alloc _).below hb
  have B1_abc := Boxed.below (Boxed.made _ #[.string ⟨#[97]⟩, .string ⟨#[98]⟩, .string ⟨#[99]⟩] 9) hb
  have W1 := Lib.hid (blw_trans (blw_trans (Below.refl w.heap.size w) (blw_alloc _ _)) hb)
  have H1 := Lib.hid ((h.alloc _).below hb)
  have k0 := cell_keep (cell_keep K0.out (blw_alloc _ _)) hb
  have HL1 := Lib.hid ((HL.alloc _).below hb)
  clear hb 
  go_wp2_with fail
  refine (CJ.out _ H1.out).mono ?_
  rintro e w' ⟨rfl, rfl⟩
  go_wp2_with fail
  go_big_quiet ((go_at_call 17; exact quiet_left (CL.out _ (HL1.out.drewN _))))
  go_wp2_with fail
  refine (CC.out _).mono ?_
  rintro e w2 ⟨rfl, hb⟩
  clear k0
  have T2 := (T1.drewN _).below hb
  have B2_abc := (Boxed.drewN B1_abc _).below hb
  have W2 := Lib.hid (blw_trans (blw_drewN W1.out _) hb)
  have H2 := Lib.hid ((H1.out.drewN _).below hb)
  clear hb T1 B1_abc W1
  go_wp2_with fail
  refine (CE.out _ (by exact T2)).mono ?_
  rintro e w3 ⟨rfl, hb⟩
  have T3 := T2.below hb
  have B3_abc := B2_abc.below hb
  have W3 := Lib.hid (blw_trans W2.out hb)
  have H3 := Lib.hid (H2.out.below hb)
  clear hb T2 B2_abc W2
  go_wp2_with fail
  refine (CF.out _ H3.out).mono ?_
  rintro e w4 ⟨rfl, hb⟩
  have T4 := T3.below hb
  have B4_abc := B3_abc.below hb
  have W4 := Lib.hid (blw_trans W3.out hb)
  clear hb T3 B3_abc W3
  clear T4 B4_abc
  go_wp2
  go_ret
  exact ⟨ret_bool (by simp), W4.out⟩

set_option maxRecDepth 100000 in
set_option maxHeartbeats 1000000 in
theorem listTells_more_yes (l : List (List UInt8)) (z : List UInt8) (hn : 2 ≤ l.length) (b off cap : Nat) (two sep last s : List UInt8) (w : World) (hT : TL w) (h : StrsAt w (.slice (some ⟨b, off, none⟩) (l.length + 1) cap) (l ++ [z])) (hb : Lib.lens (l ++ [z]) + (l ++ [z]).length + two.length + sep.length + last.length + s.length ≤ 1048576) (hs : sep ≠ []) :
    Calls Tryd.prog 6 #[.slice (some ⟨b, off, none⟩) (l.length + 1) cap, .string ⟨two.toArray⟩, .string ⟨sep.toArray⟩, .string ⟨last.toArray⟩, .string ⟨s.toArray⟩] w fun e w' => e = .returned (.bool true) ∧ Below w.heap.size w w' := by
  have tt := total_le (l ++ [z]) sep (by first | omega | (simp only [List.length_nil]; omega))
  simp only [List.length_append, List.length_cons, List.length_nil] at hb
  have CF := Lib.hid fun w h => ljoin_more l z (.slice (some ⟨b, off, none⟩) (l.length + 1) cap) two sep last w h hn (by omega) tt (by omega)
  have CJ := Lib.hid fun w h => joined_any (l ++ [z]) (.slice (some ⟨b, off, none⟩) (l.length + 1) cap) sep w h (by simp; omega) tt (by first | omega | (simp only [List.length_nil]; omega))
  have CX := Lib.hid fun w => cut_any s sep w hs (by omega) (by omega)
  have CC := Lib.hid fun m w hm => lcount_yes s sep m w hm hs (by omega)
  have CE := Lib.hid fun w (hT : TL w) => sameErr_yes ErrNo.nil w hT.h
  have ne : (sep == []) = false := beq_eq_false_iff_ne.2 hs
  have ne2 : sep.isEmpty = false := List.isEmpty_eq_false_iff.2 hs
  obtain ⟨hc, hm, hcell⟩ := h.cells (by simp)
  have hz : (l ++ [z])[l.length]? = some z := by simp
  have K0 := Lib.hid (hcell l.length z hz)
  have zl := Lst.lens_at (l ++ [z]) l.length z hz
  have tl : Lst.total l sep ≤ Lst.total (l ++ [z]) sep := by
    unfold Lst.total
    have g := Lst.lens_take (l ++ [z]) l.length
    rw [List.take_left] at g
    have : (sep : List UInt8).length * l.length ≤ (sep : List UInt8).length * (l ++ [z]).length := Nat.mul_le_mul_left _ (by simp)
    omega
  have jl := Nat.le_trans (Lst.join_le l sep) (Nat.le_trans tl tt)
  have HL : StrsAt w (.slice (some ⟨b, off, none⟩) l.length cap) l := by
    refine .inr ⟨b, off, cap, rfl, by omega, by simp at hc; omega, hm, fun j x hx => hcell j x ?_⟩
    rw [List.getElem?_append_left (List.getElem?_eq_some_iff.1 hx).1]
    exact hx
  have CL := Lib.hid fun w h => joined_any l (.slice (some ⟨b, off, none⟩) l.length cap) sep w h (by omega) (Nat.le_trans tl tt) (by first | omega | (simp only [List.length_nil]; omega))
  clear hcell hz tl
  rw [List.length_append, List.length_singleton] at hc
  unfold maxLen at hm
  have hc2 : l.length ≤ cap := by omega
  have hlt1 : (l.length : Int) < (l.length : Int) + 1 := by omega
  have A1 := fun w => add_str (P := Tryd.prog) (Lib.join l sep) last (by omega) w
  have A2 := fun w => add_str (P := Tryd.prog) (Lib.join l sep ++ last) z (by rw [List.length_append]; omega) w
  generalize Lib.join l sep = J at *
  generalize hJ : Lib.join (l ++ [z]) sep = JJ at *
  clear hJ
  clear tt hb hs
  go_enter Tryd.func6, Tryd.ntmps6
  go_wp2_with fail
  refine (ljoin_fact _ _ (abc_at w)).mono ?_
  rintro e w1 ⟨rfl, hb⟩
  have T1 := (hT.alloc _).below hb
  have B1_abc := Boxed.below (Boxed.made _ #[.string ⟨#[97]⟩, .string ⟨#[98]⟩, .string ⟨#[99]⟩] 9) hb
  have W1 := Lib.hid (blw_trans (blw_trans (Below.refl w.heap.size w) (blw_alloc _ _)) hb)
  have H1 := Lib.hid ((h.alloc _).below hb)
  have k0 := cell_keep (cell_keep K0.out (blw_alloc _ _)) hb
  have HL1 := Lib.hid ((HL.alloc _).below hb)
  clear hb 
  go_wp2_with fail
  refine (CJ.out _ H1.out).mono ?_
  rintro e w' ⟨rfl, rfl⟩
  go_wp2_with fail
  go_big_quiet ((go_at_call 17; exact quiet_left (CL.out _ (HL1.out.drewN _))))
  go_wp2_with fail
  refine (CX.out _).mono ?_
  rintro e w2 ⟨u, rfl, hS, hb⟩
  clear k0
  have T2 := (T1.drewN _).below hb
  have B2_abc := (Boxed.drewN B1_abc _).below hb
  have W2 := Lib.hid (blw_trans (blw_drewN W1.out _) hb)
  have H2 := Lib.hid ((H1.out.drewN _).below hb)
  obtain ⟨ua, uc, rfl⟩ := hS.shape
  clear hS
  clear hb T1 B1_abc W1
  obtain ⟨m, hm'⟩ := T2.m
  go_wp2_with fail
  refine (CC.out m _ hm').mono ?_
  rintro e w' ⟨rfl, rfl⟩
  clear hm'
  go_wp2_with fail
  refine (CE.out _ (by exact T2)).mono ?_
  rintro e w3 ⟨rfl, hb⟩
  have T3 := T2.below hb
  have B3_abc := B2_abc.below hb
  have W3 := Lib.hid (blw_trans W2.out hb)
  have H3 := Lib.hid (H2.out.below hb)
  clear hb T2 B2_abc W2
  go_wp2_with fail
  refine (CF.out _ H3.out).mono ?_
  rintro e w4 ⟨rfl, hb⟩
  have T4 := T3.below hb
  have B4_abc := B3_abc.below hb
  have W4 := Lib.hid (blw_trans W3.out hb)
  clear hb T3 B3_abc W3
  clear T4 B4_abc
  go_wp2
  go_ret
  exact ⟨ret_bool (by simp), W4.out⟩

theorem listTells_any (l : List (List UInt8)) (a : Option Addr) (n cap : Nat) (two sep last s : ByteArray) (w : World) (hT : TL w) (h : StrsAt w (.slice a n cap) l) (hb : Lib.lens l + l.length + two.size + sep.size + last.size + s.size ≤ 1048576) :
    Calls Tryd.prog 6 #[.slice a n cap, .string two, .string sep, .string last, .string s] w fun e w' => e = .returned (.bool true) ∧ Below w.heap.size w w' := by
  obtain ⟨⟨two⟩⟩ := two
  obtain ⟨⟨sep⟩⟩ := sep
  obtain ⟨⟨last⟩⟩ := last
  obtain ⟨⟨s⟩⟩ := s
  have e : ∀ x : List UInt8, (⟨⟨x⟩⟩ : ByteArray).size = x.length := fun x => rfl
  rw [e, e, e, e] at hb
  have hv : ∃ a' cap', Value.slice a n cap = .slice a' l.length cap' := h.shape
  obtain ⟨a', cap', ev⟩ := hv
  injection ev with e1 e2 e3
  subst e1 e2 e3
  match l, h, hb with
  | [], h, hb =>
    by_cases hs : sep = []
    · subst hs; exact listTells_few_no [] (by simp) a cap two last s w hT h (by simpa using hb)
    · exact listTells_few_yes [] (by simp) a cap two sep last s w hT h hb hs
  | [x], h, hb =>
    by_cases hs : sep = []
    · subst hs; exact listTells_few_no [x] (by simp) a cap two last s w hT h (by simpa using hb)
    · exact listTells_few_yes [x] (by simp) a cap two sep last s w hT h hb hs
  | [x, y], h, hb =>
    rcases h with ⟨h, _⟩ | ⟨b, off, c, ev, h2, h3, h4, h5⟩
    · cases h
    injection ev with e1 e2 e3
    subst e1
    subst e3
    have h : StrsAt w (.slice (some ⟨b, off, none⟩) 2 cap) [x, y] := .inr ⟨b, off, cap, rfl, h2, h3, h4, h5⟩
    by_cases hs : sep = []
    · subst hs; exact listTells_two_no x y b off cap two last s w hT h (by simpa using hb)
    · exact listTells_two_yes x y b off cap two sep last s w hT h hb hs
  | x :: y :: z :: r, h, hb =>
    have hne : x :: y :: z :: r ≠ [] := by simp
    have el := List.dropLast_concat_getLast hne
    have hl : 2 ≤ ((x :: y :: z :: r).dropLast).length := by simp
    generalize (x :: y :: z :: r).dropLast = L at *
    generalize (x :: y :: z :: r).getLast hne = q at *
    rw [← el] at h hb ⊢
    rcases h with ⟨h, _⟩ | ⟨b, off, c, ev, h2, h3, h4, h5⟩
    · simp at h
    injection ev with e1 e2 e3
    subst e1
    subst e3
    have h : StrsAt w (.slice (some ⟨b, off, none⟩) (L.length + 1) cap) (L ++ [q]) := .inr ⟨b, off, cap, by rw [List.length_append, List.length_singleton], h2, h3, h4, h5⟩
    rw [show (L ++ [q]).length = L.length + 1 by simp] at hb ⊢
    by_cases hs : sep = []
    · subst hs; exact listTells_more_no L q hl b off cap two last s w hT h (by rw [show (L ++ [q]).length = L.length + 1 by simp]; simpa using hb)
    · exact listTells_more_yes L q hl b off cap two sep last s w hT h (by rw [show (L ++ [q]).length = L.length + 1 by simp]; exact hb) hs
end Go.Proofs.YtdannkcacldhmaaDoor
