/- The walk of linguisterref1.DecOf, texts with one point. Conditions: the text is short of 4000000000 bytes. -/
import Derived.Test.YtdmenoimamnldaaGreatDoorDz13
import Derived.Test.YtdmenoimamnldaaGreatDoorDz14
import Derived.Test.YtdmenoimamnldaaGreatDoorDz15
import Derived.Test.YtdmenoimamnldaaGreatDoorDz16
import Derived.Test.YtdmenoimamnldaaGreatDoorDz2
import Derived.OwnWalk
import Derived.LoopTactic
import Derived.StillTailTactics
import Derived.Deep.LoopGhost
namespace Go.Proofs.YtdmenoimamnldaaGreatDoor
open Go.RowKit
open Dcm (P10 okD mag)

theorem strs_open2 {w : World} {v : Value} {l : List (List UInt8)} (h : StrsAt w v l) (h0 : 0 < l.length) : ∃ b off cap, v = .slice (some ⟨b, off, none⟩) l.length cap ∧ l.length ≤ cap ∧ cap ≤ maxLen ∧ b < w.heap.size := by
  rcases h with ⟨rfl, _⟩ | ⟨b, off, cap, h1, _, h3, h4, h5⟩
  · exact absurd h0 (by simp)
  · exact ⟨b, off, cap, h1, h3, h4, World.block_lt_of_cell? _ _ (h5 0 _ (List.getElem?_eq_getElem h0))⟩
theorem strs_cell {w : World} {b off n cap : Nat} {l : List (List UInt8)} (h : StrsAt w (.slice (some ⟨b, off, none⟩) n cap) l) (j : Nat) (x : List UInt8) (hx : l[j]? = some x) : w.cell? ⟨b, off + j, none⟩ = some (.string ⟨x.toArray⟩) := by
  rcases h with ⟨rfl, _⟩ | ⟨b', off', cap', h1, _, h3, h4, h5⟩
  · simp at hx
  · injection h1 with h1 h2 h6
    injection h1 with h1
    injection h1 with h7 h8
    subst h7 h8
    exact h5 j x hx

set_option maxRecDepth 100000 in
set_option maxHeartbeats 1000000 in
theorem dof_neg0 (r : List (List UInt8)) (t B a : List UInt8) (w : World) (hng : (t.take 1 == [45]) = false) (hB : t = B) (_hl1 : True) (hBl : B.length ≤ 4000000000) (hsp : Lib.split B [46] = (a :: r)) (hal : a.length ≤ 4000000000) (hq : Byt.numP a < 0) :
    Calls Tryz.prog 8 #[.string ⟨t.toArray⟩] w fun e w' => e = .returned (.tuple #[.agg #[.int .i64 0, .int .i64 0], .bool false]) ∧ Below w.heap.size w w' := by
  have CS := Lib.hid fun w => (show Calls Tryz.prog 20 #[.string ⟨t.toArray⟩, .string ⟨#[45]⟩] w fun e w' => e = .returned (.bool false) ∧ w' = w from hng ▸ starts_any t [45] w)
  have CC := Lib.hid fun w => (show Calls Tryz.prog 21 #[.string ⟨B.toArray⟩, .string ⟨#[46]⟩] w (GivesStrs w (a :: r)) from hsp ▸ cut_any B [46] w (by simp) hBl (by simp))
  have CN := Lib.hid fun w => numof_any a w hal
  generalize Byt.numP a = Q at *
  have d0 : decide (Q < 0) = true := dec_yes hq
  subst hB
  clear hng hsp
  go_enter Tryz.func8, Tryz.ntmps8
  go_wp2_with fail
  refine (CS.out _).mono ?_
  rintro e w' ⟨rfl, rfl⟩
  go_wp2_with fail
  refine (CC.out _).mono ?_
  rintro e w1 ⟨vv, rfl, hst, hb⟩
  have W1 := Lib.hid (blw_trans (show Below w.heap.size w _ by repeat (first | exact (Below.refl _ _) | refine blw_drewN ?_ _ | refine Below.setCell ?_ (by first | (simp; done) | omega | (simp; omega)) _ | refine Below.alloc ?_ (by first | (simp; done) | omega | (simp; omega)) _)) hb)
  have n1 := hb.size
  try simp at n1
  have k1_z0 := cell_keep (a := ⟨w.heap.size, 0, none⟩) (v := .int .i64 0) (by first | (go_keep; done) | (simp [go_sem, *]; done)) hb
  have f1_z0 := (hb.frozen (p := ⟨w.heap.size, 0, none⟩) (by first | (simp; done) | omega | (simp; omega))).trans (show _ = false by first | (simp; done) | (simp [go_sem]; done))
  have k1_z1 := cell_keep (a := ⟨w.heap.size, 1, none⟩) (v := .int .i64 0) (by first | (go_keep; done) | (simp [go_sem, *]; done)) hb
  have f1_z1 := (hb.frozen (p := ⟨w.heap.size, 1, none⟩) (by first | (simp; done) | omega | (simp; omega))).trans (show _ = false by first | (simp; done) | (simp [go_sem]; done))
  have l1_z := World.block_lt_of_cell? _ _ k1_z0
  try simp only at l1_z
  clear hb
  obtain ⟨bb, off, cap, rfl, hc1, hc2, hbb⟩ := strs_open2 hst (by simp)
  unfold maxLen at hc2
  have ca := strs_cell hst 0 a rfl
  rw [Nat.add_zero] at ca
  have HS1 := Lib.hid hst
  clear hst
  first | simp only [List.length_cons] at hc1 | skip
  go_wp2_with fail
  refine (CN.out _).mono ?_
  rintro e w2 ⟨rfl, hb⟩
  have W2 := Lib.hid (blw_trans (show Below w.heap.size w _ by repeat (first | exact W1.out | refine blw_drewN ?_ _ | refine Below.setCell ?_ (by first | (simp; done) | omega | (simp; omega)) _ | refine Below.alloc ?_ (by first | (simp; done) | omega | (simp; omega)) _)) hb)
  have n2 := hb.size
  try simp at n2
  have k2_z0 := cell_keep (a := ⟨w.heap.size, 0, none⟩) (v := .int .i64 0) (by first | (go_keep; done) | (simp [go_sem, *]; done)) hb
  have f2_z0 := (hb.frozen (p := ⟨w.heap.size, 0, none⟩) (by first | (simp; done) | omega | (simp; omega))).trans (show _ = false by first | exact f1_z0 | (simp; done) | (simp [go_sem]; done) | (simp [f1_z0]; done) | exact ((blw_alloc _ _).frozen (p := ⟨w.heap.size, 0, none⟩) l1_z).trans f1_z0)
  have k2_z1 := cell_keep (a := ⟨w.heap.size, 1, none⟩) (v := .int .i64 0) (by first | (go_keep; done) | (simp [go_sem, *]; done)) hb
  have f2_z1 := (hb.frozen (p := ⟨w.heap.size, 1, none⟩) (by first | (simp; done) | omega | (simp; omega))).trans (show _ = false by first | exact f1_z1 | (simp; done) | (simp [go_sem]; done) | (simp [f1_z1]; done) | exact ((blw_alloc _ _).frozen (p := ⟨w.heap.size, 1, none⟩) l1_z).trans f1_z1)
  have l2_z := World.block_lt_of_cell? _ _ k2_z0
  try simp only at l2_z
  have H2_L := Lib.hid (StrsAt.below (show StrsAt _ (.slice (some ⟨bb, off, none⟩) ((a :: r) : List (List UInt8)).length cap) (a :: r) by repeat (first | exact HS1.out | refine StrsAt.alloc ?_ _ | refine StrsAt.drewN ?_ _)) hb)
  clear hb HS1 k1_z0 f1_z0 k1_z1 f1_z1 l1_z ca W1

  go_wp2_with fail
  refine bodyPost_ret (v := .tuple #[.agg #[.int .i64 0, .int .i64 0], .bool false]) (by simp [results, Tryz.results8, go_sem, *]) rfl ⟨rfl, ?_⟩
  repeat (first | with_reducible exact W2.out | refine blw_drewN ?_ _ | refine Below.setCell ?_ (by first | (simp; done) | omega | (simp; omega)) _ | refine Below.alloc ?_ (by first | (simp; done) | omega | (simp; omega)) _)

set_option maxRecDepth 100000 in
set_option maxHeartbeats 1000000 in
theorem dof_neg1 (r : List (List UInt8)) (t B a : List UInt8) (w : World) (hng : (t.take 1 == [45]) = true) (hB : t.drop 1 = B) (hl1 : 1 ≤ t.length) (hBl : B.length ≤ 4000000000) (hsp : Lib.split B [46] = (a :: r)) (hal : a.length ≤ 4000000000) (hq : Byt.numP a < 0) :
    Calls Tryz.prog 8 #[.string ⟨t.toArray⟩] w fun e w' => e = .returned (.tuple #[.agg #[.int .i64 0, .int .i64 0], .bool false]) ∧ Below w.heap.size w w' := by
  have CS := Lib.hid fun w => (show Calls Tryz.prog 20 #[.string ⟨t.toArray⟩, .string ⟨#[45]⟩] w fun e w' => e = .returned (.bool true) ∧ w' = w from hng ▸ starts_any t [45] w)
  have SLm : ∀ w, (Instr.slice 9 (.string ⟨t.toArray⟩) (some (.int .i64 1)) none none).run Tryz.prog w = .ok (.string ⟨B.toArray⟩) w := fun w => hB ▸ slice_from (P := Tryz.prog) 9 Tryz.underlying9 t .i64 1 hl1 w
  have CC := Lib.hid fun w => (show Calls Tryz.prog 21 #[.string ⟨B.toArray⟩, .string ⟨#[46]⟩] w (GivesStrs w (a :: r)) from hsp ▸ cut_any B [46] w (by simp) hBl (by simp))
  have CN := Lib.hid fun w => numof_any a w hal
  generalize Byt.numP a = Q at *
  have d0 : decide (Q < 0) = true := dec_yes hq
  clear hng hsp hB
  go_enter Tryz.func8, Tryz.ntmps8
  go_wp2_with fail
  refine (CS.out _).mono ?_
  rintro e w' ⟨rfl, rfl⟩
  go_wp2_with fail
  refine (CC.out _).mono ?_
  rintro e w1 ⟨vv, rfl, hst, hb⟩
  have W1 := Lib.hid (blw_trans (show Below w.heap.size w _ by repeat (first | exact (Below.refl _ _) | refine blw_drewN ?_ _ | refine Below.setCell ?_ (by first | (simp; done) | omega | (simp; omega)) _ | refine Below.alloc ?_ (by first | (simp; done) | omega | (simp; omega)) _)) hb)
  have n1 := hb.size
  try simp at n1
  have k1_z0 := cell_keep (a := ⟨w.heap.size, 0, none⟩) (v := .int .i64 0) (by first | (go_keep; done) | (simp [go_sem, *]; done)) hb
  have f1_z0 := (hb.frozen (p := ⟨w.heap.size, 0, none⟩) (by first | (simp; done) | omega | (simp; omega))).trans (show _ = false by first | (simp; done) | (simp [go_sem]; done))
  have k1_z1 := cell_keep (a := ⟨w.heap.size, 1, none⟩) (v := .int .i64 0) (by first | (go_keep; done) | (simp [go_sem, *]; done)) hb
  have f1_z1 := (hb.frozen (p := ⟨w.heap.size, 1, none⟩) (by first | (simp; done) | omega | (simp; omega))).trans (show _ = false by first | (simp; done) | (simp [go_sem]; done))
  have l1_z := World.block_lt_of_cell? _ _ k1_z0
  try simp only at l1_z
  clear hb
  obtain ⟨bb, off, cap, rfl, hc1, hc2, hbb⟩ := strs_open2 hst (by simp)
  unfold maxLen at hc2
  have ca := strs_cell hst 0 a rfl
  rw [Nat.add_zero] at ca
  have HS1 := Lib.hid hst
  clear hst
  first | simp only [List.length_cons] at hc1 | skip
  go_wp2_with fail
  refine (CN.out _).mono ?_
  rintro e w2 ⟨rfl, hb⟩
  have W2 := Lib.hid (blw_trans (show Below w.heap.size w _ by repeat (first | exact W1.out | refine blw_drewN ?_ _ | refine Below.setCell ?_ (by first | (simp; done) | omega | (simp; omega)) _ | refine Below.alloc ?_ (by first | (simp; done) | omega | (simp; omega)) _)) hb)
  have n2 := hb.size
  try simp at n2
  have k2_z0 := cell_keep (a := ⟨w.heap.size, 0, none⟩) (v := .int .i64 0) (by first | (go_keep; done) | (simp [go_sem, *]; done)) hb
  have f2_z0 := (hb.frozen (p := ⟨w.heap.size, 0, none⟩) (by first | (simp; done) | omega | (simp; omega))).trans (show _ = false by first | exact f1_z0 | (simp; done) | (simp [go_sem]; done) | (simp [f1_z0]; done) | exact ((blw_alloc _ _).frozen (p := ⟨w.heap.size, 0, none⟩) l1_z).trans f1_z0)
  have k2_z1 := cell_keep (a := ⟨w.heap.size, 1, none⟩) (v := .int .i64 0) (by first | (go_keep; done) | (simp [go_sem, *]; done)) hb
  have f2_z1 := (hb.frozen (p := ⟨w.heap.size, 1, none⟩) (by first | (simp; done) | omega | (simp; omega))).trans (show _ = false by first | exact f1_z1 | (simp; done) | (simp [go_sem]; done) | (simp [f1_z1]; done) | exact ((blw_alloc _ _).frozen (p := ⟨w.heap.size, 1, none⟩) l1_z).trans f1_z1)
  have l2_z := World.block_lt_of_cell? _ _ k2_z0
  try simp only at l2_z
  have H2_L := Lib.hid (StrsAt.below (show StrsAt _ (.slice (some ⟨bb, off, none⟩) ((a :: r) : List (List UInt8)).length cap) (a :: r) by repeat (first | exact HS1.out | refine StrsAt.alloc ?_ _ | refine StrsAt.drewN ?_ _)) hb)
  clear hb HS1 k1_z0 f1_z0 k1_z1 f1_z1 l1_z ca W1

  go_wp2_with fail
  refine bodyPost_ret (v := .tuple #[.agg #[.int .i64 0, .int .i64 0], .bool false]) (by simp [results, Tryz.results8, go_sem, *]) rfl ⟨rfl, ?_⟩
  repeat (first | with_reducible exact W2.out | refine blw_drewN ?_ _ | refine Below.setCell ?_ (by first | (simp; done) | omega | (simp; omega)) _ | refine Below.alloc ?_ (by first | (simp; done) | omega | (simp; omega)) _)

set_option maxRecDepth 100000 in
set_option maxHeartbeats 1000000 in
theorem dof_many0 (x y : List UInt8) (r : List (List UInt8)) (t B a : List UInt8) (w : World) (hng : (t.take 1 == [45]) = false) (hB : t = B) (_hl1 : True) (hBl : B.length ≤ 4000000000) (hsp : Lib.split B [46] = (a :: x :: y :: r)) (hal : a.length ≤ 4000000000) (hq : ¬ Byt.numP a < 0) (hrl : r.length ≤ 4000000000) :
    Calls Tryz.prog 8 #[.string ⟨t.toArray⟩] w fun e w' => e = .returned (.tuple #[.agg #[.int .i64 0, .int .i64 0], .bool false]) ∧ Below w.heap.size w w' := by
  have CS := Lib.hid fun w => (show Calls Tryz.prog 20 #[.string ⟨t.toArray⟩, .string ⟨#[45]⟩] w fun e w' => e = .returned (.bool false) ∧ w' = w from hng ▸ starts_any t [45] w)
  have CC := Lib.hid fun w => (show Calls Tryz.prog 21 #[.string ⟨B.toArray⟩, .string ⟨#[46]⟩] w (GivesStrs w (a :: x :: y :: r)) from hsp ▸ cut_any B [46] w (by simp) hBl (by simp))
  have CN := Lib.hid fun w => numof_any a w hal
  generalize Byt.numP a = Q at *
  have d0 : decide (Q < 0) = false := dec_no hq
  subst hB
  clear hng hsp
  go_enter Tryz.func8, Tryz.ntmps8
  go_wp2_with fail
  refine (CS.out _).mono ?_
  rintro e w' ⟨rfl, rfl⟩
  go_wp2_with fail
  refine (CC.out _).mono ?_
  rintro e w1 ⟨vv, rfl, hst, hb⟩
  have W1 := Lib.hid (blw_trans (show Below w.heap.size w _ by repeat (first | exact (Below.refl _ _) | refine blw_drewN ?_ _ | refine Below.setCell ?_ (by first | (simp; done) | omega | (simp; omega)) _ | refine Below.alloc ?_ (by first | (simp; done) | omega | (simp; omega)) _)) hb)
  have n1 := hb.size
  try simp at n1
  have k1_z0 := cell_keep (a := ⟨w.heap.size, 0, none⟩) (v := .int .i64 0) (by first | (go_keep; done) | (simp [go_sem, *]; done)) hb
  have f1_z0 := (hb.frozen (p := ⟨w.heap.size, 0, none⟩) (by first | (simp; done) | omega | (simp; omega))).trans (show _ = false by first | (simp; done) | (simp [go_sem]; done))
  have k1_z1 := cell_keep (a := ⟨w.heap.size, 1, none⟩) (v := .int .i64 0) (by first | (go_keep; done) | (simp [go_sem, *]; done)) hb
  have f1_z1 := (hb.frozen (p := ⟨w.heap.size, 1, none⟩) (by first | (simp; done) | omega | (simp; omega))).trans (show _ = false by first | (simp; done) | (simp [go_sem]; done))
  have l1_z := World.block_lt_of_cell? _ _ k1_z0
  try simp only at l1_z
  clear hb
  obtain ⟨bb, off, cap, rfl, hc1, hc2, hbb⟩ := strs_open2 hst (by simp)
  unfold maxLen at hc2
  have ca := strs_cell hst 0 a rfl
  rw [Nat.add_zero] at ca
  have HS1 := Lib.hid hst
  clear hst
  first | simp only [List.length_cons] at hc1 | skip
  go_wp2_with fail
  refine (CN.out _).mono ?_
  rintro e w2 ⟨rfl, hb⟩
  have W2 := Lib.hid (blw_trans (show Below w.heap.size w _ by repeat (first | exact W1.out | refine blw_drewN ?_ _ | refine Below.setCell ?_ (by first | (simp; done) | omega | (simp; omega)) _ | refine Below.alloc ?_ (by first | (simp; done) | omega | (simp; omega)) _)) hb)
  have n2 := hb.size
  try simp at n2
  have k2_z0 := cell_keep (a := ⟨w.heap.size, 0, none⟩) (v := .int .i64 0) (by first | (go_keep; done) | (simp [go_sem, *]; done)) hb
  have f2_z0 := (hb.frozen (p := ⟨w.heap.size, 0, none⟩) (by first | (simp; done) | omega | (simp; omega))).trans (show _ = false by first | exact f1_z0 | (simp; done) | (simp [go_sem]; done) | (simp [f1_z0]; done) | exact ((blw_alloc _ _).frozen (p := ⟨w.heap.size, 0, none⟩) l1_z).trans f1_z0)
  have k2_z1 := cell_keep (a := ⟨w.heap.size, 1, none⟩) (v := .int .i64 0) (by first | (go_keep; done) | (simp [go_sem, *]; done)) hb
  have f2_z1 := (hb.frozen (p := ⟨w.heap.size, 1, none⟩) (by first | (simp; done) | omega | (simp; omega))).trans (show _ = false by first | exact f1_z1 | (simp; done) | (simp [go_sem]; done) | (simp [f1_z1]; done) | exact ((blw_alloc _ _).frozen (p := ⟨w.heap.size, 1, none⟩) l1_z).trans f1_z1)
  have l2_z := World.block_lt_of_cell? _ _ k2_z0
  try simp only at l2_z
  have H2_L := Lib.hid (StrsAt.below (show StrsAt _ (.slice (some ⟨bb, off, none⟩) ((a :: x :: y :: r) : List (List UInt8)).length cap) (a :: x :: y :: r) by repeat (first | exact HS1.out | refine StrsAt.alloc ?_ _ | refine StrsAt.drewN ?_ _)) hb)
  clear hb HS1 k1_z0 f1_z0 k1_z1 f1_z1 l1_z ca W1
  go_wp2_with fail
  refine bodyPost_ret (v := .tuple #[.agg #[.int .i64 0, .int .i64 0], .bool false]) (by simp [results, Tryz.results8, go_sem, *]) rfl ⟨rfl, ?_⟩
  repeat (first | with_reducible exact W2.out | refine blw_drewN ?_ _ | refine Below.setCell ?_ (by first | (simp; done) | omega | (simp; omega)) _ | refine Below.alloc ?_ (by first | (simp; done) | omega | (simp; omega)) _)

set_option maxRecDepth 100000 in
set_option maxHeartbeats 1000000 in
theorem dof_many1 (x y : List UInt8) (r : List (List UInt8)) (t B a : List UInt8) (w : World) (hng : (t.take 1 == [45]) = true) (hB : t.drop 1 = B) (hl1 : 1 ≤ t.length) (hBl : B.length ≤ 4000000000) (hsp : Lib.split B [46] = (a :: x :: y :: r)) (hal : a.length ≤ 4000000000) (hq : ¬ Byt.numP a < 0) (hrl : r.length ≤ 4000000000) :
    Calls Tryz.prog 8 #[.string ⟨t.toArray⟩] w fun e w' => e = .returned (.tuple #[.agg #[.int .i64 0, .int .i64 0], .bool false]) ∧ Below w.heap.size w w' := by
  have CS := Lib.hid fun w => (show Calls Tryz.prog 20 #[.string ⟨t.toArray⟩, .string ⟨#[45]⟩] w fun e w' => e = .returned (.bool true) ∧ w' = w from hng ▸ starts_any t [45] w)
  have SLm : ∀ w, (Instr.slice 9 (.string ⟨t.toArray⟩) (some (.int .i64 1)) none none).run Tryz.prog w = .ok (.string ⟨B.toArray⟩) w := fun w => hB ▸ slice_from (P := Tryz.prog) 9 Tryz.underlying9 t .i64 1 hl1 w
  have CC := Lib.hid fun w => (show Calls Tryz.prog 21 #[.string ⟨B.toArray⟩, .string ⟨#[46]⟩] w (GivesStrs w (a :: x :: y :: r)) from hsp ▸ cut_any B [46] w (by simp) hBl (by simp))
  have CN := Lib.hid fun w => numof_any a w hal
  generalize Byt.numP a = Q at *
  have d0 : decide (Q < 0) = false := dec_no hq
  clear hng hsp hB
  go_enter Tryz.func8, Tryz.ntmps8
  go_wp2_with fail
  refine (CS.out _).mono ?_
  rintro e w' ⟨rfl, rfl⟩
  go_wp2_with fail
  refine (CC.out _).mono ?_
  rintro e w1 ⟨vv, rfl, hst, hb⟩
  have W1 := Lib.hid (blw_trans (show Below w.heap.size w _ by repeat (first | exact (Below.refl _ _) | refine blw_drewN ?_ _ | refine Below.setCell ?_ (by first | (simp; done) | omega | (simp; omega)) _ | refine Below.alloc ?_ (by first | (simp; done) | omega | (simp; omega)) _)) hb)
  have n1 := hb.size
  try simp at n1
  have k1_z0 := cell_keep (a := ⟨w.heap.size, 0, none⟩) (v := .int .i64 0) (by first | (go_keep; done) | (simp [go_sem, *]; done)) hb
  have f1_z0 := (hb.frozen (p := ⟨w.heap.size, 0, none⟩) (by first | (simp; done) | omega | (simp; omega))).trans (show _ = false by first | (simp; done) | (simp [go_sem]; done))
  have k1_z1 := cell_keep (a := ⟨w.heap.size, 1, none⟩) (v := .int .i64 0) (by first | (go_keep; done) | (simp [go_sem, *]; done)) hb
  have f1_z1 := (hb.frozen (p := ⟨w.heap.size, 1, none⟩) (by first | (simp; done) | omega | (simp; omega))).trans (show _ = false by first | (simp; done) | (simp [go_sem]; done))
  have l1_z := World.block_lt_of_cell? _ _ k1_z0
  try simp only at l1_z
  clear hb
  obtain ⟨bb, off, cap, rfl, hc1, hc2, hbb⟩ := strs_open2 hst (by simp)
  unfold maxLen at hc2
  have ca := strs_cell hst 0 a rfl
  rw [Nat.add_zero] at ca
  have HS1 := Lib.hid hst
  clear hst
  first | simp only [List.length_cons] at hc1 | skip
  go_wp2_with fail
  refine (CN.out _).mono ?_
  rintro e w2 ⟨rfl, hb⟩
  have W2 := Lib.hid (blw_trans (show Below w.heap.size w _ by repeat (first | exact W1.out | refine blw_drewN ?_ _ | refine Below.setCell ?_ (by first | (simp; done) | omega | (simp; omega)) _ | refine Below.alloc ?_ (by first | (simp; done) | omega | (simp; omega)) _)) hb)
  have n2 := hb.size
  try simp at n2
  have k2_z0 := cell_keep (a := ⟨w.heap.size, 0, none⟩) (v := .int .i64 0) (by first | (go_keep; done) | (simp [go_sem, *]; done)) hb
  have f2_z0 := (hb.frozen (p := ⟨w.heap.size, 0, none⟩) (by first | (simp; done) | omega | (simp; omega))).trans (show _ = false by first | exact f1_z0 | (simp; done) | (simp [go_sem]; done) | (simp [f1_z0]; done) | exact ((blw_alloc _ _).frozen (p := ⟨w.heap.size, 0, none⟩) l1_z).trans f1_z0)
  have k2_z1 := cell_keep (a := ⟨w.heap.size, 1, none⟩) (v := .int .i64 0) (by first | (go_keep; done) | (simp [go_sem, *]; done)) hb
  have f2_z1 := (hb.frozen (p := ⟨w.heap.size, 1, none⟩) (by first | (simp; done) | omega | (simp; omega))).trans (show _ = false by first | exact f1_z1 | (simp; done) | (simp [go_sem]; done) | (simp [f1_z1]; done) | exact ((blw_alloc _ _).frozen (p := ⟨w.heap.size, 1, none⟩) l1_z).trans f1_z1)
  have l2_z := World.block_lt_of_cell? _ _ k2_z0
  try simp only at l2_z
  have H2_L := Lib.hid (StrsAt.below (show StrsAt _ (.slice (some ⟨bb, off, none⟩) ((a :: x :: y :: r) : List (List UInt8)).length cap) (a :: x :: y :: r) by repeat (first | exact HS1.out | refine StrsAt.alloc ?_ _ | refine StrsAt.drewN ?_ _)) hb)
  clear hb HS1 k1_z0 f1_z0 k1_z1 f1_z1 l1_z ca W1
  go_wp2_with fail
  refine bodyPost_ret (v := .tuple #[.agg #[.int .i64 0, .int .i64 0], .bool false]) (by simp [results, Tryz.results8, go_sem, *]) rfl ⟨rfl, ?_⟩
  repeat (first | with_reducible exact W2.out | refine blw_drewN ?_ _ | refine Below.setCell ?_ (by first | (simp; done) | omega | (simp; omega)) _ | refine Below.alloc ?_ (by first | (simp; done) | omega | (simp; omega)) _)

set_option maxRecDepth 100000 in
set_option maxHeartbeats 1000000 in
theorem dof_one_ok0 (t B a : List UInt8) (w : World) (hng : (t.take 1 == [45]) = false) (hB : t = B) (_hl1 : True) (hBl : B.length ≤ 4000000000) (hsp : Lib.split B [46] = [a]) (hal : a.length ≤ 4000000000) (hq : ¬ Byt.numP a < 0) (hqb : Byt.numP a ≤ 1000000000000000) (X : List UInt8) (hX : Byt.decText (Byt.numP a) 0 = X) (hXt : X = t) :
    Calls Tryz.prog 8 #[.string ⟨t.toArray⟩] w fun e w' => e = .returned (.tuple #[.agg #[.int .i64 (Byt.numP a), .int .i64 0], .bool true]) ∧ Below w.heap.size w w' := by
  have CS := Lib.hid fun w => (show Calls Tryz.prog 20 #[.string ⟨t.toArray⟩, .string ⟨#[45]⟩] w fun e w' => e = .returned (.bool false) ∧ w' = w from hng ▸ starts_any t [45] w)
  have CC := Lib.hid fun w => (show Calls Tryz.prog 21 #[.string ⟨B.toArray⟩, .string ⟨#[46]⟩] w (GivesStrs w [a]) from hsp ▸ cut_any B [46] w (by simp) hBl (by simp))
  have CN := Lib.hid fun w => numof_any a w hal
  generalize Byt.numP a = Q at *
  have d0 : decide (Q < 0) = false := dec_no hq
  have q1 : (X == t) = true := by rw [hXt]; simp
  have q2 : (X != t) = false := by rw [bne, q1]; rfl
  have CF := Lib.hid fun w => dflt_no Q 0 w ⟨by omega, by omega, by omega, by omega⟩
  have ct := fun w => rdect_any Q 0 w ⟨by omega, by omega, by omega, by omega⟩
  rw [hX] at ct
  have CT := Lib.hid ct
  clear ct hX hXt
  subst hB
  clear hng hsp
  go_enter Tryz.func8, Tryz.ntmps8
  go_wp2_with fail
  refine (CS.out _).mono ?_
  rintro e w' ⟨rfl, rfl⟩
  go_wp2_with fail
  refine (CC.out _).mono ?_
  rintro e w1 ⟨vv, rfl, hst, hb⟩
  have W1 := Lib.hid (blw_trans (show Below w.heap.size w _ by repeat (first | exact (Below.refl _ _) | refine blw_drewN ?_ _ | refine Below.setCell ?_ (by first | (simp; done) | omega | (simp; omega)) _ | refine Below.alloc ?_ (by first | (simp; done) | omega | (simp; omega)) _)) hb)
  have n1 := hb.size
  try simp at n1
  have k1_z0 := cell_keep (a := ⟨w.heap.size, 0, none⟩) (v := .int .i64 0) (by first | (go_keep; done) | (simp [go_sem, *]; done)) hb
  have f1_z0 := (hb.frozen (p := ⟨w.heap.size, 0, none⟩) (by first | (simp; done) | omega | (simp; omega))).trans (show _ = false by first | (simp; done) | (simp [go_sem]; done))
  have k1_z1 := cell_keep (a := ⟨w.heap.size, 1, none⟩) (v := .int .i64 0) (by first | (go_keep; done) | (simp [go_sem, *]; done)) hb
  have f1_z1 := (hb.frozen (p := ⟨w.heap.size, 1, none⟩) (by first | (simp; done) | omega | (simp; omega))).trans (show _ = false by first | (simp; done) | (simp [go_sem]; done))
  have l1_z := World.block_lt_of_cell? _ _ k1_z0
  try simp only at l1_z
  clear hb
  obtain ⟨bb, off, cap, rfl, hc1, hc2, hbb⟩ := strs_open2 hst (by simp)
  unfold maxLen at hc2
  have ca := strs_cell hst 0 a rfl
  rw [Nat.add_zero] at ca
  have HS1 := Lib.hid hst
  clear hst
  first | simp only [List.length_cons] at hc1 | skip
  go_wp2_with fail
  refine (CN.out _).mono ?_
  rintro e w2 ⟨rfl, hb⟩
  have W2 := Lib.hid (blw_trans (show Below w.heap.size w _ by repeat (first | exact W1.out | refine blw_drewN ?_ _ | refine Below.setCell ?_ (by first | (simp; done) | omega | (simp; omega)) _ | refine Below.alloc ?_ (by first | (simp; done) | omega | (simp; omega)) _)) hb)
  have n2 := hb.size
  try simp at n2
  have k2_z0 := cell_keep (a := ⟨w.heap.size, 0, none⟩) (v := .int .i64 0) (by first | (go_keep; done) | (simp [go_sem, *]; done)) hb
  have f2_z0 := (hb.frozen (p := ⟨w.heap.size, 0, none⟩) (by first | (simp; done) | omega | (simp; omega))).trans (show _ = false by first | exact f1_z0 | (simp; done) | (simp [go_sem]; done) | (simp [f1_z0]; done) | exact ((blw_alloc _ _).frozen (p := ⟨w.heap.size, 0, none⟩) l1_z).trans f1_z0)
  have k2_z1 := cell_keep (a := ⟨w.heap.size, 1, none⟩) (v := .int .i64 0) (by first | (go_keep; done) | (simp [go_sem, *]; done)) hb
  have f2_z1 := (hb.frozen (p := ⟨w.heap.size, 1, none⟩) (by first | (simp; done) | omega | (simp; omega))).trans (show _ = false by first | exact f1_z1 | (simp; done) | (simp [go_sem]; done) | (simp [f1_z1]; done) | exact ((blw_alloc _ _).frozen (p := ⟨w.heap.size, 1, none⟩) l1_z).trans f1_z1)
  have l2_z := World.block_lt_of_cell? _ _ k2_z0
  try simp only at l2_z
  have H2_L := Lib.hid (StrsAt.below (show StrsAt _ (.slice (some ⟨bb, off, none⟩) ([a] : List (List UInt8)).length cap) [a] by repeat (first | exact HS1.out | refine StrsAt.alloc ?_ _ | refine StrsAt.drewN ?_ _)) hb)
  clear hb HS1 k1_z0 f1_z0 k1_z1 f1_z1 l1_z ca W1
  have l2n := l2_z
  go_wp2_with fail
  refine (CS.out _).mono ?_
  rintro e w' ⟨rfl, rfl⟩
  go_wp2_with fail
  refine (CF.out _).mono ?_
  rintro e w3 ⟨rfl, hb⟩
  have W3 := Lib.hid (blw_trans (show Below w.heap.size w _ by repeat (first | exact W2.out | refine blw_drewN ?_ _ | refine Below.setCell ?_ (by first | (simp; done) | omega | (simp; omega)) _ | refine Below.alloc ?_ (by first | (simp; done) | omega | (simp; omega)) _)) hb)
  have n3 := hb.size
  try simp at n3
  have k3_z0 := cell_keep (a := ⟨w.heap.size, 0, none⟩) (v := .int .i64 0) (by first | (go_keep; done) | (simp [go_sem, *]; done)) hb
  have f3_z0 := (hb.frozen (p := ⟨w.heap.size, 0, none⟩) (by first | (simp; done) | omega | (simp; omega))).trans (show _ = false by first | exact f2_z0 | (simp; done) | (simp [go_sem]; done) | (simp [f2_z0]; done) | exact ((blw_alloc _ _).frozen (p := ⟨w.heap.size, 0, none⟩) l2_z).trans f2_z0)
  have k3_z1 := cell_keep (a := ⟨w.heap.size, 1, none⟩) (v := .int .i64 0) (by first | (go_keep; done) | (simp [go_sem, *]; done)) hb
  have f3_z1 := (hb.frozen (p := ⟨w.heap.size, 1, none⟩) (by first | (simp; done) | omega | (simp; omega))).trans (show _ = false by first | exact f2_z1 | (simp; done) | (simp [go_sem]; done) | (simp [f2_z1]; done) | exact ((blw_alloc _ _).frozen (p := ⟨w.heap.size, 1, none⟩) l2_z).trans f2_z1)
  have l3_z := World.block_lt_of_cell? _ _ k3_z0
  try simp only at l3_z
  have k3_d0 := cell_keep (a := ⟨w2.heap.size, 0, none⟩) (v := .int .i64 Q) (by first | (go_keep; done) | (simp [go_sem, *]; done)) hb
  have k3_d1 := cell_keep (a := ⟨w2.heap.size, 1, none⟩) (v := .int .i64 0) (by first | (go_keep; done) | (simp [go_sem, *]; done)) hb
  have l3_d := World.block_lt_of_cell? _ _ k3_d0
  try simp only at l3_d
  have H3_L := Lib.hid (StrsAt.below (show StrsAt _ (.slice (some ⟨bb, off, none⟩) ([a] : List (List UInt8)).length cap) [a] by repeat (first | exact H2_L.out | refine StrsAt.alloc ?_ _ | refine StrsAt.drewN ?_ _)) hb)
  clear hb H2_L k2_z0 f2_z0 k2_z1 f2_z1 l2_z W2
  go_wp2_with fail
  refine (CT.out _).mono ?_
  rintro e w4 ⟨rfl, hb⟩
  have W4 := Lib.hid (blw_trans (show Below w.heap.size w _ by repeat (first | exact W3.out | refine blw_drewN ?_ _ | refine Below.setCell ?_ (by first | (simp; done) | omega | (simp; omega)) _ | refine Below.alloc ?_ (by first | (simp; done) | omega | (simp; omega)) _)) hb)
  have n4 := hb.size
  try simp at n4
  have k4_z0 := cell_keep (a := ⟨w.heap.size, 0, none⟩) (v := .int .i64 0) (by first | (go_keep; done) | (simp [go_sem, *]; done)) hb
  have f4_z0 := (hb.frozen (p := ⟨w.heap.size, 0, none⟩) (by first | (simp; done) | omega | (simp; omega))).trans (show _ = false by first | exact f3_z0 | (simp; done) | (simp [go_sem]; done) | (simp [f3_z0]; done) | exact ((blw_alloc _ _).frozen (p := ⟨w.heap.size, 0, none⟩) l3_z).trans f3_z0)
  have k4_z1 := cell_keep (a := ⟨w.heap.size, 1, none⟩) (v := .int .i64 0) (by first | (go_keep; done) | (simp [go_sem, *]; done)) hb
  have f4_z1 := (hb.frozen (p := ⟨w.heap.size, 1, none⟩) (by first | (simp; done) | omega | (simp; omega))).trans (show _ = false by first | exact f3_z1 | (simp; done) | (simp [go_sem]; done) | (simp [f3_z1]; done) | exact ((blw_alloc _ _).frozen (p := ⟨w.heap.size, 1, none⟩) l3_z).trans f3_z1)
  have l4_z := World.block_lt_of_cell? _ _ k4_z0
  try simp only at l4_z
  have k4_d0 := cell_keep (a := ⟨w2.heap.size, 0, none⟩) (v := .int .i64 Q) (by first | (go_keep; done) | (simp [go_sem, *]; done)) hb
  have k4_d1 := cell_keep (a := ⟨w2.heap.size, 1, none⟩) (v := .int .i64 0) (by first | (go_keep; done) | (simp [go_sem, *]; done)) hb
  have l4_d := World.block_lt_of_cell? _ _ k4_d0
  try simp only at l4_d
  have H4_L := Lib.hid (StrsAt.below (show StrsAt _ (.slice (some ⟨bb, off, none⟩) ([a] : List (List UInt8)).length cap) [a] by repeat (first | exact H3_L.out | refine StrsAt.alloc ?_ _ | refine StrsAt.drewN ?_ _)) hb)
  clear hb H3_L k3_z0 f3_z0 k3_z1 f3_z1 l3_z k3_d0 k3_d1 l3_d W3
  go_wp2_with fail
  refine bodyPost_ret (v := .tuple #[.agg #[.int .i64 Q, .int .i64 0], .bool true]) (by simp [results, Tryz.results8, go_sem, *]) rfl ⟨rfl, ?_⟩
  repeat (first | with_reducible exact W4.out | refine blw_drewN ?_ _ | refine Below.setCell ?_ (by first | (simp; done) | omega | (simp; omega)) _ | refine Below.alloc ?_ (by first | (simp; done) | omega | (simp; omega)) _)

set_option maxRecDepth 100000 in
set_option maxHeartbeats 1000000 in
theorem dof_one_ok1 (t B a : List UInt8) (w : World) (hng : (t.take 1 == [45]) = true) (hB : t.drop 1 = B) (hl1 : 1 ≤ t.length) (hBl : B.length ≤ 4000000000) (hsp : Lib.split B [46] = [a]) (hal : a.length ≤ 4000000000) (hq : ¬ Byt.numP a < 0) (hqb : Byt.numP a ≤ 1000000000000000) (X : List UInt8) (hX : Byt.decText (-Byt.numP a) 0 = X) (hXt : X = t) :
    Calls Tryz.prog 8 #[.string ⟨t.toArray⟩] w fun e w' => e = .returned (.tuple #[.agg #[.int .i64 (-Byt.numP a), .int .i64 0], .bool true]) ∧ Below w.heap.size w w' := by
  have CS := Lib.hid fun w => (show Calls Tryz.prog 20 #[.string ⟨t.toArray⟩, .string ⟨#[45]⟩] w fun e w' => e = .returned (.bool true) ∧ w' = w from hng ▸ starts_any t [45] w)
  have SLm : ∀ w, (Instr.slice 9 (.string ⟨t.toArray⟩) (some (.int .i64 1)) none none).run Tryz.prog w = .ok (.string ⟨B.toArray⟩) w := fun w => hB ▸ slice_from (P := Tryz.prog) 9 Tryz.underlying9 t .i64 1 hl1 w
  have CC := Lib.hid fun w => (show Calls Tryz.prog 21 #[.string ⟨B.toArray⟩, .string ⟨#[46]⟩] w (GivesStrs w [a]) from hsp ▸ cut_any B [46] w (by simp) hBl (by simp))
  have CN := Lib.hid fun w => numof_any a w hal
  generalize Byt.numP a = Q at *
  have d0 : decide (Q < 0) = false := dec_no hq
  have q1 : (X == t) = true := by rw [hXt]; simp
  have q2 : (X != t) = false := by rw [bne, q1]; rfl
  have CF := Lib.hid fun w => dflt_no (-Q) 0 w ⟨by omega, by omega, by omega, by omega⟩
  have ct := fun w => rdect_any (-Q) 0 w ⟨by omega, by omega, by omega, by omega⟩
  rw [hX] at ct
  have CT := Lib.hid ct
  clear ct hX hXt
  clear hng hsp hB
  go_enter Tryz.func8, Tryz.ntmps8
  go_wp2_with fail
  refine (CS.out _).mono ?_
  rintro e w' ⟨rfl, rfl⟩
  go_wp2_with fail
  refine (CC.out _).mono ?_
  rintro e w1 ⟨vv, rfl, hst, hb⟩
  have W1 := Lib.hid (blw_trans (show Below w.heap.size w _ by repeat (first | exact (Below.refl _ _) | refine blw_drewN ?_ _ | refine Below.setCell ?_ (by first | (simp; done) | omega | (simp; omega)) _ | refine Below.alloc ?_ (by first | (simp; done) | omega | (simp; omega)) _)) hb)
  have n1 := hb.size
  try simp at n1
  have k1_z0 := cell_keep (a := ⟨w.heap.size, 0, none⟩) (v := .int .i64 0) (by first | (go_keep; done) | (simp [go_sem, *]; done)) hb
  have f1_z0 := (hb.frozen (p := ⟨w.heap.size, 0, none⟩) (by first | (simp; done) | omega | (simp; omega))).trans (show _ = false by first | (simp; done) | (simp [go_sem]; done))
  have k1_z1 := cell_keep (a := ⟨w.heap.size, 1, none⟩) (v := .int .i64 0) (by first | (go_keep; done) | (simp [go_sem, *]; done)) hb
  have f1_z1 := (hb.frozen (p := ⟨w.heap.size, 1, none⟩) (by first | (simp; done) | omega | (simp; omega))).trans (show _ = false by first | (simp; done) | (simp [go_sem]; done))
  have l1_z := World.block_lt_of_cell? _ _ k1_z0
  try simp only at l1_z
  clear hb
  obtain ⟨bb, off, cap, rfl, hc1, hc2, hbb⟩ := strs_open2 hst (by simp)
  unfold maxLen at hc2
  have ca := strs_cell hst 0 a rfl
  rw [Nat.add_zero] at ca
  have HS1 := Lib.hid hst
  clear hst
  first | simp only [List.length_cons] at hc1 | skip
  go_wp2_with fail
  refine (CN.out _).mono ?_
  rintro e w2 ⟨rfl, hb⟩
  have W2 := Lib.hid (blw_trans (show Below w.heap.size w _ by repeat (first | exact W1.out | refine blw_drewN ?_ _ | refine Below.setCell ?_ (by first | (simp; done) | omega | (simp; omega)) _ | refine Below.alloc ?_ (by first | (simp; done) | omega | (simp; omega)) _)) hb)
  have n2 := hb.size
  try simp at n2
  have k2_z0 := cell_keep (a := ⟨w.heap.size, 0, none⟩) (v := .int .i64 0) (by first | (go_keep; done) | (simp [go_sem, *]; done)) hb
  have f2_z0 := (hb.frozen (p := ⟨w.heap.size, 0, none⟩) (by first | (simp; done) | omega | (simp; omega))).trans (show _ = false by first | exact f1_z0 | (simp; done) | (simp [go_sem]; done) | (simp [f1_z0]; done) | exact ((blw_alloc _ _).frozen (p := ⟨w.heap.size, 0, none⟩) l1_z).trans f1_z0)
  have k2_z1 := cell_keep (a := ⟨w.heap.size, 1, none⟩) (v := .int .i64 0) (by first | (go_keep; done) | (simp [go_sem, *]; done)) hb
  have f2_z1 := (hb.frozen (p := ⟨w.heap.size, 1, none⟩) (by first | (simp; done) | omega | (simp; omega))).trans (show _ = false by first | exact f1_z1 | (simp; done) | (simp [go_sem]; done) | (simp [f1_z1]; done) | exact ((blw_alloc _ _).frozen (p := ⟨w.heap.size, 1, none⟩) l1_z).trans f1_z1)
  have l2_z := World.block_lt_of_cell? _ _ k2_z0
  try simp only at l2_z
  have H2_L := Lib.hid (StrsAt.below (show StrsAt _ (.slice (some ⟨bb, off, none⟩) ([a] : List (List UInt8)).length cap) [a] by repeat (first | exact HS1.out | refine StrsAt.alloc ?_ _ | refine StrsAt.drewN ?_ _)) hb)
  clear hb HS1 k1_z0 f1_z0 k1_z1 f1_z1 l1_z ca W1
  have l2n := l2_z
  go_wp2_with fail
  refine (CS.out _).mono ?_
  rintro e w' ⟨rfl, rfl⟩
  go_wp2_with fail
  refine (CF.out _).mono ?_
  rintro e w3 ⟨rfl, hb⟩
  have W3 := Lib.hid (blw_trans (show Below w.heap.size w _ by repeat (first | exact W2.out | refine blw_drewN ?_ _ | refine Below.setCell ?_ (by first | (simp; done) | omega | (simp; omega)) _ | refine Below.alloc ?_ (by first | (simp; done) | omega | (simp; omega)) _)) hb)
  have n3 := hb.size
  try simp at n3
  have k3_z0 := cell_keep (a := ⟨w.heap.size, 0, none⟩) (v := .int .i64 0) (by first | (go_keep; done) | (simp [go_sem, *]; done)) hb
  have f3_z0 := (hb.frozen (p := ⟨w.heap.size, 0, none⟩) (by first | (simp; done) | omega | (simp; omega))).trans (show _ = false by first | exact f2_z0 | (simp; done) | (simp [go_sem]; done) | (simp [f2_z0]; done) | exact ((blw_alloc _ _).frozen (p := ⟨w.heap.size, 0, none⟩) l2_z).trans f2_z0)
  have k3_z1 := cell_keep (a := ⟨w.heap.size, 1, none⟩) (v := .int .i64 0) (by first | (go_keep; done) | (simp [go_sem, *]; done)) hb
  have f3_z1 := (hb.frozen (p := ⟨w.heap.size, 1, none⟩) (by first | (simp; done) | omega | (simp; omega))).trans (show _ = false by first | exact f2_z1 | (simp; done) | (simp [go_sem]; done) | (simp [f2_z1]; done) | exact ((blw_alloc _ _).frozen (p := ⟨w.heap.size, 1, none⟩) l2_z).trans f2_z1)
  have l3_z := World.block_lt_of_cell? _ _ k3_z0
  try simp only at l3_z
  have k3_d0 := cell_keep (a := ⟨w2.heap.size, 0, none⟩) (v := .int .i64 (-Q)) (by first | (go_keep; done) | (simp [go_sem, *]; done)) hb
  have k3_d1 := cell_keep (a := ⟨w2.heap.size, 1, none⟩) (v := .int .i64 0) (by first | (go_keep; done) | (simp [go_sem, *]; done)) hb
  have l3_d := World.block_lt_of_cell? _ _ k3_d0
  try simp only at l3_d
  have H3_L := Lib.hid (StrsAt.below (show StrsAt _ (.slice (some ⟨bb, off, none⟩) ([a] : List (List UInt8)).length cap) [a] by repeat (first | exact H2_L.out | refine StrsAt.alloc ?_ _ | refine StrsAt.drewN ?_ _)) hb)
  clear hb H2_L k2_z0 f2_z0 k2_z1 f2_z1 l2_z W2
  go_wp2_with fail
  refine (CT.out _).mono ?_
  rintro e w4 ⟨rfl, hb⟩
  have W4 := Lib.hid (blw_trans (show Below w.heap.size w _ by repeat (first | exact W3.out | refine blw_drewN ?_ _ | refine Below.setCell ?_ (by first | (simp; done) | omega | (simp; omega)) _ | refine Below.alloc ?_ (by first | (simp; done) | omega | (simp; omega)) _)) hb)
  have n4 := hb.size
  try simp at n4
  have k4_z0 := cell_keep (a := ⟨w.heap.size, 0, none⟩) (v := .int .i64 0) (by first | (go_keep; done) | (simp [go_sem, *]; done)) hb
  have f4_z0 := (hb.frozen (p := ⟨w.heap.size, 0, none⟩) (by first | (simp; done) | omega | (simp; omega))).trans (show _ = false by first | exact f3_z0 | (simp; done) | (simp [go_sem]; done) | (simp [f3_z0]; done) | exact ((blw_alloc _ _).frozen (p := ⟨w.heap.size, 0, none⟩) l3_z).trans f3_z0)
  have k4_z1 := cell_keep (a := ⟨w.heap.size, 1, none⟩) (v := .int .i64 0) (by first | (go_keep; done) | (simp [go_sem, *]; done)) hb
  have f4_z1 := (hb.frozen (p := ⟨w.heap.size, 1, none⟩) (by first | (simp; done) | omega | (simp; omega))).trans (show _ = false by first | exact f3_z1 | (simp; done) | (simp [go_sem]; done) | (simp [f3_z1]; done) | exact ((blw_alloc _ _).frozen (p := ⟨w.heap.size, 1, none⟩) l3_z).trans f3_z1)
  have l4_z := World.block_lt_of_cell? _ _ k4_z0
  try simp only at l4_z
  have k4_d0 := cell_keep (a := ⟨w2.heap.size, 0, none⟩) (v := .int .i64 (-Q)) (by first | (go_keep; done) | (simp [go_sem, *]; done)) hb
  have k4_d1 := cell_keep (a := ⟨w2.heap.size, 1, none⟩) (v := .int .i64 0) (by first | (go_keep; done) | (simp [go_sem, *]; done)) hb
  have l4_d := World.block_lt_of_cell? _ _ k4_d0
  try simp only at l4_d
  have H4_L := Lib.hid (StrsAt.below (show StrsAt _ (.slice (some ⟨bb, off, none⟩) ([a] : List (List UInt8)).length cap) [a] by repeat (first | exact H3_L.out | refine StrsAt.alloc ?_ _ | refine StrsAt.drewN ?_ _)) hb)
  clear hb H3_L k3_z0 f3_z0 k3_z1 f3_z1 l3_z k3_d0 k3_d1 l3_d W3
  go_wp2_with fail
  refine bodyPost_ret (v := .tuple #[.agg #[.int .i64 (-Q), .int .i64 0], .bool true]) (by simp [results, Tryz.results8, go_sem, *]) rfl ⟨rfl, ?_⟩
  repeat (first | with_reducible exact W4.out | refine blw_drewN ?_ _ | refine Below.setCell ?_ (by first | (simp; done) | omega | (simp; omega)) _ | refine Below.alloc ?_ (by first | (simp; done) | omega | (simp; omega)) _)

set_option maxRecDepth 100000 in
set_option maxHeartbeats 1000000 in
theorem dof_one_ne0 (t B a : List UInt8) (w : World) (hng : (t.take 1 == [45]) = false) (hB : t = B) (_hl1 : True) (hBl : B.length ≤ 4000000000) (hsp : Lib.split B [46] = [a]) (hal : a.length ≤ 4000000000) (hq : ¬ Byt.numP a < 0) (hqb : Byt.numP a ≤ 1000000000000000) (X : List UInt8) (hX : Byt.decText (Byt.numP a) 0 = X) (hXt : ¬ X = t) :
    Calls Tryz.prog 8 #[.string ⟨t.toArray⟩] w fun e w' => e = .returned (.tuple #[.agg #[.int .i64 0, .int .i64 0], .bool false]) ∧ Below w.heap.size w w' := by
  have CS := Lib.hid fun w => (show Calls Tryz.prog 20 #[.string ⟨t.toArray⟩, .string ⟨#[45]⟩] w fun e w' => e = .returned (.bool false) ∧ w' = w from hng ▸ starts_any t [45] w)
  have CC := Lib.hid fun w => (show Calls Tryz.prog 21 #[.string ⟨B.toArray⟩, .string ⟨#[46]⟩] w (GivesStrs w [a]) from hsp ▸ cut_any B [46] w (by simp) hBl (by simp))
  have CN := Lib.hid fun w => numof_any a w hal
  generalize Byt.numP a = Q at *
  have d0 : decide (Q < 0) = false := dec_no hq
  have q1 : (X == t) = false := beq_eq_false_iff_ne.2 hXt
  have q2 : (X != t) = true := by rw [bne, q1]; rfl
  have CF := Lib.hid fun w => dflt_no Q 0 w ⟨by omega, by omega, by omega, by omega⟩
  have ct := fun w => rdect_any Q 0 w ⟨by omega, by omega, by omega, by omega⟩
  rw [hX] at ct
  have CT := Lib.hid ct
  clear ct hX hXt
  subst hB
  clear hng hsp
  go_enter Tryz.func8, Tryz.ntmps8
  go_wp2_with fail
  refine (CS.out _).mono ?_
  rintro e w' ⟨rfl, rfl⟩
  go_wp2_with fail
  refine (CC.out _).mono ?_
  rintro e w1 ⟨vv, rfl, hst, hb⟩
  have W1 := Lib.hid (blw_trans (show Below w.heap.size w _ by repeat (first | exact (Below.refl _ _) | refine blw_drewN ?_ _ | refine Below.setCell ?_ (by first | (simp; done) | omega | (simp; omega)) _ | refine Below.alloc ?_ (by first | (simp; done) | omega | (simp; omega)) _)) hb)
  have n1 := hb.size
  try simp at n1
  have k1_z0 := cell_keep (a := ⟨w.heap.size, 0, none⟩) (v := .int .i64 0) (by first | (go_keep; done) | (simp [go_sem, *]; done)) hb
  have f1_z0 := (hb.frozen (p := ⟨w.heap.size, 0, none⟩) (by first | (simp; done) | omega | (simp; omega))).trans (show _ = false by first | (simp; done) | (simp [go_sem]; done))
  have k1_z1 := cell_keep (a := ⟨w.heap.size, 1, none⟩) (v := .int .i64 0) (by first | (go_keep; done) | (simp [go_sem, *]; done)) hb
  have f1_z1 := (hb.frozen (p := ⟨w.heap.size, 1, none⟩) (by first | (simp; done) | omega | (simp; omega))).trans (show _ = false by first | (simp; done) | (simp [go_sem]; done))
  have l1_z := World.block_lt_of_cell? _ _ k1_z0
  try simp only at l1_z
  clear hb
  obtain ⟨bb, off, cap, rfl, hc1, hc2, hbb⟩ := strs_open2 hst (by simp)
  unfold maxLen at hc2
  have ca := strs_cell hst 0 a rfl
  rw [Nat.add_zero] at ca
  have HS1 := Lib.hid hst
  clear hst
  first | simp only [List.length_cons] at hc1 | skip
  go_wp2_with fail
  refine (CN.out _).mono ?_
  rintro e w2 ⟨rfl, hb⟩
  have W2 := Lib.hid (blw_trans (show Below w.heap.size w _ by repeat (first | exact W1.out | refine blw_drewN ?_ _ | refine Below.setCell ?_ (by first | (simp; done) | omega | (simp; omega)) _ | refine Below.alloc ?_ (by first | (simp; done) | omega | (simp; omega)) _)) hb)
  have n2 := hb.size
  try simp at n2
  have k2_z0 := cell_keep (a := ⟨w.heap.size, 0, none⟩) (v := .int .i64 0) (by first | (go_keep; done) | (simp [go_sem, *]; done)) hb
  have f2_z0 := (hb.frozen (p := ⟨w.heap.size, 0, none⟩) (by first | (simp; done) | omega | (simp; omega))).trans (show _ = false by first | exact f1_z0 | (simp; done) | (simp [go_sem]; done) | (simp [f1_z0]; done) | exact ((blw_alloc _ _).frozen (p := ⟨w.heap.size, 0, none⟩) l1_z).trans f1_z0)
  have k2_z1 := cell_keep (a := ⟨w.heap.size, 1, none⟩) (v := .int .i64 0) (by first | (go_keep; done) | (simp [go_sem, *]; done)) hb
  have f2_z1 := (hb.frozen (p := ⟨w.heap.size, 1, none⟩) (by first | (simp; done) | omega | (simp; omega))).trans (show _ = false by first | exact f1_z1 | (simp; done) | (simp [go_sem]; done) | (simp [f1_z1]; done) | exact ((blw_alloc _ _).frozen (p := ⟨w.heap.size, 1, none⟩) l1_z).trans f1_z1)
  have l2_z := World.block_lt_of_cell? _ _ k2_z0
  try simp only at l2_z
  have H2_L := Lib.hid (StrsAt.below (show StrsAt _ (.slice (some ⟨bb, off, none⟩) ([a] : List (List UInt8)).length cap) [a] by repeat (first | exact HS1.out | refine StrsAt.alloc ?_ _ | refine StrsAt.drewN ?_ _)) hb)
  clear hb HS1 k1_z0 f1_z0 k1_z1 f1_z1 l1_z ca W1
  have l2n := l2_z
  go_wp2_with fail
  refine (CS.out _).mono ?_
  rintro e w' ⟨rfl, rfl⟩
  go_wp2_with fail
  refine (CF.out _).mono ?_
  rintro e w3 ⟨rfl, hb⟩
  have W3 := Lib.hid (blw_trans (show Below w.heap.size w _ by repeat (first | exact W2.out | refine blw_drewN ?_ _ | refine Below.setCell ?_ (by first | (simp; done) | omega | (simp; omega)) _ | refine Below.alloc ?_ (by first | (simp; done) | omega | (simp; omega)) _)) hb)
  have n3 := hb.size
  try simp at n3
  have k3_z0 := cell_keep (a := ⟨w.heap.size, 0, none⟩) (v := .int .i64 0) (by first | (go_keep; done) | (simp [go_sem, *]; done)) hb
  have f3_z0 := (hb.frozen (p := ⟨w.heap.size, 0, none⟩) (by first | (simp; done) | omega | (simp; omega))).trans (show _ = false by first | exact f2_z0 | (simp; done) | (simp [go_sem]; done) | (simp [f2_z0]; done) | exact ((blw_alloc _ _).frozen (p := ⟨w.heap.size, 0, none⟩) l2_z).trans f2_z0)
  have k3_z1 := cell_keep (a := ⟨w.heap.size, 1, none⟩) (v := .int .i64 0) (by first | (go_keep; done) | (simp [go_sem, *]; done)) hb
  have f3_z1 := (hb.frozen (p := ⟨w.heap.size, 1, none⟩) (by first | (simp; done) | omega | (simp; omega))).trans (show _ = false by first | exact f2_z1 | (simp; done) | (simp [go_sem]; done) | (simp [f2_z1]; done) | exact ((blw_alloc _ _).frozen (p := ⟨w.heap.size, 1, none⟩) l2_z).trans f2_z1)
  have l3_z := World.block_lt_of_cell? _ _ k3_z0
  try simp only at l3_z
  have k3_d0 := cell_keep (a := ⟨w2.heap.size, 0, none⟩) (v := .int .i64 Q) (by first | (go_keep; done) | (simp [go_sem, *]; done)) hb
  have k3_d1 := cell_keep (a := ⟨w2.heap.size, 1, none⟩) (v := .int .i64 0) (by first | (go_keep; done) | (simp [go_sem, *]; done)) hb
  have l3_d := World.block_lt_of_cell? _ _ k3_d0
  try simp only at l3_d
  have H3_L := Lib.hid (StrsAt.below (show StrsAt _ (.slice (some ⟨bb, off, none⟩) ([a] : List (List UInt8)).length cap) [a] by repeat (first | exact H2_L.out | refine StrsAt.alloc ?_ _ | refine StrsAt.drewN ?_ _)) hb)
  clear hb H2_L k2_z0 f2_z0 k2_z1 f2_z1 l2_z W2
  go_wp2_with fail
  refine (CT.out _).mono ?_
  rintro e w4 ⟨rfl, hb⟩
  have W4 := Lib.hid (blw_trans (show Below w.heap.size w _ by repeat (first | exact W3.out | refine blw_drewN ?_ _ | refine Below.setCell ?_ (by first | (simp; done) | omega | (simp; omega)) _ | refine Below.alloc ?_ (by first | (simp; done) | omega | (simp; omega)) _)) hb)
  have n4 := hb.size
  try simp at n4
  have k4_z0 := cell_keep (a := ⟨w.heap.size, 0, none⟩) (v := .int .i64 0) (by first | (go_keep; done) | (simp [go_sem, *]; done)) hb
  have f4_z0 := (hb.frozen (p := ⟨w.heap.size, 0, none⟩) (by first | (simp; done) | omega | (simp; omega))).trans (show _ = false by first | exact f3_z0 | (simp; done) | (simp [go_sem]; done) | (simp [f3_z0]; done) | exact ((blw_alloc _ _).frozen (p := ⟨w.heap.size, 0, none⟩) l3_z).trans f3_z0)
  have k4_z1 := cell_keep (a := ⟨w.heap.size, 1, none⟩) (v := .int .i64 0) (by first | (go_keep; done) | (simp [go_sem, *]; done)) hb
  have f4_z1 := (hb.frozen (p := ⟨w.heap.size, 1, none⟩) (by first | (simp; done) | omega | (simp; omega))).trans (show _ = false by first | exact f3_z1 | (simp; done) | (simp [go_sem]; done) | (simp [f3_z1]; done) | exact ((blw_alloc _ _).frozen (p := ⟨w.heap.size, 1, none⟩) l3_z).trans f3_z1)
  have l4_z := World.block_lt_of_cell? _ _ k4_z0
  try simp only at l4_z
  have k4_d0 := cell_keep (a := ⟨w2.heap.size, 0, none⟩) (v := .int .i64 Q) (by first | (go_keep; done) | (simp [go_sem, *]; done)) hb
  have k4_d1 := cell_keep (a := ⟨w2.heap.size, 1, none⟩) (v := .int .i64 0) (by first | (go_keep; done) | (simp [go_sem, *]; done)) hb
  have l4_d := World.block_lt_of_cell? _ _ k4_d0
  try simp only at l4_d
  have H4_L := Lib.hid (StrsAt.below (show StrsAt _ (.slice (some ⟨bb, off, none⟩) ([a] : List (List UInt8)).length cap) [a] by repeat (first | exact H3_L.out | refine StrsAt.alloc ?_ _ | refine StrsAt.drewN ?_ _)) hb)
  clear hb H3_L k3_z0 f3_z0 k3_z1 f3_z1 l3_z k3_d0 k3_d1 l3_d W3
  go_wp2_with fail
  refine bodyPost_ret (v := .tuple #[.agg #[.int .i64 0, .int .i64 0], .bool false]) (by simp [results, Tryz.results8, go_sem, *]) rfl ⟨rfl, ?_⟩
  repeat (first | with_reducible exact W4.out | refine blw_drewN ?_ _ | refine Below.setCell ?_ (by first | (simp; done) | omega | (simp; omega)) _ | refine Below.alloc ?_ (by first | (simp; done) | omega | (simp; omega)) _)

set_option maxRecDepth 100000 in
set_option maxHeartbeats 1000000 in
theorem dof_one_ne1 (t B a : List UInt8) (w : World) (hng : (t.take 1 == [45]) = true) (hB : t.drop 1 = B) (hl1 : 1 ≤ t.length) (hBl : B.length ≤ 4000000000) (hsp : Lib.split B [46] = [a]) (hal : a.length ≤ 4000000000) (hq : ¬ Byt.numP a < 0) (hqb : Byt.numP a ≤ 1000000000000000) (X : List UInt8) (hX : Byt.decText (-Byt.numP a) 0 = X) (hXt : ¬ X = t) :
    Calls Tryz.prog 8 #[.string ⟨t.toArray⟩] w fun e w' => e = .returned (.tuple #[.agg #[.int .i64 0, .int .i64 0], .bool false]) ∧ Below w.heap.size w w' := by
  have CS := Lib.hid fun w => (show Calls Tryz.prog 20 #[.string ⟨t.toArray⟩, .string ⟨#[45]⟩] w fun e w' => e = .returned (.bool true) ∧ w' = w from hng ▸ starts_any t [45] w)
  have SLm : ∀ w, (Instr.slice 9 (.string ⟨t.toArray⟩) (some (.int .i64 1)) none none).run Tryz.prog w = .ok (.string ⟨B.toArray⟩) w := fun w => hB ▸ slice_from (P := Tryz.prog) 9 Tryz.underlying9 t .i64 1 hl1 w
  have CC := Lib.hid fun w => (show Calls Tryz.prog 21 #[.string ⟨B.toArray⟩, .string ⟨#[46]⟩] w (GivesStrs w [a]) from hsp ▸ cut_any B [46] w (by simp) hBl (by simp))
  have CN := Lib.hid fun w => numof_any a w hal
  generalize Byt.numP a = Q at *
  have d0 : decide (Q < 0) = false := dec_no hq
  have q1 : (X == t) = false := beq_eq_false_iff_ne.2 hXt
  have q2 : (X != t) = true := by rw [bne, q1]; rfl
  have CF := Lib.hid fun w => dflt_no (-Q) 0 w ⟨by omega, by omega, by omega, by omega⟩
  have ct := fun w => rdect_any (-Q) 0 w ⟨by omega, by omega, by omega, by omega⟩
  rw [hX] at ct
  have CT := Lib.hid ct
  clear ct hX hXt
  clear hng hsp hB
  go_enter Tryz.func8, Tryz.ntmps8
  go_wp2_with fail
  refine (CS.out _).mono ?_
  rintro e w' ⟨rfl, rfl⟩
  go_wp2_with fail
  refine (CC.out _).mono ?_
  rintro e w1 ⟨vv, rfl, hst, hb⟩
  have W1 := Lib.hid (blw_trans (show Below w.heap.size w _ by repeat (first | exact (Below.refl _ _) | refine blw_drewN ?_ _ | refine Below.setCell ?_ (by first | (simp; done) | omega | (simp; omega)) _ | refine Below.alloc ?_ (by first | (simp; done) | omega | (simp; omega)) _)) hb)
  have n1 := hb.size
  try simp at n1
  have k1_z0 := cell_keep (a := ⟨w.heap.size, 0, none⟩) (v := .int .i64 0) (by first | (go_keep; done) | (simp [go_sem, *]; done)) hb
  have f1_z0 := (hb.frozen (p := ⟨w.heap.size, 0, none⟩) (by first | (simp; done) | omega | (simp; omega))).trans (show _ = false by first | (simp; done) | (simp [go_sem]; done))
  have k1_z1 := cell_keep (a := ⟨w.heap.size, 1, none⟩) (v := .int .i64 0) (by first | (go_keep; done) | (simp [go_sem, *]; done)) hb
  have f1_z1 := (hb.frozen (p := ⟨w.heap.size, 1, none⟩) (by first | (simp; done) | omega | (simp; omega))).trans (show _ = false by first | (simp; done) | (simp [go_sem]; done))
  have l1_z := World.block_lt_of_cell? _ _ k1_z0
  try simp only at l1_z
  clear hb
  obtain ⟨bb, off, cap, rfl, hc1, hc2, hbb⟩ := strs_open2 hst (by simp)
  unfold maxLen at hc2
  have ca := strs_cell hst 0 a rfl
  rw [Nat.add_zero] at ca
  have HS1 := Lib.hid hst
  clear hst
  first | simp only [List.length_cons] at hc1 | skip
  go_wp2_with fail
  refine (CN.out _).mono ?_
  rintro e w2 ⟨rfl, hb⟩
  have W2 := Lib.hid (blw_trans (show Below w.heap.size w _ by repeat (first | exact W1.out | refine blw_drewN ?_ _ | refine Below.setCell ?_ (by first | (simp; done) | omega | (simp; omega)) _ | refine Below.alloc ?_ (by first | (simp; done) | omega | (simp; omega)) _)) hb)
  have n2 := hb.size
  try simp at n2
  have k2_z0 := cell_keep (a := ⟨w.heap.size, 0, none⟩) (v := .int .i64 0) (by first | (go_keep; done) | (simp [go_sem, *]; done)) hb
  have f2_z0 := (hb.frozen (p := ⟨w.heap.size, 0, none⟩) (by first | (simp; done) | omega | (simp; omega))).trans (show _ = false by first | exact f1_z0 | (simp; done) | (simp [go_sem]; done) | (simp [f1_z0]; done) | exact ((blw_alloc _ _).frozen (p := ⟨w.heap.size, 0, none⟩) l1_z).trans f1_z0)
  have k2_z1 := cell_keep (a := ⟨w.heap.size, 1, none⟩) (v := .int .i64 0) (by first | (go_keep; done) | (simp [go_sem, *]; done)) hb
  have f2_z1 := (hb.frozen (p := ⟨w.heap.size, 1, none⟩) (by first | (simp; done) | omega | (simp; omega))).trans (show _ = false by first | exact f1_z1 | (simp; done) | (simp [go_sem]; done) | (simp [f1_z1]; done) | exact ((blw_alloc _ _).frozen (p := ⟨w.heap.size, 1, none⟩) l1_z).trans f1_z1)
  have l2_z := World.block_lt_of_cell? _ _ k2_z0
  try simp only at l2_z
  have H2_L := Lib.hid (StrsAt.below (show StrsAt _ (.slice (some ⟨bb, off, none⟩) ([a] : List (List UInt8)).length cap) [a] by repeat (first | exact HS1.out | refine StrsAt.alloc ?_ _ | refine StrsAt.drewN ?_ _)) hb)
  clear hb HS1 k1_z0 f1_z0 k1_z1 f1_z1 l1_z ca W1
  have l2n := l2_z
  go_wp2_with fail
  refine (CS.out _).mono ?_
  rintro e w' ⟨rfl, rfl⟩
  go_wp2_with fail
  refine (CF.out _).mono ?_
  rintro e w3 ⟨rfl, hb⟩
  have W3 := Lib.hid (blw_trans (show Below w.heap.size w _ by repeat (first | exact W2.out | refine blw_drewN ?_ _ | refine Below.setCell ?_ (by first | (simp; done) | omega | (simp; omega)) _ | refine Below.alloc ?_ (by first | (simp; done) | omega | (simp; omega)) _)) hb)
  have n3 := hb.size
  try simp at n3
  have k3_z0 := cell_keep (a := ⟨w.heap.size, 0, none⟩) (v := .int .i64 0) (by first | (go_keep; done) | (simp [go_sem, *]; done)) hb
  have f3_z0 := (hb.frozen (p := ⟨w.heap.size, 0, none⟩) (by first | (simp; done) | omega | (simp; omega))).trans (show _ = false by first | exact f2_z0 | (simp; done) | (simp [go_sem]; done) | (simp [f2_z0]; done) | exact ((blw_alloc _ _).frozen (p := ⟨w.heap.size, 0, none⟩) l2_z).trans f2_z0)
  have k3_z1 := cell_keep (a := ⟨w.heap.size, 1, none⟩) (v := .int .i64 0) (by first | (go_keep; done) | (simp [go_sem, *]; done)) hb
  have f3_z1 := (hb.frozen (p := ⟨w.heap.size, 1, none⟩) (by first | (simp; done) | omega | (simp; omega))).trans (show _ = false by first | exact f2_z1 | (simp; done) | (simp [go_sem]; done) | (simp [f2_z1]; done) | exact ((blw_alloc _ _).frozen (p := ⟨w.heap.size, 1, none⟩) l2_z).trans f2_z1)
  have l3_z := World.block_lt_of_cell? _ _ k3_z0
  try simp only at l3_z
  have k3_d0 := cell_keep (a := ⟨w2.heap.size, 0, none⟩) (v := .int .i64 (-Q)) (by first | (go_keep; done) | (simp [go_sem, *]; done)) hb
  have k3_d1 := cell_keep (a := ⟨w2.heap.size, 1, none⟩) (v := .int .i64 0) (by first | (go_keep; done) | (simp [go_sem, *]; done)) hb
  have l3_d := World.block_lt_of_cell? _ _ k3_d0
  try simp only at l3_d
  have H3_L := Lib.hid (StrsAt.below (show StrsAt _ (.slice (some ⟨bb, off, none⟩) ([a] : List (List UInt8)).length cap) [a] by repeat (first | exact H2_L.out | refine StrsAt.alloc ?_ _ | refine StrsAt.drewN ?_ _)) hb)
  clear hb H2_L k2_z0 f2_z0 k2_z1 f2_z1 l2_z W2
  go_wp2_with fail
  refine (CT.out _).mono ?_
  rintro e w4 ⟨rfl, hb⟩
  have W4 := Lib.hid (blw_trans (show Below w.heap.size w _ by repeat (first | exact W3.out | refine blw_drewN ?_ _ | refine Below.setCell ?_ (by first | (simp; done) | omega | (simp; omega)) _ | refine Below.alloc ?_ (by first | (simp; done) | omega | (simp; omega)) _)) hb)
  have n4 := hb.size
  try simp at n4
  have k4_z0 := cell_keep (a := ⟨w.heap.size, 0, none⟩) (v := .int .i64 0) (by first | (go_keep; done) | (simp [go_sem, *]; done)) hb
  have f4_z0 := (hb.frozen (p := ⟨w.heap.size, 0, none⟩) (by first | (simp; done) | omega | (simp; omega))).trans (show _ = false by first | exact f3_z0 | (simp; done) | (simp [go_sem]; done) | (simp [f3_z0]; done) | exact ((blw_alloc _ _).frozen (p := ⟨w.heap.size, 0, none⟩) l3_z).trans f3_z0)
  have k4_z1 := cell_keep (a := ⟨w.heap.size, 1, none⟩) (v := .int .i64 0) (by first | (go_keep; done) | (simp [go_sem, *]; done)) hb
  have f4_z1 := (hb.frozen (p := ⟨w.heap.size, 1, none⟩) (by first | (simp; done) | omega | (simp; omega))).trans (show _ = false by first | exact f3_z1 | (simp; done) | (simp [go_sem]; done) | (simp [f3_z1]; done) | exact ((blw_alloc _ _).frozen (p := ⟨w.heap.size, 1, none⟩) l3_z).trans f3_z1)
  have l4_z := World.block_lt_of_cell? _ _ k4_z0
  try simp only at l4_z
  have k4_d0 := cell_keep (a := ⟨w2.heap.size, 0, none⟩) (v := .int .i64 (-Q)) (by first | (go_keep; done) | (simp [go_sem, *]; done)) hb
  have k4_d1 := cell_keep (a := ⟨w2.heap.size, 1, none⟩) (v := .int .i64 0) (by first | (go_keep; done) | (simp [go_sem, *]; done)) hb
  have l4_d := World.block_lt_of_cell? _ _ k4_d0
  try simp only at l4_d
  have H4_L := Lib.hid (StrsAt.below (show StrsAt _ (.slice (some ⟨bb, off, none⟩) ([a] : List (List UInt8)).length cap) [a] by repeat (first | exact H3_L.out | refine StrsAt.alloc ?_ _ | refine StrsAt.drewN ?_ _)) hb)
  clear hb H3_L k3_z0 f3_z0 k3_z1 f3_z1 l3_z k3_d0 k3_d1 l3_d W3
  go_wp2_with fail
  refine bodyPost_ret (v := .tuple #[.agg #[.int .i64 0, .int .i64 0], .bool false]) (by simp [results, Tryz.results8, go_sem, *]) rfl ⟨rfl, ?_⟩
  repeat (first | with_reducible exact W4.out | refine blw_drewN ?_ _ | refine Below.setCell ?_ (by first | (simp; done) | omega | (simp; omega)) _ | refine Below.alloc ?_ (by first | (simp; done) | omega | (simp; omega)) _)
end Go.Proofs.YtdmenoimamnldaaGreatDoor
namespace Go.Proofs.YtdmenoimamnldaaGreatDoor
open Go.RowKit
open Dcm (P10 okD mag)

set_option maxRecDepth 100000 in
set_option maxHeartbeats 1000000 in
theorem dof_odd0 (t B a b : List UInt8) (w : World) (hng : (t.take 1 == [45]) = false) (hB : t = B) (_hl1 : True) (hBl : B.length ≤ 4000000000) (hsp : Lib.split B [46] = [a, b]) (hal : a.length ≤ 4000000000) (hq : ¬ Byt.numP a < 0) (_hqb : Byt.numP a ≤ 1000000000000000) (hbl : b.length ≤ 4000000000) (hob : onlyB b Byt.digs 1 9 = false) :
    Calls Tryz.prog 8 #[.string ⟨t.toArray⟩] w fun e w' => e = .returned (.tuple #[.agg #[.int .i64 0, .int .i64 0], .bool false]) ∧ Below w.heap.size w w' := by
  have CS := Lib.hid fun w => (show Calls Tryz.prog 20 #[.string ⟨t.toArray⟩, .string ⟨#[45]⟩] w fun e w' => e = .returned (.bool false) ∧ w' = w from hng ▸ starts_any t [45] w)
  have CC := Lib.hid fun w => (show Calls Tryz.prog 21 #[.string ⟨B.toArray⟩, .string ⟨#[46]⟩] w (GivesStrs w [a, b]) from hsp ▸ cut_any B [46] w (by simp) hBl (by simp))
  have CN := Lib.hid fun w => numof_any a w hal
  generalize Byt.numP a = Q at *
  have d0 : decide (Q < 0) = false := dec_no hq
  have CO := Lib.hid fun w => (show Calls Tryz.prog 23 #[.string ⟨b.toArray⟩, .string ⟨#[48, 49, 50, 51, 52, 53, 54, 55, 56, 57]⟩, .int .i64 1, .int .i64 9] w fun e w' => e = .returned (.bool false) ∧ Drew w w' from hob ▸ only_any b Byt.digs 1 9 w hbl (by decide))
  clear hob
  subst hB
  clear hng hsp
  go_enter Tryz.func8, Tryz.ntmps8
  go_wp2_with fail
  refine (CS.out _).mono ?_
  rintro e w' ⟨rfl, rfl⟩
  go_wp2_with fail
  refine (CC.out _).mono ?_
  rintro e w1 ⟨vv, rfl, hst, hb⟩
  have W1 := Lib.hid (blw_trans (show Below w.heap.size w _ by repeat (first | exact (Below.refl _ _) | refine blw_drewN ?_ _ | refine Below.setCell ?_ (by first | (simp; done) | omega | (simp; omega)) _ | refine Below.alloc ?_ (by first | (simp; done) | omega | (simp; omega)) _)) hb)
  have n1 := hb.size
  try simp at n1
  have k1_z0 := cell_keep (a := ⟨w.heap.size, 0, none⟩) (v := .int .i64 0) (by first | (go_keep; done) | (simp [go_sem, *]; done)) hb
  have f1_z0 := (hb.frozen (p := ⟨w.heap.size, 0, none⟩) (by first | (simp; done) | omega | (simp; omega))).trans (show _ = false by first | (simp; done) | (simp [go_sem]; done))
  have k1_z1 := cell_keep (a := ⟨w.heap.size, 1, none⟩) (v := .int .i64 0) (by first | (go_keep; done) | (simp [go_sem, *]; done)) hb
  have f1_z1 := (hb.frozen (p := ⟨w.heap.size, 1, none⟩) (by first | (simp; done) | omega | (simp; omega))).trans (show _ = false by first | (simp; done) | (simp [go_sem]; done))
  have l1_z := World.block_lt_of_cell? _ _ k1_z0
  try simp only at l1_z
  clear hb
  obtain ⟨bb, off, cap, rfl, hc1, hc2, hbb⟩ := strs_open2 hst (by simp)
  unfold maxLen at hc2
  have ca := strs_cell hst 0 a rfl
  rw [Nat.add_zero] at ca
  have HS1 := Lib.hid hst
  clear hst
  first | simp only [List.length_cons] at hc1 | skip
  go_wp2_with fail
  refine (CN.out _).mono ?_
  rintro e w2 ⟨rfl, hb⟩
  have W2 := Lib.hid (blw_trans (show Below w.heap.size w _ by repeat (first | exact W1.out | refine blw_drewN ?_ _ | refine Below.setCell ?_ (by first | (simp; done) | omega | (simp; omega)) _ | refine Below.alloc ?_ (by first | (simp; done) | omega | (simp; omega)) _)) hb)
  have n2 := hb.size
  try simp at n2
  have k2_z0 := cell_keep (a := ⟨w.heap.size, 0, none⟩) (v := .int .i64 0) (by first | (go_keep; done) | (simp [go_sem, *]; done)) hb
  have f2_z0 := (hb.frozen (p := ⟨w.heap.size, 0, none⟩) (by first | (simp; done) | omega | (simp; omega))).trans (show _ = false by first | exact f1_z0 | (simp; done) | (simp [go_sem]; done) | (simp [f1_z0]; done) | exact ((blw_alloc _ _).frozen (p := ⟨w.heap.size, 0, none⟩) l1_z).trans f1_z0)
  have k2_z1 := cell_keep (a := ⟨w.heap.size, 1, none⟩) (v := .int .i64 0) (by first | (go_keep; done) | (simp [go_sem, *]; done)) hb
  have f2_z1 := (hb.frozen (p := ⟨w.heap.size, 1, none⟩) (by first | (simp; done) | omega | (simp; omega))).trans (show _ = false by first | exact f1_z1 | (simp; done) | (simp [go_sem]; done) | (simp [f1_z1]; done) | exact ((blw_alloc _ _).frozen (p := ⟨w.heap.size, 1, none⟩) l1_z).trans f1_z1)
  have l2_z := World.block_lt_of_cell? _ _ k2_z0
  try simp only at l2_z
  have H2_L := Lib.hid (StrsAt.below (show StrsAt _ (.slice (some ⟨bb, off, none⟩) ([a, b] : List (List UInt8)).length cap) [a, b] by repeat (first | exact HS1.out | refine StrsAt.alloc ?_ _ | refine StrsAt.drewN ?_ _)) hb)
  clear hb HS1 k1_z0 f1_z0 k1_z1 f1_z1 l1_z ca W1
  have cb := strs_cell H2_L.out 1 b rfl
  have hbb2 : bb < w2.heap.size := World.block_lt_of_cell? _ _ cb
  go_wp2_with fail
  refine (CO.out _).mono ?_
  rintro e w3 ⟨rfl, nq, rfl⟩
  go_wp2_with fail
  refine bodyPost_ret (v := .tuple #[.agg #[.int .i64 0, .int .i64 0], .bool false]) (by simp [results, Tryz.results8, go_sem, *]) rfl ⟨rfl, ?_⟩
  repeat (first | with_reducible exact W2.out | refine blw_drewN ?_ _ | refine Below.setCell ?_ (by first | (simp; done) | omega | (simp; omega)) _ | refine Below.alloc ?_ (by first | (simp; done) | omega | (simp; omega)) _)

set_option maxRecDepth 100000 in
set_option maxHeartbeats 1000000 in
theorem dof_odd1 (t B a b : List UInt8) (w : World) (hng : (t.take 1 == [45]) = true) (hB : t.drop 1 = B) (hl1 : 1 ≤ t.length) (hBl : B.length ≤ 4000000000) (hsp : Lib.split B [46] = [a, b]) (hal : a.length ≤ 4000000000) (hq : ¬ Byt.numP a < 0) (_hqb : Byt.numP a ≤ 1000000000000000) (hbl : b.length ≤ 4000000000) (hob : onlyB b Byt.digs 1 9 = false) :
    Calls Tryz.prog 8 #[.string ⟨t.toArray⟩] w fun e w' => e = .returned (.tuple #[.agg #[.int .i64 0, .int .i64 0], .bool false]) ∧ Below w.heap.size w w' := by
  have CS := Lib.hid fun w => (show Calls Tryz.prog 20 #[.string ⟨t.toArray⟩, .string ⟨#[45]⟩] w fun e w' => e = .returned (.bool true) ∧ w' = w from hng ▸ starts_any t [45] w)
  have SLm : ∀ w, (Instr.slice 9 (.string ⟨t.toArray⟩) (some (.int .i64 1)) none none).run Tryz.prog w = .ok (.string ⟨B.toArray⟩) w := fun w => hB ▸ slice_from (P := Tryz.prog) 9 Tryz.underlying9 t .i64 1 hl1 w
  have CC := Lib.hid fun w => (show Calls Tryz.prog 21 #[.string ⟨B.toArray⟩, .string ⟨#[46]⟩] w (GivesStrs w [a, b]) from hsp ▸ cut_any B [46] w (by simp) hBl (by simp))
  have CN := Lib.hid fun w => numof_any a w hal
  generalize Byt.numP a = Q at *
  have d0 : decide (Q < 0) = false := dec_no hq
  have CO := Lib.hid fun w => (show Calls Tryz.prog 23 #[.string ⟨b.toArray⟩, .string ⟨#[48, 49, 50, 51, 52, 53, 54, 55, 56, 57]⟩, .int .i64 1, .int .i64 9] w fun e w' => e = .returned (.bool false) ∧ Drew w w' from hob ▸ only_any b Byt.digs 1 9 w hbl (by decide))
  clear hob
  clear hng hsp hB
  go_enter Tryz.func8, Tryz.ntmps8
  go_wp2_with fail
  refine (CS.out _).mono ?_
  rintro e w' ⟨rfl, rfl⟩
  go_wp2_with fail
  refine (CC.out _).mono ?_
  rintro e w1 ⟨vv, rfl, hst, hb⟩
  have W1 := Lib.hid (blw_trans (show Below w.heap.size w _ by repeat (first | exact (Below.refl _ _) | refine blw_drewN ?_ _ | refine Below.setCell ?_ (by first | (simp; done) | omega | (simp; omega)) _ | refine Below.alloc ?_ (by first | (simp; done) | omega | (simp; omega)) _)) hb)
  have n1 := hb.size
  try simp at n1
  have k1_z0 := cell_keep (a := ⟨w.heap.size, 0, none⟩) (v := .int .i64 0) (by first | (go_keep; done) | (simp [go_sem, *]; done)) hb
  have f1_z0 := (hb.frozen (p := ⟨w.heap.size, 0, none⟩) (by first | (simp; done) | omega | (simp; omega))).trans (show _ = false by first | (simp; done) | (simp [go_sem]; done))
  have k1_z1 := cell_keep (a := ⟨w.heap.size, 1, none⟩) (v := .int .i64 0) (by first | (go_keep; done) | (simp [go_sem, *]; done)) hb
  have f1_z1 := (hb.frozen (p := ⟨w.heap.size, 1, none⟩) (by first | (simp; done) | omega | (simp; omega))).trans (show _ = false by first | (simp; done) | (simp [go_sem]; done))
  have l1_z := World.block_lt_of_cell? _ _ k1_z0
  try simp only at l1_z
  clear hb
  obtain ⟨bb, off, cap, rfl, hc1, hc2, hbb⟩ := strs_open2 hst (by simp)
  unfold maxLen at hc2
  have ca := strs_cell hst 0 a rfl
  rw [Nat.add_zero] at ca
  have HS1 := Lib.hid hst
  clear hst
  first | simp only [List.length_cons] at hc1 | skip
  go_wp2_with fail
  refine (CN.out _).mono ?_
  rintro e w2 ⟨rfl, hb⟩
  have W2 := Lib.hid (blw_trans (show Below w.heap.size w _ by repeat (first | exact W1.out | refine blw_drewN ?_ _ | refine Below.setCell ?_ (by first | (simp; done) | omega | (simp; omega)) _ | refine Below.alloc ?_ (by first | (simp; done) | omega | (simp; omega)) _)) hb)
  have n2 := hb.size
  try simp at n2
  have k2_z0 := cell_keep (a := ⟨w.heap.size, 0, none⟩) (v := .int .i64 0) (by first | (go_keep; done) | (simp [go_sem, *]; done)) hb
  have f2_z0 := (hb.frozen (p := ⟨w.heap.size, 0, none⟩) (by first | (simp; done) | omega | (simp; omega))).trans (show _ = false by first | exact f1_z0 | (simp; done) | (simp [go_sem]; done) | (simp [f1_z0]; done) | exact ((blw_alloc _ _).frozen (p := ⟨w.heap.size, 0, none⟩) l1_z).trans f1_z0)
  have k2_z1 := cell_keep (a := ⟨w.heap.size, 1, none⟩) (v := .int .i64 0) (by first | (go_keep; done) | (simp [go_sem, *]; done)) hb
  have f2_z1 := (hb.frozen (p := ⟨w.heap.size, 1, none⟩) (by first | (simp; done) | omega | (simp; omega))).trans (show _ = false by first | exact f1_z1 | (simp; done) | (simp [go_sem]; done) | (simp [f1_z1]; done) | exact ((blw_alloc _ _).frozen (p := ⟨w.heap.size, 1, none⟩) l1_z).trans f1_z1)
  have l2_z := World.block_lt_of_cell? _ _ k2_z0
  try simp only at l2_z
  have H2_L := Lib.hid (StrsAt.below (show StrsAt _ (.slice (some ⟨bb, off, none⟩) ([a, b] : List (List UInt8)).length cap) [a, b] by repeat (first | exact HS1.out | refine StrsAt.alloc ?_ _ | refine StrsAt.drewN ?_ _)) hb)
  clear hb HS1 k1_z0 f1_z0 k1_z1 f1_z1 l1_z ca W1
  have cb := strs_cell H2_L.out 1 b rfl
  have hbb2 : bb < w2.heap.size := World.block_lt_of_cell? _ _ cb
  go_wp2_with fail
  refine (CO.out _).mono ?_
  rintro e w3 ⟨rfl, nq, rfl⟩
  go_wp2_with fail
  refine bodyPost_ret (v := .tuple #[.agg #[.int .i64 0, .int .i64 0], .bool false]) (by simp [results, Tryz.results8, go_sem, *]) rfl ⟨rfl, ?_⟩
  repeat (first | with_reducible exact W2.out | refine blw_drewN ?_ _ | refine Below.setCell ?_ (by first | (simp; done) | omega | (simp; omega)) _ | refine Below.alloc ?_ (by first | (simp; done) | omega | (simp; omega)) _)

set_option maxRecDepth 100000 in
set_option maxHeartbeats 1000000 in
theorem dof_far0 (t B a b : List UInt8) (w : World) (hng : (t.take 1 == [45]) = false) (hB : t = B) (_hl1 : True) (hBl : B.length ≤ 4000000000) (hsp : Lib.split B [46] = [a, b]) (hal : a.length ≤ 4000000000) (hq : ¬ Byt.numP a < 0) (_hqb : Byt.numP a ≤ 1000000000000000) (hbl : b.length ≤ 4000000000) (hob : onlyB b Byt.digs 1 9 = true) (hbn : b.length ≤ 9) (hf : 1000000000000000 / P10 (b.length : Int) < Byt.numP a) :
    Calls Tryz.prog 8 #[.string ⟨t.toArray⟩] w fun e w' => e = .returned (.tuple #[.agg #[.int .i64 0, .int .i64 0], .bool false]) ∧ Below w.heap.size w w' := by
  have CS := Lib.hid fun w => (show Calls Tryz.prog 20 #[.string ⟨t.toArray⟩, .string ⟨#[45]⟩] w fun e w' => e = .returned (.bool false) ∧ w' = w from hng ▸ starts_any t [45] w)
  have CC := Lib.hid fun w => (show Calls Tryz.prog 21 #[.string ⟨B.toArray⟩, .string ⟨#[46]⟩] w (GivesStrs w [a, b]) from hsp ▸ cut_any B [46] w (by simp) hBl (by simp))
  have CN := Lib.hid fun w => numof_any a w hal
  generalize Byt.numP a = Q at *
  have d0 : decide (Q < 0) = false := dec_no hq
  have CO := Lib.hid fun w => (show Calls Tryz.prog 23 #[.string ⟨b.toArray⟩, .string ⟨#[48, 49, 50, 51, 52, 53, 54, 55, 56, 57]⟩, .int .i64 1, .int .i64 9] w fun e w' => e = .returned (.bool true) ∧ Drew w w' from hob ▸ only_any b Byt.digs 1 9 w hbl (by decide))
  clear hob
  have hP := Dcm.P10_bd (b.length : Int)
  have d1 : decide (1000000000000000 / P10 (b.length : Int) < Q) = true := dec_yes hf
  subst hB
  clear hng hsp
  go_enter Tryz.func8, Tryz.ntmps8
  go_wp2_with fail
  refine (CS.out _).mono ?_
  rintro e w' ⟨rfl, rfl⟩
  go_wp2_with fail
  refine (CC.out _).mono ?_
  rintro e w1 ⟨vv, rfl, hst, hb⟩
  have W1 := Lib.hid (blw_trans (show Below w.heap.size w _ by repeat (first | exact (Below.refl _ _) | refine blw_drewN ?_ _ | refine Below.setCell ?_ (by first | (simp; done) | omega | (simp; omega)) _ | refine Below.alloc ?_ (by first | (simp; done) | omega | (simp; omega)) _)) hb)
  have n1 := hb.size
  try simp at n1
  have k1_z0 := cell_keep (a := ⟨w.heap.size, 0, none⟩) (v := .int .i64 0) (by first | (go_keep; done) | (simp [go_sem, *]; done)) hb
  have f1_z0 := (hb.frozen (p := ⟨w.heap.size, 0, none⟩) (by first | (simp; done) | omega | (simp; omega))).trans (show _ = false by first | (simp; done) | (simp [go_sem]; done))
  have k1_z1 := cell_keep (a := ⟨w.heap.size, 1, none⟩) (v := .int .i64 0) (by first | (go_keep; done) | (simp [go_sem, *]; done)) hb
  have f1_z1 := (hb.frozen (p := ⟨w.heap.size, 1, none⟩) (by first | (simp; done) | omega | (simp; omega))).trans (show _ = false by first | (simp; done) | (simp [go_sem]; done))
  have l1_z := World.block_lt_of_cell? _ _ k1_z0
  try simp only at l1_z
  clear hb
  obtain ⟨bb, off, cap, rfl, hc1, hc2, hbb⟩ := strs_open2 hst (by simp)
  unfold maxLen at hc2
  have ca := strs_cell hst 0 a rfl
  rw [Nat.add_zero] at ca
  have HS1 := Lib.hid hst
  clear hst
  first | simp only [List.length_cons] at hc1 | skip
  go_wp2_with fail
  refine (CN.out _).mono ?_
  rintro e w2 ⟨rfl, hb⟩
  have W2 := Lib.hid (blw_trans (show Below w.heap.size w _ by repeat (first | exact W1.out | refine blw_drewN ?_ _ | refine Below.setCell ?_ (by first | (simp; done) | omega | (simp; omega)) _ | refine Below.alloc ?_ (by first | (simp; done) | omega | (simp; omega)) _)) hb)
  have n2 := hb.size
  try simp at n2
  have k2_z0 := cell_keep (a := ⟨w.heap.size, 0, none⟩) (v := .int .i64 0) (by first | (go_keep; done) | (simp [go_sem, *]; done)) hb
  have f2_z0 := (hb.frozen (p := ⟨w.heap.size, 0, none⟩) (by first | (simp; done) | omega | (simp; omega))).trans (show _ = false by first | exact f1_z0 | (simp; done) | (simp [go_sem]; done) | (simp [f1_z0]; done) | exact ((blw_alloc _ _).frozen (p := ⟨w.heap.size, 0, none⟩) l1_z).trans f1_z0)
  have k2_z1 := cell_keep (a := ⟨w.heap.size, 1, none⟩) (v := .int .i64 0) (by first | (go_keep; done) | (simp [go_sem, *]; done)) hb
  have f2_z1 := (hb.frozen (p := ⟨w.heap.size, 1, none⟩) (by first | (simp; done) | omega | (simp; omega))).trans (show _ = false by first | exact f1_z1 | (simp; done) | (simp [go_sem]; done) | (simp [f1_z1]; done) | exact ((blw_alloc _ _).frozen (p := ⟨w.heap.size, 1, none⟩) l1_z).trans f1_z1)
  have l2_z := World.block_lt_of_cell? _ _ k2_z0
  try simp only at l2_z
  have H2_L := Lib.hid (StrsAt.below (show StrsAt _ (.slice (some ⟨bb, off, none⟩) ([a, b] : List (List UInt8)).length cap) [a, b] by repeat (first | exact HS1.out | refine StrsAt.alloc ?_ _ | refine StrsAt.drewN ?_ _)) hb)
  clear hb HS1 k1_z0 f1_z0 k1_z1 f1_z1 l1_z ca W1
  have cb := strs_cell H2_L.out 1 b rfl
  have hbb2 : bb < w2.heap.size := World.block_lt_of_cell? _ _ cb
  go_wp2_with fail
  refine (CO.out _).mono ?_
  rintro e w3 ⟨rfl, nq, rfl⟩
  go_wp2_with fail
  refine (ten_any _ _ (by omega) (by omega)).mono ?_
  rintro e w' ⟨rfl, rfl⟩
  go_wp2_with fail
  refine bodyPost_ret (v := .tuple #[.agg #[.int .i64 0, .int .i64 0], .bool false]) (by simp [results, Tryz.results8, go_sem, *]) rfl ⟨rfl, ?_⟩
  repeat (first | with_reducible exact W2.out | refine blw_drewN ?_ _ | refine Below.setCell ?_ (by first | (simp; done) | omega | (simp; omega)) _ | refine Below.alloc ?_ (by first | (simp; done) | omega | (simp; omega)) _)

set_option maxRecDepth 100000 in
set_option maxHeartbeats 1000000 in
theorem dof_far1 (t B a b : List UInt8) (w : World) (hng : (t.take 1 == [45]) = true) (hB : t.drop 1 = B) (hl1 : 1 ≤ t.length) (hBl : B.length ≤ 4000000000) (hsp : Lib.split B [46] = [a, b]) (hal : a.length ≤ 4000000000) (hq : ¬ Byt.numP a < 0) (_hqb : Byt.numP a ≤ 1000000000000000) (hbl : b.length ≤ 4000000000) (hob : onlyB b Byt.digs 1 9 = true) (hbn : b.length ≤ 9) (hf : 1000000000000000 / P10 (b.length : Int) < Byt.numP a) :
    Calls Tryz.prog 8 #[.string ⟨t.toArray⟩] w fun e w' => e = .returned (.tuple #[.agg #[.int .i64 0, .int .i64 0], .bool false]) ∧ Below w.heap.size w w' := by
  have CS := Lib.hid fun w => (show Calls Tryz.prog 20 #[.string ⟨t.toArray⟩, .string ⟨#[45]⟩] w fun e w' => e = .returned (.bool true) ∧ w' = w from hng ▸ starts_any t [45] w)
  have SLm : ∀ w, (Instr.slice 9 (.string ⟨t.toArray⟩) (some (.int .i64 1)) none none).run Tryz.prog w = .ok (.string ⟨B.toArray⟩) w := fun w => hB ▸ slice_from (P := Tryz.prog) 9 Tryz.underlying9 t .i64 1 hl1 w
  have CC := Lib.hid fun w => (show Calls Tryz.prog 21 #[.string ⟨B.toArray⟩, .string ⟨#[46]⟩] w (GivesStrs w [a, b]) from hsp ▸ cut_any B [46] w (by simp) hBl (by simp))
  have CN := Lib.hid fun w => numof_any a w hal
  generalize Byt.numP a = Q at *
  have d0 : decide (Q < 0) = false := dec_no hq
  have CO := Lib.hid fun w => (show Calls Tryz.prog 23 #[.string ⟨b.toArray⟩, .string ⟨#[48, 49, 50, 51, 52, 53, 54, 55, 56, 57]⟩, .int .i64 1, .int .i64 9] w fun e w' => e = .returned (.bool true) ∧ Drew w w' from hob ▸ only_any b Byt.digs 1 9 w hbl (by decide))
  clear hob
  have hP := Dcm.P10_bd (b.length : Int)
  have d1 : decide (1000000000000000 / P10 (b.length : Int) < Q) = true := dec_yes hf
  clear hng hsp hB
  go_enter Tryz.func8, Tryz.ntmps8
  go_wp2_with fail
  refine (CS.out _).mono ?_
  rintro e w' ⟨rfl, rfl⟩
  go_wp2_with fail
  refine (CC.out _).mono ?_
  rintro e w1 ⟨vv, rfl, hst, hb⟩
  have W1 := Lib.hid (blw_trans (show Below w.heap.size w _ by repeat (first | exact (Below.refl _ _) | refine blw_drewN ?_ _ | refine Below.setCell ?_ (by first | (simp; done) | omega | (simp; omega)) _ | refine Below.alloc ?_ (by first | (simp; done) | omega | (simp; omega)) _)) hb)
  have n1 := hb.size
  try simp at n1
  have k1_z0 := cell_keep (a := ⟨w.heap.size, 0, none⟩) (v := .int .i64 0) (by first | (go_keep; done) | (simp [go_sem, *]; done)) hb
  have f1_z0 := (hb.frozen (p := ⟨w.heap.size, 0, none⟩) (by first | (simp; done) | omega | (simp; omega))).trans (show _ = false by first | (simp; done) | (simp [go_sem]; done))
  have k1_z1 := cell_keep (a := ⟨w.heap.size, 1, none⟩) (v := .int .i64 0) (by first | (go_keep; done) | (simp [go_sem, *]; done)) hb
  have f1_z1 := (hb.frozen (p := ⟨w.heap.size, 1, none⟩) (by first | (simp; done) | omega | (simp; omega))).trans (show _ = false by first | (simp; done) | (simp [go_sem]; done))
  have l1_z := World.block_lt_of_cell? _ _ k1_z0
  try simp only at l1_z
  clear hb
  obtain ⟨bb, off, cap, rfl, hc1, hc2, hbb⟩ := strs_open2 hst (by simp)
  unfold maxLen at hc2
  have ca := strs_cell hst 0 a rfl
  rw [Nat.add_zero] at ca
  have HS1 := Lib.hid hst
  clear hst
  first | simp only [List.length_cons] at hc1 | skip
  go_wp2_with fail
  refine (CN.out _).mono ?_
  rintro e w2 ⟨rfl, hb⟩
  have W2 := Lib.hid (blw_trans (show Below w.heap.size w _ by repeat (first | exact W1.out | refine blw_drewN ?_ _ | refine Below.setCell ?_ (by first | (simp; done) | omega | (simp; omega)) _ | refine Below.alloc ?_ (by first | (simp; done) | omega | (simp; omega)) _)) hb)
  have n2 := hb.size
  try simp at n2
  have k2_z0 := cell_keep (a := ⟨w.heap.size, 0, none⟩) (v := .int .i64 0) (by first | (go_keep; done) | (simp [go_sem, *]; done)) hb
  have f2_z0 := (hb.frozen (p := ⟨w.heap.size, 0, none⟩) (by first | (simp; done) | omega | (simp; omega))).trans (show _ = false by first | exact f1_z0 | (simp; done) | (simp [go_sem]; done) | (simp [f1_z0]; done) | exact ((blw_alloc _ _).frozen (p := ⟨w.heap.size, 0, none⟩) l1_z).trans f1_z0)
  have k2_z1 := cell_keep (a := ⟨w.heap.size, 1, none⟩) (v := .int .i64 0) (by first | (go_keep; done) | (simp [go_sem, *]; done)) hb
  have f2_z1 := (hb.frozen (p := ⟨w.heap.size, 1, none⟩) (by first | (simp; done) | omega | (simp; omega))).trans (show _ = false by first | exact f1_z1 | (simp; done) | (simp [go_sem]; done) | (simp [f1_z1]; done) | exact ((blw_alloc _ _).frozen (p := ⟨w.heap.size, 1, none⟩) l1_z).trans f1_z1)
  have l2_z := World.block_lt_of_cell? _ _ k2_z0
  try simp only at l2_z
  have H2_L := Lib.hid (StrsAt.below (show StrsAt _ (.slice (some ⟨bb, off, none⟩) ([a, b] : List (List UInt8)).length cap) [a, b] by repeat (first | exact HS1.out | refine StrsAt.alloc ?_ _ | refine StrsAt.drewN ?_ _)) hb)
  clear hb HS1 k1_z0 f1_z0 k1_z1 f1_z1 l1_z ca W1
  have cb := strs_cell H2_L.out 1 b rfl
  have hbb2 : bb < w2.heap.size := World.block_lt_of_cell? _ _ cb
  go_wp2_with fail
  refine (CO.out _).mono ?_
  rintro e w3 ⟨rfl, nq, rfl⟩
  go_wp2_with fail
  refine (ten_any _ _ (by omega) (by omega)).mono ?_
  rintro e w' ⟨rfl, rfl⟩
  go_wp2_with fail
  refine bodyPost_ret (v := .tuple #[.agg #[.int .i64 0, .int .i64 0], .bool false]) (by simp [results, Tryz.results8, go_sem, *]) rfl ⟨rfl, ?_⟩
  repeat (first | with_reducible exact W2.out | refine blw_drewN ?_ _ | refine Below.setCell ?_ (by first | (simp; done) | omega | (simp; omega)) _ | refine Below.alloc ?_ (by first | (simp; done) | omega | (simp; omega)) _)
end Go.Proofs.YtdmenoimamnldaaGreatDoor
