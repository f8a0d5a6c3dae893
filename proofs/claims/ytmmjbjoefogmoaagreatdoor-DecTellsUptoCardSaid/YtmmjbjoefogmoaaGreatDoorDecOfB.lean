/- The walk of linguisterref1.DecOf, texts with one point. Conditions: the text is short of 4000000000 bytes. -/
import Derived.Test.YtmmjbjoefogmoaaGreatDoorDecOfA
import Derived.OwnWalk
import Derived.LoopTactic
import Derived.StillTailTactics
import Derived.Deep.LoopGhost
namespace Go.Proofs.YtmmjbjoefogmoaaGreatDoor
open Go.RowKit
open Dcm (P10 okD mag)

set_option maxRecDepth 100000 in
set_option maxHeartbeats 1000000 in
theorem dof_odd0 (t B a b : List UInt8) (w : World) (hng : (t.take 1 == [45]) = false) (hB : t = B) (_hl1 : True) (hBl : B.length ≤ 4000000000) (hsp : Lib.split B [46] = [a, b]) (hal : a.length ≤ 4000000000) (hq : ¬ Byt.numP a < 0) (_hqb : Byt.numP a ≤ 1000000000000000) (hbl : b.length ≤ 4000000000) (hob : onlyB b Byt.digs 1 9 = false) :
    Calls Tryz.prog 13 #[.string ⟨t.toArray⟩] w fun e w' => e = .returned (.tuple #[.agg #[.int .i64 0, .int .i64 0], .bool false]) ∧ Below w.heap.size w w' := by
  have CS := Lib.hid fun w => (show Calls Tryz.prog 47 #[.string ⟨t.toArray⟩, .string ⟨#[45]⟩] w fun e w' => e = .returned (.bool false) ∧ w' = w from hng ▸ starts_any t [45] w)
  have CC := Lib.hid fun w => (show Calls Tryz.prog 48 #[.string ⟨B.toArray⟩, .string ⟨#[46]⟩] w (GivesStrs w [a, b]) from hsp ▸ cut_any B [46] w (by simp) hBl (by simp))
  have CN := Lib.hid fun w => numof_any a w hal
  generalize Byt.numP a = Q at *
  have d0 : decide (Q < 0) = false := dec_no hq
  have CO := Lib.hid fun w => (show Calls Tryz.prog 50 #[.string ⟨b.toArray⟩, .string ⟨#[48, 49, 50, 51, 52, 53, 54, 55, 56, 57]⟩, .int .i64 1, .int .i64 9] w fun e w' => e = .returned (.bool false) ∧ Drew w w' from hob ▸ only_any b Byt.digs 1 9 w hbl (by decide))
  clear hob
  subst hB
  clear hng hsp
  go_enter Tryz.func13, Tryz.ntmps13
  go_wp2_with fail
  refine (CS.out _).mono ?_
  rintro e w' ⟨rfl, rfl⟩
  go_wp2_with fail
  refine (CC.out _).mono ?_
  rintro e w1 ⟨vv, rfl, hst, hb⟩
  have W1 := Lib.hid (blw_trans (show Below w.heap.size w _ by repeat (first | exact (Below.refl _ _) | refine blw_drewN ?_ _ | refine Below.setCell ?_ (by first | (simp; done) | omega | (simp; omega)) _ | refine Below.alloc ?_ (by first | (simp; done) | omega | (simp; omega)) _)) hb)
  have n1 := hb.size
  try simp at n1
  have k1_z0 := cell_keep (a := ⟨w.heap.size, 0, none⟩) (v := .int .i64 0) (by first | (go_keep; done) | (simp [go_sem, *]; done)) hb
  have f1_z0 := (hb.frozen (p := ⟨w.heap.size, 0, none⟩) (by first | (simp; done) | omega | (simp; omega))).trans (show _ = false by first | (simp; done) | (simp [go_sem]; done))
  have k1_z1 := cell_keep (a := ⟨w.heap.size, 1, none⟩) (v := .int .i64 0) (by first | (go_keep; done) | (simp [go_sem, *]; done)) hb
  have f1_z1 := (hb.frozen (p := ⟨w.heap.size, 1, none⟩) (by first | (simp; done) | omega | (simp; omega))).trans (show _ = false by first | (simp; done) | (simp [go_sem]; done))
  have l1_z := World.block_lt_of_cell? _ _ k1_z0
  try simp only at l1_z
  clear hb
  obtain ⟨bb, off, cap, rfl, hc1, hc2, hbb⟩ := strs_open2 hst (by simp)
  unfold maxLen at hc2
  have ca := strs_cell hst 0 a rfl
  rw [Nat.add_zero] at ca
  have HS1 := Lib.hid hst
  clear hst
  first | simp only [List.length_cons] at hc1 | skip
  go_wp2_with fail
  refine (CN.out _).mono ?_
  rintro e w2 ⟨rfl, hb⟩
  have W2 := Lib.hid (blw_trans (show Below w.heap.size w _ by repeat (first | exact W1.out | refine blw_drewN ?_ _ | refine Below.setCell ?_ (by first | (simp; done) | omega | (simp; omega)) _ | refine Below.alloc ?_ (by first | (simp; done) | omega | (simp; omega)) _)) hb)
  have n2 := hb.size
  try simp at n2
  have k2_z0 := cell_keep (a := ⟨w.heap.size, 0, none⟩) (v := .int .i64 0) (by first | (go_keep; done) | (simp [go_sem, *]; done)) hb
  have f2_z0 := (hb.frozen (p := ⟨w.heap.size, 0, none⟩) (by first | (simp; done) | omega | (simp; omega))).trans (show _ = false by first | exact f1_z0 | (simp; done) | (simp [go_sem]; done) | (simp [f1_z0]; done) | exact ((blw_alloc _ _).frozen (p := ⟨w.heap.size, 0, none⟩) l1_z).trans f1_z0)
  have k2_z1 := cell_keep (a := ⟨w.heap.size, 1, none⟩) (v := .int .i64 0) (by first | (go_keep; done) | (simp [go_sem, *]; done)) hb
  have f2_z1 := (hb.frozen (p := ⟨w.heap.size, 1, none⟩) (by first | (simp; done) | omega | (simp; omega))).trans (show _ = false by first | exact f1_z1 | (simp; done) | (simp [go_sem]; done) | (simp [f1_z1]; done) | exact ((blw_alloc _ _).frozen (p := ⟨w.heap.size, 1, none⟩) l1_z).trans f1_z1)
  have l2_z := World.block_lt_of_cell? _ _ k2_z0
  try simp only at l2_z
  have H2_L := Lib.hid (StrsAt.below (show StrsAt _ (.slice (some ⟨bb, off, none⟩) ([a, b] : List (List UInt8)).length cap) [a, b] by repeat (first | exact HS1.out | refine StrsAt.alloc ?_ _ | refine StrsAt.drewN ?_ _)) hb)
  clear hb HS1 k1_z0 f1_z0 k1_z1 f1_z1 l1_z ca W1
  have cb := strs_cell H2_L.out 1 b rfl
  have hbb2 : bb < w2.heap.size := World.block_lt_of_cell? _ _ cb
  go_wp2_with fail
  refine (CO.out _).mono ?_
  rintro e w3 ⟨rfl, nq, rfl⟩
  go_wp2_with fail
  refine bodyPost_ret (v := .tuple #[.agg #[.int .i64 0, .int .i64 0], .bool false]) (by simp [results, Tryz.results13, go_sem, *]) rfl ⟨rfl, ?_⟩
  repeat (first | with_reducible exact W2.out | refine blw_drewN ?_ _ | refine Below.setCell ?_ (by first | (simp; done) | omega | (simp; omega)) _ | refine Below.alloc ?_ (by first | (simp; done) | omega | (simp; omega)) _)

set_option maxRecDepth 100000 in
set_option maxHeartbeats 1000000 in
theorem dof_odd1 (t B a b : List UInt8) (w : World) (hng : (t.take 1 == [45]) = true) (hB : t.drop 1 = B) (hl1 : 1 ≤ t.length) (hBl : B.length ≤ 4000000000) (hsp : Lib.split B [46] = [a, b]) (hal : a.length ≤ 4000000000) (hq : ¬ Byt.numP a < 0) (_hqb : Byt.numP a ≤ 1000000000000000) (hbl : b.length ≤ 4000000000) (hob : onlyB b Byt.digs 1 9 = false) :
    Calls Tryz.prog 13 #[.string ⟨t.toArray⟩] w fun e w' => e = .returned (.tuple #[.agg #[.int .i64 0, .int .i64 0], .bool false]) ∧ Below w.heap.size w w' := by
  have CS := Lib.hid fun w => (show Calls Tryz.prog 47 #[.string ⟨t.toArray⟩, .string ⟨#[45]⟩] w fun e w' => e = .returned (.bool true) ∧ w' = w from hng ▸ starts_any t [45] w)
  have SLm : ∀ w, (Instr.slice 9 (.string ⟨t.toArray⟩) (some (.int .i64 1)) none none).run Tryz.prog w = .ok (.string ⟨B.toArray⟩) w := fun w => hB ▸ slice_from (P := Tryz.prog) 9 Tryz.underlying9 t .i64 1 hl1 w
  have CC := Lib.hid fun w => (show Calls Tryz.prog 48 #[.string ⟨B.toArray⟩, .string ⟨#[46]⟩] w (GivesStrs w [a, b]) from hsp ▸ cut_any B [46] w (by simp) hBl (by simp))
  have CN := Lib.hid fun w => numof_any a w hal
  generalize Byt.numP a = Q at *
  have d0 : decide (Q < 0) = false := dec_no hq
  have CO := Lib.hid fun w => (show Calls Tryz.prog 50 #[.string ⟨b.toArray⟩, .string ⟨#[48, 49, 50, 51, 52, 53, 54, 55, 56, 57]⟩, .int .i64 1, .int .i64 9] w fun e w' => e = .returned (.bool false) ∧ Drew w w' from hob ▸ only_any b Byt.digs 1 9 w hbl (by decide))
  clear hob
  clear hng hsp hB
  go_enter Tryz.func13, Tryz.ntmps13
  go_wp2_with fail
  refine (CS.out _).mono ?_
  rintro e w' ⟨rfl, rfl⟩
  go_wp2_with fail
  refine (CC.out _).mono ?_
  rintro e w1 ⟨vv, rfl, hst, hb⟩
  have W1 := Lib.hid (blw_trans (show Below w.heap.size w _ by repeat (first | exact (Below.refl _ _) | refine blw_drewN ?_ _ | refine Below.setCell ?_ (by first | (simp; done) | omega | (simp; omega)) _ | refine Below.alloc ?_ (by first | (simp; done) | omega | (simp; omega)) _)) hb)
  have n1 := hb.size
  try simp at n1
  have k1_z0 := cell_keep (a := ⟨w.heap.size, 0, none⟩) (v := .int .i64 0) (by first | (go_keep; done) | (simp [go_sem, *]; done)) hb
  have f1_z0 := (hb.frozen (p := ⟨w.heap.size, 0, none⟩) (by first | (simp; done) | omega | (simp; omega))).trans (show _ = false by first | (simp; done) | (simp [go_sem]; done))
  have k1_z1 := cell_keep (a := ⟨w.heap.size, 1, none⟩) (v := .int .i64 0) (by first | (go_keep; done) | (simp [go_sem, *]; done)) hb
  have f1_z1 := (hb.frozen (p := ⟨w.heap.size, 1, none⟩) (by first | (simp; done) | omega | (simp; omega))).trans (show _ = false by first | (simp; done) | (simp [go_sem]; done))
  have l1_z := World.block_lt_of_cell? _ _ k1_z0
  try simp only at l1_z
  clear hb
  obtain ⟨bb, off, cap, rfl, hc1, hc2, hbb⟩ := strs_open2 hst (by simp)
  unfold maxLen at hc2
  have ca := strs_cell hst 0 a rfl
  rw [Nat.add_zero] at ca
  have HS1 := Lib.hid hst
  clear hst
  first | simp only [List.length_cons] at hc1 | skip
  go_wp2_with fail
  refine (CN.out _).mono ?_
  rintro e w2 ⟨rfl, hb⟩
  have W2 := Lib.hid (blw_trans (show Below w.heap.size w _ by repeat (first | exact W1.out | refine blw_drewN ?_ _ | refine Below.setCell ?_ (by first | (simp; done) | omega | (simp; omega)) _ | refine Below.alloc ?_ (by first | (simp; done) | omega | (simp; omega)) _)) hb)
  have n2 := hb.size
  try simp at n2
  have k2_z0 := cell_keep (a := ⟨w.heap.size, 0, none⟩) (v := .int .i64 0) (by first | (go_keep; done) | (simp [go_sem, *]; done)) hb
  have f2_z0 := (hb.frozen (p := ⟨w.heap.size, 0, none⟩) (by first | (simp; done) | omega | (simp; omega))).trans (show _ = false by first | exact f1_z0 | (simp; done) | (simp [go_sem]; done) | (simp [f1_z0]; done) | exact ((blw_alloc _ _).frozen (p := ⟨w.heap.size, 0, none⟩) l1_z).trans f1_z0)
  have k2_z1 := cell_keep (a := ⟨w.heap.size, 1, none⟩) (v := .int .i64 0) (by first | (go_keep; done) | (simp [go_sem, *]; done)) hb
  have f2_z1 := (hb.frozen (p := ⟨w.heap.size, 1, none⟩) (by first | (simp; done) | omega | (simp; omega))).trans (show _ = false by first | exact f1_z1 | (simp; done) | (simp [go_sem]; done) | (simp [f1_z1]; done) | exact ((blw_alloc _ _).frozen (p := ⟨w.heap.size, 1, none⟩) l1_z).trans f1_z1)
  have l2_z := World.block_lt_of_cell? _ _ k2_z0
  try simp only at l2_z
  have H2_L := Lib.hid (StrsAt.below (show StrsAt _ (.slice (some ⟨bb, off, none⟩) ([a, b] : List (List UInt8)).length cap) [a, b] by repeat (first | exact HS1.out | refine StrsAt.alloc ?_ _ | refine StrsAt.drewN ?_ _)) hb)
  clear hb HS1 k1_z0 f1_z0 k1_z1 f1_z1 l1_z ca W1
  have cb := strs_cell H2_L.out 1 b rfl
  have hbb2 : bb < w2.heap.size := World.block_lt_of_cell? _ _ cb
  go_wp2_with fail
  refine (CO.out _).mono ?_
  rintro e w3 ⟨rfl, nq, rfl⟩
  go_wp2_with fail
  refine bodyPost_ret (v := .tuple #[.agg #[.int .i64 0, .int .i64 0], .bool false]) (by simp [results, Tryz.results13, go_sem, *]) rfl ⟨rfl, ?_⟩
  repeat (first | with_reducible exact W2.out | refine blw_drewN ?_ _ | refine Below.setCell ?_ (by first | (simp; done) | omega | (simp; omega)) _ | refine Below.alloc ?_ (by first | (simp; done) | omega | (simp; omega)) _)

set_option maxRecDepth 100000 in
set_option maxHeartbeats 1000000 in
theorem dof_far0 (t B a b : List UInt8) (w : World) (hng : (t.take 1 == [45]) = false) (hB : t = B) (_hl1 : True) (hBl : B.length ≤ 4000000000) (hsp : Lib.split B [46] = [a, b]) (hal : a.length ≤ 4000000000) (hq : ¬ Byt.numP a < 0) (_hqb : Byt.numP a ≤ 1000000000000000) (hbl : b.length ≤ 4000000000) (hob : onlyB b Byt.digs 1 9 = true) (hbn : b.length ≤ 9) (hf : 1000000000000000 / P10 (b.length : Int) < Byt.numP a) :
    Calls Tryz.prog 13 #[.string ⟨t.toArray⟩] w fun e w' => e = .returned (.tuple #[.agg #[.int .i64 0, .int .i64 0], .bool false]) ∧ Below w.heap.size w w' := by
  have CS := Lib.hid fun w => (show Calls Tryz.prog 47 #[.string ⟨t.toArray⟩, .string ⟨#[45]⟩] w fun e w' => e = .returned (.bool false) ∧ w' = w from hng ▸ starts_any t [45] w)
  have CC := Lib.hid fun w => (show Calls Tryz.prog 48 #[.string ⟨B.toArray⟩, .string ⟨#[46]⟩] w (GivesStrs w [a, b]) from hsp ▸ cut_any B [46] w (by simp) hBl (by simp))
  have CN := Lib.hid fun w => numof_any a w hal
  generalize Byt.numP a = Q at *
  have d0 : decide (Q < 0) = false := dec_no hq
  have CO := Lib.hid fun w => (show Calls Tryz.prog 50 #[.string ⟨b.toArray⟩, .string ⟨#[48, 49, 50, 51, 52, 53, 54, 55, 56, 57]⟩, .int .i64 1, .int .i64 9] w fun e w' => e = .returned (.bool true) ∧ Drew w w' from hob ▸ only_any b Byt.digs 1 9 w hbl (by decide))
  clear hob
  have hP := Dcm.P10_bd (b.length : Int)
  have d1 : decide (1000000000000000 / P10 (b.length : Int) < Q) = true := dec_yes hf
  subst hB
  clear hng hsp
  go_enter Tryz.func13, Tryz.ntmps13
  go_wp2_with fail
  refine (CS.out _).mono ?_
  rintro e w' ⟨rfl, rfl⟩
  go_wp2_with fail
  refine (CC.out _).mono ?_
  rintro e w1 ⟨vv, rfl, hst, hb⟩
  have W1 := Lib.hid (blw_trans (show Below w.heap.size w _ by repeat (first | exact (Below.refl _ _) | refine blw_drewN ?_ _ | refine Below.setCell ?_ (by first | (simp; done) | omega | (simp; omega)) _ | refine Below.alloc ?_ (by first | (simp; done) | omega | (simp; omega)) _)) hb)
  have n1 := hb.size
  try simp at n1
  have k1_z0 := cell_keep (a := ⟨w.heap.size, 0, none⟩) (v := .int .i64 0) (by first | (go_keep; done) | (simp [go_sem, *]; done)) hb
  have f1_z0 := (hb.frozen (p := ⟨w.heap.size, 0, none⟩) (by first | (simp; done) | omega | (simp; omega))).trans (show _ = false by first | (simp; done) | (simp [go_sem]; done))
  have k1_z1 := cell_keep (a := ⟨w.heap.size, 1, none⟩) (v := .int .i64 0) (by first | (go_keep; done) | (simp [go_sem, *]; done)) hb
  have f1_z1 := (hb.frozen (p := ⟨w.heap.size, 1, none⟩) (by first | (simp; done) | omega | (simp; omega))).trans (show _ = false by first | (simp; done) | (simp [go_sem]; done))
  have l1_z := World.block_lt_of_cell? _ _ k1_z0
  try simp only at l1_z
  clear hb
  obtain ⟨bb, off, cap, rfl, hc1, hc2, hbb⟩ := strs_open2 hst (by simp)
  unfold maxLen at hc2
  have ca := strs_cell hst 0 a rfl
  rw [Nat.add_zero] at ca
  have HS1 := Lib.hid hst
  clear hst
  first | simp only [List.length_cons] at hc1 | skip
  go_wp2_with fail
  refine (CN.out _).mono ?_
  rintro e w2 ⟨rfl, hb⟩
  have W2 := Lib.hid (blw_trans (show Below w.heap.size w _ by repeat (first | exact W1.out | refine blw_drewN ?_ _ | refine Below.setCell ?_ (by first | (simp; done) | omega | (simp; omega)) _ | refine Below.alloc ?_ (by first | (simp; done) | omega | (simp; omega)) _)) hb)
  have n2 := hb.size
  try simp at n2
  have k2_z0 := cell_keep (a := ⟨w.heap.size, 0, none⟩) (v := .int .i64 0) (by first | (go_keep; done) | (simp [go_sem, *]; done)) hb
  have f2_z0 := (hb.frozen (p := ⟨w.heap.size, 0, none⟩) (by first | (simp; done) | omega | (simp; omega))).trans (show _ = false by first | exact f1_z0 | (simp; done) | (simp [go_sem]; done) | (simp [f1_z0]; done) | exact ((blw_alloc _ _).frozen (p := ⟨w.heap.size, 0, none⟩) l1_z).trans f1_z0)
  have k2_z1 := cell_keep (a := ⟨w.heap.size, 1, none⟩) (v := .int .i64 0) (by first | (go_keep; done) | (simp [go_sem, *]; done)) hb
  have f2_z1 := (hb.frozen (p := ⟨w.heap.size, 1, none⟩) (by first | (simp; done) | omega | (simp; omega))).trans (show _ = false by first | exact f1_z1 | (simp; done) | (simp [go_sem]; done) | (simp [f1_z1]; done) | exact ((blw_alloc _ _).frozen (p := ⟨w.heap.size, 1, none⟩) l1_z).trans f1_z1)
  have l2_z := World.block_lt_of_cell? _ _ k2_z0
  try simp only at l2_z
  have H2_L := Lib.hid (StrsAt.below (show StrsAt _ (.slice (some ⟨bb, off, none⟩) ([a, b] : List (List UInt8)).length cap) [a, b] by repeat (first | exact HS1.out | refine StrsAt.alloc ?_ _ | refine StrsAt.drewN ?_ _)) hb)
  clear hb HS1 k1_z0 f1_z0 k1_z1 f1_z1 l1_z ca W1
  have cb := strs_cell H2_L.out 1 b rfl
  have hbb2 : bb < w2.heap.size := World.block_lt_of_cell? _ _ cb
  go_wp2_with fail
  refine (CO.out _).mono ?_
  rintro e w3 ⟨rfl, nq, rfl⟩
  go_wp2_with fail
  refine (ten_any _ _ (by omega) (by omega)).mono ?_
  rintro e w' ⟨rfl, rfl⟩
  go_wp2_with fail
  refine bodyPost_ret (v := .tuple #[.agg #[.int .i64 0, .int .i64 0], .bool false]) (by simp [results, Tryz.results13, go_sem, *]) rfl ⟨rfl, ?_⟩
  repeat (first | with_reducible exact W2.out | refine blw_drewN ?_ _ | refine Below.setCell ?_ (by first | (simp; done) | omega | (simp; omega)) _ | refine Below.alloc ?_ (by first | (simp; done) | omega | (simp; omega)) _)

set_option maxRecDepth 100000 in
set_option maxHeartbeats 1000000 in
theorem dof_far1 (t B a b : List UInt8) (w : World) (hng : (t.take 1 == [45]) = true) (hB : t.drop 1 = B) (hl1 : 1 ≤ t.length) (hBl : B.length ≤ 4000000000) (hsp : Lib.split B [46] = [a, b]) (hal : a.length ≤ 4000000000) (hq : ¬ Byt.numP a < 0) (_hqb : Byt.numP a ≤ 1000000000000000) (hbl : b.length ≤ 4000000000) (hob : onlyB b Byt.digs 1 9 = true) (hbn : b.length ≤ 9) (hf : 1000000000000000 / P10 (b.length : Int) < Byt.numP a) :
    Calls Tryz.prog 13 #[.string ⟨t.toArray⟩] w fun e w' => e = .returned (.tuple #[.agg #[.int .i64 0, .int .i64 0], .bool false]) ∧ Below w.heap.size w w' := by
  have CS := Lib.hid fun w => (show Calls Tryz.prog 47 #[.string ⟨t.toArray⟩, .string ⟨#[45]⟩] w fun e w' => e = .returned (.bool true) ∧ w' = w from hng ▸ starts_any t [45] w)
  have SLm : ∀ w, (Instr.slice 9 (.string ⟨t.toArray⟩) (some (.int .i64 1)) none none).run Tryz.prog w = .ok (.string ⟨B.toArray⟩) w := fun w => hB ▸ slice_from (P := Tryz.prog) 9 Tryz.underlying9 t .i64 1 hl1 w
  have CC := Lib.hid fun w => (show Calls Tryz.prog 48 #[.string ⟨B.toArray⟩, .string ⟨#[46]⟩] w (GivesStrs w [a, b]) from hsp ▸ cut_any B [46] w (by simp) hBl (by simp))
  have CN := Lib.hid fun w => numof_any a w hal
  generalize Byt.numP a = Q at *
  have d0 : decide (Q < 0) = false := dec_no hq
  have CO := Lib.hid fun w => (show Calls Tryz.prog 50 #[.string ⟨b.toArray⟩, .string ⟨#[48, 49, 50, 51, 52, 53, 54, 55, 56, 57]⟩, .int .i64 1, .int .i64 9] w fun e w' => e = .returned (.bool true) ∧ Drew w w' from hob ▸ only_any b Byt.digs 1 9 w hbl (by decide))
  clear hob
  have hP := Dcm.P10_bd (b.length : Int)
  have d1 : decide (1000000000000000 / P10 (b.length : Int) < Q) = true := dec_yes hf
  clear hng hsp hB
  go_enter Tryz.func13, Tryz.ntmps13
  go_wp2_with fail
  refine (CS.out _).mono ?_
  rintro e w' ⟨rfl, rfl⟩
  go_wp2_with fail
  refine (CC.out _).mono ?_
  rintro e w1 ⟨vv, rfl, hst, hb⟩
  have W1 := Lib.hid (blw_trans (show Below w.heap.size w _ by repeat (first | exact (Below.refl _ _) | refine blw_drewN ?_ _ | refine Below.setCell ?_ (by first | (simp; done) | omega | (simp; omega)) _ | refine Below.alloc ?_ (by first | (simp; done) | omega | (simp; omega)) _)) hb)
  have n1 := hb.size
  try simp at n1
  have k1_z0 := cell_keep (a := ⟨w.heap.size, 0, none⟩) (v := .int .i64 0) (by first | (go_keep; done) | (simp [go_sem, *]; done)) hb
  have f1_z0 := (hb.frozen (p := ⟨w.heap.size, 0, none⟩) (by first | (simp; done) | omega | (simp; omega))).trans (show _ = false by first | (simp; done) | (simp [go_sem]; done))
  have k1_z1 := cell_keep (a := ⟨w.heap.size, 1, none⟩) (v := .int .i64 0) (by first | (go_keep; done) | (simp [go_sem, *]; done)) hb
  have f1_z1 := (hb.frozen (p := ⟨w.heap.size, 1, none⟩) (by first | (simp; done) | omega | (simp; omega))).trans (show _ = false by first | (simp; done) | (simp [go_sem]; done))
  have l1_z := World.block_lt_of_cell? _ _ k1_z0
  try simp only at l1_z
  clear hb
  obtain ⟨bb, off, cap, rfl, hc1, hc2, hbb⟩ := strs_open2 hst (by simp)
  unfold maxLen at hc2
  have ca := strs_cell hst 0 a rfl
  rw [Nat.add_zero] at ca
  have HS1 := Lib.hid hst
  clear hst
  first | simp only [List.length_cons] at hc1 | skip
  go_wp2_with fail
  refine (CN.out _).mono ?_
  rintro e w2 ⟨rfl, hb⟩
  have W2 := Lib.hid (blw_trans (show Below w.heap.size w _ by repeat (first | exact W1.out | refine blw_drewN ?_ _ | refine Below.setCell ?_ (by first | (simp; done) | omega | (simp; omega)) _ | refine Below.alloc ?_ (by first | (simp; done) | omega | (simp; omega)) _)) hb)
  have n2 := hb.size
  try simp at n2
  have k2_z0 := cell_keep (a := ⟨w.heap.size, 0, none⟩) (v := .int .i64 0) (by first | (go_keep; done) | (simp [go_sem, *]; done)) hb
  have f2_z0 := (hb.frozen (p := ⟨w.heap.size, 0, none⟩) (by first | (simp; done) | omega | (simp; omega))).trans (show _ = false by first | exact f1_z0 | (simp; done) | (simp [go_sem]; done) | (simp [f1_z0]; done) | exact ((blw_alloc _ _).frozen (p := ⟨w.heap.size, 0, none⟩) l1_z).trans f1_z0)
  have k2_z1 := cell_keep (a := ⟨w.heap.size, 1, none⟩) (v := .int .i64 0) (by first | (go_keep; done) | (simp [go_sem, *]; done)) hb
  have f2_z1 := (hb.frozen (p := ⟨w.heap.size, 1, none⟩) (by first | (simp; done) | omega | (simp; omega))).trans (show _ = false by first | exact f1_z1 | (simp; done) | (simp [go_sem]; done) | (simp [f1_z1]; done) | exact ((blw_alloc _ _).frozen (p := ⟨w.heap.size, 1, none⟩) l1_z).trans f1_z1)
  have l2_z := World.block_lt_of_cell? _ _ k2_z0
  try simp only at l2_z
  have H2_L := Lib.hid (StrsAt.below (show StrsAt _ (.slice (some ⟨bb, off, none⟩) ([a, b] : List (List UInt8)).length cap) [a, b] by repeat (first | exact HS1.out | refine StrsAt.alloc ?_ _ | refine StrsAt.drewN ?_ _)) hb)
  clear hb HS1 k1_z0 f1_z0 k1_z1 f1_z1 l1_z ca W1
  have cb := strs_cell H2_L.out 1 b rfl
  have hbb2 : bb < w2.heap.size := World.block_lt_of_cell? _ _ cb
  go_wp2_with fail
  refine (CO.out _).mono ?_
  rintro e w3 ⟨rfl, nq, rfl⟩
  go_wp2_with fail
  refine (ten_any _ _ (by omega) (by omega)).mono ?_
  rintro e w' ⟨rfl, rfl⟩
  go_wp2_with fail
  refine bodyPost_ret (v := .tuple #[.agg #[.int .i64 0, .int .i64 0], .bool false]) (by simp [results, Tryz.results13, go_sem, *]) rfl ⟨rfl, ?_⟩
  repeat (first | with_reducible exact W2.out | refine blw_drewN ?_ _ | refine Below.setCell ?_ (by first | (simp; done) | omega | (simp; omega)) _ | refine Below.alloc ?_ (by first | (simp; done) | omega | (simp; omega)) _)
end Go.Proofs.YtmmjbjoefogmoaaGreatDoor
