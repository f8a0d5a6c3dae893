/- The walk of linguisterref1.DecOf, whole: a number whose text it is, or none. Conditions: the text is short of 4000000000 bytes. -/
import Derived.Test.YtdmenoimamnldaaGreatDoorDz17
namespace Go.Proofs.YtdmenoimamnldaaGreatDoor
open Go.RowKit
open Dcm (P10 okD mag)

theorem two_bd {q : Nat} {b : List UInt8} (hd : ∀ c ∈ b, 48 ≤ c.toNat ∧ c.toNat ≤ 57) (hb : b.length ≤ 9) (hq : (q : Int) ≤ 1000000000000000 / P10 (b.length : Int)) {k : Nat} (hk : k ≤ b.length) : Byt.foldD q (b.take k) ≤ 1000001000000000 := by
  rw [Byt.P10_pow _ hb, show (1000000000000000 : Int) = ((1000000000000000 : Nat) : Int) by rfl, ← Int.natCast_ediv] at hq
  have hq' : q ≤ 1000000000000000 / 10 ^ b.length := Int.ofNat_le.1 hq
  have h1 := Byt.foldD_pow (b.take k) q
  have h2 := Byt.foldD_bd (b.take k) fun c hc => hd c (List.mem_of_mem_take hc)
  have hl : (b.take k).length = k := by rw [List.length_take]; omega
  rw [hl] at h1 h2
  have h3 : 10 ^ k ≤ 10 ^ b.length := Nat.pow_le_pow_right (by omega) hk
  have h4 : 10 ^ b.length ≤ 10 ^ 9 := Nat.pow_le_pow_right (by omega) hb
  have h5 : q * 10 ^ k ≤ q * 10 ^ b.length := Nat.mul_le_mul_left q h3
  have h6 : q * 10 ^ b.length ≤ 1000000000000000 := (Nat.le_div_iff_mul_le (Nat.pow_pos (by omega))).1 hq'
  omega
theorem fold_step {s : List UInt8} {k : Nat} {c : UInt8} (q : Nat) (h : s[k]? = some c) : Byt.foldD q (s.take (k + 1)) = 10 * Byt.foldD q (s.take k) + (c.toNat - 48) := by
  rw [List.take_add_one, h, Byt.foldD_app]; rfl
theorem only_digs {b : List UInt8} (h : onlyB b Byt.digs 1 9 = true) : (∀ c ∈ b, 48 ≤ c.toNat ∧ c.toNat ≤ 57) ∧ 1 ≤ b.length ∧ b.length ≤ 9 := by
  unfold onlyB at h
  rw [Bool.and_eq_true, Bool.and_eq_true, decide_eq_true_eq, decide_eq_true_eq] at h
  exact ⟨fun c hc => Byt.of_digs (List.all_eq_true.1 h.1 c hc), by omega, by omega⟩

set_option maxRecDepth 100000 in
set_option maxHeartbeats 1000000 in
theorem dof_two_ok0 (t B a b : List UInt8) (w : World) (hng : (t.take 1 == [45]) = false) (hB : t = B) (_hl1 : True) (hBl : B.length ≤ 4000000000) (hsp : Lib.split B [46] = [a, b]) (hal : a.length ≤ 4000000000) (hq : ¬ Byt.numP a < 0) (_hqb : Byt.numP a ≤ 1000000000000000) (hbl : b.length ≤ 4000000000) (hob : onlyB b Byt.digs 1 9 = true) (hf : Byt.numP a ≤ 1000000000000000 / P10 (b.length : Int)) (hkd : okD (Byt.foldD (Byt.numP a).toNat b : Int) (b.length : Int)) (hXt : Byt.decText (Byt.foldD (Byt.numP a).toNat b : Int) (b.length : Int) = t) :
    Calls Tryz.prog 8 #[.string ⟨t.toArray⟩] w fun e w' => e = .returned (.tuple #[.agg #[.int .i64 (Byt.foldD (Byt.numP a).toNat b : Int), .int .i64 (b.length : Int)], .bool true]) ∧ Below w.heap.size w w' := by
  have CS := Lib.hid fun w => (show Calls Tryz.prog 20 #[.string ⟨t.toArray⟩, .string ⟨#[45]⟩] w fun e w' => e = .returned (.bool false) ∧ w' = w from hng ▸ starts_any t [45] w)
  have CC := Lib.hid fun w => (show Calls Tryz.prog 21 #[.string ⟨B.toArray⟩, .string ⟨#[46]⟩] w (GivesStrs w [a, b]) from hsp ▸ cut_any B [46] w (by simp) hBl (by simp))
  have CN := Lib.hid fun w => numof_any a w hal
  generalize Byt.numP a = Q at *
  have d0 : decide (Q < 0) = false := dec_no hq
  have CO := Lib.hid fun w => (show Calls Tryz.prog 23 #[.string ⟨b.toArray⟩, .string ⟨#[48, 49, 50, 51, 52, 53, 54, 55, 56, 57]⟩, .int .i64 1, .int .i64 9] w fun e w' => e = .returned (.bool true) ∧ Drew w w' from hob ▸ only_any b Byt.digs 1 9 w hbl (by decide))
  obtain ⟨hdg, hb1, hbn⟩ := only_digs hob
  have hP := Dcm.P10_bd (b.length : Int)
  have d1 : decide (1000000000000000 / P10 (b.length : Int) < Q) = false := dec_no (by omega)
  obtain ⟨q, rfl⟩ : ∃ q : Nat, Q = (q : Int) := ⟨Q.toNat, by omega⟩
  rw [Int.toNat_natCast] at *
  have HBD := Lib.hid fun k (hk : k ≤ b.length) => two_bd hdg hbn hf hk
  have HDG := Lib.hid hdg
  clear hob hdg
  have CF := Lib.hid fun w => dflt_no (Byt.foldD q b : Int) (b.length : Int) w hkd
  have ct := fun w => rdect_any (Byt.foldD q b : Int) (b.length : Int) w hkd
  obtain ⟨X, hX⟩ : ∃ X, Byt.decText (Byt.foldD q b : Int) (b.length : Int) = X := ⟨_, rfl⟩
  rw [hX] at ct hXt
  have CT := Lib.hid ct
  have q1 : (X == t) = true := by rw [hXt]; simp
  have q2 : (X != t) = false := by rw [bne, q1]; rfl
  clear ct hX hXt hkd
  obtain ⟨N, hN⟩ : ∃ N, Byt.foldD q b = N := ⟨_, rfl⟩
  rw [hN] at CF CT
  rw [hN]
  have HNN := Lib.hid hN
  clear hN
  subst hB
  clear hng hsp
  go_enter Tryz.func8, Tryz.ntmps8
  go_wp2_with fail
  refine (CS.out _).mono ?_
  rintro e w' ⟨rfl, rfl⟩
  go_wp2_with fail
  refine (CC.out _).mono ?_
  rintro e w1 ⟨vv, rfl, hst, hb⟩
  have W1 := Lib.hid (blw_trans (show Below w.heap.size w _ by repeat (first | exact (Below.refl _ _) | refine blw_drewN ?_ _ | refine Below.setCell ?_ (by first | (simp; done) | omega | (simp; omega)) _ | refine Below.alloc ?_ (by first | (simp; done) | omega | (simp; omega)) _)) hb)
  have n1 := hb.size
  try simp at n1
  have k1_z0 := cell_keep (a := ⟨w.heap.size, 0, none⟩) (v := .int .i64 0) (by first | (go_keep; done) | (simp [go_sem, *]; done)) hb
  have f1_z0 := (hb.frozen (p := ⟨w.heap.size, 0, none⟩) (by first | (simp; done) | omega | (simp; omega))).trans (show _ = false by first | (simp; done) | (simp [go_sem]; done))
  have k1_z1 := cell_keep (a := ⟨w.heap.size, 1, none⟩) (v := .int .i64 0) (by first | (go_keep; done) | (simp [go_sem, *]; done)) hb
  have f1_z1 := (hb.frozen (p := ⟨w.heap.size, 1, none⟩) (by first | (simp; done) | omega | (simp; omega))).trans (show _ = false by first | (simp; done) | (simp [go_sem]; done))
  have l1_z := World.block_lt_of_cell? _ _ k1_z0
  try simp only at l1_z
  clear hb
  obtain ⟨bb, off, cap, rfl, hc1, hc2, hbb⟩ := strs_open2 hst (by simp)
  unfold maxLen at hc2
  have ca := strs_cell hst 0 a rfl
  rw [Nat.add_zero] at ca
  have HS1 := Lib.hid hst
  clear hst
  first | simp only [List.length_cons] at hc1 | skip
  go_wp2_with fail
  refine (CN.out _).mono ?_
  rintro e w2 ⟨rfl, hb⟩
  have W2 := Lib.hid (blw_trans (show Below w.heap.size w _ by repeat (first | exact W1.out | refine blw_drewN ?_ _ | refine Below.setCell ?_ (by first | (simp; done) | omega | (simp; omega)) _ | refine Below.alloc ?_ (by first | (simp; done) | omega | (simp; omega)) _)) hb)
  have n2 := hb.size
  try simp at n2
  have k2_z0 := cell_keep (a := ⟨w.heap.size, 0, none⟩) (v := .int .i64 0) (by first | (go_keep; done) | (simp [go_sem, *]; done)) hb
  have f2_z0 := (hb.frozen (p := ⟨w.heap.size, 0, none⟩) (by first | (simp; done) | omega | (simp; omega))).trans (show _ = false by first | exact f1_z0 | (simp; done) | (simp [go_sem]; done) | (simp [f1_z0]; done) | exact ((blw_alloc _ _).frozen (p := ⟨w.heap.size, 0, none⟩) l1_z).trans f1_z0)
  have k2_z1 := cell_keep (a := ⟨w.heap.size, 1, none⟩) (v := .int .i64 0) (by first | (go_keep; done) | (simp [go_sem, *]; done)) hb
  have f2_z1 := (hb.frozen (p := ⟨w.heap.size, 1, none⟩) (by first | (simp; done) | omega | (simp; omega))).trans (show _ = false by first | exact f1_z1 | (simp; done) | (simp [go_sem]; done) | (simp [f1_z1]; done) | exact ((blw_alloc _ _).frozen (p := ⟨w.heap.size, 1, none⟩) l1_z).trans f1_z1)
  have l2_z := World.block_lt_of_cell? _ _ k2_z0
  try simp only at l2_z
  have H2_L := Lib.hid (StrsAt.below (show StrsAt _ (.slice (some ⟨bb, off, none⟩) ([a, b] : List (List UInt8)).length cap) [a, b] by repeat (first | exact HS1.out | refine StrsAt.alloc ?_ _ | refine StrsAt.drewN ?_ _)) hb)
  clear hb HS1 k1_z0 f1_z0 k1_z1 f1_z1 l1_z ca W1
  have cb := strs_cell H2_L.out 1 b rfl
  have hbb2 : bb < w2.heap.size := World.block_lt_of_cell? _ _ cb
  go_wp2_with fail
  refine (CO.out _).mono ?_
  rintro e w3 ⟨rfl, nq, rfl⟩
  go_wp2_with fail
  refine (ten_any _ _ (by omega) (by omega)).mono ?_
  rintro e w' ⟨rfl, rfl⟩
  go_wp2_with fail
  have HD0 := Lib.hid (show Boxed (((w2.alloc (.cells #[.int .i64 (q : Int), .int .i64 0] 23)).drewN nq).setCell ⟨w2.heap.size, 1, none⟩ (.int .i64 (b.length : Int))) w2.heap.size #[.int .i64 (q : Int), .int .i64 (b.length : Int)] from ((Boxed.made w2 #[.int .i64 (q : Int), .int .i64 0] 23).drewN nq).set 1 (.int .i64 (b.length : Int)) (by simp))
  have HZ0 := Lib.hid (show Boxed (((w2.alloc (.cells #[.int .i64 (q : Int), .int .i64 0] 23)).drewN nq).setCell ⟨w2.heap.size, 1, none⟩ (.int .i64 (b.length : Int))) w.heap.size #[.int .i64 0, .int .i64 0] from ((Boxed.alloc (w := w2) ⟨l2_z, fun j u hu => (by
      match j, hu with
      | 0, hu => simp at hu; subst hu; exact k2_z0
      | 1, hu => simp at hu; subst hu; exact k2_z1), fun j hj => (by
      match j, hj with
      | 0, _ => exact f2_z0
      | 1, _ => exact f2_z1)⟩ _).drewN nq).far (by omega) 1 _)
  have HC0 := Lib.hid (show (((w2.alloc (.cells #[.int .i64 (q : Int), .int .i64 0] 23)).drewN nq).setCell ⟨w2.heap.size, 1, none⟩ (.int .i64 (b.length : Int))).cell? ⟨bb, off + 1, none⟩ = some (.string ⟨b.toArray⟩) by
    rw [World.cell?_setCell_other _ _ _ _ (fun g => by injection g with g; omega)]
    exact cell_keep cb (blw_drewN (blw_alloc w2 _) nq))
  have HW0 := Lib.hid (show Below w.heap.size w (((w2.alloc (.cells #[.int .i64 (q : Int), .int .i64 0] 23)).drewN nq).setCell ⟨w2.heap.size, 1, none⟩ (.int .i64 (b.length : Int))) by repeat (first | with_reducible exact W2.out | refine blw_drewN ?_ _ | refine Below.setCell ?_ (by first | (simp; done) | omega | (simp; omega)) _ | refine Below.alloc ?_ (by first | (simp; done) | omega | (simp; omega)) _))
  clear k2_z0 k2_z1 f2_z0 f2_z1 H2_L cb W2 CN CC CO
  generalize ((w2.alloc (.cells #[.int .i64 (q : Int), .int .i64 0] 23)).drewN nq).setCell ⟨w2.heap.size, 1, none⟩ (.int .i64 (b.length : Int)) = wl at *
  obtain ⟨P, hP7⟩ : ∃ P, P = w2.heap.size := ⟨_, rfl⟩
  rw [← hP7] at HD0 ⊢
  have hPz : w.heap.size < P := by omega
  have hPb : bb < P := by omega
  clear hP7 l2_z hbb2 n1 n2 hbb
  go_loopw [8] (fun v wr => ∃ k : Nat, v = .int .i64 k ∧ k ≤ b.length ∧ Hid (Boxed wr P #[.int .i64 (Byt.foldD q (b.take k) : Int), .int .i64 (b.length : Int)]) ∧ Hid (Boxed wr w.heap.size #[.int .i64 0, .int .i64 0]) ∧ Hid (wr.cell? ⟨bb, off + 1, none⟩ = some (.string ⟨b.toArray⟩)) ∧ Hid (Below w.heap.size w wr)) (fun v _ => b.length - (RowKit.intOf v).toNat)
  case atStart => exact ⟨0, rfl, Nat.zero_le _, HD0, HZ0, HC0, HW0⟩
  case round =>
    obtain ⟨k, rfl, hk, HD, HZ, HC, HW⟩ := hrel
    clear HD0 HZ0 HC0 HW0
    have fbd := HBD.out k hk
    have kd0 := HD.out.cell 0 _ rfl
    have kd1 := HD.out.cell 1 _ rfl
    have fd0 := HD.out.free 0 (by simp)
    have kdl := HD.out.lt
    have kb := HC.out
    have hbw : bb < wr.heap.size := World.block_lt_of_cell? _ _ kb
    by_cases hlt : k < b.length
    · obtain ⟨c, hx⟩ : ∃ c, b[k]? = some c := ⟨b[k], List.getElem?_eq_getElem hlt⟩
      have hcd := HDG.out c (List.mem_of_getElem? hx)
      have IX := fun w => index_str (P := Tryz.prog) 9 Tryz.underlying9 b .i64 k c hx w
      have HN := Lib.hid (fold_step q hx)
      have us := u8_sub (c.toNat : Int) (by omega) (by omega)
      clear hx
      generalize Byt.foldD q (b.take k) = N' at *
      have wm : IntKind.i64.wrap (10 * (N' : Int)) = 10 * (N' : Int) := IntWalk.i64_in _ (by omega)
      have wc : IntKind.i64.wrap ((c.toNat : Int) - 48) = (c.toNat : Int) - 48 := IntWalk.i64_in _ (by omega)
      have wa : IntKind.i64.wrap (10 * (N' : Int) + ((c.toNat : Int) - 48)) = 10 * (N' : Int) + ((c.toNat : Int) - 48) := IntWalk.i64_in _ (by omega)
      go_wp2_with fail
      go_still_tail 12, (by kernel_rfl)
      go_wp2_with fail
      go_roundw
      case rel => exact ⟨k + 1, by go_num, by omega, Lib.hid (by
        rw [HN.out]
        have g := (HD.out.set 0 (.int .i64 (10 * (N' : Int) + ((c.toNat : Int) - 48))) (by simp)).drew
        have e : (10 * (N' : Int) + ((c.toNat : Int) - 48)) = ((10 * N' + (c.toNat - 48) : Nat) : Int) := by omega
        rw [e] at g ⊢
        exact g), Lib.hid (HZ.out.far (by omega) 0 _).drew, Lib.hid (by
        show (wr.setCell _ _).cell? _ = _
        rw [World.cell?_setCell_other _ _ _ _ (fun g => by injection g with g; omega)]
        exact HC.out), Lib.hid (blw_drewN (Below.setCell HW.out (by first | omega | (simp; omega)) _) 1)⟩
      case measure => simp [RowKit.intOf]; omega
    · have ht : b.take k = b := List.take_of_length_le (by omega)
      rw [ht] at HD kd0
      clear ht
      have kz0 := HZ.out.cell 0 _ rfl
      have kz1 := HZ.out.cell 1 _ rfl
      have fz0 := HZ.out.free 0 (by simp)
      have fz1 := HZ.out.free 1 (by simp)
      have l3_z := HZ.out.lt
      have l3_d := kdl
      rw [HNN.out] at kd0
      have fN : N ≤ 1000001000000000 := by have := HBD.out b.length (Nat.le_refl _); rw [List.take_length, HNN.out] at this; exact this
      have ne1 : ¬ w.heap.size = P := by omega
      have me1 : ¬ P = w.heap.size := by omega
      go_wp2_with fail
      refine (CS.out _).mono ?_
      rintro e w' ⟨rfl, rfl⟩
      go_wp2_with fail
      refine (CF.out _).mono ?_
      rintro e w4 ⟨rfl, hb⟩
      have W4 := Lib.hid (blw_trans (show Below w.heap.size w _ by repeat (first | exact HW.out | refine blw_drewN ?_ _ | refine Below.setCell ?_ (by first | (simp; done) | omega | (simp; omega)) _ | refine Below.alloc ?_ (by first | (simp; done) | omega | (simp; omega)) _)) hb)
      have n4 := hb.size
      try simp at n4
      have k4_d0 := cell_keep (a := ⟨P, 0, none⟩) (v := .int .i64 (N : Int)) (by first | (go_keep; done) | (simp [go_sem, *]; done)) hb
      have k4_d1 := cell_keep (a := ⟨P, 1, none⟩) (v := .int .i64 (b.length : Int)) (by first | (go_keep; done) | (simp [go_sem, *]; done)) hb
      have l4_d := World.block_lt_of_cell? _ _ k4_d0
      try simp only at l4_d
      have k4_z0 := cell_keep (a := ⟨w.heap.size, 0, none⟩) (v := .int .i64 0) (by first | (go_keep; done) | (simp [go_sem, *]; done)) hb
      have f4_z0 := (hb.frozen (p := ⟨w.heap.size, 0, none⟩) (by first | (simp; done) | omega | (simp; omega))).trans (show _ = false by first | exact fz0 | (simp; done) | (simp [go_sem]; done) | (simp [fz0]; done) | exact ((blw_alloc _ _).frozen (p := ⟨w.heap.size, 0, none⟩) l3_z).trans fz0)
      have k4_z1 := cell_keep (a := ⟨w.heap.size, 1, none⟩) (v := .int .i64 0) (by first | (go_keep; done) | (simp [go_sem, *]; done)) hb
      have f4_z1 := (hb.frozen (p := ⟨w.heap.size, 1, none⟩) (by first | (simp; done) | omega | (simp; omega))).trans (show _ = false by first | exact fz1 | (simp; done) | (simp [go_sem]; done) | (simp [fz1]; done) | exact ((blw_alloc _ _).frozen (p := ⟨w.heap.size, 1, none⟩) l3_z).trans fz1)
      have l4_z := World.block_lt_of_cell? _ _ k4_z0
      try simp only at l4_z
      clear hb kz0 kz1 kd0 kd1 fz0 fz1 fd0 kb HW
      go_wp2_with fail
      refine (CT.out _).mono ?_
      rintro e w5 ⟨rfl, hb⟩
      have W5 := Lib.hid (blw_trans (show Below w.heap.size w _ by repeat (first | exact W4.out | refine blw_drewN ?_ _ | refine Below.setCell ?_ (by first | (simp; done) | omega | (simp; omega)) _ | refine Below.alloc ?_ (by first | (simp; done) | omega | (simp; omega)) _)) hb)
      have n5 := hb.size
      try simp at n5
      have k5_d0 := cell_keep (a := ⟨P, 0, none⟩) (v := .int .i64 (N : Int)) (by first | (go_keep; done) | (simp [go_sem, *]; done)) hb
      have k5_d1 := cell_keep (a := ⟨P, 1, none⟩) (v := .int .i64 (b.length : Int)) (by first | (go_keep; done) | (simp [go_sem, *]; done)) hb
      have l5_d := World.block_lt_of_cell? _ _ k5_d0
      try simp only at l5_d
      have k5_z0 := cell_keep (a := ⟨w.heap.size, 0, none⟩) (v := .int .i64 0) (by first | (go_keep; done) | (simp [go_sem, *]; done)) hb
      have f5_z0 := (hb.frozen (p := ⟨w.heap.size, 0, none⟩) (by first | (simp; done) | omega | (simp; omega))).trans (show _ = false by first | exact f4_z0 | (simp; done) | (simp [go_sem]; done) | (simp [f4_z0]; done) | exact ((blw_alloc _ _).frozen (p := ⟨w.heap.size, 0, none⟩) l4_z).trans f4_z0)
      have k5_z1 := cell_keep (a := ⟨w.heap.size, 1, none⟩) (v := .int .i64 0) (by first | (go_keep; done) | (simp [go_sem, *]; done)) hb
      have f5_z1 := (hb.frozen (p := ⟨w.heap.size, 1, none⟩) (by first | (simp; done) | omega | (simp; omega))).trans (show _ = false by first | exact f4_z1 | (simp; done) | (simp [go_sem]; done) | (simp [f4_z1]; done) | exact ((blw_alloc _ _).frozen (p := ⟨w.heap.size, 1, none⟩) l4_z).trans f4_z1)
      have l5_z := World.block_lt_of_cell? _ _ k5_z0
      try simp only at l5_z
      clear hb k4_d0 k4_d1 l4_d k4_z0 f4_z0 k4_z1 f4_z1 l4_z W4
      go_wp2_with fail
      refine bodyPost_ret (v := .tuple #[.agg #[.int .i64 (N : Int), .int .i64 (b.length : Int)], .bool true]) (by simp [results, Tryz.results8, go_sem, *]) rfl ⟨rfl, ?_⟩
      repeat (first | with_reducible exact W5.out | refine blw_drewN ?_ _ | refine Below.setCell ?_ (by first | (simp; done) | omega | (simp; omega)) _ | refine Below.alloc ?_ (by first | (simp; done) | omega | (simp; omega)) _)

set_option maxRecDepth 100000 in
set_option maxHeartbeats 1000000 in
theorem dof_two_ok1 (t B a b : List UInt8) (w : World) (hng : (t.take 1 == [45]) = true) (hB : t.drop 1 = B) (hl1 : 1 ≤ t.length) (hBl : B.length ≤ 4000000000) (hsp : Lib.split B [46] = [a, b]) (hal : a.length ≤ 4000000000) (hq : ¬ Byt.numP a < 0) (_hqb : Byt.numP a ≤ 1000000000000000) (hbl : b.length ≤ 4000000000) (hob : onlyB b Byt.digs 1 9 = true) (hf : Byt.numP a ≤ 1000000000000000 / P10 (b.length : Int)) (hkd : okD (-(Byt.foldD (Byt.numP a).toNat b : Int)) (b.length : Int)) (hXt : Byt.decText (-(Byt.foldD (Byt.numP a).toNat b : Int)) (b.length : Int) = t) :
    Calls Tryz.prog 8 #[.string ⟨t.toArray⟩] w fun e w' => e = .returned (.tuple #[.agg #[.int .i64 (-(Byt.foldD (Byt.numP a).toNat b : Int)), .int .i64 (b.length : Int)], .bool true]) ∧ Below w.heap.size w w' := by
  have CS := Lib.hid fun w => (show Calls Tryz.prog 20 #[.string ⟨t.toArray⟩, .string ⟨#[45]⟩] w fun e w' => e = .returned (.bool true) ∧ w' = w from hng ▸ starts_any t [45] w)
  have SLm : ∀ w, (Instr.slice 9 (.string ⟨t.toArray⟩) (some (.int .i64 1)) none none).run Tryz.prog w = .ok (.string ⟨B.toArray⟩) w := fun w => hB ▸ slice_from (P := Tryz.prog) 9 Tryz.underlying9 t .i64 1 hl1 w
  have CC := Lib.hid fun w => (show Calls Tryz.prog 21 #[.string ⟨B.toArray⟩, .string ⟨#[46]⟩] w (GivesStrs w [a, b]) from hsp ▸ cut_any B [46] w (by simp) hBl (by simp))
  have CN := Lib.hid fun w => numof_any a w hal
  generalize Byt.numP a = Q at *
  have d0 : decide (Q < 0) = false := dec_no hq
  have CO := Lib.hid fun w => (show Calls Tryz.prog 23 #[.string ⟨b.toArray⟩, .string ⟨#[48, 49, 50, 51, 52, 53, 54, 55, 56, 57]⟩, .int .i64 1, .int .i64 9] w fun e w' => e = .returned (.bool true) ∧ Drew w w' from hob ▸ only_any b Byt.digs 1 9 w hbl (by decide))
  obtain ⟨hdg, hb1, hbn⟩ := only_digs hob
  have hP := Dcm.P10_bd (b.length : Int)
  have d1 : decide (1000000000000000 / P10 (b.length : Int) < Q) = false := dec_no (by omega)
  obtain ⟨q, rfl⟩ : ∃ q : Nat, Q = (q : Int) := ⟨Q.toNat, by omega⟩
  rw [Int.toNat_natCast] at *
  have HBD := Lib.hid fun k (hk : k ≤ b.length) => two_bd hdg hbn hf hk
  have HDG := Lib.hid hdg
  clear hob hdg
  have CF := Lib.hid fun w => dflt_no (-(Byt.foldD q b : Int)) (b.length : Int) w hkd
  have ct := fun w => rdect_any (-(Byt.foldD q b : Int)) (b.length : Int) w hkd
  obtain ⟨X, hX⟩ : ∃ X, Byt.decText (-(Byt.foldD q b : Int)) (b.length : Int) = X := ⟨_, rfl⟩
  rw [hX] at ct hXt
  have CT := Lib.hid ct
  have q1 : (X == t) = true := by rw [hXt]; simp
  have q2 : (X != t) = false := by rw [bne, q1]; rfl
  clear ct hX hXt hkd
  obtain ⟨N, hN⟩ : ∃ N, Byt.foldD q b = N := ⟨_, rfl⟩
  rw [hN] at CF CT
  rw [hN]
  have HNN := Lib.hid hN
  clear hN
  clear hng hsp hB
  go_enter Tryz.func8, Tryz.ntmps8
  go_wp2_with fail
  refine (CS.out _).mono ?_
  rintro e w' ⟨rfl, rfl⟩
  go_wp2_with fail
  refine (CC.out _).mono ?_
  rintro e w1 ⟨vv, rfl, hst, hb⟩
  have W1 := Lib.hid (blw_trans (show Below w.heap.size w _ by repeat (first | exact (Below.refl _ _) | refine blw_drewN ?_ _ | refine Below.setCell ?_ (by first | (simp; done) | omega | (simp; omega)) _ | refine Below.alloc ?_ (by first | (simp; done) | omega | (simp; omega)) _)) hb)
  have n1 := hb.size
  try simp at n1
  have k1_z0 := cell_keep (a := ⟨w.heap.size, 0, none⟩) (v := .int .i64 0) (by first | (go_keep; done) | (simp [go_sem, *]; done)) hb
  have f1_z0 := (hb.frozen (p := ⟨w.heap.size, 0, none⟩) (by first | (simp; done) | omega | (simp; omega))).trans (show _ = false by first | (simp; done) | (simp [go_sem]; done))
  have k1_z1 := cell_keep (a := ⟨w.heap.size, 1, none⟩) (v := .int .i64 0) (by first | (go_keep; done) | (simp [go_sem, *]; done)) hb
  have f1_z1 := (hb.frozen (p := ⟨w.heap.size, 1, none⟩) (by first | (simp; done) | omega | (simp; omega))).trans (show _ = false by first | (simp; done) | (simp [go_sem]; done))
  have l1_z := World.block_lt_of_cell? _ _ k1_z0
  try simp only at l1_z
  clear hb
  obtain ⟨bb, off, cap, rfl, hc1, hc2, hbb⟩ := strs_open2 hst (by simp)
  unfold maxLen at hc2
  have ca := strs_cell hst 0 a rfl
  rw [Nat.add_zero] at ca
  have HS1 := Lib.hid hst
  clear hst
  first | simp only [List.length_cons] at hc1 | skip
  go_wp2_with fail
  refine (CN.out _).mono ?_
  rintro e w2 ⟨rfl, hb⟩
  have W2 := Lib.hid (blw_trans (show Below w.heap.size w _ by repeat (first | exact W1.out | refine blw_drewN ?_ _ | refine Below.setCell ?_ (by first | (simp; done) | omega | (simp; omega)) _ | refine Below.alloc ?_ (by first | (simp; done) | omega | (simp; omega)) _)) hb)
  have n2 := hb.size
  try simp at n2
  have k2_z0 := cell_keep (a := ⟨w.heap.size, 0, none⟩) (v := .int .i64 0) (by first | (go_keep; done) | (simp [go_sem, *]; done)) hb
  have f2_z0 := (hb.frozen (p := ⟨w.heap.size, 0, none⟩) (by first | (simp; done) | omega | (simp; omega))).trans (show _ = false by first | exact f1_z0 | (simp; done) | (simp [go_sem]; done) | (simp [f1_z0]; done) | exact ((blw_alloc _ _).frozen (p := ⟨w.heap.size, 0, none⟩) l1_z).trans f1_z0)
  have k2_z1 := cell_keep (a := ⟨w.heap.size, 1, none⟩) (v := .int .i64 0) (by first | (go_keep; done) | (simp [go_sem, *]; done)) hb
  have f2_z1 := (hb.frozen (p := ⟨w.heap.size, 1, none⟩) (by first | (simp; done) | omega | (simp; omega))).trans (show _ = false by first | exact f1_z1 | (simp; done) | (simp [go_sem]; done) | (simp [f1_z1]; done) | exact ((blw_alloc _ _).frozen (p := ⟨w.heap.size, 1, none⟩) l1_z).trans f1_z1)
  have l2_z := World.block_lt_of_cell? _ _ k2_z0
  try simp only at l2_z
  have H2_L := Lib.hid (StrsAt.below (show StrsAt _ (.slice (some ⟨bb, off, none⟩) ([a, b] : List (List UInt8)).length cap) [a, b] by repeat (first | exact HS1.out | refine StrsAt.alloc ?_ _ | refine StrsAt.drewN ?_ _)) hb)
  clear hb HS1 k1_z0 f1_z0 k1_z1 f1_z1 l1_z ca W1
  have cb := strs_cell H2_L.out 1 b rfl
  have hbb2 : bb < w2.heap.size := World.block_lt_of_cell? _ _ cb
  go_wp2_with fail
  refine (CO.out _).mono ?_
  rintro e w3 ⟨rfl, nq, rfl⟩
  go_wp2_with fail
  refine (ten_any _ _ (by omega) (by omega)).mono ?_
  rintro e w' ⟨rfl, rfl⟩
  go_wp2_with fail
  have HD0 := Lib.hid (show Boxed (((w2.alloc (.cells #[.int .i64 (q : Int), .int .i64 0] 23)).drewN nq).setCell ⟨w2.heap.size, 1, none⟩ (.int .i64 (b.length : Int))) w2.heap.size #[.int .i64 (q : Int), .int .i64 (b.length : Int)] from ((Boxed.made w2 #[.int .i64 (q : Int), .int .i64 0] 23).drewN nq).set 1 (.int .i64 (b.length : Int)) (by simp))
  have HZ0 := Lib.hid (show Boxed (((w2.alloc (.cells #[.int .i64 (q : Int), .int .i64 0] 23)).drewN nq).setCell ⟨w2.heap.size, 1, none⟩ (.int .i64 (b.length : Int))) w.heap.size #[.int .i64 0, .int .i64 0] from ((Boxed.alloc (w := w2) ⟨l2_z, fun j u hu => (by
      match j, hu with
      | 0, hu => simp at hu; subst hu; exact k2_z0
      | 1, hu => simp at hu; subst hu; exact k2_z1), fun j hj => (by
      match j, hj with
      | 0, _ => exact f2_z0
      | 1, _ => exact f2_z1)⟩ _).drewN nq).far (by omega) 1 _)
  have HC0 := Lib.hid (show (((w2.alloc (.cells #[.int .i64 (q : Int), .int .i64 0] 23)).drewN nq).setCell ⟨w2.heap.size, 1, none⟩ (.int .i64 (b.length : Int))).cell? ⟨bb, off + 1, none⟩ = some (.string ⟨b.toArray⟩) by
    rw [World.cell?_setCell_other _ _ _ _ (fun g => by injection g with g; omega)]
    exact cell_keep cb (blw_drewN (blw_alloc w2 _) nq))
  have HW0 := Lib.hid (show Below w.heap.size w (((w2.alloc (.cells #[.int .i64 (q : Int), .int .i64 0] 23)).drewN nq).setCell ⟨w2.heap.size, 1, none⟩ (.int .i64 (b.length : Int))) by repeat (first | with_reducible exact W2.out | refine blw_drewN ?_ _ | refine Below.setCell ?_ (by first | (simp; done) | omega | (simp; omega)) _ | refine Below.alloc ?_ (by first | (simp; done) | omega | (simp; omega)) _))
  clear k2_z0 k2_z1 f2_z0 f2_z1 H2_L cb W2 CN CC CO
  generalize ((w2.alloc (.cells #[.int .i64 (q : Int), .int .i64 0] 23)).drewN nq).setCell ⟨w2.heap.size, 1, none⟩ (.int .i64 (b.length : Int)) = wl at *
  obtain ⟨P, hP7⟩ : ∃ P, P = w2.heap.size := ⟨_, rfl⟩
  rw [← hP7] at HD0 ⊢
  have hPz : w.heap.size < P := by omega
  have hPb : bb < P := by omega
  clear hP7 l2_z hbb2 n1 n2 hbb
  go_loopw [8] (fun v wr => ∃ k : Nat, v = .int .i64 k ∧ k ≤ b.length ∧ Hid (Boxed wr P #[.int .i64 (Byt.foldD q (b.take k) : Int), .int .i64 (b.length : Int)]) ∧ Hid (Boxed wr w.heap.size #[.int .i64 0, .int .i64 0]) ∧ Hid (wr.cell? ⟨bb, off + 1, none⟩ = some (.string ⟨b.toArray⟩)) ∧ Hid (Below w.heap.size w wr)) (fun v _ => b.length - (RowKit.intOf v).toNat)
  case atStart => exact ⟨0, rfl, Nat.zero_le _, HD0, HZ0, HC0, HW0⟩
  case round =>
    obtain ⟨k, rfl, hk, HD, HZ, HC, HW⟩ := hrel
    clear HD0 HZ0 HC0 HW0
    have fbd := HBD.out k hk
    have kd0 := HD.out.cell 0 _ rfl
    have kd1 := HD.out.cell 1 _ rfl
    have fd0 := HD.out.free 0 (by simp)
    have kdl := HD.out.lt
    have kb := HC.out
    have hbw : bb < wr.heap.size := World.block_lt_of_cell? _ _ kb
    by_cases hlt : k < b.length
    · obtain ⟨c, hx⟩ : ∃ c, b[k]? = some c := ⟨b[k], List.getElem?_eq_getElem hlt⟩
      have hcd := HDG.out c (List.mem_of_getElem? hx)
      have IX := fun w => index_str (P := Tryz.prog) 9 Tryz.underlying9 b .i64 k c hx w
      have HN := Lib.hid (fold_step q hx)
      have us := u8_sub (c.toNat : Int) (by omega) (by omega)
      clear hx
      generalize Byt.foldD q (b.take k) = N' at *
      have wm : IntKind.i64.wrap (10 * (N' : Int)) = 10 * (N' : Int) := IntWalk.i64_in _ (by omega)
      have wc : IntKind.i64.wrap ((c.toNat : Int) - 48) = (c.toNat : Int) - 48 := IntWalk.i64_in _ (by omega)
      have wa : IntKind.i64.wrap (10 * (N' : Int) + ((c.toNat : Int) - 48)) = 10 * (N' : Int) + ((c.toNat : Int) - 48) := IntWalk.i64_in _ (by omega)
      go_wp2_with fail
      go_still_tail 12, (by kernel_rfl)
      go_wp2_with fail
      go_roundw
      case rel => exact ⟨k + 1, by go_num, by omega, Lib.hid (by
        rw [HN.out]
        have g := (HD.out.set 0 (.int .i64 (10 * (N' : Int) + ((c.toNat : Int) - 48))) (by simp)).drew
        have e : (10 * (N' : Int) + ((c.toNat : Int) - 48)) = ((10 * N' + (c.toNat - 48) : Nat) : Int) := by omega
        rw [e] at g ⊢
        exact g), Lib.hid (HZ.out.far (by omega) 0 _).drew, Lib.hid (by
        show (wr.setCell _ _).cell? _ = _
        rw [World.cell?_setCell_other _ _ _ _ (fun g => by injection g with g; omega)]
        exact HC.out), Lib.hid (blw_drewN (Below.setCell HW.out (by first | omega | (simp; omega)) _) 1)⟩
      case measure => simp [RowKit.intOf]; omega
    · have ht : b.take k = b := List.take_of_length_le (by omega)
      rw [ht] at HD kd0
      clear ht
      have kz0 := HZ.out.cell 0 _ rfl
      have kz1 := HZ.out.cell 1 _ rfl
      have fz0 := HZ.out.free 0 (by simp)
      have fz1 := HZ.out.free 1 (by simp)
      have l3_z := HZ.out.lt
      have l3_d := kdl
      rw [HNN.out] at kd0
      have fN : N ≤ 1000001000000000 := by have := HBD.out b.length (Nat.le_refl _); rw [List.take_length, HNN.out] at this; exact this
      have ne1 : ¬ w.heap.size = P := by omega
      have me1 : ¬ P = w.heap.size := by omega
      go_wp2_with fail
      refine (CS.out _).mono ?_
      rintro e w' ⟨rfl, rfl⟩
      go_wp2_with fail
      refine (CF.out _).mono ?_
      rintro e w4 ⟨rfl, hb⟩
      have W4 := Lib.hid (blw_trans (show Below w.heap.size w _ by repeat (first | exact HW.out | refine blw_drewN ?_ _ | refine Below.setCell ?_ (by first | (simp; done) | omega | (simp; omega)) _ | refine Below.alloc ?_ (by first | (simp; done) | omega | (simp; omega)) _)) hb)
      have n4 := hb.size
      try simp at n4
      have k4_d0 := cell_keep (a := ⟨P, 0, none⟩) (v := .int .i64 (-(N : Int))) (by first | (go_keep; done) | (simp [go_sem, *]; done)) hb
      have k4_d1 := cell_keep (a := ⟨P, 1, none⟩) (v := .int .i64 (b.length : Int)) (by first | (go_keep; done) | (simp [go_sem, *]; done)) hb
      have l4_d := World.block_lt_of_cell? _ _ k4_d0
      try simp only at l4_d
      have k4_z0 := cell_keep (a := ⟨w.heap.size, 0, none⟩) (v := .int .i64 0) (by first | (go_keep; done) | (simp [go_sem, *]; done)) hb
      have f4_z0 := (hb.frozen (p := ⟨w.heap.size, 0, none⟩) (by first | (simp; done) | omega | (simp; omega))).trans (show _ = false by first | exact fz0 | (simp; done) | (simp [go_sem]; done) | (simp [fz0]; done) | exact ((blw_alloc _ _).frozen (p := ⟨w.heap.size, 0, none⟩) l3_z).trans fz0)
      have k4_z1 := cell_keep (a := ⟨w.heap.size, 1, none⟩) (v := .int .i64 0) (by first | (go_keep; done) | (simp [go_sem, *]; done)) hb
      have f4_z1 := (hb.frozen (p := ⟨w.heap.size, 1, none⟩) (by first | (simp; done) | omega | (simp; omega))).trans (show _ = false by first | exact fz1 | (simp; done) | (simp [go_sem]; done) | (simp [fz1]; done) | exact ((blw_alloc _ _).frozen (p := ⟨w.heap.size, 1, none⟩) l3_z).trans fz1)
      have l4_z := World.block_lt_of_cell? _ _ k4_z0
      try simp only at l4_z
      clear hb kz0 kz1 kd0 kd1 fz0 fz1 fd0 kb HW
      go_wp2_with fail
      refine (CT.out _).mono ?_
      rintro e w5 ⟨rfl, hb⟩
      have W5 := Lib.hid (blw_trans (show Below w.heap.size w _ by repeat (first | exact W4.out | refine blw_drewN ?_ _ | refine Below.setCell ?_ (by first | (simp; done) | omega | (simp; omega)) _ | refine Below.alloc ?_ (by first | (simp; done) | omega | (simp; omega)) _)) hb)
      have n5 := hb.size
      try simp at n5
      have k5_d0 := cell_keep (a := ⟨P, 0, none⟩) (v := .int .i64 (-(N : Int))) (by first | (go_keep; done) | (simp [go_sem, *]; done)) hb
      have k5_d1 := cell_keep (a := ⟨P, 1, none⟩) (v := .int .i64 (b.length : Int)) (by first | (go_keep; done) | (simp [go_sem, *]; done)) hb
      have l5_d := World.block_lt_of_cell? _ _ k5_d0
      try simp only at l5_d
      have k5_z0 := cell_keep (a := ⟨w.heap.size, 0, none⟩) (v := .int .i64 0) (by first | (go_keep; done) | (simp [go_sem, *]; done)) hb
      have f5_z0 := (hb.frozen (p := ⟨w.heap.size, 0, none⟩) (by first | (simp; done) | omega | (simp; omega))).trans (show _ = false by first | exact f4_z0 | (simp; done) | (simp [go_sem]; done) | (simp [f4_z0]; done) | exact ((blw_alloc _ _).frozen (p := ⟨w.heap.size, 0, none⟩) l4_z).trans f4_z0)
      have k5_z1 := cell_keep (a := ⟨w.heap.size, 1, none⟩) (v := .int .i64 0) (by first | (go_keep; done) | (simp [go_sem, *]; done)) hb
      have f5_z1 := (hb.frozen (p := ⟨w.heap.size, 1, none⟩) (by first | (simp; done) | omega | (simp; omega))).trans (show _ = false by first | exact f4_z1 | (simp; done) | (simp [go_sem]; done) | (simp [f4_z1]; done) | exact ((blw_alloc _ _).frozen (p := ⟨w.heap.size, 1, none⟩) l4_z).trans f4_z1)
      have l5_z := World.block_lt_of_cell? _ _ k5_z0
      try simp only at l5_z
      clear hb k4_d0 k4_d1 l4_d k4_z0 f4_z0 k4_z1 f4_z1 l4_z W4
      go_wp2_with fail
      refine bodyPost_ret (v := .tuple #[.agg #[.int .i64 (-(N : Int)), .int .i64 (b.length : Int)], .bool true]) (by simp [results, Tryz.results8, go_sem, *]) rfl ⟨rfl, ?_⟩
      repeat (first | with_reducible exact W5.out | refine blw_drewN ?_ _ | refine Below.setCell ?_ (by first | (simp; done) | omega | (simp; omega)) _ | refine Below.alloc ?_ (by first | (simp; done) | omega | (simp; omega)) _)

set_option maxRecDepth 100000 in
set_option maxHeartbeats 1000000 in
theorem dof_two_ne0 (t B a b : List UInt8) (w : World) (hng : (t.take 1 == [45]) = false) (hB : t = B) (_hl1 : True) (hBl : B.length ≤ 4000000000) (hsp : Lib.split B [46] = [a, b]) (hal : a.length ≤ 4000000000) (hq : ¬ Byt.numP a < 0) (_hqb : Byt.numP a ≤ 1000000000000000) (hbl : b.length ≤ 4000000000) (hob : onlyB b Byt.digs 1 9 = true) (hf : Byt.numP a ≤ 1000000000000000 / P10 (b.length : Int)) (hkd : okD (Byt.foldD (Byt.numP a).toNat b : Int) (b.length : Int)) (hXt : ¬ Byt.decText (Byt.foldD (Byt.numP a).toNat b : Int) (b.length : Int) = t) :
    Calls Tryz.prog 8 #[.string ⟨t.toArray⟩] w fun e w' => e = .returned (.tuple #[.agg #[.int .i64 0, .int .i64 0], .bool false]) ∧ Below w.heap.size w w' := by
  have CS := Lib.hid fun w => (show Calls Tryz.prog 20 #[.string ⟨t.toArray⟩, .string ⟨#[45]⟩] w fun e w' => e = .returned (.bool false) ∧ w' = w from hng ▸ starts_any t [45] w)
  have CC := Lib.hid fun w => (show Calls Tryz.prog 21 #[.string ⟨B.toArray⟩, .string ⟨#[46]⟩] w (GivesStrs w [a, b]) from hsp ▸ cut_any B [46] w (by simp) hBl (by simp))
  have CN := Lib.hid fun w => numof_any a w hal
  generalize Byt.numP a = Q at *
  have d0 : decide (Q < 0) = false := dec_no hq
  have CO := Lib.hid fun w => (show Calls Tryz.prog 23 #[.string ⟨b.toArray⟩, .string ⟨#[48, 49, 50, 51, 52, 53, 54, 55, 56, 57]⟩, .int .i64 1, .int .i64 9] w fun e w' => e = .returned (.bool true) ∧ Drew w w' from hob ▸ only_any b Byt.digs 1 9 w hbl (by decide))
  obtain ⟨hdg, hb1, hbn⟩ := only_digs hob
  have hP := Dcm.P10_bd (b.length : Int)
  have d1 : decide (1000000000000000 / P10 (b.length : Int) < Q) = false := dec_no (by omega)
  obtain ⟨q, rfl⟩ : ∃ q : Nat, Q = (q : Int) := ⟨Q.toNat, by omega⟩
  rw [Int.toNat_natCast] at *
  have HBD := Lib.hid fun k (hk : k ≤ b.length) => two_bd hdg hbn hf hk
  have HDG := Lib.hid hdg
  clear hob hdg
  have CF := Lib.hid fun w => dflt_no (Byt.foldD q b : Int) (b.length : Int) w hkd
  have ct := fun w => rdect_any (Byt.foldD q b : Int) (b.length : Int) w hkd
  obtain ⟨X, hX⟩ : ∃ X, Byt.decText (Byt.foldD q b : Int) (b.length : Int) = X := ⟨_, rfl⟩
  rw [hX] at ct hXt
  have CT := Lib.hid ct
  have q1 : (X == t) = false := beq_eq_false_iff_ne.2 hXt
  have q2 : (X != t) = true := by rw [bne, q1]; rfl
  clear ct hX hXt hkd
  obtain ⟨N, hN⟩ : ∃ N, Byt.foldD q b = N := ⟨_, rfl⟩
  rw [hN] at CF CT
  have HNN := Lib.hid hN
  clear hN
  subst hB
  clear hng hsp
  go_enter Tryz.func8, Tryz.ntmps8
  go_wp2_with fail
  refine (CS.out _).mono ?_
  rintro e w' ⟨rfl, rfl⟩
  go_wp2_with fail
  refine (CC.out _).mono ?_
  rintro e w1 ⟨vv, rfl, hst, hb⟩
  have W1 := Lib.hid (blw_trans (show Below w.heap.size w _ by repeat (first | exact (Below.refl _ _) | refine blw_drewN ?_ _ | refine Below.setCell ?_ (by first | (simp; done) | omega | (simp; omega)) _ | refine Below.alloc ?_ (by first | (simp; done) | omega | (simp; omega)) _)) hb)
  have n1 := hb.size
  try simp at n1
  have k1_z0 := cell_keep (a := ⟨w.heap.size, 0, none⟩) (v := .int .i64 0) (by first | (go_keep; done) | (simp [go_sem, *]; done)) hb
  have f1_z0 := (hb.frozen (p := ⟨w.heap.size, 0, none⟩) (by first | (simp; done) | omega | (simp; omega))).trans (show _ = false by first | (simp; done) | (simp [go_sem]; done))
  have k1_z1 := cell_keep (a := ⟨w.heap.size, 1, none⟩) (v := .int .i64 0) (by first | (go_keep; done) | (simp [go_sem, *]; done)) hb
  have f1_z1 := (hb.frozen (p := ⟨w.heap.size, 1, none⟩) (by first | (simp; done) | omega | (simp; omega))).trans (show _ = false by first | (simp; done) | (simp [go_sem]; done))
  have l1_z := World.block_lt_of_cell? _ _ k1_z0
  try simp only at l1_z
  clear hb
  obtain ⟨bb, off, cap, rfl, hc1, hc2, hbb⟩ := strs_open2 hst (by simp)
  unfold maxLen at hc2
  have ca := strs_cell hst 0 a rfl
  rw [Nat.add_zero] at ca
  have HS1 := Lib.hid hst
  clear hst
  first | simp only [List.length_cons] at hc1 | skip
  go_wp2_with fail
  refine (CN.out _).mono ?_
  rintro e w2 ⟨rfl, hb⟩
  have W2 := Lib.hid (blw_trans (show Below w.heap.size w _ by repeat (first | exact W1.out | refine blw_drewN ?_ _ | refine Below.setCell ?_ (by first | (simp; done) | omega | (simp; omega)) _ | refine Below.alloc ?_ (by first | (simp; done) | omega | (simp; omega)) _)) hb)
  have n2 := hb.size
  try simp at n2
  have k2_z0 := cell_keep (a := ⟨w.heap.size, 0, none⟩) (v := .int .i64 0) (by first | (go_keep; done) | (simp [go_sem, *]; done)) hb
  have f2_z0 := (hb.frozen (p := ⟨w.heap.size, 0, none⟩) (by first | (simp; done) | omega | (simp; omega))).trans (show _ = false by first | exact f1_z0 | (simp; done) | (simp [go_sem]; done) | (simp [f1_z0]; done) | exact ((blw_alloc _ _).frozen (p := ⟨w.heap.size, 0, none⟩) l1_z).trans f1_z0)
  have k2_z1 := cell_keep (a := ⟨w.heap.size, 1, none⟩) (v := .int .i64 0) (by first | (go_keep; done) | (simp [go_sem, *]; done)) hb
  have f2_z1 := (hb.frozen (p := ⟨w.heap.size, 1, none⟩) (by first | (simp; done) | omega | (simp; omega))).trans (show _ = false by first | exact f1_z1 | (simp; done) | (simp [go_sem]; done) | (simp [f1_z1]; done) | exact ((blw_alloc _ _).frozen (p := ⟨w.heap.size, 1, none⟩) l1_z).trans f1_z1)
  have l2_z := World.block_lt_of_cell? _ _ k2_z0
  try simp only at l2_z
  have H2_L := Lib.hid (StrsAt.below (show StrsAt _ (.slice (some ⟨bb, off, none⟩) ([a, b] : List (List UInt8)).length cap) [a, b] by repeat (first | exact HS1.out | refine StrsAt.alloc ?_ _ | refine StrsAt.drewN ?_ _)) hb)
  clear hb HS1 k1_z0 f1_z0 k1_z1 f1_z1 l1_z ca W1
  have cb := strs_cell H2_L.out 1 b rfl
  have hbb2 : bb < w2.heap.size := World.block_lt_of_cell? _ _ cb
  go_wp2_with fail
  refine (CO.out _).mono ?_
  rintro e w3 ⟨rfl, nq, rfl⟩
  go_wp2_with fail
  refine (ten_any _ _ (by omega) (by omega)).mono ?_
  rintro e w' ⟨rfl, rfl⟩
  go_wp2_with fail
  have HD0 := Lib.hid (show Boxed (((w2.alloc (.cells #[.int .i64 (q : Int), .int .i64 0] 23)).drewN nq).setCell ⟨w2.heap.size, 1, none⟩ (.int .i64 (b.length : Int))) w2.heap.size #[.int .i64 (q : Int), .int .i64 (b.length : Int)] from ((Boxed.made w2 #[.int .i64 (q : Int), .int .i64 0] 23).drewN nq).set 1 (.int .i64 (b.length : Int)) (by simp))
  have HZ0 := Lib.hid (show Boxed (((w2.alloc (.cells #[.int .i64 (q : Int), .int .i64 0] 23)).drewN nq).setCell ⟨w2.heap.size, 1, none⟩ (.int .i64 (b.length : Int))) w.heap.size #[.int .i64 0, .int .i64 0] from ((Boxed.alloc (w := w2) ⟨l2_z, fun j u hu => (by
      match j, hu with
      | 0, hu => simp at hu; subst hu; exact k2_z0
      | 1, hu => simp at hu; subst hu; exact k2_z1), fun j hj => (by
      match j, hj with
      | 0, _ => exact f2_z0
      | 1, _ => exact f2_z1)⟩ _).drewN nq).far (by omega) 1 _)
  have HC0 := Lib.hid (show (((w2.alloc (.cells #[.int .i64 (q : Int), .int .i64 0] 23)).drewN nq).setCell ⟨w2.heap.size, 1, none⟩ (.int .i64 (b.length : Int))).cell? ⟨bb, off + 1, none⟩ = some (.string ⟨b.toArray⟩) by
    rw [World.cell?_setCell_other _ _ _ _ (fun g => by injection g with g; omega)]
    exact cell_keep cb (blw_drewN (blw_alloc w2 _) nq))
  have HW0 := Lib.hid (show Below w.heap.size w (((w2.alloc (.cells #[.int .i64 (q : Int), .int .i64 0] 23)).drewN nq).setCell ⟨w2.heap.size, 1, none⟩ (.int .i64 (b.length : Int))) by repeat (first | with_reducible exact W2.out | refine blw_drewN ?_ _ | refine Below.setCell ?_ (by first | (simp; done) | omega | (simp; omega)) _ | refine Below.alloc ?_ (by first | (simp; done) | omega | (simp; omega)) _))
  clear k2_z0 k2_z1 f2_z0 f2_z1 H2_L cb W2 CN CC CO
  generalize ((w2.alloc (.cells #[.int .i64 (q : Int), .int .i64 0] 23)).drewN nq).setCell ⟨w2.heap.size, 1, none⟩ (.int .i64 (b.length : Int)) = wl at *
  obtain ⟨P, hP7⟩ : ∃ P, P = w2.heap.size := ⟨_, rfl⟩
  rw [← hP7] at HD0 ⊢
  have hPz : w.heap.size < P := by omega
  have hPb : bb < P := by omega
  clear hP7 l2_z hbb2 n1 n2 hbb
  go_loopw [8] (fun v wr => ∃ k : Nat, v = .int .i64 k ∧ k ≤ b.length ∧ Hid (Boxed wr P #[.int .i64 (Byt.foldD q (b.take k) : Int), .int .i64 (b.length : Int)]) ∧ Hid (Boxed wr w.heap.size #[.int .i64 0, .int .i64 0]) ∧ Hid (wr.cell? ⟨bb, off + 1, none⟩ = some (.string ⟨b.toArray⟩)) ∧ Hid (Below w.heap.size w wr)) (fun v _ => b.length - (RowKit.intOf v).toNat)
  case atStart => exact ⟨0, rfl, Nat.zero_le _, HD0, HZ0, HC0, HW0⟩
  case round =>
    obtain ⟨k, rfl, hk, HD, HZ, HC, HW⟩ := hrel
    clear HD0 HZ0 HC0 HW0
    have fbd := HBD.out k hk
    have kd0 := HD.out.cell 0 _ rfl
    have kd1 := HD.out.cell 1 _ rfl
    have fd0 := HD.out.free 0 (by simp)
    have kdl := HD.out.lt
    have kb := HC.out
    have hbw : bb < wr.heap.size := World.block_lt_of_cell? _ _ kb
    by_cases hlt : k < b.length
    · obtain ⟨c, hx⟩ : ∃ c, b[k]? = some c := ⟨b[k], List.getElem?_eq_getElem hlt⟩
      have hcd := HDG.out c (List.mem_of_getElem? hx)
      have IX := fun w => index_str (P := Tryz.prog) 9 Tryz.underlying9 b .i64 k c hx w
      have HN := Lib.hid (fold_step q hx)
      have us := u8_sub (c.toNat : Int) (by omega) (by omega)
      clear hx
      generalize Byt.foldD q (b.take k) = N' at *
      have wm : IntKind.i64.wrap (10 * (N' : Int)) = 10 * (N' : Int) := IntWalk.i64_in _ (by omega)
      have wc : IntKind.i64.wrap ((c.toNat : Int) - 48) = (c.toNat : Int) - 48 := IntWalk.i64_in _ (by omega)
      have wa : IntKind.i64.wrap (10 * (N' : Int) + ((c.toNat : Int) - 48)) = 10 * (N' : Int) + ((c.toNat : Int) - 48) := IntWalk.i64_in _ (by omega)
      go_wp2_with fail
      go_still_tail 12, (by kernel_rfl)
      go_wp2_with fail
      go_roundw
      case rel => exact ⟨k + 1, by go_num, by omega, Lib.hid (by
        rw [HN.out]
        have g := (HD.out.set 0 (.int .i64 (10 * (N' : Int) + ((c.toNat : Int) - 48))) (by simp)).drew
        have e : (10 * (N' : Int) + ((c.toNat : Int) - 48)) = ((10 * N' + (c.toNat - 48) : Nat) : Int) := by omega
        rw [e] at g ⊢
        exact g), Lib.hid (HZ.out.far (by omega) 0 _).drew, Lib.hid (by
        show (wr.setCell _ _).cell? _ = _
        rw [World.cell?_setCell_other _ _ _ _ (fun g => by injection g with g; omega)]
        exact HC.out), Lib.hid (blw_drewN (Below.setCell HW.out (by first | omega | (simp; omega)) _) 1)⟩
      case measure => simp [RowKit.intOf]; omega
    · have ht : b.take k = b := List.take_of_length_le (by omega)
      rw [ht] at HD kd0
      clear ht
      have kz0 := HZ.out.cell 0 _ rfl
      have kz1 := HZ.out.cell 1 _ rfl
      have fz0 := HZ.out.free 0 (by simp)
      have fz1 := HZ.out.free 1 (by simp)
      have l3_z := HZ.out.lt
      have l3_d := kdl
      rw [HNN.out] at kd0
      have fN : N ≤ 1000001000000000 := by have := HBD.out b.length (Nat.le_refl _); rw [List.take_length, HNN.out] at this; exact this
      have ne1 : ¬ w.heap.size = P := by omega
      have me1 : ¬ P = w.heap.size := by omega
      go_wp2_with fail
      refine (CS.out _).mono ?_
      rintro e w' ⟨rfl, rfl⟩
      go_wp2_with fail
      refine (CF.out _).mono ?_
      rintro e w4 ⟨rfl, hb⟩
      have W4 := Lib.hid (blw_trans (show Below w.heap.size w _ by repeat (first | exact HW.out | refine blw_drewN ?_ _ | refine Below.setCell ?_ (by first | (simp; done) | omega | (simp; omega)) _ | refine Below.alloc ?_ (by first | (simp; done) | omega | (simp; omega)) _)) hb)
      have n4 := hb.size
      try simp at n4
      have k4_d0 := cell_keep (a := ⟨P, 0, none⟩) (v := .int .i64 (N : Int)) (by first | (go_keep; done) | (simp [go_sem, *]; done)) hb
      have k4_d1 := cell_keep (a := ⟨P, 1, none⟩) (v := .int .i64 (b.length : Int)) (by first | (go_keep; done) | (simp [go_sem, *]; done)) hb
      have l4_d := World.block_lt_of_cell? _ _ k4_d0
      try simp only at l4_d
      have k4_z0 := cell_keep (a := ⟨w.heap.size, 0, none⟩) (v := .int .i64 0) (by first | (go_keep; done) | (simp [go_sem, *]; done)) hb
      have f4_z0 := (hb.frozen (p := ⟨w.heap.size, 0, none⟩) (by first | (simp; done) | omega | (simp; omega))).trans (show _ = false by first | exact fz0 | (simp; done) | (simp [go_sem]; done) | (simp [fz0]; done) | exact ((blw_alloc _ _).frozen (p := ⟨w.heap.size, 0, none⟩) l3_z).trans fz0)
      have k4_z1 := cell_keep (a := ⟨w.heap.size, 1, none⟩) (v := .int .i64 0) (by first | (go_keep; done) | (simp [go_sem, *]; done)) hb
      have f4_z1 := (hb.frozen (p := ⟨w.heap.size, 1, none⟩) (by first | (simp; done) | omega | (simp; omega))).trans (show _ = false by first | exact fz1 | (simp; done) | (simp [go_sem]; done) | (simp [fz1]; done) | exact ((blw_alloc _ _).frozen (p := ⟨w.heap.size, 1, none⟩) l3_z).trans fz1)
      have l4_z := World.block_lt_of_cell? _ _ k4_z0
      try simp only at l4_z
      clear hb kz0 kz1 kd0 kd1 fz0 fz1 fd0 kb HW
      go_wp2_with fail
      refine (CT.out _).mono ?_
      rintro e w5 ⟨rfl, hb⟩
      have W5 := Lib.hid (blw_trans (show Below w.heap.size w _ by repeat (first | exact W4.out | refine blw_drewN ?_ _ | refine Below.setCell ?_ (by first | (simp; done) | omega | (simp; omega)) _ | refine Below.alloc ?_ (by first | (simp; done) | omega | (simp; omega)) _)) hb)
      have n5 := hb.size
      try simp at n5
      have k5_d0 := cell_keep (a := ⟨P, 0, none⟩) (v := .int .i64 (N : Int)) (by first | (go_keep; done) | (simp [go_sem, *]; done)) hb
      have k5_d1 := cell_keep (a := ⟨P, 1, none⟩) (v := .int .i64 (b.length : Int)) (by first | (go_keep; done) | (simp [go_sem, *]; done)) hb
      have l5_d := World.block_lt_of_cell? _ _ k5_d0
      try simp only at l5_d
      have k5_z0 := cell_keep (a := ⟨w.heap.size, 0, none⟩) (v := .int .i64 0) (by first | (go_keep; done) | (simp [go_sem, *]; done)) hb
      have f5_z0 := (hb.frozen (p := ⟨w.heap.size, 0, none⟩) (by first | (simp; done) | omega | (simp; omega))).trans (show _ = false by first | exact f4_z0 | (simp; done) | (simp [go_sem]; done) | (simp [f4_z0]; done) | exact ((blw_alloc _ _).frozen (p := ⟨w.heap.size, 0, none⟩) l4_z).trans f4_z0)
      have k5_z1 := cell_keep (a := ⟨w.heap.size, 1, none⟩) (v := .int .i64 0) (by first | (go_keep; done) | (simp [go_sem, *]; done)) hb
      have f5_z1 := (hb.frozen (p := ⟨w.heap.size, 1, none⟩) (by first | (simp; done) | omega | (simp; omega))).trans (show _ = false by first | exact f4_z1 | (simp; done) | (simp [go_sem]; done) | (simp [f4_z1]; done) | exact ((blw_alloc _ _).frozen (p := ⟨w.heap.size, 1, none⟩) l4_z).trans f4_z1)
      have l5_z := World.block_lt_of_cell? _ _ k5_z0
      try simp only at l5_z
      clear hb k4_d0 k4_d1 l4_d k4_z0 f4_z0 k4_z1 f4_z1 l4_z W4
      go_wp2_with fail
      refine bodyPost_ret (v := .tuple #[.agg #[.int .i64 0, .int .i64 0], .bool false]) (by simp [results, Tryz.results8, go_sem, *]) rfl ⟨rfl, ?_⟩
      repeat (first | with_reducible exact W5.out | refine blw_drewN ?_ _ | refine Below.setCell ?_ (by first | (simp; done) | omega | (simp; omega)) _ | refine Below.alloc ?_ (by first | (simp; done) | omega | (simp; omega)) _)

set_option maxRecDepth 100000 in
set_option maxHeartbeats 1000000 in
theorem dof_two_ne1 (t B a b : List UInt8) (w : World) (hng : (t.take 1 == [45]) = true) (hB : t.drop 1 = B) (hl1 : 1 ≤ t.length) (hBl : B.length ≤ 4000000000) (hsp : Lib.split B [46] = [a, b]) (hal : a.length ≤ 4000000000) (hq : ¬ Byt.numP a < 0) (_hqb : Byt.numP a ≤ 1000000000000000) (hbl : b.length ≤ 4000000000) (hob : onlyB b Byt.digs 1 9 = true) (hf : Byt.numP a ≤ 1000000000000000 / P10 (b.length : Int)) (hkd : okD (-(Byt.foldD (Byt.numP a).toNat b : Int)) (b.length : Int)) (hXt : ¬ Byt.decText (-(Byt.foldD (Byt.numP a).toNat b : Int)) (b.length : Int) = t) :
    Calls Tryz.prog 8 #[.string ⟨t.toArray⟩] w fun e w' => e = .returned (.tuple #[.agg #[.int .i64 0, .int .i64 0], .bool false]) ∧ Below w.heap.size w w' := by
  have CS := Lib.hid fun w => (show Calls Tryz.prog 20 #[.string ⟨t.toArray⟩, .string ⟨#[45]⟩] w fun e w' => e = .returned (.bool true) ∧ w' = w from hng ▸ starts_any t [45] w)
  have SLm : ∀ w, (Instr.slice 9 (.string ⟨t.toArray⟩) (some (.int .i64 1)) none none).run Tryz.prog w = .ok (.string ⟨B.toArray⟩) w := fun w => hB ▸ slice_from (P := Tryz.prog) 9 Tryz.underlying9 t .i64 1 hl1 w
  have CC := Lib.hid fun w => (show Calls Tryz.prog 21 #[.string ⟨B.toArray⟩, .string ⟨#[46]⟩] w (GivesStrs w [a, b]) from hsp ▸ cut_any B [46] w (by simp) hBl (by simp))
  have CN := Lib.hid fun w => numof_any a w hal
  generalize Byt.numP a = Q at *
  have d0 : decide (Q < 0) = false := dec_no hq
  have CO := Lib.hid fun w => (show Calls Tryz.prog 23 #[.string ⟨b.toArray⟩, .string ⟨#[48, 49, 50, 51, 52, 53, 54, 55, 56, 57]⟩, .int .i64 1, .int .i64 9] w fun e w' => e = .returned (.bool true) ∧ Drew w w' from hob ▸ only_any b Byt.digs 1 9 w hbl (by decide))
  obtain ⟨hdg, hb1, hbn⟩ := only_digs hob
  have hP := Dcm.P10_bd (b.length : Int)
  have d1 : decide (1000000000000000 / P10 (b.length : Int) < Q) = false := dec_no (by omega)
  obtain ⟨q, rfl⟩ : ∃ q : Nat, Q = (q : Int) := ⟨Q.toNat, by omega⟩
  rw [Int.toNat_natCast] at *
  have HBD := Lib.hid fun k (hk : k ≤ b.length) => two_bd hdg hbn hf hk
  have HDG := Lib.hid hdg
  clear hob hdg
  have CF := Lib.hid fun w => dflt_no (-(Byt.foldD q b : Int)) (b.length : Int) w hkd
  have ct := fun w => rdect_any (-(Byt.foldD q b : Int)) (b.length : Int) w hkd
  obtain ⟨X, hX⟩ : ∃ X, Byt.decText (-(Byt.foldD q b : Int)) (b.length : Int) = X := ⟨_, rfl⟩
  rw [hX] at ct hXt
  have CT := Lib.hid ct
  have q1 : (X == t) = false := beq_eq_false_iff_ne.2 hXt
  have q2 : (X != t) = true := by rw [bne, q1]; rfl
  clear ct hX hXt hkd
  obtain ⟨N, hN⟩ : ∃ N, Byt.foldD q b = N := ⟨_, rfl⟩
  rw [hN] at CF CT
  have HNN := Lib.hid hN
  clear hN
  clear hng hsp hB
  go_enter Tryz.func8, Tryz.ntmps8
  go_wp2_with fail
  refine (CS.out _).mono ?_
  rintro e w' ⟨rfl, rfl⟩
  go_wp2_with fail
  refine (CC.out _).mono ?_
  rintro e w1 ⟨vv, rfl, hst, hb⟩
  have W1 := Lib.hid (blw_trans (show Below w.heap.size w _ by repeat (first | exact (Below.refl _ _) | refine blw_drewN ?_ _ | refine Below.setCell ?_ (by first | (simp; done) | omega | (simp; omega)) _ | refine Below.alloc ?_ (by first | (simp; done) | omega | (simp; omega)) _)) hb)
  have n1 := hb.size
  try simp at n1
  have k1_z0 := cell_keep (a := ⟨w.heap.size, 0, none⟩) (v := .int .i64 0) (by first | (go_keep; done) | (simp [go_sem, *]; done)) hb
  have f1_z0 := (hb.frozen (p := ⟨w.heap.size, 0, none⟩) (by first | (simp; done) | omega | (simp; omega))).trans (show _ = false by first | (simp; done) | (simp [go_sem]; done))
  have k1_z1 := cell_keep (a := ⟨w.heap.size, 1, none⟩) (v := .int .i64 0) (by first | (go_keep; done) | (simp [go_sem, *]; done)) hb
  have f1_z1 := (hb.frozen (p := ⟨w.heap.size, 1, none⟩) (by first | (simp; done) | omega | (simp; omega))).trans (show _ = false by first | (simp; done) | (simp [go_sem]; done))
  have l1_z := World.block_lt_of_cell? _ _ k1_z0
  try simp only at l1_z
  clear hb
  obtain ⟨bb, off, cap, rfl, hc1, hc2, hbb⟩ := strs_open2 hst (by simp)
  unfold maxLen at hc2
  have ca := strs_cell hst 0 a rfl
  rw [Nat.add_zero] at ca
  have HS1 := Lib.hid hst
  clear hst
  first | simp only [List.length_cons] at hc1 | skip
  go_wp2_with fail
  refine (CN.out _).mono ?_
  rintro e w2 ⟨rfl, hb⟩
  have W2 := Lib.hid (blw_trans (show Below w.heap.size w _ by repeat (first | exact W1.out | refine blw_drewN ?_ _ | refine Below.setCell ?_ (by first | (simp; done) | omega | (simp; omega)) _ | refine Below.alloc ?_ (by first | (simp; done) | omega | (simp; omega)) _)) hb)
  have n2 := hb.size
  try simp at n2
  have k2_z0 := cell_keep (a := ⟨w.heap.size, 0, none⟩) (v := .int .i64 0) (by first | (go_keep; done) | (simp [go_sem, *]; done)) hb
  have f2_z0 := (hb.frozen (p := ⟨w.heap.size, 0, none⟩) (by first | (simp; done) | omega | (simp; omega))).trans (show _ = false by first | exact f1_z0 | (simp; done) | (simp [go_sem]; done) | (simp [f1_z0]; done) | exact ((blw_alloc _ _).frozen (p := ⟨w.heap.size, 0, none⟩) l1_z).trans f1_z0)
  have k2_z1 := cell_keep (a := ⟨w.heap.size, 1, none⟩) (v := .int .i64 0) (by first | (go_keep; done) | (simp [go_sem, *]; done)) hb
  have f2_z1 := (hb.frozen (p := ⟨w.heap.size, 1, none⟩) (by first | (simp; done) | omega | (simp; omega))).trans (show _ = false by first | exact f1_z1 | (simp; done) | (simp [go_sem]; done) | (simp [f1_z1]; done) | exact ((blw_alloc _ _).frozen (p := ⟨w.heap.size, 1, none⟩) l1_z).trans f1_z1)
  have l2_z := World.block_lt_of_cell? _ _ k2_z0
  try simp only at l2_z
  have H2_L := Lib.hid (StrsAt.below (show StrsAt _ (.slice (some ⟨bb, off, none⟩) ([a, b] : List (List UInt8)).length cap) [a, b] by repeat (first | exact HS1.out | refine StrsAt.alloc ?_ _ | refine StrsAt.drewN ?_ _)) hb)
  clear hb HS1 k1_z0 f1_z0 k1_z1 f1_z1 l1_z ca W1
  have cb := strs_cell H2_L.out 1 b rfl
  have hbb2 : bb < w2.heap.size := World.block_lt_of_cell? _ _ cb
  go_wp2_with fail
  refine (CO.out _).mono ?_
  rintro e w3 ⟨rfl, nq, rfl⟩
  go_wp2_with fail
  refine (ten_any _ _ (by omega) (by omega)).mono ?_
  rintro e w' ⟨rfl, rfl⟩
  go_wp2_with fail
  have HD0 := Lib.hid (show Boxed (((w2.alloc (.cells #[.int .i64 (q : Int), .int .i64 0] 23)).drewN nq).setCell ⟨w2.heap.size, 1, none⟩ (.int .i64 (b.length : Int))) w2.heap.size #[.int .i64 (q : Int), .int .i64 (b.length : Int)] from ((Boxed.made w2 #[.int .i64 (q : Int), .int .i64 0] 23).drewN nq).set 1 (.int .i64 (b.length : Int)) (by simp))
  have HZ0 := Lib.hid (show Boxed (((w2.alloc (.cells #[.int .i64 (q : Int), .int .i64 0] 23)).drewN nq).setCell ⟨w2.heap.size, 1, none⟩ (.int .i64 (b.length : Int))) w.heap.size #[.int .i64 0, .int .i64 0] from ((Boxed.alloc (w := w2) ⟨l2_z, fun j u hu => (by
      match j, hu with
      | 0, hu => simp at hu; subst hu; exact k2_z0
      | 1, hu => simp at hu; subst hu; exact k2_z1), fun j hj => (by
      match j, hj with
      | 0, _ => exact f2_z0
      | 1, _ => exact f2_z1)⟩ _).drewN nq).far (by omega) 1 _)
  have HC0 := Lib.hid (show (((w2.alloc (.cells #[.int .i64 (q : Int), .int .i64 0] 23)).drewN nq).setCell ⟨w2.heap.size, 1, none⟩ (.int .i64 (b.length : Int))).cell? ⟨bb, off + 1, none⟩ = some (.string ⟨b.toArray⟩) by
    rw [World.cell?_setCell_other _ _ _ _ (fun g => by injection g with g; omega)]
    exact cell_keep cb (blw_drewN (blw_alloc w2 _) nq))
  have HW0 := Lib.hid (show Below w.heap.size w (((w2.alloc (.cells #[.int .i64 (q : Int), .int .i64 0] 23)).drewN nq).setCell ⟨w2.heap.size, 1, none⟩ (.int .i64 (b.length : Int))) by repeat (first | with_reducible exact W2.out | refine blw_drewN ?_ _ | refine Below.setCell ?_ (by first | (simp; done) | omega | (simp; omega)) _ | refine Below.alloc ?_ (by first | (simp; done) | omega | (simp; omega)) _))
  clear k2_z0 k2_z1 f2_z0 f2_z1 H2_L cb W2 CN CC CO
  generalize ((w2.alloc (.cells #[.int .i64 (q : Int), .int .i64 0] 23)).drewN nq).setCell ⟨w2.heap.size, 1, none⟩ (.int .i64 (b.length : Int)) = wl at *
  obtain ⟨P, hP7⟩ : ∃ P, P = w2.heap.size := ⟨_, rfl⟩
  rw [← hP7] at HD0 ⊢
  have hPz : w.heap.size < P := by omega
  have hPb : bb < P := by omega
  clear hP7 l2_z hbb2 n1 n2 hbb
  go_loopw [8] (fun v wr => ∃ k : Nat, v = .int .i64 k ∧ k ≤ b.length ∧ Hid (Boxed wr P #[.int .i64 (Byt.foldD q (b.take k) : Int), .int .i64 (b.length : Int)]) ∧ Hid (Boxed wr w.heap.size #[.int .i64 0, .int .i64 0]) ∧ Hid (wr.cell? ⟨bb, off + 1, none⟩ = some (.string ⟨b.toArray⟩)) ∧ Hid (Below w.heap.size w wr)) (fun v _ => b.length - (RowKit.intOf v).toNat)
  case atStart => exact ⟨0, rfl, Nat.zero_le _, HD0, HZ0, HC0, HW0⟩
  case round =>
    obtain ⟨k, rfl, hk, HD, HZ, HC, HW⟩ := hrel
    clear HD0 HZ0 HC0 HW0
    have fbd := HBD.out k hk
    have kd0 := HD.out.cell 0 _ rfl
    have kd1 := HD.out.cell 1 _ rfl
    have fd0 := HD.out.free 0 (by simp)
    have kdl := HD.out.lt
    have kb := HC.out
    have hbw : bb < wr.heap.size := World.block_lt_of_cell? _ _ kb
    by_cases hlt : k < b.length
    · obtain ⟨c, hx⟩ : ∃ c, b[k]? = some c := ⟨b[k], List.getElem?_eq_getElem hlt⟩
      have hcd := HDG.out c (List.mem_of_getElem? hx)
      have IX := fun w => index_str (P := Tryz.prog) 9 Tryz.underlying9 b .i64 k c hx w
      have HN := Lib.hid (fold_step q hx)
      have us := u8_sub (c.toNat : Int) (by omega) (by omega)
      clear hx
      generalize Byt.foldD q (b.take k) = N' at *
      have wm : IntKind.i64.wrap (10 * (N' : Int)) = 10 * (N' : Int) := IntWalk.i64_in _ (by omega)
      have wc : IntKind.i64.wrap ((c.toNat : Int) - 48) = (c.toNat : Int) - 48 := IntWalk.i64_in _ (by omega)
      have wa : IntKind.i64.wrap (10 * (N' : Int) + ((c.toNat : Int) - 48)) = 10 * (N' : Int) + ((c.toNat : Int) - 48) := IntWalk.i64_in _ (by omega)
      go_wp2_with fail
      go_still_tail 12, (by kernel_rfl)
      go_wp2_with fail
      go_roundw
      case rel => exact ⟨k + 1, by go_num, by omega, Lib.hid (by
        rw [HN.out]
        have g := (HD.out.set 0 (.int .i64 (10 * (N' : Int) + ((c.toNat : Int) - 48))) (by simp)).drew
        have e : (10 * (N' : Int) + ((c.toNat : Int) - 48)) = ((10 * N' + (c.toNat - 48) : Nat) : Int) := by omega
        rw [e] at g ⊢
        exact g), Lib.hid (HZ.out.far (by omega) 0 _).drew, Lib.hid (by
        show (wr.setCell _ _).cell? _ = _
        rw [World.cell?_setCell_other _ _ _ _ (fun g => by injection g with g; omega)]
        exact HC.out), Lib.hid (blw_drewN (Below.setCell HW.out (by first | omega | (simp; omega)) _) 1)⟩
      case measure => simp [RowKit.intOf]; omega
    · have ht : b.take k = b := List.take_of_length_le (by omega)
      rw [ht] at HD kd0
      clear ht
      have kz0 := HZ.out.cell 0 _ rfl
      have kz1 := HZ.out.cell 1 _ rfl
      have fz0 := HZ.out.free 0 (by simp)
      have fz1 := HZ.out.free 1 (by simp)
      have l3_z := HZ.out.lt
      have l3_d := kdl
      rw [HNN.out] at kd0
      have fN : N ≤ 1000001000000000 := by have := HBD.out b.length (Nat.le_refl _); rw [List.take_length, HNN.out] at this; exact this
      have ne1 : ¬ w.heap.size = P := by omega
      have me1 : ¬ P = w.heap.size := by omega
      go_wp2_with fail
      refine (CS.out _).mono ?_
      rintro e w' ⟨rfl, rfl⟩
      go_wp2_with fail
      refine (CF.out _).mono ?_
      rintro e w4 ⟨rfl, hb⟩
      have W4 := Lib.hid (blw_trans (show Below w.heap.size w _ by repeat (first | exact HW.out | refine blw_drewN ?_ _ | refine Below.setCell ?_ (by first | (simp; done) | omega | (simp; omega)) _ | refine Below.alloc ?_ (by first | (simp; done) | omega | (simp; omega)) _)) hb)
      have n4 := hb.size
      try simp at n4
      have k4_d0 := cell_keep (a := ⟨P, 0, none⟩) (v := .int .i64 (-(N : Int))) (by first | (go_keep; done) | (simp [go_sem, *]; done)) hb
      have k4_d1 := cell_keep (a := ⟨P, 1, none⟩) (v := .int .i64 (b.length : Int)) (by first | (go_keep; done) | (simp [go_sem, *]; done)) hb
      have l4_d := World.block_lt_of_cell? _ _ k4_d0
      try simp only at l4_d
      have k4_z0 := cell_keep (a := ⟨w.heap.size, 0, none⟩) (v := .int .i64 0) (by first | (go_keep; done) | (simp [go_sem, *]; done)) hb
      have f4_z0 := (hb.frozen (p := ⟨w.heap.size, 0, none⟩) (by first | (simp; done) | omega | (simp; omega))).trans (show _ = false by first | exact fz0 | (simp; done) | (simp [go_sem]; done) | (simp [fz0]; done) | exact ((blw_alloc _ _).frozen (p := ⟨w.heap.size, 0, none⟩) l3_z).trans fz0)
      have k4_z1 := cell_keep (a := ⟨w.heap.size, 1, none⟩) (v := .int .i64 0) (by first | (go_keep; done) | (simp [go_sem, *]; done)) hb
      have f4_z1 := (hb.frozen (p := ⟨w.heap.size, 1, none⟩) (by first | (simp; done) | omega | (simp; omega))).trans (show _ = false by first | exact fz1 | (simp; done) | (simp [go_sem]; done) | (simp [fz1]; done) | exact ((blw_alloc _ _).frozen (p := ⟨w.heap.size, 1, none⟩) l3_z).trans fz1)
      have l4_z := World.block_lt_of_cell? _ _ k4_z0
      try simp only at l4_z
      clear hb kz0 kz1 kd0 kd1 fz0 fz1 fd0 kb HW
      go_wp2_with fail
      refine (CT.out _).mono ?_
      rintro e w5 ⟨rfl, hb⟩
      have W5 := Lib.hid (blw_trans (show Below w.heap.size w _ by repeat (first | exact W4.out | refine blw_drewN ?_ _ | refine Below.setCell ?_ (by first | (simp; done) | omega | (simp; omega)) _ | refine Below.alloc ?_ (by first | (simp; done) | omega | (simp; omega)) _)) hb)
      have n5 := hb.size
      try simp at n5
      have k5_d0 := cell_keep (a := ⟨P, 0, none⟩) (v := .int .i64 (-(N : Int))) (by first | (go_keep; done) | (simp [go_sem, *]; done)) hb
      have k5_d1 := cell_keep (a := ⟨P, 1, none⟩) (v := .int .i64 (b.length : Int)) (by first | (go_keep; done) | (simp [go_sem, *]; done)) hb
      have l5_d := World.block_lt_of_cell? _ _ k5_d0
      try simp only at l5_d
      have k5_z0 := cell_keep (a := ⟨w.heap.size, 0, none⟩) (v := .int .i64 0) (by first | (go_keep; done) | (simp [go_sem, *]; done)) hb
      have f5_z0 := (hb.frozen (p := ⟨w.heap.size, 0, none⟩) (by first | (simp; done) | omega | (simp; omega))).trans (show _ = false by first | exact f4_z0 | (simp; done) | (simp [go_sem]; done) | (simp [f4_z0]; done) | exact ((blw_alloc _ _).frozen (p := ⟨w.heap.size, 0, none⟩) l4_z).trans f4_z0)
      have k5_z1 := cell_keep (a := ⟨w.heap.size, 1, none⟩) (v := .int .i64 0) (by first | (go_keep; done) | (simp [go_sem, *]; done)) hb
      have f5_z1 := (hb.frozen (p := ⟨w.heap.size, 1, none⟩) (by first | (simp; done) | omega | (simp; omega))).trans (show _ = false by first | exact f4_z1 | (simp; done) | (simp [go_sem]; done) | (simp [f4_z1]; done) | exact ((blw_alloc _ _).frozen (p := ⟨w.heap.size, 1, none⟩) l4_z).trans f4_z1)
      have l5_z := World.block_lt_of_cell? _ _ k5_z0
      try simp only at l5_z
      clear hb k4_d0 k4_d1 l4_d k4_z0 f4_z0 k4_z1 f4_z1 l4_z W4
      go_wp2_with fail
      refine bodyPost_ret (v := .tuple #[.agg #[.int .i64 0, .int .i64 0], .bool false]) (by simp [results, Tryz.results8, go_sem, *]) rfl ⟨rfl, ?_⟩
      repeat (first | with_reducible exact W5.out | refine blw_drewN ?_ _ | refine Below.setCell ?_ (by first | (simp; done) | omega | (simp; omega)) _ | refine Below.alloc ?_ (by first | (simp; done) | omega | (simp; omega)) _)

set_option maxRecDepth 100000 in
set_option maxHeartbeats 1000000 in
theorem dof_two_out0 (t B a b : List UInt8) (w : World) (hng : (t.take 1 == [45]) = false) (hB : t = B) (_hl1 : True) (hBl : B.length ≤ 4000000000) (hsp : Lib.split B [46] = [a, b]) (hal : a.length ≤ 4000000000) (hq : ¬ Byt.numP a < 0) (_hqb : Byt.numP a ≤ 1000000000000000) (hbl : b.length ≤ 4000000000) (hob : onlyB b Byt.digs 1 9 = true) (hf : Byt.numP a ≤ 1000000000000000 / P10 (b.length : Int)) (hkd : ¬ okD (Byt.foldD (Byt.numP a).toNat b : Int) (b.length : Int))  :
    Calls Tryz.prog 8 #[.string ⟨t.toArray⟩] w fun e w' => e = .returned (.tuple #[.agg #[.int .i64 0, .int .i64 0], .bool false]) ∧ Below w.heap.size w w' := by
  have CS := Lib.hid fun w => (show Calls Tryz.prog 20 #[.string ⟨t.toArray⟩, .string ⟨#[45]⟩] w fun e w' => e = .returned (.bool false) ∧ w' = w from hng ▸ starts_any t [45] w)
  have CC := Lib.hid fun w => (show Calls Tryz.prog 21 #[.string ⟨B.toArray⟩, .string ⟨#[46]⟩] w (GivesStrs w [a, b]) from hsp ▸ cut_any B [46] w (by simp) hBl (by simp))
  have CN := Lib.hid fun w => numof_any a w hal
  generalize Byt.numP a = Q at *
  have d0 : decide (Q < 0) = false := dec_no hq
  have CO := Lib.hid fun w => (show Calls Tryz.prog 23 #[.string ⟨b.toArray⟩, .string ⟨#[48, 49, 50, 51, 52, 53, 54, 55, 56, 57]⟩, .int .i64 1, .int .i64 9] w fun e w' => e = .returned (.bool true) ∧ Drew w w' from hob ▸ only_any b Byt.digs 1 9 w hbl (by decide))
  obtain ⟨hdg, hb1, hbn⟩ := only_digs hob
  have hP := Dcm.P10_bd (b.length : Int)
  have d1 : decide (1000000000000000 / P10 (b.length : Int) < Q) = false := dec_no (by omega)
  obtain ⟨q, rfl⟩ : ∃ q : Nat, Q = (q : Int) := ⟨Q.toNat, by omega⟩
  rw [Int.toNat_natCast] at *
  have HBD := Lib.hid fun k (hk : k ≤ b.length) => two_bd hdg hbn hf hk
  have HDG := Lib.hid hdg
  clear hob hdg
  have CF := Lib.hid fun w => dflt_yes (Byt.foldD q b : Int) (b.length : Int) w hkd
  clear hkd
  obtain ⟨N, hN⟩ : ∃ N, Byt.foldD q b = N := ⟨_, rfl⟩
  rw [hN] at CF
  have HNN := Lib.hid hN
  clear hN
  subst hB
  clear hng hsp
  go_enter Tryz.func8, Tryz.ntmps8
  go_wp2_with fail
  refine (CS.out _).mono ?_
  rintro e w' ⟨rfl, rfl⟩
  go_wp2_with fail
  refine (CC.out _).mono ?_
  rintro e w1 ⟨vv, rfl, hst, hb⟩
  have W1 := Lib.hid (blw_trans (show Below w.heap.size w _ by repeat (first | exact (Below.refl _ _) | refine blw_drewN ?_ _ | refine Below.setCell ?_ (by first | (simp; done) | omega | (simp; omega)) _ | refine Below.alloc ?_ (by first | (simp; done) | omega | (simp; omega)) _)) hb)
  have n1 := hb.size
  try simp at n1
  have k1_z0 := cell_keep (a := ⟨w.heap.size, 0, none⟩) (v := .int .i64 0) (by first | (go_keep; done) | (simp [go_sem, *]; done)) hb
  have f1_z0 := (hb.frozen (p := ⟨w.heap.size, 0, none⟩) (by first | (simp; done) | omega | (simp; omega))).trans (show _ = false by first | (simp; done) | (simp [go_sem]; done))
  have k1_z1 := cell_keep (a := ⟨w.heap.size, 1, none⟩) (v := .int .i64 0) (by first | (go_keep; done) | (simp [go_sem, *]; done)) hb
  have f1_z1 := (hb.frozen (p := ⟨w.heap.size, 1, none⟩) (by first | (simp; done) | omega | (simp; omega))).trans (show _ = false by first | (simp; done) | (simp [go_sem]; done))
  have l1_z := World.block_lt_of_cell? _ _ k1_z0
  try simp only at l1_z
  clear hb
  obtain ⟨bb, off, cap, rfl, hc1, hc2, hbb⟩ := strs_open2 hst (by simp)
  unfold maxLen at hc2
  have ca := strs_cell hst 0 a rfl
  rw [Nat.add_zero] at ca
  have HS1 := Lib.hid hst
  clear hst
  first | simp only [List.length_cons] at hc1 | skip
  go_wp2_with fail
  refine (CN.out _).mono ?_
  rintro e w2 ⟨rfl, hb⟩
  have W2 := Lib.hid (blw_trans (show Below w.heap.size w _ by repeat (first | exact W1.out | refine blw_drewN ?_ _ | refine Below.setCell ?_ (by first | (simp; done) | omega | (simp; omega)) _ | refine Below.alloc ?_ (by first | (simp; done) | omega | (simp; omega)) _)) hb)
  have n2 := hb.size
  try simp at n2
  have k2_z0 := cell_keep (a := ⟨w.heap.size, 0, none⟩) (v := .int .i64 0) (by first | (go_keep; done) | (simp [go_sem, *]; done)) hb
  have f2_z0 := (hb.frozen (p := ⟨w.heap.size, 0, none⟩) (by first | (simp; done) | omega | (simp; omega))).trans (show _ = false by first | exact f1_z0 | (simp; done) | (simp [go_sem]; done) | (simp [f1_z0]; done) | exact ((blw_alloc _ _).frozen (p := ⟨w.heap.size, 0, none⟩) l1_z).trans f1_z0)
  have k2_z1 := cell_keep (a := ⟨w.heap.size, 1, none⟩) (v := .int .i64 0) (by first | (go_keep; done) | (simp [go_sem, *]; done)) hb
  have f2_z1 := (hb.frozen (p := ⟨w.heap.size, 1, none⟩) (by first | (simp; done) | omega | (simp; omega))).trans (show _ = false by first | exact f1_z1 | (simp; done) | (simp [go_sem]; done) | (simp [f1_z1]; done) | exact ((blw_alloc _ _).frozen (p := ⟨w.heap.size, 1, none⟩) l1_z).trans f1_z1)
  have l2_z := World.block_lt_of_cell? _ _ k2_z0
  try simp only at l2_z
  have H2_L := Lib.hid (StrsAt.below (show StrsAt _ (.slice (some ⟨bb, off, none⟩) ([a, b] : List (List UInt8)).length cap) [a, b] by repeat (first | exact HS1.out | refine StrsAt.alloc ?_ _ | refine StrsAt.drewN ?_ _)) hb)
  clear hb HS1 k1_z0 f1_z0 k1_z1 f1_z1 l1_z ca W1
  have cb := strs_cell H2_L.out 1 b rfl
  have hbb2 : bb < w2.heap.size := World.block_lt_of_cell? _ _ cb
  go_wp2_with fail
  refine (CO.out _).mono ?_
  rintro e w3 ⟨rfl, nq, rfl⟩
  go_wp2_with fail
  refine (ten_any _ _ (by omega) (by omega)).mono ?_
  rintro e w' ⟨rfl, rfl⟩
  go_wp2_with fail
  have HD0 := Lib.hid (show Boxed (((w2.alloc (.cells #[.int .i64 (q : Int), .int .i64 0] 23)).drewN nq).setCell ⟨w2.heap.size, 1, none⟩ (.int .i64 (b.length : Int))) w2.heap.size #[.int .i64 (q : Int), .int .i64 (b.length : Int)] from ((Boxed.made w2 #[.int .i64 (q : Int), .int .i64 0] 23).drewN nq).set 1 (.int .i64 (b.length : Int)) (by simp))
  have HZ0 := Lib.hid (show Boxed (((w2.alloc (.cells #[.int .i64 (q : Int), .int .i64 0] 23)).drewN nq).setCell ⟨w2.heap.size, 1, none⟩ (.int .i64 (b.length : Int))) w.heap.size #[.int .i64 0, .int .i64 0] from ((Boxed.alloc (w := w2) ⟨l2_z, fun j u hu => (by
      match j, hu with
      | 0, hu => simp at hu; subst hu; exact k2_z0
      | 1, hu => simp at hu; subst hu; exact k2_z1), fun j hj => (by
      match j, hj with
      | 0, _ => exact f2_z0
      | 1, _ => exact f2_z1)⟩ _).drewN nq).far (by omega) 1 _)
  have HC0 := Lib.hid (show (((w2.alloc (.cells #[.int .i64 (q : Int), .int .i64 0] 23)).drewN nq).setCell ⟨w2.heap.size, 1, none⟩ (.int .i64 (b.length : Int))).cell? ⟨bb, off + 1, none⟩ = some (.string ⟨b.toArray⟩) by
    rw [World.cell?_setCell_other _ _ _ _ (fun g => by injection g with g; omega)]
    exact cell_keep cb (blw_drewN (blw_alloc w2 _) nq))
  have HW0 := Lib.hid (show Below w.heap.size w (((w2.alloc (.cells #[.int .i64 (q : Int), .int .i64 0] 23)).drewN nq).setCell ⟨w2.heap.size, 1, none⟩ (.int .i64 (b.length : Int))) by repeat (first | with_reducible exact W2.out | refine blw_drewN ?_ _ | refine Below.setCell ?_ (by first | (simp; done) | omega | (simp; omega)) _ | refine Below.alloc ?_ (by first | (simp; done) | omega | (simp; omega)) _))
  clear k2_z0 k2_z1 f2_z0 f2_z1 H2_L cb W2 CN CC CO
  generalize ((w2.alloc (.cells #[.int .i64 (q : Int), .int .i64 0] 23)).drewN nq).setCell ⟨w2.heap.size, 1, none⟩ (.int .i64 (b.length : Int)) = wl at *
  obtain ⟨P, hP7⟩ : ∃ P, P = w2.heap.size := ⟨_, rfl⟩
  rw [← hP7] at HD0 ⊢
  have hPz : w.heap.size < P := by omega
  have hPb : bb < P := by omega
  clear hP7 l2_z hbb2 n1 n2 hbb
  go_loopw [8] (fun v wr => ∃ k : Nat, v = .int .i64 k ∧ k ≤ b.length ∧ Hid (Boxed wr P #[.int .i64 (Byt.foldD q (b.take k) : Int), .int .i64 (b.length : Int)]) ∧ Hid (Boxed wr w.heap.size #[.int .i64 0, .int .i64 0]) ∧ Hid (wr.cell? ⟨bb, off + 1, none⟩ = some (.string ⟨b.toArray⟩)) ∧ Hid (Below w.heap.size w wr)) (fun v _ => b.length - (RowKit.intOf v).toNat)
  case atStart => exact ⟨0, rfl, Nat.zero_le _, HD0, HZ0, HC0, HW0⟩
  case round =>
    obtain ⟨k, rfl, hk, HD, HZ, HC, HW⟩ := hrel
    clear HD0 HZ0 HC0 HW0
    have fbd := HBD.out k hk
    have kd0 := HD.out.cell 0 _ rfl
    have kd1 := HD.out.cell 1 _ rfl
    have fd0 := HD.out.free 0 (by simp)
    have kdl := HD.out.lt
    have kb := HC.out
    have hbw : bb < wr.heap.size := World.block_lt_of_cell? _ _ kb
    by_cases hlt : k < b.length
    · obtain ⟨c, hx⟩ : ∃ c, b[k]? = some c := ⟨b[k], List.getElem?_eq_getElem hlt⟩
      have hcd := HDG.out c (List.mem_of_getElem? hx)
      have IX := fun w => index_str (P := Tryz.prog) 9 Tryz.underlying9 b .i64 k c hx w
      have HN := Lib.hid (fold_step q hx)
      have us := u8_sub (c.toNat : Int) (by omega) (by omega)
      clear hx
      generalize Byt.foldD q (b.take k) = N' at *
      have wm : IntKind.i64.wrap (10 * (N' : Int)) = 10 * (N' : Int) := IntWalk.i64_in _ (by omega)
      have wc : IntKind.i64.wrap ((c.toNat : Int) - 48) = (c.toNat : Int) - 48 := IntWalk.i64_in _ (by omega)
      have wa : IntKind.i64.wrap (10 * (N' : Int) + ((c.toNat : Int) - 48)) = 10 * (N' : Int) + ((c.toNat : Int) - 48) := IntWalk.i64_in _ (by omega)
      go_wp2_with fail
      go_still_tail 12, (by kernel_rfl)
      go_wp2_with fail
      go_roundw
      case rel => exact ⟨k + 1, by go_num, by omega, Lib.hid (by
        rw [HN.out]
        have g := (HD.out.set 0 (.int .i64 (10 * (N' : Int) + ((c.toNat : Int) - 48))) (by simp)).drew
        have e : (10 * (N' : Int) + ((c.toNat : Int) - 48)) = ((10 * N' + (c.toNat - 48) : Nat) : Int) := by omega
        rw [e] at g ⊢
        exact g), Lib.hid (HZ.out.far (by omega) 0 _).drew, Lib.hid (by
        show (wr.setCell _ _).cell? _ = _
        rw [World.cell?_setCell_other _ _ _ _ (fun g => by injection g with g; omega)]
        exact HC.out), Lib.hid (blw_drewN (Below.setCell HW.out (by first | omega | (simp; omega)) _) 1)⟩
      case measure => simp [RowKit.intOf]; omega
    · have ht : b.take k = b := List.take_of_length_le (by omega)
      rw [ht] at HD kd0
      clear ht
      have kz0 := HZ.out.cell 0 _ rfl
      have kz1 := HZ.out.cell 1 _ rfl
      have fz0 := HZ.out.free 0 (by simp)
      have fz1 := HZ.out.free 1 (by simp)
      have l3_z := HZ.out.lt
      have l3_d := kdl
      rw [HNN.out] at kd0
      have fN : N ≤ 1000001000000000 := by have := HBD.out b.length (Nat.le_refl _); rw [List.take_length, HNN.out] at this; exact this
      have ne1 : ¬ w.heap.size = P := by omega
      have me1 : ¬ P = w.heap.size := by omega
      go_wp2_with fail
      refine (CS.out _).mono ?_
      rintro e w' ⟨rfl, rfl⟩
      go_wp2_with fail
      refine (CF.out _).mono ?_
      rintro e w4 ⟨rfl, hb⟩
      have W4 := Lib.hid (blw_trans (show Below w.heap.size w _ by repeat (first | exact HW.out | refine blw_drewN ?_ _ | refine Below.setCell ?_ (by first | (simp; done) | omega | (simp; omega)) _ | refine Below.alloc ?_ (by first | (simp; done) | omega | (simp; omega)) _)) hb)
      have n4 := hb.size
      try simp at n4
      have k4_d0 := cell_keep (a := ⟨P, 0, none⟩) (v := .int .i64 (N : Int)) (by first | (go_keep; done) | (simp [go_sem, *]; done)) hb
      have k4_d1 := cell_keep (a := ⟨P, 1, none⟩) (v := .int .i64 (b.length : Int)) (by first | (go_keep; done) | (simp [go_sem, *]; done)) hb
      have l4_d := World.block_lt_of_cell? _ _ k4_d0
      try simp only at l4_d
      have k4_z0 := cell_keep (a := ⟨w.heap.size, 0, none⟩) (v := .int .i64 0) (by first | (go_keep; done) | (simp [go_sem, *]; done)) hb
      have f4_z0 := (hb.frozen (p := ⟨w.heap.size, 0, none⟩) (by first | (simp; done) | omega | (simp; omega))).trans (show _ = false by first | exact fz0 | (simp; done) | (simp [go_sem]; done) | (simp [fz0]; done) | exact ((blw_alloc _ _).frozen (p := ⟨w.heap.size, 0, none⟩) l3_z).trans fz0)
      have k4_z1 := cell_keep (a := ⟨w.heap.size, 1, none⟩) (v := .int .i64 0) (by first | (go_keep; done) | (simp [go_sem, *]; done)) hb
      have f4_z1 := (hb.frozen (p := ⟨w.heap.size, 1, none⟩) (by first | (simp; done) | omega | (simp; omega))).trans (show _ = false by first | exact fz1 | (simp; done) | (simp [go_sem]; done) | (simp [fz1]; done) | exact ((blw_alloc _ _).frozen (p := ⟨w.heap.size, 1, none⟩) l3_z).trans fz1)
      have l4_z := World.block_lt_of_cell? _ _ k4_z0
      try simp only at l4_z
      clear hb kz0 kz1 kd0 kd1 fz0 fz1 fd0 kb HW
      go_wp2_with fail
      refine bodyPost_ret (v := .tuple #[.agg #[.int .i64 0, .int .i64 0], .bool false]) (by simp [results, Tryz.results8, go_sem, *]) rfl ⟨rfl, ?_⟩
      repeat (first | with_reducible exact W4.out | refine blw_drewN ?_ _ | refine Below.setCell ?_ (by first | (simp; done) | omega | (simp; omega)) _ | refine Below.alloc ?_ (by first | (simp; done) | omega | (simp; omega)) _)

set_option maxRecDepth 100000 in
set_option maxHeartbeats 1000000 in
theorem dof_two_out1 (t B a b : List UInt8) (w : World) (hng : (t.take 1 == [45]) = true) (hB : t.drop 1 = B) (hl1 : 1 ≤ t.length) (hBl : B.length ≤ 4000000000) (hsp : Lib.split B [46] = [a, b]) (hal : a.length ≤ 4000000000) (hq : ¬ Byt.numP a < 0) (_hqb : Byt.numP a ≤ 1000000000000000) (hbl : b.length ≤ 4000000000) (hob : onlyB b Byt.digs 1 9 = true) (hf : Byt.numP a ≤ 1000000000000000 / P10 (b.length : Int)) (hkd : ¬ okD (-(Byt.foldD (Byt.numP a).toNat b : Int)) (b.length : Int))  :
    Calls Tryz.prog 8 #[.string ⟨t.toArray⟩] w fun e w' => e = .returned (.tuple #[.agg #[.int .i64 0, .int .i64 0], .bool false]) ∧ Below w.heap.size w w' := by
  have CS := Lib.hid fun w => (show Calls Tryz.prog 20 #[.string ⟨t.toArray⟩, .string ⟨#[45]⟩] w fun e w' => e = .returned (.bool true) ∧ w' = w from hng ▸ starts_any t [45] w)
  have SLm : ∀ w, (Instr.slice 9 (.string ⟨t.toArray⟩) (some (.int .i64 1)) none none).run Tryz.prog w = .ok (.string ⟨B.toArray⟩) w := fun w => hB ▸ slice_from (P := Tryz.prog) 9 Tryz.underlying9 t .i64 1 hl1 w
  have CC := Lib.hid fun w => (show Calls Tryz.prog 21 #[.string ⟨B.toArray⟩, .string ⟨#[46]⟩] w (GivesStrs w [a, b]) from hsp ▸ cut_any B [46] w (by simp) hBl (by simp))
  have CN := Lib.hid fun w => numof_any a w hal
  generalize Byt.numP a = Q at *
  have d0 : decide (Q < 0) = false := dec_no hq
  have CO := Lib.hid fun w => (show Calls Tryz.prog 23 #[.string ⟨b.toArray⟩, .string ⟨#[48, 49, 50, 51, 52, 53, 54, 55, 56, 57]⟩, .int .i64 1, .int .i64 9] w fun e w' => e = .returned (.bool true) ∧ Drew w w' from hob ▸ only_any b Byt.digs 1 9 w hbl (by decide))
  obtain ⟨hdg, hb1, hbn⟩ := only_digs hob
  have hP := Dcm.P10_bd (b.length : Int)
  have d1 : decide (1000000000000000 / P10 (b.length : Int) < Q) = false := dec_no (by omega)
  obtain ⟨q, rfl⟩ : ∃ q : Nat, Q = (q : Int) := ⟨Q.toNat, by omega⟩
  rw [Int.toNat_natCast] at *
  have HBD := Lib.hid fun k (hk : k ≤ b.length) => two_bd hdg hbn hf hk
  have HDG := Lib.hid hdg
  clear hob hdg
  have CF := Lib.hid fun w => dflt_yes (-(Byt.foldD q b : Int)) (b.length : Int) w hkd
  clear hkd
  obtain ⟨N, hN⟩ : ∃ N, Byt.foldD q b = N := ⟨_, rfl⟩
  rw [hN] at CF
  have HNN := Lib.hid hN
  clear hN
  clear hng hsp hB
  go_enter Tryz.func8, Tryz.ntmps8
  go_wp2_with fail
  refine (CS.out _).mono ?_
  rintro e w' ⟨rfl, rfl⟩
  go_wp2_with fail
  refine (CC.out _).mono ?_
  rintro e w1 ⟨vv, rfl, hst, hb⟩
  have W1 := Lib.hid (blw_trans (show Below w.heap.size w _ by repeat (first | exact (Below.refl _ _) | refine blw_drewN ?_ _ | refine Below.setCell ?_ (by first | (simp; done) | omega | (simp; omega)) _ | refine Below.alloc ?_ (by first | (simp; done) | omega | (simp; omega)) _)) hb)
  have n1 := hb.size
  try simp at n1
  have k1_z0 := cell_keep (a := ⟨w.heap.size, 0, none⟩) (v := .int .i64 0) (by first | (go_keep; done) | (simp [go_sem, *]; done)) hb
  have f1_z0 := (hb.frozen (p := ⟨w.heap.size, 0, none⟩) (by first | (simp; done) | omega | (simp; omega))).trans (show _ = false by first | (simp; done) | (simp [go_sem]; done))
  have k1_z1 := cell_keep (a := ⟨w.heap.size, 1, none⟩) (v := .int .i64 0) (by first | (go_keep; done) | (simp [go_sem, *]; done)) hb
  have f1_z1 := (hb.frozen (p := ⟨w.heap.size, 1, none⟩) (by first | (simp; done) | omega | (simp; omega))).trans (show _ = false by first | (simp; done) | (simp [go_sem]; done))
  have l1_z := World.block_lt_of_cell? _ _ k1_z0
  try simp only at l1_z
  clear hb
  obtain ⟨bb, off, cap, rfl, hc1, hc2, hbb⟩ := strs_open2 hst (by simp)
  unfold maxLen at hc2
  have ca := strs_cell hst 0 a rfl
  rw [Nat.add_zero] at ca
  have HS1 := Lib.hid hst
  clear hst
  first | simp only [List.length_cons] at hc1 | skip
  go_wp2_with fail
  refine (CN.out _).mono ?_
  rintro e w2 ⟨rfl, hb⟩
  have W2 := Lib.hid (blw_trans (show Below w.heap.size w _ by repeat (first | exact W1.out | refine blw_drewN ?_ _ | refine Below.setCell ?_ (by first | (simp; done) | omega | (simp; omega)) _ | refine Below.alloc ?_ (by first | (simp; done) | omega | (simp; omega)) _)) hb)
  have n2 := hb.size
  try simp at n2
  have k2_z0 := cell_keep (a := ⟨w.heap.size, 0, none⟩) (v := .int .i64 0) (by first | (go_keep; done) | (simp [go_sem, *]; done)) hb
  have f2_z0 := (hb.frozen (p := ⟨w.heap.size, 0, none⟩) (by first | (simp; done) | omega | (simp; omega))).trans (show _ = false by first | exact f1_z0 | (simp; done) | (simp [go_sem]; done) | (simp [f1_z0]; done) | exact ((blw_alloc _ _).frozen (p := ⟨w.heap.size, 0, none⟩) l1_z).trans f1_z0)
  have k2_z1 := cell_keep (a := ⟨w.heap.size, 1, none⟩) (v := .int .i64 0) (by first | (go_keep; done) | (simp [go_sem, *]; done)) hb
  have f2_z1 := (hb.frozen (p := ⟨w.heap.size, 1, none⟩) (by first | (simp; done) | omega | (simp; omega))).trans (show _ = false by first | exact f1_z1 | (simp; done) | (simp [go_sem]; done) | (simp [f1_z1]; done) | exact ((blw_alloc _ _).frozen (p := ⟨w.heap.size, 1, none⟩) l1_z).trans f1_z1)
  have l2_z := World.block_lt_of_cell? _ _ k2_z0
  try simp only at l2_z
  have H2_L := Lib.hid (StrsAt.below (show StrsAt _ (.slice (some ⟨bb, off, none⟩) ([a, b] : List (List UInt8)).length cap) [a, b] by repeat (first | exact HS1.out | refine StrsAt.alloc ?_ _ | refine StrsAt.drewN ?_ _)) hb)
  clear hb HS1 k1_z0 f1_z0 k1_z1 f1_z1 l1_z ca W1
  have cb := strs_cell H2_L.out 1 b rfl
  have hbb2 : bb < w2.heap.size := World.block_lt_of_cell? _ _ cb
  go_wp2_with fail
  refine (CO.out _).mono ?_
  rintro e w3 ⟨rfl, nq, rfl⟩
  go_wp2_with fail
  refine (ten_any _ _ (by omega) (by omega)).mono ?_
  rintro e w' ⟨rfl, rfl⟩
  go_wp2_with fail
  have HD0 := Lib.hid (show Boxed (((w2.alloc (.cells #[.int .i64 (q : Int), .int .i64 0] 23)).drewN nq).setCell ⟨w2.heap.size, 1, none⟩ (.int .i64 (b.length : Int))) w2.heap.size #[.int .i64 (q : Int), .int .i64 (b.length : Int)] from ((Boxed.made w2 #[.int .i64 (q : Int), .int .i64 0] 23).drewN nq).set 1 (.int .i64 (b.length : Int)) (by simp))
  have HZ0 := Lib.hid (show Boxed (((w2.alloc (.cells #[.int .i64 (q : Int), .int .i64 0] 23)).drewN nq).setCell ⟨w2.heap.size, 1, none⟩ (.int .i64 (b.length : Int))) w.heap.size #[.int .i64 0, .int .i64 0] from ((Boxed.alloc (w := w2) ⟨l2_z, fun j u hu => (by
      match j, hu with
      | 0, hu => simp at hu; subst hu; exact k2_z0
      | 1, hu => simp at hu; subst hu; exact k2_z1), fun j hj => (by
      match j, hj with
      | 0, _ => exact f2_z0
      | 1, _ => exact f2_z1)⟩ _).drewN nq).far (by omega) 1 _)
  have HC0 := Lib.hid (show (((w2.alloc (.cells #[.int .i64 (q : Int), .int .i64 0] 23)).drewN nq).setCell ⟨w2.heap.size, 1, none⟩ (.int .i64 (b.length : Int))).cell? ⟨bb, off + 1, none⟩ = some (.string ⟨b.toArray⟩) by
    rw [World.cell?_setCell_other _ _ _ _ (fun g => by injection g with g; omega)]
    exact cell_keep cb (blw_drewN (blw_alloc w2 _) nq))
  have HW0 := Lib.hid (show Below w.heap.size w (((w2.alloc (.cells #[.int .i64 (q : Int), .int .i64 0] 23)).drewN nq).setCell ⟨w2.heap.size, 1, none⟩ (.int .i64 (b.length : Int))) by repeat (first | with_reducible exact W2.out | refine blw_drewN ?_ _ | refine Below.setCell ?_ (by first | (simp; done) | omega | (simp; omega)) _ | refine Below.alloc ?_ (by first | (simp; done) | omega | (simp; omega)) _))
  clear k2_z0 k2_z1 f2_z0 f2_z1 H2_L cb W2 CN CC CO
  generalize ((w2.alloc (.cells #[.int .i64 (q : Int), .int .i64 0] 23)).drewN nq).setCell ⟨w2.heap.size, 1, none⟩ (.int .i64 (b.length : Int)) = wl at *
  obtain ⟨P, hP7⟩ : ∃ P, P = w2.heap.size := ⟨_, rfl⟩
  rw [← hP7] at HD0 ⊢
  have hPz : w.heap.size < P := by omega
  have hPb : bb < P := by omega
  clear hP7 l2_z hbb2 n1 n2 hbb
  go_loopw [8] (fun v wr => ∃ k : Nat, v = .int .i64 k ∧ k ≤ b.length ∧ Hid (Boxed wr P #[.int .i64 (Byt.foldD q (b.take k) : Int), .int .i64 (b.length : Int)]) ∧ Hid (Boxed wr w.heap.size #[.int .i64 0, .int .i64 0]) ∧ Hid (wr.cell? ⟨bb, off + 1, none⟩ = some (.string ⟨b.toArray⟩)) ∧ Hid (Below w.heap.size w wr)) (fun v _ => b.length - (RowKit.intOf v).toNat)
  case atStart => exact ⟨0, rfl, Nat.zero_le _, HD0, HZ0, HC0, HW0⟩
  case round =>
    obtain ⟨k, rfl, hk, HD, HZ, HC, HW⟩ := hrel
    clear HD0 HZ0 HC0 HW0
    have fbd := HBD.out k hk
    have kd0 := HD.out.cell 0 _ rfl
    have kd1 := HD.out.cell 1 _ rfl
    have fd0 := HD.out.free 0 (by simp)
    have kdl := HD.out.lt
    have kb := HC.out
    have hbw : bb < wr.heap.size := World.block_lt_of_cell? _ _ kb
    by_cases hlt : k < b.length
    · obtain ⟨c, hx⟩ : ∃ c, b[k]? = some c := ⟨b[k], List.getElem?_eq_getElem hlt⟩
      have hcd := HDG.out c (List.mem_of_getElem? hx)
      have IX := fun w => index_str (P := Tryz.prog) 9 Tryz.underlying9 b .i64 k c hx w
      have HN := Lib.hid (fold_step q hx)
      have us := u8_sub (c.toNat : Int) (by omega) (by omega)
      clear hx
      generalize Byt.foldD q (b.take k) = N' at *
      have wm : IntKind.i64.wrap (10 * (N' : Int)) = 10 * (N' : Int) := IntWalk.i64_in _ (by omega)
      have wc : IntKind.i64.wrap ((c.toNat : Int) - 48) = (c.toNat : Int) - 48 := IntWalk.i64_in _ (by omega)
      have wa : IntKind.i64.wrap (10 * (N' : Int) + ((c.toNat : Int) - 48)) = 10 * (N' : Int) + ((c.toNat : Int) - 48) := IntWalk.i64_in _ (by omega)
      go_wp2_with fail
      go_still_tail 12, (by kernel_rfl)
      go_wp2_with fail
      go_roundw
      case rel => exact ⟨k + 1, by go_num, by omega, Lib.hid (by
        rw [HN.out]
        have g := (HD.out.set 0 (.int .i64 (10 * (N' : Int) + ((c.toNat : Int) - 48))) (by simp)).drew
        have e : (10 * (N' : Int) + ((c.toNat : Int) - 48)) = ((10 * N' + (c.toNat - 48) : Nat) : Int) := by omega
        rw [e] at g ⊢
        exact g), Lib.hid (HZ.out.far (by omega) 0 _).drew, Lib.hid (by
        show (wr.setCell _ _).cell? _ = _
        rw [World.cell?_setCell_other _ _ _ _ (fun g => by injection g with g; omega)]
        exact HC.out), Lib.hid (blw_drewN (Below.setCell HW.out (by first | omega | (simp; omega)) _) 1)⟩
      case measure => simp [RowKit.intOf]; omega
    · have ht : b.take k = b := List.take_of_length_le (by omega)
      rw [ht] at HD kd0
      clear ht
      have kz0 := HZ.out.cell 0 _ rfl
      have kz1 := HZ.out.cell 1 _ rfl
      have fz0 := HZ.out.free 0 (by simp)
      have fz1 := HZ.out.free 1 (by simp)
      have l3_z := HZ.out.lt
      have l3_d := kdl
      rw [HNN.out] at kd0
      have fN : N ≤ 1000001000000000 := by have := HBD.out b.length (Nat.le_refl _); rw [List.take_length, HNN.out] at this; exact this
      have ne1 : ¬ w.heap.size = P := by omega
      have me1 : ¬ P = w.heap.size := by omega
      go_wp2_with fail
      refine (CS.out _).mono ?_
      rintro e w' ⟨rfl, rfl⟩
      go_wp2_with fail
      refine (CF.out _).mono ?_
      rintro e w4 ⟨rfl, hb⟩
      have W4 := Lib.hid (blw_trans (show Below w.heap.size w _ by repeat (first | exact HW.out | refine blw_drewN ?_ _ | refine Below.setCell ?_ (by first | (simp; done) | omega | (simp; omega)) _ | refine Below.alloc ?_ (by first | (simp; done) | omega | (simp; omega)) _)) hb)
      have n4 := hb.size
      try simp at n4
      have k4_d0 := cell_keep (a := ⟨P, 0, none⟩) (v := .int .i64 (-(N : Int))) (by first | (go_keep; done) | (simp [go_sem, *]; done)) hb
      have k4_d1 := cell_keep (a := ⟨P, 1, none⟩) (v := .int .i64 (b.length : Int)) (by first | (go_keep; done) | (simp [go_sem, *]; done)) hb
      have l4_d := World.block_lt_of_cell? _ _ k4_d0
      try simp only at l4_d
      have k4_z0 := cell_keep (a := ⟨w.heap.size, 0, none⟩) (v := .int .i64 0) (by first | (go_keep; done) | (simp [go_sem, *]; done)) hb
      have f4_z0 := (hb.frozen (p := ⟨w.heap.size, 0, none⟩) (by first | (simp; done) | omega | (simp; omega))).trans (show _ = false by first | exact fz0 | (simp; done) | (simp [go_sem]; done) | (simp [fz0]; done) | exact ((blw_alloc _ _).frozen (p := ⟨w.heap.size, 0, none⟩) l3_z).trans fz0)
      have k4_z1 := cell_keep (a := ⟨w.heap.size, 1, none⟩) (v := .int .i64 0) (by first | (go_keep; done) | (simp [go_sem, *]; done)) hb
      have f4_z1 := (hb.frozen (p := ⟨w.heap.size, 1, none⟩) (by first | (simp; done) | omega | (simp; omega))).trans (show _ = false by first | exact fz1 | (simp; done) | (simp [go_sem]; done) | (simp [fz1]; done) | exact ((blw_alloc _ _).frozen (p := ⟨w.heap.size, 1, none⟩) l3_z).trans fz1)
      have l4_z := World.block_lt_of_cell? _ _ k4_z0
      try simp only at l4_z
      clear hb kz0 kz1 kd0 kd1 fz0 fz1 fd0 kb HW
      go_wp2_with fail
      refine bodyPost_ret (v := .tuple #[.agg #[.int .i64 0, .int .i64 0], .bool false]) (by simp [results, Tryz.results8, go_sem, *]) rfl ⟨rfl, ?_⟩
      repeat (first | with_reducible exact W4.out | refine blw_drewN ?_ _ | refine Below.setCell ?_ (by first | (simp; done) | omega | (simp; omega)) _ | refine Below.alloc ?_ (by first | (simp; done) | omega | (simp; omega)) _)
end Go.Proofs.YtdmenoimamnldaaGreatDoor
namespace Go.Proofs.YtdmenoimamnldaaGreatDoor
open Go.RowKit
open Dcm (P10 okD mag)

theorem split_len_le (sub : List UInt8) : ∀ (k : Nat) (s x : List UInt8), x ∈ Lib.splitK sub 0 k s → x.length ≤ s.length := by
  intro k
  induction k with
  | zero => intro s x hx; simp [Lib.splitK] at hx; rw [hx]; omega
  | succ k ih =>
    intro s x hx
    unfold Lib.splitK at hx
    split at hx
    · simp at hx; rw [hx]; omega
    · rcases List.mem_cons.1 hx with rfl | hx
      · simp; omega
      · have := ih _ x hx
        simp at this; omega
theorem split_le {s sub x : List UInt8} (hx : x ∈ Lib.split s sub) : x.length ≤ s.length := split_len_le sub _ s x hx
/-- what linguisterref1.DecOf tells: a number whose text it is, or none -/
def RDPost (t : List UInt8) (w : World) (e : Ending) (w' : World) : Prop :=
  (∃ c s, okD c s ∧ Byt.decText c s = t ∧ e = .returned (.tuple #[.agg #[.int .i64 c, .int .i64 s], .bool true]) ∧ Below w.heap.size w w') ∨
  ((∀ c s, okD c s → Byt.decText c s ≠ t) ∧ e = .returned (.tuple #[.agg #[.int .i64 0, .int .i64 0], .bool false]) ∧ Below w.heap.size w w')
theorem rdpost_no {t : List UInt8} {w : World} (h : ∀ c s, Byt.decOfP t = some (c, s) → ¬ (okD c s ∧ Byt.decText c s = t))
    (g : Calls Tryz.prog 8 #[.string ⟨t.toArray⟩] w fun e w' => e = .returned (.tuple #[.agg #[.int .i64 0, .int .i64 0], .bool false]) ∧ Below w.heap.size w w') :
    Calls Tryz.prog 8 #[.string ⟨t.toArray⟩] w (RDPost t w) :=
  g.mono fun _ _ g => .inr ⟨fun c s hk e => h c s (by rw [← e]; exact Byt.decOf_text c s hk) ⟨hk, e⟩, g.1, g.2⟩
theorem rdpost_yes {t : List UInt8} {w : World} (c s : Int) (hk : okD c s) (he : Byt.decText c s = t)
    (g : Calls Tryz.prog 8 #[.string ⟨t.toArray⟩] w fun e w' => e = .returned (.tuple #[.agg #[.int .i64 c, .int .i64 s], .bool true]) ∧ Below w.heap.size w w') :
    Calls Tryz.prog 8 #[.string ⟨t.toArray⟩] w (RDPost t w) :=
  g.mono fun _ _ g => .inl ⟨c, s, hk, he, g.1, g.2⟩
theorem digs_out {b : List UInt8} : onlyB b Byt.digs 1 9 = true ↔ (b.all fun c => Byt.digs.contains c) = true ∧ 1 ≤ b.length ∧ b.length ≤ 9 := by
  unfold onlyB
  rw [Bool.and_eq_true, Bool.and_eq_true, decide_eq_true_eq, decide_eq_true_eq]
  constructor
  · rintro ⟨h1, h2, h3⟩; exact ⟨h1, by omega, by omega⟩
  · rintro ⟨h1, h2, h3⟩; exact ⟨h1, by omega, by omega⟩
theorem count_le_len (s : List UInt8) : Lib.count s [46] ≤ s.length := by
  rw [Lib.count_one]; exact List.count_le_length
/-- its ways, by the sign -/
theorem rdecof_sign (t B : List UInt8) (ng : Bool) (w : World) (ht : t.length ≤ 4000000000) (hng : (t.take 1 == [45]) = ng) (hbare : Byt.bare t = B) (hB : if ng then t.drop 1 = B else t = B) :
    Calls Tryz.prog 8 #[.string ⟨t.toArray⟩] w (RDPost t w) := by
  have hl1 : ng = true → 1 ≤ t.length := fun h => by
    subst h
    rcases t with _ | ⟨x, r⟩
    · simp at hng
    · simp
  have hBl : B.length ≤ 4000000000 := by
    cases ng
    · rw [← (show t = B from hB)]; exact ht
    · rw [← (show t.drop 1 = B from hB), List.length_drop]; omega
  have hP : Byt.decOfP t = match Lib.split B [46] with
      | [a] => if Byt.numP a < 0 then none else some (if ng then 0 - Byt.numP a else Byt.numP a, 0)
      | [a, b] => if Byt.numP a < 0 then none else if (b.all fun c => Byt.digs.contains c) = true ∧ 1 ≤ b.length ∧ b.length ≤ 9 ∧ Byt.numP a ≤ 1000000000000000 / P10 b.length then some (if ng then 0 - (Byt.foldD (Byt.numP a).toNat b : Int) else (Byt.foldD (Byt.numP a).toNat b : Int), b.length) else none
      | _ => none := by
    unfold Byt.decOfP
    rw [hbare, show Byt.neg t = ng from hng]
    generalize Lib.split B [46] = L
    rcases L with _ | ⟨a, _ | ⟨b, _ | ⟨d, r⟩⟩⟩ <;> rfl
  have hel : ∀ x ∈ Lib.split B [46], x.length ≤ 4000000000 := fun x hx => by have := split_le hx; omega
  rcases hL : Lib.split B [46] with _ | ⟨a, r⟩
  · have := Spl.split_len (sub := [46]) (s := B) (by simp)
    rw [hL] at this
    simp at this
  rw [hL] at hP hel
  have hal := hel a (by simp)
  by_cases hq : Byt.numP a < 0
  · refine rdpost_no (fun c s h => ?_) ?_
    · rw [hP] at h
      exfalso
      rcases r with _ | ⟨b, r⟩
      · simp [hq] at h
      · rcases r with _ | ⟨d, r⟩
        · simp [hq] at h
        · simp at h
    · cases ng
      · exact dof_neg0 r t B a w hng hB trivial hBl hL hal hq
      · exact dof_neg1 r t B a w hng hB (hl1 rfl) hBl hL hal hq
  have hqb := (Byt.numP_bd a).2
  rcases r with _ | ⟨b, r⟩
  · have hP1 : Byt.decOfP t = some (if ng then 0 - Byt.numP a else Byt.numP a, 0) := by rw [hP]; simp [hq]
    cases ng
    · by_cases hx : Byt.decText (Byt.numP a) 0 = t
      · exact rdpost_yes _ _ ⟨by omega, by omega, by omega, by omega⟩ hx (dof_one_ok0 t B a w hng hB trivial hBl hL hal hq hqb _ rfl hx)
      · refine rdpost_no (fun c s h => ?_) (dof_one_ne0 t B a w hng hB trivial hBl hL hal hq hqb _ rfl hx)
        rw [hP1] at h
        obtain ⟨rfl, rfl⟩ := Prod.mk.inj (Option.some.inj h)
        exact fun g => hx g.2
    · rw [if_pos rfl, Int.zero_sub] at hP1
      by_cases hx : Byt.decText (-Byt.numP a) 0 = t
      · exact rdpost_yes _ _ ⟨by omega, by omega, by omega, by omega⟩ hx (dof_one_ok1 t B a w hng hB (hl1 rfl) hBl hL hal hq hqb _ rfl hx)
      · refine rdpost_no (fun c s h => ?_) (dof_one_ne1 t B a w hng hB (hl1 rfl) hBl hL hal hq hqb _ rfl hx)
        rw [hP1] at h
        obtain ⟨rfl, rfl⟩ := Prod.mk.inj (Option.some.inj h)
        exact fun g => hx g.2
  rcases r with _ | ⟨d, r⟩
  · have hbl := hel b (by simp)
    cases hob : onlyB b Byt.digs 1 9
    · refine rdpost_no (fun c s h => ?_) ?_
      · rw [hP] at h
        have : ¬ ((b.all fun c => Byt.digs.contains c) = true ∧ 1 ≤ b.length ∧ b.length ≤ 9) := fun g => by rw [digs_out.2 g] at hob; exact absurd hob (by decide)
        simp only [hq, if_false] at h
        rw [if_neg (fun g => this ⟨g.1, g.2.1, g.2.2.1⟩)] at h
        exact absurd h (by simp)
      · cases ng
        · exact dof_odd0 t B a b w hng hB trivial hBl hL hal hq hqb hbl hob
        · exact dof_odd1 t B a b w hng hB (hl1 rfl) hBl hL hal hq hqb hbl hob
    have hdo := digs_out.1 hob
    by_cases hf : Byt.numP a ≤ 1000000000000000 / P10 b.length
    · have hP1 : Byt.decOfP t = some (if ng then 0 - (Byt.foldD (Byt.numP a).toNat b : Int) else (Byt.foldD (Byt.numP a).toNat b : Int), (b.length : Int)) := by
        rw [hP]; simp only [hq, if_false]; rw [if_pos ⟨hdo.1, hdo.2.1, hdo.2.2, hf⟩]
      cases ng
      · have hP2 : Byt.decOfP t = some ((Byt.foldD (Byt.numP a).toNat b : Int), (b.length : Int)) := hP1
        by_cases hk : okD (Byt.foldD (Byt.numP a).toNat b : Int) (b.length : Int)
        · by_cases hx : Byt.decText (Byt.foldD (Byt.numP a).toNat b : Int) (b.length : Int) = t
          · exact rdpost_yes _ _ hk hx (dof_two_ok0 t B a b w hng hB trivial hBl hL hal hq hqb hbl hob hf hk hx)
          · refine rdpost_no (fun c s h => ?_) (dof_two_ne0 t B a b w hng hB trivial hBl hL hal hq hqb hbl hob hf hk hx)
            rw [hP2] at h
            obtain ⟨rfl, rfl⟩ := Prod.mk.inj (Option.some.inj h)
            exact fun g => hx g.2
        · refine rdpost_no (fun c s h => ?_) (dof_two_out0 t B a b w hng hB trivial hBl hL hal hq hqb hbl hob hf hk)
          rw [hP2] at h
          obtain ⟨rfl, rfl⟩ := Prod.mk.inj (Option.some.inj h)
          exact fun g => hk g.1
      · have hP2 : Byt.decOfP t = some (-(Byt.foldD (Byt.numP a).toNat b : Int), (b.length : Int)) := by rw [hP1, if_pos rfl, Int.zero_sub]
        by_cases hk : okD (-(Byt.foldD (Byt.numP a).toNat b : Int)) (b.length : Int)
        · by_cases hx : Byt.decText (-(Byt.foldD (Byt.numP a).toNat b : Int)) (b.length : Int) = t
          · exact rdpost_yes _ _ hk hx (dof_two_ok1 t B a b w hng hB (hl1 rfl) hBl hL hal hq hqb hbl hob hf hk hx)
          · refine rdpost_no (fun c s h => ?_) (dof_two_ne1 t B a b w hng hB (hl1 rfl) hBl hL hal hq hqb hbl hob hf hk hx)
            rw [hP2] at h
            obtain ⟨rfl, rfl⟩ := Prod.mk.inj (Option.some.inj h)
            exact fun g => hx g.2
        · refine rdpost_no (fun c s h => ?_) (dof_two_out1 t B a b w hng hB (hl1 rfl) hBl hL hal hq hqb hbl hob hf hk)
          rw [hP2] at h
          obtain ⟨rfl, rfl⟩ := Prod.mk.inj (Option.some.inj h)
          exact fun g => hk g.1
    · refine rdpost_no (fun c s h => ?_) ?_
      · rw [hP] at h
        simp only [hq, if_false] at h
        rw [if_neg (fun g => hf g.2.2.2)] at h
        exact absurd h (by simp)
      · cases ng
        · exact dof_far0 t B a b w hng hB trivial hBl hL hal hq hqb hbl hob hdo.2.2 (by omega)
        · exact dof_far1 t B a b w hng hB (hl1 rfl) hBl hL hal hq hqb hbl hob hdo.2.2 (by omega)
  · refine rdpost_no (fun c s h => ?_) ?_
    · rw [hP] at h
      exact absurd h (by simp)
    · have hr : r.length ≤ 4000000000 := by
        have := Spl.split_len (sub := [46]) (s := B) (by simp)
        rw [hL] at this
        simp only [List.length_cons] at this
        have := count_le_len B
        omega
      cases ng
      · exact dof_many0 b d r t B a w hng hB trivial hBl hL hal hq hr
      · exact dof_many1 b d r t B a w hng hB (hl1 rfl) hBl hL hal hq hr
theorem rdecof_any (t : List UInt8) (w : World) (ht : t.length ≤ 4000000000) : Calls Tryz.prog 8 #[.string ⟨t.toArray⟩] w (RDPost t w) := by
  cases h : (t.take 1 == [45])
  · exact rdecof_sign t _ false w ht h (by unfold Byt.bare; rw [if_neg (beq_eq_false_iff_ne.1 h)]) rfl
  · exact rdecof_sign t _ true w ht h (by unfold Byt.bare; rw [if_pos (by simpa using h)]) rfl
end Go.Proofs.YtdmenoimamnldaaGreatDoor
