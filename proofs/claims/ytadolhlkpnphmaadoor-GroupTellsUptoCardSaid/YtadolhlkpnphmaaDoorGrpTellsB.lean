/- The walk of the law GroupTells where sizes and sign are right. -/
import Derived.Test.YtadolhlkpnphmaaDoorGrpTake
import Derived.Test.YtadolhlkpnphmaaDoorGrpTellsA
namespace Go.Proofs.YtadolhlkpnphmaaDoor
open Go.RowKit

set_option maxRecDepth 100000 in
set_option maxHeartbeats 2000000 in
theorem groupTells_l0yy (d s : List UInt8) (g g2 : Int) (c : UInt8) (w : World) (hT : MH w) (hd : d.length ≤ 100000000) (hs : s.length ≤ 100000000) (n : (c.toNat : Int) < 48) (r1 : ¬ g < 0) (r2 : ¬ 4 < g) (r3 : ¬ g2 < 0) (r4 : ¬ 4 < g2)
    (hq : digB d = true) (hb : digB (without c s) = true) (ho : gout (without c s) g g2 c = s)
    (CP : Hid (∀ w : World, Calls Tryd.prog 38 #[.string ⟨d.toArray⟩, .int .i64 g, .int .i64 g2, .int .u8 (c.toNat : Int)] w fun e w' => e = .returned (.tuple #[.string ⟨(gout d g g2 c).toArray⟩, .nilIface]) ∧ Below w.heap.size w w'))
    (CT : Hid (∀ w : World, MaxW w → Calls Tryd.prog 41 #[.string ⟨s.toArray⟩, .int .i64 g, .int .i64 g2, .int .u8 (c.toNat : Int)] w fun e w' => e = .returned (.tuple #[.string ⟨(without c s).toArray⟩, .nilIface]) ∧ Below w.heap.size w w')) :
    Calls Tryd.prog 13 #[.string ⟨d.toArray⟩, .string ⟨s.toArray⟩, .int .i64 g, .int .i64 g2, .int .u8 (c.toNat : Int)] w fun e w' => e = .returned (.bool true) ∧ Below w.heap.size w w' := by
  have d1 : decide (48 ≤ (c.toNat : Int)) = false := dec_no (by omega)
  have d3 : decide (g < 0) = false := dec_no (by omega)
  have d4 : decide (4 < g) = false := dec_no (by omega)
  have d5 : decide (g2 < 0) = false := dec_no (by omega)
  have d6 : decide (4 < g2) = false := dec_no (by omega)
  have C0 := Lib.hid fun w => grouped_any w
  have CV := fun w => conv_by c w
  have E0 := Lib.hid fun w (hT : MH w) => sameErr_yes ErrNo.nil w hT.h
  have E1 := Lib.hid fun w (hT : MH w) => sameErr_yes (ErrNo.no 1) w hT.h
  have E3 := Lib.hid fun w (hT : MH w) => sameErr_yes (ErrNo.no 3) w hT.h
  have CO := Lib.hid fun w => only_any d NUM 1 (d.length : Int) w (by omega) (by simp)
  rw [only_dig, hq] at CO
  have hwl := without_len c s
  have gl := gout_len d g g2 c
  have gl2 := gout_len (without c s) g g2 c
  have CG := Lib.hid fun w => rgrouped_any d g g2 c w (by omega) ⟨by omega, by omega, by omega, by omega⟩
  have CB := Lib.hid fun w => only_any (without c s) NUM 1 ((without c s).length : Int) w (by omega) (by simp)
  rw [only_dig, hb] at CB
  have CH := Lib.hid fun w => rgrouped_any (without c s) g g2 c w (by omega) ⟨by omega, by omega, by omega, by omega⟩
  rw [ho] at CH
  have HWT := Lib.hid fun k x hx => without_take c s k x hx
  have HL : Hid (without c (s.take s.length) = without c s) := Lib.hid (by rw [List.take_length])
  clear hq hb ho
  generalize gout d g g2 c = GA at *
  go_enter Tryd.func13, Tryd.ntmps13
  go_wp2_with fail
  refine (C0.out _).mono ?_
  rintro e w1 ⟨rfl, hb⟩
  have W1 := Lib.hid (blw_trans (show Below w.heap.size w _ by repeat (first | exact (Below.refl _ _) | refine blw_drewN ?_ _ | refine Below.setCell ?_ (by first | (simp; done) | omega | (simp; omega)) _ | refine Below.alloc ?_ (by first | (simp; done) | omega | (simp; omega)) _)) hb)
  have n1 := hb.size
  try simp at n1
  clear hb
  go_wp2_with fail
  refine (CO.out _).mono ?_
  rintro e w2 ⟨rfl, hD⟩
  have W2 := Lib.hid (blw_trans (show Below w.heap.size w _ by repeat (first | exact W1.out | refine blw_drewN ?_ _ | refine Below.alloc ?_ (by first | (simp; done) | omega | (simp; omega)) _)) hD.below)
  clear hD W1
  
  go_wp2_with fail
  refine (CG.out _).mono ?_
  rintro e w3 ⟨rfl, hD⟩
  have W3 := Lib.hid (blw_trans (show Below w.heap.size w _ by repeat (first | exact W2.out | refine blw_drewN ?_ _ | refine Below.alloc ?_ (by first | (simp; done) | omega | (simp; omega)) _)) hD.below)
  clear hD W2
  
  go_wp2_with fail
  clear CV
  go_loopw [16, 17] (fun b i wr => ∃ k : Nat, i = .int .i64 k ∧ k ≤ s.length ∧ b = .string ⟨(without c (s.take k)).toArray⟩ ∧ Hid (Below w.heap.size w wr)) (fun _ i _ => s.length - (RowKit.intOf i).toNat)
  case atStart => exact ⟨0, rfl, Nat.zero_le _, rfl, by first | exact W3 | exact Lib.hid (by repeat (first | exact W3.out | refine blw_drewN ?_ _ | refine Below.alloc ?_ (by first | (simp; done) | omega | (simp; omega)) _))⟩
  case round =>
    obtain ⟨k, rfl, hk, rfl, HB⟩ := hrel
    clear W3
    by_cases hlt : k < s.length
    · obtain ⟨x, hx⟩ : ∃ x, s[k]? = some x := ⟨s[k], List.getElem?_eq_getElem hlt⟩
      have IX := fun w => index_str (P := Tryd.prog) 9 Tryd.underlying9 s .i64 k x hx w
      have HW := Lib.hid (HWT.out k x hx)
      have hsd : (s.drop k).take (k + 1 - k) = [x] := by
        rw [show k + 1 - k = 1 by omega, List.drop_eq_getElem_cons hlt]
        have := (List.getElem?_eq_some_iff.1 hx).2
        simp [this]
      have SM : ∀ w, (Instr.slice 9 (.string ⟨s.toArray⟩) (some (.int .i64 (k : Int))) (some (.int .i64 ((k : Int) + 1))) none).run Tryd.prog w = .ok (.string ⟨[x].toArray⟩) w := fun w => by
        have q := slice_mid (P := Tryd.prog) 9 Tryd.underlying9 s .i64 .i64 k (k + 1) (by omega) (by omega) w
        rw [hsd] at q
        exact q
      have hl := without_len c (s.take k)
      have hl2 : (s.take k).length ≤ s.length := by rw [List.length_take]; omega
      have AD := fun w => add_str (P := Tryd.prog) (without c (s.take k)) [x] (by simp; omega) w
      clear hsd hx
      have bq := byte_eq (a := x) (b := c)
      by_cases e : x = c
      · have e1 : ((x.toNat : Int) == (c.toNat : Int)) = true := by rw [bq]; simp [e]
        have e2 : ((x.toNat : Int) != (c.toNat : Int)) = false := by rw [bne, e1]; rfl
        have HV := Lib.hid (show without c (s.take (k + 1)) = without c (s.take k) by rw [HW.out, if_pos e]; simp)
        clear HW e bq AD
        generalize without c (s.take k) = T at *
        go_wp2_with fail
        go_roundw
        case rel => exact ⟨k + 1, by go_num, by omega, by rw [HV.out], HB⟩
        case measure => simp [RowKit.intOf]; omega
      · have e1 : ((x.toNat : Int) == (c.toNat : Int)) = false := by rw [bq]; simpa using e
        have e2 : ((x.toNat : Int) != (c.toNat : Int)) = true := by rw [bne, e1]; rfl
        have HV := Lib.hid (show without c (s.take (k + 1)) = without c (s.take k) ++ [x] by rw [HW.out, if_neg e])
        clear HW e bq
        generalize without c (s.take k) = T at *
        go_wp2_with fail
        go_roundw
        case rel => exact ⟨k + 1, by go_num, by omega, by rw [HV.out], HB⟩
        case measure => simp [RowKit.intOf]; omega
    · obtain rfl : k = s.length := by omega
      rw [HL.out]
      clear HWT HL hlt hk
      generalize without c s = D at *
      go_wp2_with fail
      refine (CB.out _).mono ?_
      rintro e w11 ⟨rfl, hD⟩
      have W11 := Lib.hid (blw_trans (show Below w.heap.size w _ by repeat (first | exact HB.out | refine blw_drewN ?_ _ | refine Below.alloc ?_ (by first | (simp; done) | omega | (simp; omega)) _)) hD.below)
      clear hD HB
      
      go_wp2_with fail
      refine (CH.out _).mono ?_
      rintro e w12 ⟨rfl, hD⟩
      have W12 := Lib.hid (blw_trans (show Below w.heap.size w _ by repeat (first | exact W11.out | refine blw_drewN ?_ _ | refine Below.alloc ?_ (by first | (simp; done) | omega | (simp; omega)) _)) hD.below)
      clear hD W11
      
      go_wp2_with fail
      refine (CP.out _).mono ?_
      rintro e w13 ⟨rfl, hb⟩
      have W13 := Lib.hid (blw_trans (show Below w.heap.size w _ by repeat (first | exact W12.out | refine blw_drewN ?_ _ | refine Below.setCell ?_ (by first | (simp; done) | omega | (simp; omega)) _ | refine Below.alloc ?_ (by first | (simp; done) | omega | (simp; omega)) _)) hb)
      have n13 := hb.size
      try simp at n13
      clear hb W12
      go_wp2_with fail
      refine (E0.out _ (hT.below (by repeat (first | exact W13.out | refine blw_drewN ?_ _ | refine Below.setCell ?_ (by first | (simp; done) | omega | (simp; omega)) _ | refine Below.alloc ?_ (by first | (simp; done) | omega | (simp; omega)) _)))).mono ?_
      rintro e w14 ⟨rfl, hb⟩
      have W14 := Lib.hid (blw_trans (show Below w.heap.size w _ by repeat (first | exact W13.out | refine blw_drewN ?_ _ | refine Below.setCell ?_ (by first | (simp; done) | omega | (simp; omega)) _ | refine Below.alloc ?_ (by first | (simp; done) | omega | (simp; omega)) _)) hb)
      have n14 := hb.size
      try simp at n14
      clear hb W13
      go_wp2_with fail
      refine (CT.out _ (hT.below (by repeat (first | exact W14.out | refine blw_drewN ?_ _ | refine Below.setCell ?_ (by first | (simp; done) | omega | (simp; omega)) _ | refine Below.alloc ?_ (by first | (simp; done) | omega | (simp; omega)) _))).m).mono ?_
      rintro e w15 ⟨rfl, hb⟩
      have W15 := Lib.hid (blw_trans (show Below w.heap.size w _ by repeat (first | exact W14.out | refine blw_drewN ?_ _ | refine Below.setCell ?_ (by first | (simp; done) | omega | (simp; omega)) _ | refine Below.alloc ?_ (by first | (simp; done) | omega | (simp; omega)) _)) hb)
      have n15 := hb.size
      try simp at n15
      clear hb W14
      go_wp2_with fail
      refine (E0.out _ (hT.below (by repeat (first | exact W15.out | refine blw_drewN ?_ _ | refine Below.setCell ?_ (by first | (simp; done) | omega | (simp; omega)) _ | refine Below.alloc ?_ (by first | (simp; done) | omega | (simp; omega)) _)))).mono ?_
      rintro e w16 ⟨rfl, hb⟩
      have W16 := Lib.hid (blw_trans (show Below w.heap.size w _ by repeat (first | exact W15.out | refine blw_drewN ?_ _ | refine Below.setCell ?_ (by first | (simp; done) | omega | (simp; omega)) _ | refine Below.alloc ?_ (by first | (simp; done) | omega | (simp; omega)) _)) hb)
      have n16 := hb.size
      try simp at n16
      clear hb W15
      go_wp2
      go_ret
      exact ⟨ret_bool (by simp), by repeat (first | exact W16.out | refine blw_drewN ?_ _ | refine Below.setCell ?_ (by first | (simp; done) | omega | (simp; omega)) _ | refine Below.alloc ?_ (by first | (simp; done) | omega | (simp; omega)) _)⟩

set_option maxRecDepth 100000 in
set_option maxHeartbeats 2000000 in
theorem groupTells_l0ya (d s : List UInt8) (g g2 : Int) (c : UInt8) (w : World) (hT : MH w) (hd : d.length ≤ 100000000) (hs : s.length ≤ 100000000) (n : (c.toNat : Int) < 48) (r1 : ¬ g < 0) (r2 : ¬ 4 < g) (r3 : ¬ g2 < 0) (r4 : ¬ 4 < g2)
    (hq : digB d = true) (hb : digB (without c s) = false)
    (CP : Hid (∀ w : World, Calls Tryd.prog 38 #[.string ⟨d.toArray⟩, .int .i64 g, .int .i64 g2, .int .u8 (c.toNat : Int)] w fun e w' => e = .returned (.tuple #[.string ⟨(gout d g g2 c).toArray⟩, .nilIface]) ∧ Below w.heap.size w w'))
    (CT : Hid (∀ w : World, MaxW w → Calls Tryd.prog 41 #[.string ⟨s.toArray⟩, .int .i64 g, .int .i64 g2, .int .u8 (c.toNat : Int)] w fun e w' => e = .returned (.tuple #[.string ⟨#[]⟩, errV 3]) ∧ Below w.heap.size w w')) :
    Calls Tryd.prog 13 #[.string ⟨d.toArray⟩, .string ⟨s.toArray⟩, .int .i64 g, .int .i64 g2, .int .u8 (c.toNat : Int)] w fun e w' => e = .returned (.bool true) ∧ Below w.heap.size w w' := by
  have d1 : decide (48 ≤ (c.toNat : Int)) = false := dec_no (by omega)
  have d3 : decide (g < 0) = false := dec_no (by omega)
  have d4 : decide (4 < g) = false := dec_no (by omega)
  have d5 : decide (g2 < 0) = false := dec_no (by omega)
  have d6 : decide (4 < g2) = false := dec_no (by omega)
  have C0 := Lib.hid fun w => grouped_any w
  have CV := fun w => conv_by c w
  have E0 := Lib.hid fun w (hT : MH w) => sameErr_yes ErrNo.nil w hT.h
  have E1 := Lib.hid fun w (hT : MH w) => sameErr_yes (ErrNo.no 1) w hT.h
  have E3 := Lib.hid fun w (hT : MH w) => sameErr_yes (ErrNo.no 3) w hT.h
  have CO := Lib.hid fun w => only_any d NUM 1 (d.length : Int) w (by omega) (by simp)
  rw [only_dig, hq] at CO
  have hwl := without_len c s
  have gl := gout_len d g g2 c
  have gl2 := gout_len (without c s) g g2 c
  have CG := Lib.hid fun w => rgrouped_any d g g2 c w (by omega) ⟨by omega, by omega, by omega, by omega⟩
  have CB := Lib.hid fun w => only_any (without c s) NUM 1 ((without c s).length : Int) w (by omega) (by simp)
  rw [only_dig, hb] at CB
  have HWT := Lib.hid fun k x hx => without_take c s k x hx
  have HL : Hid (without c (s.take s.length) = without c s) := Lib.hid (by rw [List.take_length])
  clear hq hb 
  generalize gout d g g2 c = GA at *
  go_enter Tryd.func13, Tryd.ntmps13
  go_wp2_with fail
  refine (C0.out _).mono ?_
  rintro e w1 ⟨rfl, hb⟩
  have W1 := Lib.hid (blw_trans (show Below w.heap.size w _ by repeat (first | exact (Below.refl _ _) | refine blw_drewN ?_ _ | refine Below.setCell ?_ (by first | (simp; done) | omega | (simp; omega)) _ | refine Below.alloc ?_ (by first | (simp; done) | omega | (simp; omega)) _)) hb)
  have n1 := hb.size
  try simp at n1
  clear hb
  go_wp2_with fail
  refine (CO.out _).mono ?_
  rintro e w2 ⟨rfl, hD⟩
  have W2 := Lib.hid (blw_trans (show Below w.heap.size w _ by repeat (first | exact W1.out | refine blw_drewN ?_ _ | refine Below.alloc ?_ (by first | (simp; done) | omega | (simp; omega)) _)) hD.below)
  clear hD W1
  
  go_wp2_with fail
  refine (CG.out _).mono ?_
  rintro e w3 ⟨rfl, hD⟩
  have W3 := Lib.hid (blw_trans (show Below w.heap.size w _ by repeat (first | exact W2.out | refine blw_drewN ?_ _ | refine Below.alloc ?_ (by first | (simp; done) | omega | (simp; omega)) _)) hD.below)
  clear hD W2
  
  go_wp2_with fail
  clear CV
  go_loopw [16, 17] (fun b i wr => ∃ k : Nat, i = .int .i64 k ∧ k ≤ s.length ∧ b = .string ⟨(without c (s.take k)).toArray⟩ ∧ Hid (Below w.heap.size w wr)) (fun _ i _ => s.length - (RowKit.intOf i).toNat)
  case atStart => exact ⟨0, rfl, Nat.zero_le _, rfl, by first | exact W3 | exact Lib.hid (by repeat (first | exact W3.out | refine blw_drewN ?_ _ | refine Below.alloc ?_ (by first | (simp; done) | omega | (simp; omega)) _))⟩
  case round =>
    obtain ⟨k, rfl, hk, rfl, HB⟩ := hrel
    clear W3
    by_cases hlt : k < s.length
    · obtain ⟨x, hx⟩ : ∃ x, s[k]? = some x := ⟨s[k], List.getElem?_eq_getElem hlt⟩
      have IX := fun w => index_str (P := Tryd.prog) 9 Tryd.underlying9 s .i64 k x hx w
      have HW := Lib.hid (HWT.out k x hx)
      have hsd : (s.drop k).take (k + 1 - k) = [x] := by
        rw [show k + 1 - k = 1 by omega, List.drop_eq_getElem_cons hlt]
        have := (List.getElem?_eq_some_iff.1 hx).2
        simp [this]
      have SM : ∀ w, (Instr.slice 9 (.string ⟨s.toArray⟩) (some (.int .i64 (k : Int))) (some (.int .i64 ((k : Int) + 1))) none).run Tryd.prog w = .ok (.string ⟨[x].toArray⟩) w := fun w => by
        have q := slice_mid (P := Tryd.prog) 9 Tryd.underlying9 s .i64 .i64 k (k + 1) (by omega) (by omega) w
        rw [hsd] at q
        exact q
      have hl := without_len c (s.take k)
      have hl2 : (s.take k).length ≤ s.length := by rw [List.length_take]; omega
      have AD := fun w => add_str (P := Tryd.prog) (without c (s.take k)) [x] (by simp; omega) w
      clear hsd hx
      have bq := byte_eq (a := x) (b := c)
      by_cases e : x = c
      · have e1 : ((x.toNat : Int) == (c.toNat : Int)) = true := by rw [bq]; simp [e]
        have e2 : ((x.toNat : Int) != (c.toNat : Int)) = false := by rw [bne, e1]; rfl
        have HV := Lib.hid (show without c (s.take (k + 1)) = without c (s.take k) by rw [HW.out, if_pos e]; simp)
        clear HW e bq AD
        generalize without c (s.take k) = T at *
        go_wp2_with fail
        go_roundw
        case rel => exact ⟨k + 1, by go_num, by omega, by rw [HV.out], HB⟩
        case measure => simp [RowKit.intOf]; omega
      · have e1 : ((x.toNat : Int) == (c.toNat : Int)) = false := by rw [bq]; simpa using e
        have e2 : ((x.toNat : Int) != (c.toNat : Int)) = true := by rw [bne, e1]; rfl
        have HV := Lib.hid (show without c (s.take (k + 1)) = without c (s.take k) ++ [x] by rw [HW.out, if_neg e])
        clear HW e bq
        generalize without c (s.take k) = T at *
        go_wp2_with fail
        go_roundw
        case rel => exact ⟨k + 1, by go_num, by omega, by rw [HV.out], HB⟩
        case measure => simp [RowKit.intOf]; omega
    · obtain rfl : k = s.length := by omega
      rw [HL.out]
      clear HWT HL hlt hk
      generalize without c s = D at *
      go_wp2_with fail
      refine (CB.out _).mono ?_
      rintro e w11 ⟨rfl, hD⟩
      have W11 := Lib.hid (blw_trans (show Below w.heap.size w _ by repeat (first | exact HB.out | refine blw_drewN ?_ _ | refine Below.alloc ?_ (by first | (simp; done) | omega | (simp; omega)) _)) hD.below)
      clear hD HB
      
      go_wp2_with fail
      refine (CP.out _).mono ?_
      rintro e w12 ⟨rfl, hb⟩
      have W12 := Lib.hid (blw_trans (show Below w.heap.size w _ by repeat (first | exact W11.out | refine blw_drewN ?_ _ | refine Below.setCell ?_ (by first | (simp; done) | omega | (simp; omega)) _ | refine Below.alloc ?_ (by first | (simp; done) | omega | (simp; omega)) _)) hb)
      have n12 := hb.size
      try simp at n12
      clear hb W11
      go_wp2_with fail
      refine (E0.out _ (hT.below (by repeat (first | exact W12.out | refine blw_drewN ?_ _ | refine Below.setCell ?_ (by first | (simp; done) | omega | (simp; omega)) _ | refine Below.alloc ?_ (by first | (simp; done) | omega | (simp; omega)) _)))).mono ?_
      rintro e w13 ⟨rfl, hb⟩
      have W13 := Lib.hid (blw_trans (show Below w.heap.size w _ by repeat (first | exact W12.out | refine blw_drewN ?_ _ | refine Below.setCell ?_ (by first | (simp; done) | omega | (simp; omega)) _ | refine Below.alloc ?_ (by first | (simp; done) | omega | (simp; omega)) _)) hb)
      have n13 := hb.size
      try simp at n13
      clear hb W12
      go_wp2_with fail
      refine (CT.out _ (hT.below (by repeat (first | exact W13.out | refine blw_drewN ?_ _ | refine Below.setCell ?_ (by first | (simp; done) | omega | (simp; omega)) _ | refine Below.alloc ?_ (by first | (simp; done) | omega | (simp; omega)) _))).m).mono ?_
      rintro e w14 ⟨rfl, hb⟩
      have W14 := Lib.hid (blw_trans (show Below w.heap.size w _ by repeat (first | exact W13.out | refine blw_drewN ?_ _ | refine Below.setCell ?_ (by first | (simp; done) | omega | (simp; omega)) _ | refine Below.alloc ?_ (by first | (simp; done) | omega | (simp; omega)) _)) hb)
      have n14 := hb.size
      try simp at n14
      clear hb W13
      go_wp2_with fail
      refine (E3.out _ (hT.below (by repeat (first | exact W14.out | refine blw_drewN ?_ _ | refine Below.setCell ?_ (by first | (simp; done) | omega | (simp; omega)) _ | refine Below.alloc ?_ (by first | (simp; done) | omega | (simp; omega)) _)))).mono ?_
      rintro e w15 ⟨rfl, hb⟩
      have W15 := Lib.hid (blw_trans (show Below w.heap.size w _ by repeat (first | exact W14.out | refine blw_drewN ?_ _ | refine Below.setCell ?_ (by first | (simp; done) | omega | (simp; omega)) _ | refine Below.alloc ?_ (by first | (simp; done) | omega | (simp; omega)) _)) hb)
      have n15 := hb.size
      try simp at n15
      clear hb W14
      go_wp2
      go_ret
      exact ⟨ret_bool (by simp), by repeat (first | exact W15.out | refine blw_drewN ?_ _ | refine Below.setCell ?_ (by first | (simp; done) | omega | (simp; omega)) _ | refine Below.alloc ?_ (by first | (simp; done) | omega | (simp; omega)) _)⟩

set_option maxRecDepth 100000 in
set_option maxHeartbeats 2000000 in
theorem groupTells_l0yb (d s : List UInt8) (g g2 : Int) (c : UInt8) (w : World) (hT : MH w) (hd : d.length ≤ 100000000) (hs : s.length ≤ 100000000) (n : (c.toNat : Int) < 48) (r1 : ¬ g < 0) (r2 : ¬ 4 < g) (r3 : ¬ g2 < 0) (r4 : ¬ 4 < g2)
    (hq : digB d = true) (hb : digB (without c s) = true) (ho : gout (without c s) g g2 c ≠ s)
    (CP : Hid (∀ w : World, Calls Tryd.prog 38 #[.string ⟨d.toArray⟩, .int .i64 g, .int .i64 g2, .int .u8 (c.toNat : Int)] w fun e w' => e = .returned (.tuple #[.string ⟨(gout d g g2 c).toArray⟩, .nilIface]) ∧ Below w.heap.size w w'))
    (CT : Hid (∀ w : World, MaxW w → Calls Tryd.prog 41 #[.string ⟨s.toArray⟩, .int .i64 g, .int .i64 g2, .int .u8 (c.toNat : Int)] w fun e w' => e = .returned (.tuple #[.string ⟨#[]⟩, errV 3]) ∧ Below w.heap.size w w')) :
    Calls Tryd.prog 13 #[.string ⟨d.toArray⟩, .string ⟨s.toArray⟩, .int .i64 g, .int .i64 g2, .int .u8 (c.toNat : Int)] w fun e w' => e = .returned (.bool true) ∧ Below w.heap.size w w' := by
  have d1 : decide (48 ≤ (c.toNat : Int)) = false := dec_no (by omega)
  have d3 : decide (g < 0) = false := dec_no (by omega)
  have d4 : decide (4 < g) = false := dec_no (by omega)
  have d5 : decide (g2 < 0) = false := dec_no (by omega)
  have d6 : decide (4 < g2) = false := dec_no (by omega)
  have C0 := Lib.hid fun w => grouped_any w
  have CV := fun w => conv_by c w
  have E0 := Lib.hid fun w (hT : MH w) => sameErr_yes ErrNo.nil w hT.h
  have E1 := Lib.hid fun w (hT : MH w) => sameErr_yes (ErrNo.no 1) w hT.h
  have E3 := Lib.hid fun w (hT : MH w) => sameErr_yes (ErrNo.no 3) w hT.h
  have CO := Lib.hid fun w => only_any d NUM 1 (d.length : Int) w (by omega) (by simp)
  rw [only_dig, hq] at CO
  have hwl := without_len c s
  have gl := gout_len d g g2 c
  have gl2 := gout_len (without c s) g g2 c
  have CG := Lib.hid fun w => rgrouped_any d g g2 c w (by omega) ⟨by omega, by omega, by omega, by omega⟩
  have CB := Lib.hid fun w => only_any (without c s) NUM 1 ((without c s).length : Int) w (by omega) (by simp)
  rw [only_dig, hb] at CB
  have CH := Lib.hid fun w => rgrouped_any (without c s) g g2 c w (by omega) ⟨by omega, by omega, by omega, by omega⟩
  have q1 : (gout (without c s) g g2 c == s) = false := beq_eq_false_iff_ne.2 ho
  have q2 : (gout (without c s) g g2 c != s) = true := by rw [bne, q1]; rfl
  have HWT := Lib.hid fun k x hx => without_take c s k x hx
  have HL : Hid (without c (s.take s.length) = without c s) := Lib.hid (by rw [List.take_length])
  clear hq hb ho
  generalize gout (without c s) g g2 c = GB at *
  generalize gout d g g2 c = GA at *
  go_enter Tryd.func13, Tryd.ntmps13
  go_wp2_with fail
  refine (C0.out _).mono ?_
  rintro e w1 ⟨rfl, hb⟩
  have W1 := Lib.hid (blw_trans (show Below w.heap.size w _ by repeat (first | exact (Below.refl _ _) | refine blw_drewN ?_ _ | refine Below.setCell ?_ (by first | (simp; done) | omega | (simp; omega)) _ | refine Below.alloc ?_ (by first | (simp; done) | omega | (simp; omega)) _)) hb)
  have n1 := hb.size
  try simp at n1
  clear hb
  go_wp2_with fail
  refine (CO.out _).mono ?_
  rintro e w2 ⟨rfl, hD⟩
  have W2 := Lib.hid (blw_trans (show Below w.heap.size w _ by repeat (first | exact W1.out | refine blw_drewN ?_ _ | refine Below.alloc ?_ (by first | (simp; done) | omega | (simp; omega)) _)) hD.below)
  clear hD W1
  
  go_wp2_with fail
  refine (CG.out _).mono ?_
  rintro e w3 ⟨rfl, hD⟩
  have W3 := Lib.hid (blw_trans (show Below w.heap.size w _ by repeat (first | exact W2.out | refine blw_drewN ?_ _ | refine Below.alloc ?_ (by first | (simp; done) | omega | (simp; omega)) _)) hD.below)
  clear hD W2
  
  go_wp2_with fail
  clear CV
  go_loopw [16, 17] (fun b i wr => ∃ k : Nat, i = .int .i64 k ∧ k ≤ s.length ∧ b = .string ⟨(without c (s.take k)).toArray⟩ ∧ Hid (Below w.heap.size w wr)) (fun _ i _ => s.length - (RowKit.intOf i).toNat)
  case atStart => exact ⟨0, rfl, Nat.zero_le _, rfl, by first | exact W3 | exact Lib.hid (by repeat (first | exact W3.out | refine blw_drewN ?_ _ | refine Below.alloc ?_ (by first | (simp; done) | omega | (simp; omega)) _))⟩
  case round =>
    obtain ⟨k, rfl, hk, rfl, HB⟩ := hrel
    clear W3
    by_cases hlt : k < s.length
    · obtain ⟨x, hx⟩ : ∃ x, s[k]? = some x := ⟨s[k], List.getElem?_eq_getElem hlt⟩
      have IX := fun w => index_str (P := Tryd.prog) 9 Tryd.underlying9 s .i64 k x hx w
      have HW := Lib.hid (HWT.out k x hx)
      have hsd : (s.drop k).take (k + 1 - k) = [x] := by
        rw [show k + 1 - k = 1 by omega, List.drop_eq_getElem_cons hlt]
        have := (List.getElem?_eq_some_iff.1 hx).2
        simp [this]
      have SM : ∀ w, (Instr.slice 9 (.string ⟨s.toArray⟩) (some (.int .i64 (k : Int))) (some (.int .i64 ((k : Int) + 1))) none).run Tryd.prog w = .ok (.string ⟨[x].toArray⟩) w := fun w => by
        have q := slice_mid (P := Tryd.prog) 9 Tryd.underlying9 s .i64 .i64 k (k + 1) (by omega) (by omega) w
        rw [hsd] at q
        exact q
      have hl := without_len c (s.take k)
      have hl2 : (s.take k).length ≤ s.length := by rw [List.length_take]; omega
      have AD := fun w => add_str (P := Tryd.prog) (without c (s.take k)) [x] (by simp; omega) w
      clear hsd hx
      have bq := byte_eq (a := x) (b := c)
      by_cases e : x = c
      · have e1 : ((x.toNat : Int) == (c.toNat : Int)) = true := by rw [bq]; simp [e]
        have e2 : ((x.toNat : Int) != (c.toNat : Int)) = false := by rw [bne, e1]; rfl
        have HV := Lib.hid (show without c (s.take (k + 1)) = without c (s.take k) by rw [HW.out, if_pos e]; simp)
        clear HW e bq AD
        generalize without c (s.take k) = T at *
        go_wp2_with fail
        go_roundw
        case rel => exact ⟨k + 1, by go_num, by omega, by rw [HV.out], HB⟩
        case measure => simp [RowKit.intOf]; omega
      · have e1 : ((x.toNat : Int) == (c.toNat : Int)) = false := by rw [bq]; simpa using e
        have e2 : ((x.toNat : Int) != (c.toNat : Int)) = true := by rw [bne, e1]; rfl
        have HV := Lib.hid (show without c (s.take (k + 1)) = without c (s.take k) ++ [x] by rw [HW.out, if_neg e])
        clear HW e bq
        generalize without c (s.take k) = T at *
        go_wp2_with fail
        go_roundw
        case rel => exact ⟨k + 1, by go_num, by omega, by rw [HV.out], HB⟩
        case measure => simp [RowKit.intOf]; omega
    · obtain rfl : k = s.length := by omega
      rw [HL.out]
      clear HWT HL hlt hk
      generalize without c s = D at *
      go_wp2_with fail
      refine (CB.out _).mono ?_
      rintro e w11 ⟨rfl, hD⟩
      have W11 := Lib.hid (blw_trans (show Below w.heap.size w _ by repeat (first | exact HB.out | refine blw_drewN ?_ _ | refine Below.alloc ?_ (by first | (simp; done) | omega | (simp; omega)) _)) hD.below)
      clear hD HB
      
      go_wp2_with fail
      refine (CH.out _).mono ?_
      rintro e w12 ⟨rfl, hD⟩
      have W12 := Lib.hid (blw_trans (show Below w.heap.size w _ by repeat (first | exact W11.out | refine blw_drewN ?_ _ | refine Below.alloc ?_ (by first | (simp; done) | omega | (simp; omega)) _)) hD.below)
      clear hD W11
      
      go_wp2_with fail
      refine (CP.out _).mono ?_
      rintro e w13 ⟨rfl, hb⟩
      have W13 := Lib.hid (blw_trans (show Below w.heap.size w _ by repeat (first | exact W12.out | refine blw_drewN ?_ _ | refine Below.setCell ?_ (by first | (simp; done) | omega | (simp; omega)) _ | refine Below.alloc ?_ (by first | (simp; done) | omega | (simp; omega)) _)) hb)
      have n13 := hb.size
      try simp at n13
      clear hb W12
      go_wp2_with fail
      refine (E0.out _ (hT.below (by repeat (first | exact W13.out | refine blw_drewN ?_ _ | refine Below.setCell ?_ (by first | (simp; done) | omega | (simp; omega)) _ | refine Below.alloc ?_ (by first | (simp; done) | omega | (simp; omega)) _)))).mono ?_
      rintro e w14 ⟨rfl, hb⟩
      have W14 := Lib.hid (blw_trans (show Below w.heap.size w _ by repeat (first | exact W13.out | refine blw_drewN ?_ _ | refine Below.setCell ?_ (by first | (simp; done) | omega | (simp; omega)) _ | refine Below.alloc ?_ (by first | (simp; done) | omega | (simp; omega)) _)) hb)
      have n14 := hb.size
      try simp at n14
      clear hb W13
      go_wp2_with fail
      refine (CT.out _ (hT.below (by repeat (first | exact W14.out | refine blw_drewN ?_ _ | refine Below.setCell ?_ (by first | (simp; done) | omega | (simp; omega)) _ | refine Below.alloc ?_ (by first | (simp; done) | omega | (simp; omega)) _))).m).mono ?_
      rintro e w15 ⟨rfl, hb⟩
      have W15 := Lib.hid (blw_trans (show Below w.heap.size w _ by repeat (first | exact W14.out | refine blw_drewN ?_ _ | refine Below.setCell ?_ (by first | (simp; done) | omega | (simp; omega)) _ | refine Below.alloc ?_ (by first | (simp; done) | omega | (simp; omega)) _)) hb)
      have n15 := hb.size
      try simp at n15
      clear hb W14
      go_wp2_with fail
      refine (E3.out _ (hT.below (by repeat (first | exact W15.out | refine blw_drewN ?_ _ | refine Below.setCell ?_ (by first | (simp; done) | omega | (simp; omega)) _ | refine Below.alloc ?_ (by first | (simp; done) | omega | (simp; omega)) _)))).mono ?_
      rintro e w16 ⟨rfl, hb⟩
      have W16 := Lib.hid (blw_trans (show Below w.heap.size w _ by repeat (first | exact W15.out | refine blw_drewN ?_ _ | refine Below.setCell ?_ (by first | (simp; done) | omega | (simp; omega)) _ | refine Below.alloc ?_ (by first | (simp; done) | omega | (simp; omega)) _)) hb)
      have n16 := hb.size
      try simp at n16
      clear hb W15
      go_wp2
      go_ret
      exact ⟨ret_bool (by simp), by repeat (first | exact W16.out | refine blw_drewN ?_ _ | refine Below.setCell ?_ (by first | (simp; done) | omega | (simp; omega)) _ | refine Below.alloc ?_ (by first | (simp; done) | omega | (simp; omega)) _)⟩

set_option maxRecDepth 100000 in
set_option maxHeartbeats 2000000 in
theorem groupTells_h0yy (d s : List UInt8) (g g2 : Int) (c : UInt8) (w : World) (hT : MH w) (hd : d.length ≤ 100000000) (hs : s.length ≤ 100000000) (n : 57 < (c.toNat : Int)) (r1 : ¬ g < 0) (r2 : ¬ 4 < g) (r3 : ¬ g2 < 0) (r4 : ¬ 4 < g2)
    (hq : digB d = true) (hb : digB (without c s) = true) (ho : gout (without c s) g g2 c = s)
    (CP : Hid (∀ w : World, Calls Tryd.prog 38 #[.string ⟨d.toArray⟩, .int .i64 g, .int .i64 g2, .int .u8 (c.toNat : Int)] w fun e w' => e = .returned (.tuple #[.string ⟨(gout d g g2 c).toArray⟩, .nilIface]) ∧ Below w.heap.size w w'))
    (CT : Hid (∀ w : World, MaxW w → Calls Tryd.prog 41 #[.string ⟨s.toArray⟩, .int .i64 g, .int .i64 g2, .int .u8 (c.toNat : Int)] w fun e w' => e = .returned (.tuple #[.string ⟨(without c s).toArray⟩, .nilIface]) ∧ Below w.heap.size w w')) :
    Calls Tryd.prog 13 #[.string ⟨d.toArray⟩, .string ⟨s.toArray⟩, .int .i64 g, .int .i64 g2, .int .u8 (c.toNat : Int)] w fun e w' => e = .returned (.bool true) ∧ Below w.heap.size w w' := by
  have d1 : decide (48 ≤ (c.toNat : Int)) = true := dec_yes (by omega)
  have d2 : decide ((c.toNat : Int) ≤ 57) = false := dec_no (by omega)
  have d3 : decide (g < 0) = false := dec_no (by omega)
  have d4 : decide (4 < g) = false := dec_no (by omega)
  have d5 : decide (g2 < 0) = false := dec_no (by omega)
  have d6 : decide (4 < g2) = false := dec_no (by omega)
  have C0 := Lib.hid fun w => grouped_any w
  have CV := fun w => conv_by c w
  have E0 := Lib.hid fun w (hT : MH w) => sameErr_yes ErrNo.nil w hT.h
  have E1 := Lib.hid fun w (hT : MH w) => sameErr_yes (ErrNo.no 1) w hT.h
  have E3 := Lib.hid fun w (hT : MH w) => sameErr_yes (ErrNo.no 3) w hT.h
  have CO := Lib.hid fun w => only_any d NUM 1 (d.length : Int) w (by omega) (by simp)
  rw [only_dig, hq] at CO
  have hwl := without_len c s
  have gl := gout_len d g g2 c
  have gl2 := gout_len (without c s) g g2 c
  have CG := Lib.hid fun w => rgrouped_any d g g2 c w (by omega) ⟨by omega, by omega, by omega, by omega⟩
  have CB := Lib.hid fun w => only_any (without c s) NUM 1 ((without c s).length : Int) w (by omega) (by simp)
  rw [only_dig, hb] at CB
  have CH := Lib.hid fun w => rgrouped_any (without c s) g g2 c w (by omega) ⟨by omega, by omega, by omega, by omega⟩
  rw [ho] at CH
  have HWT := Lib.hid fun k x hx => without_take c s k x hx
  have HL : Hid (without c (s.take s.length) = without c s) := Lib.hid (by rw [List.take_length])
  clear hq hb ho
  generalize gout d g g2 c = GA at *
  go_enter Tryd.func13, Tryd.ntmps13
  go_wp2_with fail
  refine (C0.out _).mono ?_
  rintro e w1 ⟨rfl, hb⟩
  have W1 := Lib.hid (blw_trans (show Below w.heap.size w _ by repeat (first | exact (Below.refl _ _) | refine blw_drewN ?_ _ | refine Below.setCell ?_ (by first | (simp; done) | omega | (simp; omega)) _ | refine Below.alloc ?_ (by first | (simp; done) | omega | (simp; omega)) _)) hb)
  have n1 := hb.size
  try simp at n1
  clear hb
  go_wp2_with fail
  refine (CO.out _).mono ?_
  rintro e w2 ⟨rfl, hD⟩
  have W2 := Lib.hid (blw_trans (show Below w.heap.size w _ by repeat (first | exact W1.out | refine blw_drewN ?_ _ | refine Below.alloc ?_ (by first | (simp; done) | omega | (simp; omega)) _)) hD.below)
  clear hD W1
  
  go_wp2_with fail
  refine (CG.out _).mono ?_
  rintro e w3 ⟨rfl, hD⟩
  have W3 := Lib.hid (blw_trans (show Below w.heap.size w _ by repeat (first | exact W2.out | refine blw_drewN ?_ _ | refine Below.alloc ?_ (by first | (simp; done) | omega | (simp; omega)) _)) hD.below)
  clear hD W2
  
  go_wp2_with fail
  clear CV
  go_loopw [16, 17] (fun b i wr => ∃ k : Nat, i = .int .i64 k ∧ k ≤ s.length ∧ b = .string ⟨(without c (s.take k)).toArray⟩ ∧ Hid (Below w.heap.size w wr)) (fun _ i _ => s.length - (RowKit.intOf i).toNat)
  case atStart => exact ⟨0, rfl, Nat.zero_le _, rfl, by first | exact W3 | exact Lib.hid (by repeat (first | exact W3.out | refine blw_drewN ?_ _ | refine Below.alloc ?_ (by first | (simp; done) | omega | (simp; omega)) _))⟩
  case round =>
    obtain ⟨k, rfl, hk, rfl, HB⟩ := hrel
    clear W3
    by_cases hlt : k < s.length
    · obtain ⟨x, hx⟩ : ∃ x, s[k]? = some x := ⟨s[k], List.getElem?_eq_getElem hlt⟩
      have IX := fun w => index_str (P := Tryd.prog) 9 Tryd.underlying9 s .i64 k x hx w
      have HW := Lib.hid (HWT.out k x hx)
      have hsd : (s.drop k).take (k + 1 - k) = [x] := by
        rw [show k + 1 - k = 1 by omega, List.drop_eq_getElem_cons hlt]
        have := (List.getElem?_eq_some_iff.1 hx).2
        simp [this]
      have SM : ∀ w, (Instr.slice 9 (.string ⟨s.toArray⟩) (some (.int .i64 (k : Int))) (some (.int .i64 ((k : Int) + 1))) none).run Tryd.prog w = .ok (.string ⟨[x].toArray⟩) w := fun w => by
        have q := slice_mid (P := Tryd.prog) 9 Tryd.underlying9 s .i64 .i64 k (k + 1) (by omega) (by omega) w
        rw [hsd] at q
        exact q
      have hl := without_len c (s.take k)
      have hl2 : (s.take k).length ≤ s.length := by rw [List.length_take]; omega
      have AD := fun w => add_str (P := Tryd.prog) (without c (s.take k)) [x] (by simp; omega) w
      clear hsd hx
      have bq := byte_eq (a := x) (b := c)
      by_cases e : x = c
      · have e1 : ((x.toNat : Int) == (c.toNat : Int)) = true := by rw [bq]; simp [e]
        have e2 : ((x.toNat : Int) != (c.toNat : Int)) = false := by rw [bne, e1]; rfl
        have HV := Lib.hid (show without c (s.take (k + 1)) = without c (s.take k) by rw [HW.out, if_pos e]; simp)
        clear HW e bq AD
        generalize without c (s.take k) = T at *
        go_wp2_with fail
        go_roundw
        case rel => exact ⟨k + 1, by go_num, by omega, by rw [HV.out], HB⟩
        case measure => simp [RowKit.intOf]; omega
      · have e1 : ((x.toNat : Int) == (c.toNat : Int)) = false := by rw [bq]; simpa using e
        have e2 : ((x.toNat : Int) != (c.toNat : Int)) = true := by rw [bne, e1]; rfl
        have HV := Lib.hid (show without c (s.take (k + 1)) = without c (s.take k) ++ [x] by rw [HW.out, if_neg e])
        clear HW e bq
        generalize without c (s.take k) = T at *
        go_wp2_with fail
        go_roundw
        case rel => exact ⟨k + 1, by go_num, by omega, by rw [HV.out], HB⟩
        case measure => simp [RowKit.intOf]; omega
    · obtain rfl : k = s.length := by omega
      rw [HL.out]
      clear HWT HL hlt hk
      generalize without c s = D at *
      go_wp2_with fail
      refine (CB.out _).mono ?_
      rintro e w11 ⟨rfl, hD⟩
      have W11 := Lib.hid (blw_trans (show Below w.heap.size w _ by repeat (first | exact HB.out | refine blw_drewN ?_ _ | refine Below.alloc ?_ (by first | (simp; done) | omega | (simp; omega)) _)) hD.below)
      clear hD HB
      
      go_wp2_with fail
      refine (CH.out _).mono ?_
      rintro e w12 ⟨rfl, hD⟩
      have W12 := Lib.hid (blw_trans (show Below w.heap.size w _ by repeat (first | exact W11.out | refine blw_drewN ?_ _ | refine Below.alloc ?_ (by first | (simp; done) | omega | (simp; omega)) _)) hD.below)
      clear hD W11
      
      go_wp2_with fail
      refine (CP.out _).mono ?_
      rintro e w13 ⟨rfl, hb⟩
      have W13 := Lib.hid (blw_trans (show Below w.heap.size w _ by repeat (first | exact W12.out | refine blw_drewN ?_ _ | refine Below.setCell ?_ (by first | (simp; done) | omega | (simp; omega)) _ | refine Below.alloc ?_ (by first | (simp; done) | omega | (simp; omega)) _)) hb)
      have n13 := hb.size
      try simp at n13
      clear hb W12
      go_wp2_with fail
      refine (E0.out _ (hT.below (by repeat (first | exact W13.out | refine blw_drewN ?_ _ | refine Below.setCell ?_ (by first | (simp; done) | omega | (simp; omega)) _ | refine Below.alloc ?_ (by first | (simp; done) | omega | (simp; omega)) _)))).mono ?_
      rintro e w14 ⟨rfl, hb⟩
      have W14 := Lib.hid (blw_trans (show Below w.heap.size w _ by repeat (first | exact W13.out | refine blw_drewN ?_ _ | refine Below.setCell ?_ (by first | (simp; done) | omega | (simp; omega)) _ | refine Below.alloc ?_ (by first | (simp; done) | omega | (simp; omega)) _)) hb)
      have n14 := hb.size
      try simp at n14
      clear hb W13
      go_wp2_with fail
      refine (CT.out _ (hT.below (by repeat (first | exact W14.out | refine blw_drewN ?_ _ | refine Below.setCell ?_ (by first | (simp; done) | omega | (simp; omega)) _ | refine Below.alloc ?_ (by first | (simp; done) | omega | (simp; omega)) _))).m).mono ?_
      rintro e w15 ⟨rfl, hb⟩
      have W15 := Lib.hid (blw_trans (show Below w.heap.size w _ by repeat (first | exact W14.out | refine blw_drewN ?_ _ | refine Below.setCell ?_ (by first | (simp; done) | omega | (simp; omega)) _ | refine Below.alloc ?_ (by first | (simp; done) | omega | (simp; omega)) _)) hb)
      have n15 := hb.size
      try simp at n15
      clear hb W14
      go_wp2_with fail
      refine (E0.out _ (hT.below (by repeat (first | exact W15.out | refine blw_drewN ?_ _ | refine Below.setCell ?_ (by first | (simp; done) | omega | (simp; omega)) _ | refine Below.alloc ?_ (by first | (simp; done) | omega | (simp; omega)) _)))).mono ?_
      rintro e w16 ⟨rfl, hb⟩
      have W16 := Lib.hid (blw_trans (show Below w.heap.size w _ by repeat (first | exact W15.out | refine blw_drewN ?_ _ | refine Below.setCell ?_ (by first | (simp; done) | omega | (simp; omega)) _ | refine Below.alloc ?_ (by first | (simp; done) | omega | (simp; omega)) _)) hb)
      have n16 := hb.size
      try simp at n16
      clear hb W15
      go_wp2
      go_ret
      exact ⟨ret_bool (by simp), by repeat (first | exact W16.out | refine blw_drewN ?_ _ | refine Below.setCell ?_ (by first | (simp; done) | omega | (simp; omega)) _ | refine Below.alloc ?_ (by first | (simp; done) | omega | (simp; omega)) _)⟩

set_option maxRecDepth 100000 in
set_option maxHeartbeats 2000000 in
theorem groupTells_h0ya (d s : List UInt8) (g g2 : Int) (c : UInt8) (w : World) (hT : MH w) (hd : d.length ≤ 100000000) (hs : s.length ≤ 100000000) (n : 57 < (c.toNat : Int)) (r1 : ¬ g < 0) (r2 : ¬ 4 < g) (r3 : ¬ g2 < 0) (r4 : ¬ 4 < g2)
    (hq : digB d = true) (hb : digB (without c s) = false)
    (CP : Hid (∀ w : World, Calls Tryd.prog 38 #[.string ⟨d.toArray⟩, .int .i64 g, .int .i64 g2, .int .u8 (c.toNat : Int)] w fun e w' => e = .returned (.tuple #[.string ⟨(gout d g g2 c).toArray⟩, .nilIface]) ∧ Below w.heap.size w w'))
    (CT : Hid (∀ w : World, MaxW w → Calls Tryd.prog 41 #[.string ⟨s.toArray⟩, .int .i64 g, .int .i64 g2, .int .u8 (c.toNat : Int)] w fun e w' => e = .returned (.tuple #[.string ⟨#[]⟩, errV 3]) ∧ Below w.heap.size w w')) :
    Calls Tryd.prog 13 #[.string ⟨d.toArray⟩, .string ⟨s.toArray⟩, .int .i64 g, .int .i64 g2, .int .u8 (c.toNat : Int)] w fun e w' => e = .returned (.bool true) ∧ Below w.heap.size w w' := by
  have d1 : decide (48 ≤ (c.toNat : Int)) = true := dec_yes (by omega)
  have d2 : decide ((c.toNat : Int) ≤ 57) = false := dec_no (by omega)
  have d3 : decide (g < 0) = false := dec_no (by omega)
  have d4 : decide (4 < g) = false := dec_no (by omega)
  have d5 : decide (g2 < 0) = false := dec_no (by omega)
  have d6 : decide (4 < g2) = false := dec_no (by omega)
  have C0 := Lib.hid fun w => grouped_any w
  have CV := fun w => conv_by c w
  have E0 := Lib.hid fun w (hT : MH w) => sameErr_yes ErrNo.nil w hT.h
  have E1 := Lib.hid fun w (hT : MH w) => sameErr_yes (ErrNo.no 1) w hT.h
  have E3 := Lib.hid fun w (hT : MH w) => sameErr_yes (ErrNo.no 3) w hT.h
  have CO := Lib.hid fun w => only_any d NUM 1 (d.length : Int) w (by omega) (by simp)
  rw [only_dig, hq] at CO
  have hwl := without_len c s
  have gl := gout_len d g g2 c
  have gl2 := gout_len (without c s) g g2 c
  have CG := Lib.hid fun w => rgrouped_any d g g2 c w (by omega) ⟨by omega, by omega, by omega, by omega⟩
  have CB := Lib.hid fun w => only_any (without c s) NUM 1 ((without c s).length : Int) w (by omega) (by simp)
  rw [only_dig, hb] at CB
  have HWT := Lib.hid fun k x hx => without_take c s k x hx
  have HL : Hid (without c (s.take s.length) = without c s) := Lib.hid (by rw [List.take_length])
  clear hq hb 
  generalize gout d g g2 c = GA at *
  go_enter Tryd.func13, Tryd.ntmps13
  go_wp2_with fail
  refine (C0.out _).mono ?_
  rintro e w1 ⟨rfl, hb⟩
  have W1 := Lib.hid (blw_trans (show Below w.heap.size w _ by repeat (first | exact (Below.refl _ _) | refine blw_drewN ?_ _ | refine Below.setCell ?_ (by first | (simp; done) | omega | (simp; omega)) _ | refine Below.alloc ?_ (by first | (simp; done) | omega | (simp; omega)) _)) hb)
  have n1 := hb.size
  try simp at n1
  clear hb
  go_wp2_with fail
  refine (CO.out _).mono ?_
  rintro e w2 ⟨rfl, hD⟩
  have W2 := Lib.hid (blw_trans (show Below w.heap.size w _ by repeat (first | exact W1.out | refine blw_drewN ?_ _ | refine Below.alloc ?_ (by first | (simp; done) | omega | (simp; omega)) _)) hD.below)
  clear hD W1
  
  go_wp2_with fail
  refine (CG.out _).mono ?_
  rintro e w3 ⟨rfl, hD⟩
  have W3 := Lib.hid (blw_trans (show Below w.heap.size w _ by repeat (first | exact W2.out | refine blw_drewN ?_ _ | refine Below.alloc ?_ (by first | (simp; done) | omega | (simp; omega)) _)) hD.below)
  clear hD W2
  
  go_wp2_with fail
  clear CV
  go_loopw [16, 17] (fun b i wr => ∃ k : Nat, i = .int .i64 k ∧ k ≤ s.length ∧ b = .string ⟨(without c (s.take k)).toArray⟩ ∧ Hid (Below w.heap.size w wr)) (fun _ i _ => s.length - (RowKit.intOf i).toNat)
  case atStart => exact ⟨0, rfl, Nat.zero_le _, rfl, by first | exact W3 | exact Lib.hid (by repeat (first | exact W3.out | refine blw_drewN ?_ _ | refine Below.alloc ?_ (by first | (simp; done) | omega | (simp; omega)) _))⟩
  case round =>
    obtain ⟨k, rfl, hk, rfl, HB⟩ := hrel
    clear W3
    by_cases hlt : k < s.length
    · obtain ⟨x, hx⟩ : ∃ x, s[k]? = some x := ⟨s[k], List.getElem?_eq_getElem hlt⟩
      have IX := fun w => index_str (P := Tryd.prog) 9 Tryd.underlying9 s .i64 k x hx w
      have HW := Lib.hid (HWT.out k x hx)
      have hsd : (s.drop k).take (k + 1 - k) = [x] := by
        rw [show k + 1 - k = 1 by omega, List.drop_eq_getElem_cons hlt]
        have := (List.getElem?_eq_some_iff.1 hx).2
        simp [this]
      have SM : ∀ w, (Instr.slice 9 (.string ⟨s.toArray⟩) (some (.int .i64 (k : Int))) (some (.int .i64 ((k : Int) + 1))) none).run Tryd.prog w = .ok (.string ⟨[x].toArray⟩) w := fun w => by
        have q := slice_mid (P := Tryd.prog) 9 Tryd.underlying9 s .i64 .i64 k (k + 1) (by omega) (by omega) w
        rw [hsd] at q
        exact q
      have hl := without_len c (s.take k)
      have hl2 : (s.take k).length ≤ s.length := by rw [List.length_take]; omega
      have AD := fun w => add_str (P := Tryd.prog) (without c (s.take k)) [x] (by simp; omega) w
      clear hsd hx
      have bq := byte_eq (a := x) (b := c)
      by_cases e : x = c
      · have e1 : ((x.toNat : Int) == (c.toNat : Int)) = true := by rw [bq]; simp [e]
        have e2 : ((x.toNat : Int) != (c.toNat : Int)) = false := by rw [bne, e1]; rfl
        have HV := Lib.hid (show without c (s.take (k + 1)) = without c (s.take k) by rw [HW.out, if_pos e]; simp)
        clear HW e bq AD
        generalize without c (s.take k) = T at *
        go_wp2_with fail
        go_roundw
        case rel => exact ⟨k + 1, by go_num, by omega, by rw [HV.out], HB⟩
        case measure => simp [RowKit.intOf]; omega
      · have e1 : ((x.toNat : Int) == (c.toNat : Int)) = false := by rw [bq]; simpa using e
        have e2 : ((x.toNat : Int) != (c.toNat : Int)) = true := by rw [bne, e1]; rfl
        have HV := Lib.hid (show without c (s.take (k + 1)) = without c (s.take k) ++ [x] by rw [HW.out, if_neg e])
        clear HW e bq
        generalize without c (s.take k) = T at *
        go_wp2_with fail
        go_roundw
        case rel => exact ⟨k + 1, by go_num, by omega, by rw [HV.out], HB⟩
        case measure => simp [RowKit.intOf]; omega
    · obtain rfl : k = s.length := by omega
      rw [HL.out]
      clear HWT HL hlt hk
      generalize without c s = D at *
      go_wp2_with fail
      refine (CB.out _).mono ?_
      rintro e w11 ⟨rfl, hD⟩
      have W11 := Lib.hid (blw_trans (show Below w.heap.size w _ by repeat (first | exact HB.out | refine blw_drewN ?_ _ | refine Below.alloc ?_ (by first | (simp; done) | omega | (simp; omega)) _)) hD.below)
      clear hD HB
      
      go_wp2_with fail
      refine (CP.out _).mono ?_
      rintro e w12 ⟨rfl, hb⟩
      have W12 := Lib.hid (blw_trans (show Below w.heap.size w _ by repeat (first | exact W11.out | refine blw_drewN ?_ _ | refine Below.setCell ?_ (by first | (simp; done) | omega | (simp; omega)) _ | refine Below.alloc ?_ (by first | (simp; done) | omega | (simp; omega)) _)) hb)
      have n12 := hb.size
      try simp at n12
      clear hb W11
      go_wp2_with fail
      refine (E0.out _ (hT.below (by repeat (first | exact W12.out | refine blw_drewN ?_ _ | refine Below.setCell ?_ (by first | (simp; done) | omega | (simp; omega)) _ | refine Below.alloc ?_ (by first | (simp; done) | omega | (simp; omega)) _)))).mono ?_
      rintro e w13 ⟨rfl, hb⟩
      have W13 := Lib.hid (blw_trans (show Below w.heap.size w _ by repeat (first | exact W12.out | refine blw_drewN ?_ _ | refine Below.setCell ?_ (by first | (simp; done) | omega | (simp; omega)) _ | refine Below.alloc ?_ (by first | (simp; done) | omega | (simp; omega)) _)) hb)
      have n13 := hb.size
      try simp at n13
      clear hb W12
      go_wp2_with fail
      refine (CT.out _ (hT.below (by repeat (first | exact W13.out | refine blw_drewN ?_ _ | refine Below.setCell ?_ (by first | (simp; done) | omega | (simp; omega)) _ | refine Below.alloc ?_ (by first | (simp; done) | omega | (simp; omega)) _))).m).mono ?_
      rintro e w14 ⟨rfl, hb⟩
      have W14 := Lib.hid (blw_trans (show Below w.heap.size w _ by repeat (first | exact W13.out | refine blw_drewN ?_ _ | refine Below.setCell ?_ (by first | (simp; done) | omega | (simp; omega)) _ | refine Below.alloc ?_ (by first | (simp; done) | omega | (simp; omega)) _)) hb)
      have n14 := hb.size
      try simp at n14
      clear hb W13
      go_wp2_with fail
      refine (E3.out _ (hT.below (by repeat (first | exact W14.out | refine blw_drewN ?_ _ | refine Below.setCell ?_ (by first | (simp; done) | omega | (simp; omega)) _ | refine Below.alloc ?_ (by first | (simp; done) | omega | (simp; omega)) _)))).mono ?_
      rintro e w15 ⟨rfl, hb⟩
      have W15 := Lib.hid (blw_trans (show Below w.heap.size w _ by repeat (first | exact W14.out | refine blw_drewN ?_ _ | refine Below.setCell ?_ (by first | (simp; done) | omega | (simp; omega)) _ | refine Below.alloc ?_ (by first | (simp; done) | omega | (simp; omega)) _)) hb)
      have n15 := hb.size
      try simp at n15
      clear hb W14
      go_wp2
      go_ret
      exact ⟨ret_bool (by simp), by repeat (first | exact W15.out | refine blw_drewN ?_ _ | refine Below.setCell ?_ (by first | (simp; done) | omega | (simp; omega)) _ | refine Below.alloc ?_ (by first | (simp; done) | omega | (simp; omega)) _)⟩

set_option maxRecDepth 100000 in
set_option maxHeartbeats 2000000 in
theorem groupTells_h0yb (d s : List UInt8) (g g2 : Int) (c : UInt8) (w : World) (hT : MH w) (hd : d.length ≤ 100000000) (hs : s.length ≤ 100000000) (n : 57 < (c.toNat : Int)) (r1 : ¬ g < 0) (r2 : ¬ 4 < g) (r3 : ¬ g2 < 0) (r4 : ¬ 4 < g2)
    (hq : digB d = true) (hb : digB (without c s) = true) (ho : gout (without c s) g g2 c ≠ s)
    (CP : Hid (∀ w : World, Calls Tryd.prog 38 #[.string ⟨d.toArray⟩, .int .i64 g, .int .i64 g2, .int .u8 (c.toNat : Int)] w fun e w' => e = .returned (.tuple #[.string ⟨(gout d g g2 c).toArray⟩, .nilIface]) ∧ Below w.heap.size w w'))
    (CT : Hid (∀ w : World, MaxW w → Calls Tryd.prog 41 #[.string ⟨s.toArray⟩, .int .i64 g, .int .i64 g2, .int .u8 (c.toNat : Int)] w fun e w' => e = .returned (.tuple #[.string ⟨#[]⟩, errV 3]) ∧ Below w.heap.size w w')) :
    Calls Tryd.prog 13 #[.string ⟨d.toArray⟩, .string ⟨s.toArray⟩, .int .i64 g, .int .i64 g2, .int .u8 (c.toNat : Int)] w fun e w' => e = .returned (.bool true) ∧ Below w.heap.size w w' := by
  have d1 : decide (48 ≤ (c.toNat : Int)) = true := dec_yes (by omega)
  have d2 : decide ((c.toNat : Int) ≤ 57) = false := dec_no (by omega)
  have d3 : decide (g < 0) = false := dec_no (by omega)
  have d4 : decide (4 < g) = false := dec_no (by omega)
  have d5 : decide (g2 < 0) = false := dec_no (by omega)
  have d6 : decide (4 < g2) = false := dec_no (by omega)
  have C0 := Lib.hid fun w => grouped_any w
  have CV := fun w => conv_by c w
  have E0 := Lib.hid fun w (hT : MH w) => sameErr_yes ErrNo.nil w hT.h
  have E1 := Lib.hid fun w (hT : MH w) => sameErr_yes (ErrNo.no 1) w hT.h
  have E3 := Lib.hid fun w (hT : MH w) => sameErr_yes (ErrNo.no 3) w hT.h
  have CO := Lib.hid fun w => only_any d NUM 1 (d.length : Int) w (by omega) (by simp)
  rw [only_dig, hq] at CO
  have hwl := without_len c s
  have gl := gout_len d g g2 c
  have gl2 := gout_len (without c s) g g2 c
  have CG := Lib.hid fun w => rgrouped_any d g g2 c w (by omega) ⟨by omega, by omega, by omega, by omega⟩
  have CB := Lib.hid fun w => only_any (without c s) NUM 1 ((without c s).length : Int) w (by omega) (by simp)
  rw [only_dig, hb] at CB
  have CH := Lib.hid fun w => rgrouped_any (without c s) g g2 c w (by omega) ⟨by omega, by omega, by omega, by omega⟩
  have q1 : (gout (without c s) g g2 c == s) = false := beq_eq_false_iff_ne.2 ho
  have q2 : (gout (without c s) g g2 c != s) = true := by rw [bne, q1]; rfl
  have HWT := Lib.hid fun k x hx => without_take c s k x hx
  have HL : Hid (without c (s.take s.length) = without c s) := Lib.hid (by rw [List.take_length])
  clear hq hb ho
  generalize gout (without c s) g g2 c = GB at *
  generalize gout d g g2 c = GA at *
  go_enter Tryd.func13, Tryd.ntmps13
  go_wp2_with fail
  refine (C0.out _).mono ?_
  rintro e w1 ⟨rfl, hb⟩
  have W1 := Lib.hid (blw_trans (show Below w.heap.size w _ by repeat (first | exact (Below.refl _ _) | refine blw_drewN ?_ _ | refine Below.setCell ?_ (by first | (simp; done) | omega | (simp; omega)) _ | refine Below.alloc ?_ (by first | (simp; done) | omega | (simp; omega)) _)) hb)
  have n1 := hb.size
  try simp at n1
  clear hb
  go_wp2_with fail
  refine (CO.out _).mono ?_
  rintro e w2 ⟨rfl, hD⟩
  have W2 := Lib.hid (blw_trans (show Below w.heap.size w _ by repeat (first | exact W1.out | refine blw_drewN ?_ _ | refine Below.alloc ?_ (by first | (simp; done) | omega | (simp; omega)) _)) hD.below)
  clear hD W1
  
  go_wp2_with fail
  refine (CG.out _).mono ?_
  rintro e w3 ⟨rfl, hD⟩
  have W3 := Lib.hid (blw_trans (show Below w.heap.size w _ by repeat (first | exact W2.out | refine blw_drewN ?_ _ | refine Below.alloc ?_ (by first | (simp; done) | omega | (simp; omega)) _)) hD.below)
  clear hD W2
  
  go_wp2_with fail
  clear CV
  go_loopw [16, 17] (fun b i wr => ∃ k : Nat, i = .int .i64 k ∧ k ≤ s.length ∧ b = .string ⟨(without c (s.take k)).toArray⟩ ∧ Hid (Below w.heap.size w wr)) (fun _ i _ => s.length - (RowKit.intOf i).toNat)
  case atStart => exact ⟨0, rfl, Nat.zero_le _, rfl, by first | exact W3 | exact Lib.hid (by repeat (first | exact W3.out | refine blw_drewN ?_ _ | refine Below.alloc ?_ (by first | (simp; done) | omega | (simp; omega)) _))⟩
  case round =>
    obtain ⟨k, rfl, hk, rfl, HB⟩ := hrel
    clear W3
    by_cases hlt : k < s.length
    · obtain ⟨x, hx⟩ : ∃ x, s[k]? = some x := ⟨s[k], List.getElem?_eq_getElem hlt⟩
      have IX := fun w => index_str (P := Tryd.prog) 9 Tryd.underlying9 s .i64 k x hx w
      have HW := Lib.hid (HWT.out k x hx)
      have hsd : (s.drop k).take (k + 1 - k) = [x] := by
        rw [show k + 1 - k = 1 by omega, List.drop_eq_getElem_cons hlt]
        have := (List.getElem?_eq_some_iff.1 hx).2
        simp [this]
      have SM : ∀ w, (Instr.slice 9 (.string ⟨s.toArray⟩) (some (.int .i64 (k : Int))) (some (.int .i64 ((k : Int) + 1))) none).run Tryd.prog w = .ok (.string ⟨[x].toArray⟩) w := fun w => by
        have q := slice_mid (P := Tryd.prog) 9 Tryd.underlying9 s .i64 .i64 k (k + 1) (by omega) (by omega) w
        rw [hsd] at q
        exact q
      have hl := without_len c (s.take k)
      have hl2 : (s.take k).length ≤ s.length := by rw [List.length_take]; omega
      have AD := fun w => add_str (P := Tryd.prog) (without c (s.take k)) [x] (by simp; omega) w
      clear hsd hx
      have bq := byte_eq (a := x) (b := c)
      by_cases e : x = c
      · have e1 : ((x.toNat : Int) == (c.toNat : Int)) = true := by rw [bq]; simp [e]
        have e2 : ((x.toNat : Int) != (c.toNat : Int)) = false := by rw [bne, e1]; rfl
        have HV := Lib.hid (show without c (s.take (k + 1)) = without c (s.take k) by rw [HW.out, if_pos e]; simp)
        clear HW e bq AD
        generalize without c (s.take k) = T at *
        go_wp2_with fail
        go_roundw
        case rel => exact ⟨k + 1, by go_num, by omega, by rw [HV.out], HB⟩
        case measure => simp [RowKit.intOf]; omega
      · have e1 : ((x.toNat : Int) == (c.toNat : Int)) = false := by rw [bq]; simpa using e
        have e2 : ((x.toNat : Int) != (c.toNat : Int)) = true := by rw [bne, e1]; rfl
        have HV := Lib.hid (show without c (s.take (k + 1)) = without c (s.take k) ++ [x] by rw [HW.out, if_neg e])
        clear HW e bq
        generalize without c (s.take k) = T at *
        go_wp2_with fail
        go_roundw
        case rel => exact ⟨k + 1, by go_num, by omega, by rw [HV.out], HB⟩
        case measure => simp [RowKit.intOf]; omega
    · obtain rfl : k = s.length := by omega
      rw [HL.out]
      clear HWT HL hlt hk
      generalize without c s = D at *
      go_wp2_with fail
      refine (CB.out _).mono ?_
      rintro e w11 ⟨rfl, hD⟩
      have W11 := Lib.hid (blw_trans (show Below w.heap.size w _ by repeat (first | exact HB.out | refine blw_drewN ?_ _ | refine Below.alloc ?_ (by first | (simp; done) | omega | (simp; omega)) _)) hD.below)
      clear hD HB
      
      go_wp2_with fail
      refine (CH.out _).mono ?_
      rintro e w12 ⟨rfl, hD⟩
      have W12 := Lib.hid (blw_trans (show Below w.heap.size w _ by repeat (first | exact W11.out | refine blw_drewN ?_ _ | refine Below.alloc ?_ (by first | (simp; done) | omega | (simp; omega)) _)) hD.below)
      clear hD W11
      
      go_wp2_with fail
      refine (CP.out _).mono ?_
      rintro e w13 ⟨rfl, hb⟩
      have W13 := Lib.hid (blw_trans (show Below w.heap.size w _ by repeat (first | exact W12.out | refine blw_drewN ?_ _ | refine Below.setCell ?_ (by first | (simp; done) | omega | (simp; omega)) _ | refine Below.alloc ?_ (by first | (simp; done) | omega | (simp; omega)) _)) hb)
      have n13 := hb.size
      try simp at n13
      clear hb W12
      go_wp2_with fail
      refine (E0.out _ (hT.below (by repeat (first | exact W13.out | refine blw_drewN ?_ _ | refine Below.setCell ?_ (by first | (simp; done) | omega | (simp; omega)) _ | refine Below.alloc ?_ (by first | (simp; done) | omega | (simp; omega)) _)))).mono ?_
      rintro e w14 ⟨rfl, hb⟩
      have W14 := Lib.hid (blw_trans (show Below w.heap.size w _ by repeat (first | exact W13.out | refine blw_drewN ?_ _ | refine Below.setCell ?_ (by first | (simp; done) | omega | (simp; omega)) _ | refine Below.alloc ?_ (by first | (simp; done) | omega | (simp; omega)) _)) hb)
      have n14 := hb.size
      try simp at n14
      clear hb W13
      go_wp2_with fail
      refine (CT.out _ (hT.below (by repeat (first | exact W14.out | refine blw_drewN ?_ _ | refine Below.setCell ?_ (by first | (simp; done) | omega | (simp; omega)) _ | refine Below.alloc ?_ (by first | (simp; done) | omega | (simp; omega)) _))).m).mono ?_
      rintro e w15 ⟨rfl, hb⟩
      have W15 := Lib.hid (blw_trans (show Below w.heap.size w _ by repeat (first | exact W14.out | refine blw_drewN ?_ _ | refine Below.setCell ?_ (by first | (simp; done) | omega | (simp; omega)) _ | refine Below.alloc ?_ (by first | (simp; done) | omega | (simp; omega)) _)) hb)
      have n15 := hb.size
      try simp at n15
      clear hb W14
      go_wp2_with fail
      refine (E3.out _ (hT.below (by repeat (first | exact W15.out | refine blw_drewN ?_ _ | refine Below.setCell ?_ (by first | (simp; done) | omega | (simp; omega)) _ | refine Below.alloc ?_ (by first | (simp; done) | omega | (simp; omega)) _)))).mono ?_
      rintro e w16 ⟨rfl, hb⟩
      have W16 := Lib.hid (blw_trans (show Below w.heap.size w _ by repeat (first | exact W15.out | refine blw_drewN ?_ _ | refine Below.setCell ?_ (by first | (simp; done) | omega | (simp; omega)) _ | refine Below.alloc ?_ (by first | (simp; done) | omega | (simp; omega)) _)) hb)
      have n16 := hb.size
      try simp at n16
      clear hb W15
      go_wp2
      go_ret
      exact ⟨ret_bool (by simp), by repeat (first | exact W16.out | refine blw_drewN ?_ _ | refine Below.setCell ?_ (by first | (simp; done) | omega | (simp; omega)) _ | refine Below.alloc ?_ (by first | (simp; done) | omega | (simp; omega)) _)⟩

set_option maxRecDepth 100000 in
set_option maxHeartbeats 2000000 in
theorem groupTells_l0ny (d s : List UInt8) (g g2 : Int) (c : UInt8) (w : World) (hT : MH w) (hd : d.length ≤ 100000000) (hs : s.length ≤ 100000000) (n : (c.toNat : Int) < 48) (r1 : ¬ g < 0) (r2 : ¬ 4 < g) (r3 : ¬ g2 < 0) (r4 : ¬ 4 < g2)
    (hq : digB d = false) (hb : digB (without c s) = true) (ho : gout (without c s) g g2 c = s)
    (CP : Hid (∀ w : World, Calls Tryd.prog 38 #[.string ⟨d.toArray⟩, .int .i64 g, .int .i64 g2, .int .u8 (c.toNat : Int)] w fun e w' => e = .returned (.tuple #[.string ⟨#[]⟩, errV 3]) ∧ Below w.heap.size w w'))
    (CT : Hid (∀ w : World, MaxW w → Calls Tryd.prog 41 #[.string ⟨s.toArray⟩, .int .i64 g, .int .i64 g2, .int .u8 (c.toNat : Int)] w fun e w' => e = .returned (.tuple #[.string ⟨(without c s).toArray⟩, .nilIface]) ∧ Below w.heap.size w w')) :
    Calls Tryd.prog 13 #[.string ⟨d.toArray⟩, .string ⟨s.toArray⟩, .int .i64 g, .int .i64 g2, .int .u8 (c.toNat : Int)] w fun e w' => e = .returned (.bool true) ∧ Below w.heap.size w w' := by
  have d1 : decide (48 ≤ (c.toNat : Int)) = false := dec_no (by omega)
  have d3 : decide (g < 0) = false := dec_no (by omega)
  have d4 : decide (4 < g) = false := dec_no (by omega)
  have d5 : decide (g2 < 0) = false := dec_no (by omega)
  have d6 : decide (4 < g2) = false := dec_no (by omega)
  have C0 := Lib.hid fun w => grouped_any w
  have CV := fun w => conv_by c w
  have E0 := Lib.hid fun w (hT : MH w) => sameErr_yes ErrNo.nil w hT.h
  have E1 := Lib.hid fun w (hT : MH w) => sameErr_yes (ErrNo.no 1) w hT.h
  have E3 := Lib.hid fun w (hT : MH w) => sameErr_yes (ErrNo.no 3) w hT.h
  have CO := Lib.hid fun w => only_any d NUM 1 (d.length : Int) w (by omega) (by simp)
  rw [only_dig, hq] at CO
  have hwl := without_len c s
  have gl := gout_len d g g2 c
  have gl2 := gout_len (without c s) g g2 c
  have CB := Lib.hid fun w => only_any (without c s) NUM 1 ((without c s).length : Int) w (by omega) (by simp)
  rw [only_dig, hb] at CB
  have CH := Lib.hid fun w => rgrouped_any (without c s) g g2 c w (by omega) ⟨by omega, by omega, by omega, by omega⟩
  rw [ho] at CH
  have HWT := Lib.hid fun k x hx => without_take c s k x hx
  have HL : Hid (without c (s.take s.length) = without c s) := Lib.hid (by rw [List.take_length])
  clear hq hb ho
  generalize gout d g g2 c = GA at *
  go_enter Tryd.func13, Tryd.ntmps13
  go_wp2_with fail
  refine (C0.out _).mono ?_
  rintro e w1 ⟨rfl, hb⟩
  have W1 := Lib.hid (blw_trans (show Below w.heap.size w _ by repeat (first | exact (Below.refl _ _) | refine blw_drewN ?_ _ | refine Below.setCell ?_ (by first | (simp; done) | omega | (simp; omega)) _ | refine Below.alloc ?_ (by first | (simp; done) | omega | (simp; omega)) _)) hb)
  have n1 := hb.size
  try simp at n1
  clear hb
  go_wp2_with fail
  refine (CO.out _).mono ?_
  rintro e w2 ⟨rfl, hD⟩
  have W2 := Lib.hid (blw_trans (show Below w.heap.size w _ by repeat (first | exact W1.out | refine blw_drewN ?_ _ | refine Below.alloc ?_ (by first | (simp; done) | omega | (simp; omega)) _)) hD.below)
  clear hD W1
  
  go_wp2_with fail
  clear CV
  go_loopw [16, 17] (fun b i wr => ∃ k : Nat, i = .int .i64 k ∧ k ≤ s.length ∧ b = .string ⟨(without c (s.take k)).toArray⟩ ∧ Hid (Below w.heap.size w wr)) (fun _ i _ => s.length - (RowKit.intOf i).toNat)
  case atStart => exact ⟨0, rfl, Nat.zero_le _, rfl, by first | exact W2 | exact Lib.hid (by repeat (first | exact W2.out | refine blw_drewN ?_ _ | refine Below.alloc ?_ (by first | (simp; done) | omega | (simp; omega)) _))⟩
  case round =>
    obtain ⟨k, rfl, hk, rfl, HB⟩ := hrel
    clear W2
    by_cases hlt : k < s.length
    · obtain ⟨x, hx⟩ : ∃ x, s[k]? = some x := ⟨s[k], List.getElem?_eq_getElem hlt⟩
      have IX := fun w => index_str (P := Tryd.prog) 9 Tryd.underlying9 s .i64 k x hx w
      have HW := Lib.hid (HWT.out k x hx)
      have hsd : (s.drop k).take (k + 1 - k) = [x] := by
        rw [show k + 1 - k = 1 by omega, List.drop_eq_getElem_cons hlt]
        have := (List.getElem?_eq_some_iff.1 hx).2
        simp [this]
      have SM : ∀ w, (Instr.slice 9 (.string ⟨s.toArray⟩) (some (.int .i64 (k : Int))) (some (.int .i64 ((k : Int) + 1))) none).run Tryd.prog w = .ok (.string ⟨[x].toArray⟩) w := fun w => by
        have q := slice_mid (P := Tryd.prog) 9 Tryd.underlying9 s .i64 .i64 k (k + 1) (by omega) (by omega) w
        rw [hsd] at q
        exact q
      have hl := without_len c (s.take k)
      have hl2 : (s.take k).length ≤ s.length := by rw [List.length_take]; omega
      have AD := fun w => add_str (P := Tryd.prog) (without c (s.take k)) [x] (by simp; omega) w
      clear hsd hx
      have bq := byte_eq (a := x) (b := c)
      by_cases e : x = c
      · have e1 : ((x.toNat : Int) == (c.toNat : Int)) = true := by rw [bq]; simp [e]
        have e2 : ((x.toNat : Int) != (c.toNat : Int)) = false := by rw [bne, e1]; rfl
        have HV := Lib.hid (show without c (s.take (k + 1)) = without c (s.take k) by rw [HW.out, if_pos e]; simp)
        clear HW e bq AD
        generalize without c (s.take k) = T at *
        go_wp2_with fail
        go_roundw
        case rel => exact ⟨k + 1, by go_num, by omega, by rw [HV.out], HB⟩
        case measure => simp [RowKit.intOf]; omega
      · have e1 : ((x.toNat : Int) == (c.toNat : Int)) = false := by rw [bq]; simpa using e
        have e2 : ((x.toNat : Int) != (c.toNat : Int)) = true := by rw [bne, e1]; rfl
        have HV := Lib.hid (show without c (s.take (k + 1)) = without c (s.take k) ++ [x] by rw [HW.out, if_neg e])
        clear HW e bq
        generalize without c (s.take k) = T at *
        go_wp2_with fail
        go_roundw
        case rel => exact ⟨k + 1, by go_num, by omega, by rw [HV.out], HB⟩
        case measure => simp [RowKit.intOf]; omega
    · obtain rfl : k = s.length := by omega
      rw [HL.out]
      clear HWT HL hlt hk
      generalize without c s = D at *
      go_wp2_with fail
      refine (CB.out _).mono ?_
      rintro e w11 ⟨rfl, hD⟩
      have W11 := Lib.hid (blw_trans (show Below w.heap.size w _ by repeat (first | exact HB.out | refine blw_drewN ?_ _ | refine Below.alloc ?_ (by first | (simp; done) | omega | (simp; omega)) _)) hD.below)
      clear hD HB
      
      go_wp2_with fail
      refine (CH.out _).mono ?_
      rintro e w12 ⟨rfl, hD⟩
      have W12 := Lib.hid (blw_trans (show Below w.heap.size w _ by repeat (first | exact W11.out | refine blw_drewN ?_ _ | refine Below.alloc ?_ (by first | (simp; done) | omega | (simp; omega)) _)) hD.below)
      clear hD W11
      
      go_wp2_with fail
      refine (CP.out _).mono ?_
      rintro e w13 ⟨rfl, hb⟩
      have W13 := Lib.hid (blw_trans (show Below w.heap.size w _ by repeat (first | exact W12.out | refine blw_drewN ?_ _ | refine Below.setCell ?_ (by first | (simp; done) | omega | (simp; omega)) _ | refine Below.alloc ?_ (by first | (simp; done) | omega | (simp; omega)) _)) hb)
      have n13 := hb.size
      try simp at n13
      clear hb W12
      go_wp2_with fail
      refine (E3.out _ (hT.below (by repeat (first | exact W13.out | refine blw_drewN ?_ _ | refine Below.setCell ?_ (by first | (simp; done) | omega | (simp; omega)) _ | refine Below.alloc ?_ (by first | (simp; done) | omega | (simp; omega)) _)))).mono ?_
      rintro e w14 ⟨rfl, hb⟩
      have W14 := Lib.hid (blw_trans (show Below w.heap.size w _ by repeat (first | exact W13.out | refine blw_drewN ?_ _ | refine Below.setCell ?_ (by first | (simp; done) | omega | (simp; omega)) _ | refine Below.alloc ?_ (by first | (simp; done) | omega | (simp; omega)) _)) hb)
      have n14 := hb.size
      try simp at n14
      clear hb W13
      go_wp2_with fail
      refine (CT.out _ (hT.below (by repeat (first | exact W14.out | refine blw_drewN ?_ _ | refine Below.setCell ?_ (by first | (simp; done) | omega | (simp; omega)) _ | refine Below.alloc ?_ (by first | (simp; done) | omega | (simp; omega)) _))).m).mono ?_
      rintro e w15 ⟨rfl, hb⟩
      have W15 := Lib.hid (blw_trans (show Below w.heap.size w _ by repeat (first | exact W14.out | refine blw_drewN ?_ _ | refine Below.setCell ?_ (by first | (simp; done) | omega | (simp; omega)) _ | refine Below.alloc ?_ (by first | (simp; done) | omega | (simp; omega)) _)) hb)
      have n15 := hb.size
      try simp at n15
      clear hb W14
      go_wp2_with fail
      refine (E0.out _ (hT.below (by repeat (first | exact W15.out | refine blw_drewN ?_ _ | refine Below.setCell ?_ (by first | (simp; done) | omega | (simp; omega)) _ | refine Below.alloc ?_ (by first | (simp; done) | omega | (simp; omega)) _)))).mono ?_
      rintro e w16 ⟨rfl, hb⟩
      have W16 := Lib.hid (blw_trans (show Below w.heap.size w _ by repeat (first | exact W15.out | refine blw_drewN ?_ _ | refine Below.setCell ?_ (by first | (simp; done) | omega | (simp; omega)) _ | refine Below.alloc ?_ (by first | (simp; done) | omega | (simp; omega)) _)) hb)
      have n16 := hb.size
      try simp at n16
      clear hb W15
      go_wp2
      go_ret
      exact ⟨ret_bool (by simp), by repeat (first | exact W16.out | refine blw_drewN ?_ _ | refine Below.setCell ?_ (by first | (simp; done) | omega | (simp; omega)) _ | refine Below.alloc ?_ (by first | (simp; done) | omega | (simp; omega)) _)⟩

set_option maxRecDepth 100000 in
set_option maxHeartbeats 2000000 in
theorem groupTells_l0na (d s : List UInt8) (g g2 : Int) (c : UInt8) (w : World) (hT : MH w) (hd : d.length ≤ 100000000) (hs : s.length ≤ 100000000) (n : (c.toNat : Int) < 48) (r1 : ¬ g < 0) (r2 : ¬ 4 < g) (r3 : ¬ g2 < 0) (r4 : ¬ 4 < g2)
    (hq : digB d = false) (hb : digB (without c s) = false)
    (CP : Hid (∀ w : World, Calls Tryd.prog 38 #[.string ⟨d.toArray⟩, .int .i64 g, .int .i64 g2, .int .u8 (c.toNat : Int)] w fun e w' => e = .returned (.tuple #[.string ⟨#[]⟩, errV 3]) ∧ Below w.heap.size w w'))
    (CT : Hid (∀ w : World, MaxW w → Calls Tryd.prog 41 #[.string ⟨s.toArray⟩, .int .i64 g, .int .i64 g2, .int .u8 (c.toNat : Int)] w fun e w' => e = .returned (.tuple #[.string ⟨#[]⟩, errV 3]) ∧ Below w.heap.size w w')) :
    Calls Tryd.prog 13 #[.string ⟨d.toArray⟩, .string ⟨s.toArray⟩, .int .i64 g, .int .i64 g2, .int .u8 (c.toNat : Int)] w fun e w' => e = .returned (.bool true) ∧ Below w.heap.size w w' := by
  have d1 : decide (48 ≤ (c.toNat : Int)) = false := dec_no (by omega)
  have d3 : decide (g < 0) = false := dec_no (by omega)
  have d4 : decide (4 < g) = false := dec_no (by omega)
  have d5 : decide (g2 < 0) = false := dec_no (by omega)
  have d6 : decide (4 < g2) = false := dec_no (by omega)
  have C0 := Lib.hid fun w => grouped_any w
  have CV := fun w => conv_by c w
  have E0 := Lib.hid fun w (hT : MH w) => sameErr_yes ErrNo.nil w hT.h
  have E1 := Lib.hid fun w (hT : MH w) => sameErr_yes (ErrNo.no 1) w hT.h
  have E3 := Lib.hid fun w (hT : MH w) => sameErr_yes (ErrNo.no 3) w hT.h
  have CO := Lib.hid fun w => only_any d NUM 1 (d.length : Int) w (by omega) (by simp)
  rw [only_dig, hq] at CO
  have hwl := without_len c s
  have gl := gout_len d g g2 c
  have gl2 := gout_len (without c s) g g2 c
  have CB := Lib.hid fun w => only_any (without c s) NUM 1 ((without c s).length : Int) w (by omega) (by simp)
  rw [only_dig, hb] at CB
  have HWT := Lib.hid fun k x hx => without_take c s k x hx
  have HL : Hid (without c (s.take s.length) = without c s) := Lib.hid (by rw [List.take_length])
  clear hq hb 
  generalize gout d g g2 c = GA at *
  go_enter Tryd.func13, Tryd.ntmps13
  go_wp2_with fail
  refine (C0.out _).mono ?_
  rintro e w1 ⟨rfl, hb⟩
  have W1 := Lib.hid (blw_trans (show Below w.heap.size w _ by repeat (first | exact (Below.refl _ _) | refine blw_drewN ?_ _ | refine Below.setCell ?_ (by first | (simp; done) | omega | (simp; omega)) _ | refine Below.alloc ?_ (by first | (simp; done) | omega | (simp; omega)) _)) hb)
  have n1 := hb.size
  try simp at n1
  clear hb
  go_wp2_with fail
  refine (CO.out _).mono ?_
  rintro e w2 ⟨rfl, hD⟩
  have W2 := Lib.hid (blw_trans (show Below w.heap.size w _ by repeat (first | exact W1.out | refine blw_drewN ?_ _ | refine Below.alloc ?_ (by first | (simp; done) | omega | (simp; omega)) _)) hD.below)
  clear hD W1
  
  go_wp2_with fail
  clear CV
  go_loopw [16, 17] (fun b i wr => ∃ k : Nat, i = .int .i64 k ∧ k ≤ s.length ∧ b = .string ⟨(without c (s.take k)).toArray⟩ ∧ Hid (Below w.heap.size w wr)) (fun _ i _ => s.length - (RowKit.intOf i).toNat)
  case atStart => exact ⟨0, rfl, Nat.zero_le _, rfl, by first | exact W2 | exact Lib.hid (by repeat (first | exact W2.out | refine blw_drewN ?_ _ | refine Below.alloc ?_ (by first | (simp; done) | omega | (simp; omega)) _))⟩
  case round =>
    obtain ⟨k, rfl, hk, rfl, HB⟩ := hrel
    clear W2
    by_cases hlt : k < s.length
    · obtain ⟨x, hx⟩ : ∃ x, s[k]? = some x := ⟨s[k], List.getElem?_eq_getElem hlt⟩
      have IX := fun w => index_str (P := Tryd.prog) 9 Tryd.underlying9 s .i64 k x hx w
      have HW := Lib.hid (HWT.out k x hx)
      have hsd : (s.drop k).take (k + 1 - k) = [x] := by
        rw [show k + 1 - k = 1 by omega, List.drop_eq_getElem_cons hlt]
        have := (List.getElem?_eq_some_iff.1 hx).2
        simp [this]
      have SM : ∀ w, (Instr.slice 9 (.string ⟨s.toArray⟩) (some (.int .i64 (k : Int))) (some (.int .i64 ((k : Int) + 1))) none).run Tryd.prog w = .ok (.string ⟨[x].toArray⟩) w := fun w => by
        have q := slice_mid (P := Tryd.prog) 9 Tryd.underlying9 s .i64 .i64 k (k + 1) (by omega) (by omega) w
        rw [hsd] at q
        exact q
      have hl := without_len c (s.take k)
      have hl2 : (s.take k).length ≤ s.length := by rw [List.length_take]; omega
      have AD := fun w => add_str (P := Tryd.prog) (without c (s.take k)) [x] (by simp; omega) w
      clear hsd hx
      have bq := byte_eq (a := x) (b := c)
      by_cases e : x = c
      · have e1 : ((x.toNat : Int) == (c.toNat : Int)) = true := by rw [bq]; simp [e]
        have e2 : ((x.toNat : Int) != (c.toNat : Int)) = false := by rw [bne, e1]; rfl
        have HV := Lib.hid (show without c (s.take (k + 1)) = without c (s.take k) by rw [HW.out, if_pos e]; simp)
        clear HW e bq AD
        generalize without c (s.take k) = T at *
        go_wp2_with fail
        go_roundw
        case rel => exact ⟨k + 1, by go_num, by omega, by rw [HV.out], HB⟩
        case measure => simp [RowKit.intOf]; omega
      · have e1 : ((x.toNat : Int) == (c.toNat : Int)) = false := by rw [bq]; simpa using e
        have e2 : ((x.toNat : Int) != (c.toNat : Int)) = true := by rw [bne, e1]; rfl
        have HV := Lib.hid (show without c (s.take (k + 1)) = without c (s.take k) ++ [x] by rw [HW.out, if_neg e])
        clear HW e bq
        generalize without c (s.take k) = T at *
        go_wp2_with fail
        go_roundw
        case rel => exact ⟨k + 1, by go_num, by omega, by rw [HV.out], HB⟩
        case measure => simp [RowKit.intOf]; omega
    · obtain rfl : k = s.length := by omega
      rw [HL.out]
      clear HWT HL hlt hk
      generalize without c s = D at *
      go_wp2_with fail
      refine (CB.out _).mono ?_
      rintro e w11 ⟨rfl, hD⟩
      have W11 := Lib.hid (blw_trans (show Below w.heap.size w _ by repeat (first | exact HB.out | refine blw_drewN ?_ _ | refine Below.alloc ?_ (by first | (simp; done) | omega | (simp; omega)) _)) hD.below)
      clear hD HB
      
      go_wp2_with fail
      refine (CP.out _).mono ?_
      rintro e w12 ⟨rfl, hb⟩
      have W12 := Lib.hid (blw_trans (show Below w.heap.size w _ by repeat (first | exact W11.out | refine blw_drewN ?_ _ | refine Below.setCell ?_ (by first | (simp; done) | omega | (simp; omega)) _ | refine Below.alloc ?_ (by first | (simp; done) | omega | (simp; omega)) _)) hb)
      have n12 := hb.size
      try simp at n12
      clear hb W11
      go_wp2_with fail
      refine (E3.out _ (hT.below (by repeat (first | exact W12.out | refine blw_drewN ?_ _ | refine Below.setCell ?_ (by first | (simp; done) | omega | (simp; omega)) _ | refine Below.alloc ?_ (by first | (simp; done) | omega | (simp; omega)) _)))).mono ?_
      rintro e w13 ⟨rfl, hb⟩
      have W13 := Lib.hid (blw_trans (show Below w.heap.size w _ by repeat (first | exact W12.out | refine blw_drewN ?_ _ | refine Below.setCell ?_ (by first | (simp; done) | omega | (simp; omega)) _ | refine Below.alloc ?_ (by first | (simp; done) | omega | (simp; omega)) _)) hb)
      have n13 := hb.size
      try simp at n13
      clear hb W12
      go_wp2_with fail
      refine (CT.out _ (hT.below (by repeat (first | exact W13.out | refine blw_drewN ?_ _ | refine Below.setCell ?_ (by first | (simp; done) | omega | (simp; omega)) _ | refine Below.alloc ?_ (by first | (simp; done) | omega | (simp; omega)) _))).m).mono ?_
      rintro e w14 ⟨rfl, hb⟩
      have W14 := Lib.hid (blw_trans (show Below w.heap.size w _ by repeat (first | exact W13.out | refine blw_drewN ?_ _ | refine Below.setCell ?_ (by first | (simp; done) | omega | (simp; omega)) _ | refine Below.alloc ?_ (by first | (simp; done) | omega | (simp; omega)) _)) hb)
      have n14 := hb.size
      try simp at n14
      clear hb W13
      go_wp2_with fail
      refine (E3.out _ (hT.below (by repeat (first | exact W14.out | refine blw_drewN ?_ _ | refine Below.setCell ?_ (by first | (simp; done) | omega | (simp; omega)) _ | refine Below.alloc ?_ (by first | (simp; done) | omega | (simp; omega)) _)))).mono ?_
      rintro e w15 ⟨rfl, hb⟩
      have W15 := Lib.hid (blw_trans (show Below w.heap.size w _ by repeat (first | exact W14.out | refine blw_drewN ?_ _ | refine Below.setCell ?_ (by first | (simp; done) | omega | (simp; omega)) _ | refine Below.alloc ?_ (by first | (simp; done) | omega | (simp; omega)) _)) hb)
      have n15 := hb.size
      try simp at n15
      clear hb W14
      go_wp2
      go_ret
      exact ⟨ret_bool (by simp), by repeat (first | exact W15.out | refine blw_drewN ?_ _ | refine Below.setCell ?_ (by first | (simp; done) | omega | (simp; omega)) _ | refine Below.alloc ?_ (by first | (simp; done) | omega | (simp; omega)) _)⟩

set_option maxRecDepth 100000 in
set_option maxHeartbeats 2000000 in
theorem groupTells_l0nb (d s : List UInt8) (g g2 : Int) (c : UInt8) (w : World) (hT : MH w) (hd : d.length ≤ 100000000) (hs : s.length ≤ 100000000) (n : (c.toNat : Int) < 48) (r1 : ¬ g < 0) (r2 : ¬ 4 < g) (r3 : ¬ g2 < 0) (r4 : ¬ 4 < g2)
    (hq : digB d = false) (hb : digB (without c s) = true) (ho : gout (without c s) g g2 c ≠ s)
    (CP : Hid (∀ w : World, Calls Tryd.prog 38 #[.string ⟨d.toArray⟩, .int .i64 g, .int .i64 g2, .int .u8 (c.toNat : Int)] w fun e w' => e = .returned (.tuple #[.string ⟨#[]⟩, errV 3]) ∧ Below w.heap.size w w'))
    (CT : Hid (∀ w : World, MaxW w → Calls Tryd.prog 41 #[.string ⟨s.toArray⟩, .int .i64 g, .int .i64 g2, .int .u8 (c.toNat : Int)] w fun e w' => e = .returned (.tuple #[.string ⟨#[]⟩, errV 3]) ∧ Below w.heap.size w w')) :
    Calls Tryd.prog 13 #[.string ⟨d.toArray⟩, .string ⟨s.toArray⟩, .int .i64 g, .int .i64 g2, .int .u8 (c.toNat : Int)] w fun e w' => e = .returned (.bool true) ∧ Below w.heap.size w w' := by
  have d1 : decide (48 ≤ (c.toNat : Int)) = false := dec_no (by omega)
  have d3 : decide (g < 0) = false := dec_no (by omega)
  have d4 : decide (4 < g) = false := dec_no (by omega)
  have d5 : decide (g2 < 0) = false := dec_no (by omega)
  have d6 : decide (4 < g2) = false := dec_no (by omega)
  have C0 := Lib.hid fun w => grouped_any w
  have CV := fun w => conv_by c w
  have E0 := Lib.hid fun w (hT : MH w) => sameErr_yes ErrNo.nil w hT.h
  have E1 := Lib.hid fun w (hT : MH w) => sameErr_yes (ErrNo.no 1) w hT.h
  have E3 := Lib.hid fun w (hT : MH w) => sameErr_yes (ErrNo.no 3) w hT.h
  have CO := Lib.hid fun w => only_any d NUM 1 (d.length : Int) w (by omega) (by simp)
  rw [only_dig, hq] at CO
  have hwl := without_len c s
  have gl := gout_len d g g2 c
  have gl2 := gout_len (without c s) g g2 c
  have CB := Lib.hid fun w => only_any (without c s) NUM 1 ((without c s).length : Int) w (by omega) (by simp)
  rw [only_dig, hb] at CB
  have CH := Lib.hid fun w => rgrouped_any (without c s) g g2 c w (by omega) ⟨by omega, by omega, by omega, by omega⟩
  have q1 : (gout (without c s) g g2 c == s) = false := beq_eq_false_iff_ne.2 ho
  have q2 : (gout (without c s) g g2 c != s) = true := by rw [bne, q1]; rfl
  have HWT := Lib.hid fun k x hx => without_take c s k x hx
  have HL : Hid (without c (s.take s.length) = without c s) := Lib.hid (by rw [List.take_length])
  clear hq hb ho
  generalize gout (without c s) g g2 c = GB at *
  generalize gout d g g2 c = GA at *
  go_enter Tryd.func13, Tryd.ntmps13
  go_wp2_with fail
  refine (C0.out _).mono ?_
  rintro e w1 ⟨rfl, hb⟩
  have W1 := Lib.hid (blw_trans (show Below w.heap.size w _ by repeat (first | exact (Below.refl _ _) | refine blw_drewN ?_ _ | refine Below.setCell ?_ (by first | (simp; done) | omega | (simp; omega)) _ | refine Below.alloc ?_ (by first | (simp; done) | omega | (simp; omega)) _)) hb)
  have n1 := hb.size
  try simp at n1
  clear hb
  go_wp2_with fail
  refine (CO.out _).mono ?_
  rintro e w2 ⟨rfl, hD⟩
  have W2 := Lib.hid (blw_trans (show Below w.heap.size w _ by repeat (first | exact W1.out | refine blw_drewN ?_ _ | refine Below.alloc ?_ (by first | (simp; done) | omega | (simp; omega)) _)) hD.below)
  clear hD W1
  
  go_wp2_with fail
  clear CV
  go_loopw [16, 17] (fun b i wr => ∃ k : Nat, i = .int .i64 k ∧ k ≤ s.length ∧ b = .string ⟨(without c (s.take k)).toArray⟩ ∧ Hid (Below w.heap.size w wr)) (fun _ i _ => s.length - (RowKit.intOf i).toNat)
  case atStart => exact ⟨0, rfl, Nat.zero_le _, rfl, by first | exact W2 | exact Lib.hid (by repeat (first | exact W2.out | refine blw_drewN ?_ _ | refine Below.alloc ?_ (by first | (simp; done) | omega | (simp; omega)) _))⟩
  case round =>
    obtain ⟨k, rfl, hk, rfl, HB⟩ := hrel
    clear W2
    by_cases hlt : k < s.length
    · obtain ⟨x, hx⟩ : ∃ x, s[k]? = some x := ⟨s[k], List.getElem?_eq_getElem hlt⟩
      have IX := fun w => index_str (P := Tryd.prog) 9 Tryd.underlying9 s .i64 k x hx w
      have HW := Lib.hid (HWT.out k x hx)
      have hsd : (s.drop k).take (k + 1 - k) = [x] := by
        rw [show k + 1 - k = 1 by omega, List.drop_eq_getElem_cons hlt]
        have := (List.getElem?_eq_some_iff.1 hx).2
        simp [this]
      have SM : ∀ w, (Instr.slice 9 (.string ⟨s.toArray⟩) (some (.int .i64 (k : Int))) (some (.int .i64 ((k : Int) + 1))) none).run Tryd.prog w = .ok (.string ⟨[x].toArray⟩) w := fun w => by
        have q := slice_mid (P := Tryd.prog) 9 Tryd.underlying9 s .i64 .i64 k (k + 1) (by omega) (by omega) w
        rw [hsd] at q
        exact q
      have hl := without_len c (s.take k)
      have hl2 : (s.take k).length ≤ s.length := by rw [List.length_take]; omega
      have AD := fun w => add_str (P := Tryd.prog) (without c (s.take k)) [x] (by simp; omega) w
      clear hsd hx
      have bq := byte_eq (a := x) (b := c)
      by_cases e : x = c
      · have e1 : ((x.toNat : Int) == (c.toNat : Int)) = true := by rw [bq]; simp [e]
        have e2 : ((x.toNat : Int) != (c.toNat : Int)) = false := by rw [bne, e1]; rfl
        have HV := Lib.hid (show without c (s.take (k + 1)) = without c (s.take k) by rw [HW.out, if_pos e]; simp)
        clear HW e bq AD
        generalize without c (s.take k) = T at *
        go_wp2_with fail
        go_roundw
        case rel => exact ⟨k + 1, by go_num, by omega, by rw [HV.out], HB⟩
        case measure => simp [RowKit.intOf]; omega
      · have e1 : ((x.toNat : Int) == (c.toNat : Int)) = false := by rw [bq]; simpa using e
        have e2 : ((x.toNat : Int) != (c.toNat : Int)) = true := by rw [bne, e1]; rfl
        have HV := Lib.hid (show without c (s.take (k + 1)) = without c (s.take k) ++ [x] by rw [HW.out, if_neg e])
        clear HW e bq
        generalize without c (s.take k) = T at *
        go_wp2_with fail
        go_roundw
        case rel => exact ⟨k + 1, by go_num, by omega, by rw [HV.out], HB⟩
        case measure => simp [RowKit.intOf]; omega
    · obtain rfl : k = s.length := by omega
      rw [HL.out]
      clear HWT HL hlt hk
      generalize without c s = D at *
      go_wp2_with fail
      refine (CB.out _).mono ?_
      rintro e w11 ⟨rfl, hD⟩
      have W11 := Lib.hid (blw_trans (show Below w.heap.size w _ by repeat (first | exact HB.out | refine blw_drewN ?_ _ | refine Below.alloc ?_ (by first | (simp; done) | omega | (simp; omega)) _)) hD.below)
      clear hD HB
      
      go_wp2_with fail
      refine (CH.out _).mono ?_
      rintro e w12 ⟨rfl, hD⟩
      have W12 := Lib.hid (blw_trans (show Below w.heap.size w _ by repeat (first | exact W11.out | refine blw_drewN ?_ _ | refine Below.alloc ?_ (by first | (simp; done) | omega | (simp; omega)) _)) hD.below)
      clear hD W11
      
      go_wp2_with fail
      refine (CP.out _).mono ?_
      rintro e w13 ⟨rfl, hb⟩
      have W13 := Lib.hid (blw_trans (show Below w.heap.size w _ by repeat (first | exact W12.out | refine blw_drewN ?_ _ | refine Below.setCell ?_ (by first | (simp; done) | omega | (simp; omega)) _ | refine Below.alloc ?_ (by first | (simp; done) | omega | (simp; omega)) _)) hb)
      have n13 := hb.size
      try simp at n13
      clear hb W12
      go_wp2_with fail
      refine (E3.out _ (hT.below (by repeat (first | exact W13.out | refine blw_drewN ?_ _ | refine Below.setCell ?_ (by first | (simp; done) | omega | (simp; omega)) _ | refine Below.alloc ?_ (by first | (simp; done) | omega | (simp; omega)) _)))).mono ?_
      rintro e w14 ⟨rfl, hb⟩
      have W14 := Lib.hid (blw_trans (show Below w.heap.size w _ by repeat (first | exact W13.out | refine blw_drewN ?_ _ | refine Below.setCell ?_ (by first | (simp; done) | omega | (simp; omega)) _ | refine Below.alloc ?_ (by first | (simp; done) | omega | (simp; omega)) _)) hb)
      have n14 := hb.size
      try simp at n14
      clear hb W13
      go_wp2_with fail
      refine (CT.out _ (hT.below (by repeat (first | exact W14.out | refine blw_drewN ?_ _ | refine Below.setCell ?_ (by first | (simp; done) | omega | (simp; omega)) _ | refine Below.alloc ?_ (by first | (simp; done) | omega | (simp; omega)) _))).m).mono ?_
      rintro e w15 ⟨rfl, hb⟩
      have W15 := Lib.hid (blw_trans (show Below w.heap.size w _ by repeat (first | exact W14.out | refine blw_drewN ?_ _ | refine Below.setCell ?_ (by first | (simp; done) | omega | (simp; omega)) _ | refine Below.alloc ?_ (by first | (simp; done) | omega | (simp; omega)) _)) hb)
      have n15 := hb.size
      try simp at n15
      clear hb W14
      go_wp2_with fail
      refine (E3.out _ (hT.below (by repeat (first | exact W15.out | refine blw_drewN ?_ _ | refine Below.setCell ?_ (by first | (simp; done) | omega | (simp; omega)) _ | refine Below.alloc ?_ (by first | (simp; done) | omega | (simp; omega)) _)))).mono ?_
      rintro e w16 ⟨rfl, hb⟩
      have W16 := Lib.hid (blw_trans (show Below w.heap.size w _ by repeat (first | exact W15.out | refine blw_drewN ?_ _ | refine Below.setCell ?_ (by first | (simp; done) | omega | (simp; omega)) _ | refine Below.alloc ?_ (by first | (simp; done) | omega | (simp; omega)) _)) hb)
      have n16 := hb.size
      try simp at n16
      clear hb W15
      go_wp2
      go_ret
      exact ⟨ret_bool (by simp), by repeat (first | exact W16.out | refine blw_drewN ?_ _ | refine Below.setCell ?_ (by first | (simp; done) | omega | (simp; omega)) _ | refine Below.alloc ?_ (by first | (simp; done) | omega | (simp; omega)) _)⟩

set_option maxRecDepth 100000 in
set_option maxHeartbeats 2000000 in
theorem groupTells_h0ny (d s : List UInt8) (g g2 : Int) (c : UInt8) (w : World) (hT : MH w) (hd : d.length ≤ 100000000) (hs : s.length ≤ 100000000) (n : 57 < (c.toNat : Int)) (r1 : ¬ g < 0) (r2 : ¬ 4 < g) (r3 : ¬ g2 < 0) (r4 : ¬ 4 < g2)
    (hq : digB d = false) (hb : digB (without c s) = true) (ho : gout (without c s) g g2 c = s)
    (CP : Hid (∀ w : World, Calls Tryd.prog 38 #[.string ⟨d.toArray⟩, .int .i64 g, .int .i64 g2, .int .u8 (c.toNat : Int)] w fun e w' => e = .returned (.tuple #[.string ⟨#[]⟩, errV 3]) ∧ Below w.heap.size w w'))
    (CT : Hid (∀ w : World, MaxW w → Calls Tryd.prog 41 #[.string ⟨s.toArray⟩, .int .i64 g, .int .i64 g2, .int .u8 (c.toNat : Int)] w fun e w' => e = .returned (.tuple #[.string ⟨(without c s).toArray⟩, .nilIface]) ∧ Below w.heap.size w w')) :
    Calls Tryd.prog 13 #[.string ⟨d.toArray⟩, .string ⟨s.toArray⟩, .int .i64 g, .int .i64 g2, .int .u8 (c.toNat : Int)] w fun e w' => e = .returned (.bool true) ∧ Below w.heap.size w w' := by
  have d1 : decide (48 ≤ (c.toNat : Int)) = true := dec_yes (by omega)
  have d2 : decide ((c.toNat : Int) ≤ 57) = false := dec_no (by omega)
  have d3 : decide (g < 0) = false := dec_no (by omega)
  have d4 : decide (4 < g) = false := dec_no (by omega)
  have d5 : decide (g2 < 0) = false := dec_no (by omega)
  have d6 : decide (4 < g2) = false := dec_no (by omega)
  have C0 := Lib.hid fun w => grouped_any w
  have CV := fun w => conv_by c w
  have E0 := Lib.hid fun w (hT : MH w) => sameErr_yes ErrNo.nil w hT.h
  have E1 := Lib.hid fun w (hT : MH w) => sameErr_yes (ErrNo.no 1) w hT.h
  have E3 := Lib.hid fun w (hT : MH w) => sameErr_yes (ErrNo.no 3) w hT.h
  have CO := Lib.hid fun w => only_any d NUM 1 (d.length : Int) w (by omega) (by simp)
  rw [only_dig, hq] at CO
  have hwl := without_len c s
  have gl := gout_len d g g2 c
  have gl2 := gout_len (without c s) g g2 c
  have CB := Lib.hid fun w => only_any (without c s) NUM 1 ((without c s).length : Int) w (by omega) (by simp)
  rw [only_dig, hb] at CB
  have CH := Lib.hid fun w => rgrouped_any (without c s) g g2 c w (by omega) ⟨by omega, by omega, by omega, by omega⟩
  rw [ho] at CH
  have HWT := Lib.hid fun k x hx => without_take c s k x hx
  have HL : Hid (without c (s.take s.length) = without c s) := Lib.hid (by rw [List.take_length])
  clear hq hb ho
  generalize gout d g g2 c = GA at *
  go_enter Tryd.func13, Tryd.ntmps13
  go_wp2_with fail
  refine (C0.out _).mono ?_
  rintro e w1 ⟨rfl, hb⟩
  have W1 := Lib.hid (blw_trans (show Below w.heap.size w _ by repeat (first | exact (Below.refl _ _) | refine blw_drewN ?_ _ | refine Below.setCell ?_ (by first | (simp; done) | omega | (simp; omega)) _ | refine Below.alloc ?_ (by first | (simp; done) | omega | (simp; omega)) _)) hb)
  have n1 := hb.size
  try simp at n1
  clear hb
  go_wp2_with fail
  refine (CO.out _).mono ?_
  rintro e w2 ⟨rfl, hD⟩
  have W2 := Lib.hid (blw_trans (show Below w.heap.size w _ by repeat (first | exact W1.out | refine blw_drewN ?_ _ | refine Below.alloc ?_ (by first | (simp; done) | omega | (simp; omega)) _)) hD.below)
  clear hD W1
  
  go_wp2_with fail
  clear CV
  go_loopw [16, 17] (fun b i wr => ∃ k : Nat, i = .int .i64 k ∧ k ≤ s.length ∧ b = .string ⟨(without c (s.take k)).toArray⟩ ∧ Hid (Below w.heap.size w wr)) (fun _ i _ => s.length - (RowKit.intOf i).toNat)
  case atStart => exact ⟨0, rfl, Nat.zero_le _, rfl, by first | exact W2 | exact Lib.hid (by repeat (first | exact W2.out | refine blw_drewN ?_ _ | refine Below.alloc ?_ (by first | (simp; done) | omega | (simp; omega)) _))⟩
  case round =>
    obtain ⟨k, rfl, hk, rfl, HB⟩ := hrel
    clear W2
    by_cases hlt : k < s.length
    · obtain ⟨x, hx⟩ : ∃ x, s[k]? = some x := ⟨s[k], List.getElem?_eq_getElem hlt⟩
      have IX := fun w => index_str (P := Tryd.prog) 9 Tryd.underlying9 s .i64 k x hx w
      have HW := Lib.hid (HWT.out k x hx)
      have hsd : (s.drop k).take (k + 1 - k) = [x] := by
        rw [show k + 1 - k = 1 by omega, List.drop_eq_getElem_cons hlt]
        have := (List.getElem?_eq_some_iff.1 hx).2
        simp [this]
      have SM : ∀ w, (Instr.slice 9 (.string ⟨s.toArray⟩) (some (.int .i64 (k : Int))) (some (.int .i64 ((k : Int) + 1))) none).run Tryd.prog w = .ok (.string ⟨[x].toArray⟩) w := fun w => by
        have q := slice_mid (P := Tryd.prog) 9 Tryd.underlying9 s .i64 .i64 k (k + 1) (by omega) (by omega) w
        rw [hsd] at q
        exact q
      have hl := without_len c (s.take k)
      have hl2 : (s.take k).length ≤ s.length := by rw [List.length_take]; omega
      have AD := fun w => add_str (P := Tryd.prog) (without c (s.take k)) [x] (by simp; omega) w
      clear hsd hx
      have bq := byte_eq (a := x) (b := c)
      by_cases e : x = c
      · have e1 : ((x.toNat : Int) == (c.toNat : Int)) = true := by rw [bq]; simp [e]
        have e2 : ((x.toNat : Int) != (c.toNat : Int)) = false := by rw [bne, e1]; rfl
        have HV := Lib.hid (show without c (s.take (k + 1)) = without c (s.take k) by rw [HW.out, if_pos e]; simp)
        clear HW e bq AD
        generalize without c (s.take k) = T at *
        go_wp2_with fail
        go_roundw
        case rel => exact ⟨k + 1, by go_num, by omega, by rw [HV.out], HB⟩
        case measure => simp [RowKit.intOf]; omega
      · have e1 : ((x.toNat : Int) == (c.toNat : Int)) = false := by rw [bq]; simpa using e
        have e2 : ((x.toNat : Int) != (c.toNat : Int)) = true := by rw [bne, e1]; rfl
        have HV := Lib.hid (show without c (s.take (k + 1)) = without c (s.take k) ++ [x] by rw [HW.out, if_neg e])
        clear HW e bq
        generalize without c (s.take k) = T at *
        go_wp2_with fail
        go_roundw
        case rel => exact ⟨k + 1, by go_num, by omega, by rw [HV.out], HB⟩
        case measure => simp [RowKit.intOf]; omega
    · obtain rfl : k = s.length := by omega
      rw [HL.out]
      clear HWT HL hlt hk
      generalize without c s = D at *
      go_wp2_with fail
      refine (CB.out _).mono ?_
      rintro e w11 ⟨rfl, hD⟩
      have W11 := Lib.hid (blw_trans (show Below w.heap.size w _ by repeat (first | exact HB.out | refine blw_drewN ?_ _ | refine Below.alloc ?_ (by first | (simp; done) | omega | (simp; omega)) _)) hD.below)
      clear hD HB
      
      go_wp2_with fail
      refine (CH.out _).mono ?_
      rintro e w12 ⟨rfl, hD⟩
      have W12 := Lib.hid (blw_trans (show Below w.heap.size w _ by repeat (first | exact W11.out | refine blw_drewN ?_ _ | refine Below.alloc ?_ (by first | (simp; done) | omega | (simp; omega)) _)) hD.below)
      clear hD W11
      
      go_wp2_with fail
      refine (CP.out _).mono ?_
      rintro e w13 ⟨rfl, hb⟩
      have W13 := Lib.hid (blw_trans (show Below w.heap.size w _ by repeat (first | exact W12.out | refine blw_drewN ?_ _ | refine Below.setCell ?_ (by first | (simp; done) | omega | (simp; omega)) _ | refine Below.alloc ?_ (by first | (simp; done) | omega | (simp; omega)) _)) hb)
      have n13 := hb.size
      try simp at n13
      clear hb W12
      go_wp2_with fail
      refine (E3.out _ (hT.below (by repeat (first | exact W13.out | refine blw_drewN ?_ _ | refine Below.setCell ?_ (by first | (simp; done) | omega | (simp; omega)) _ | refine Below.alloc ?_ (by first | (simp; done) | omega | (simp; omega)) _)))).mono ?_
      rintro e w14 ⟨rfl, hb⟩
      have W14 := Lib.hid (blw_trans (show Below w.heap.size w _ by repeat (first | exact W13.out | refine blw_drewN ?_ _ | refine Below.setCell ?_ (by first | (simp; done) | omega | (simp; omega)) _ | refine Below.alloc ?_ (by first | (simp; done) | omega | (simp; omega)) _)) hb)
      have n14 := hb.size
      try simp at n14
      clear hb W13
      go_wp2_with fail
      refine (CT.out _ (hT.below (by repeat (first | exact W14.out | refine blw_drewN ?_ _ | refine Below.setCell ?_ (by first | (simp; done) | omega | (simp; omega)) _ | refine Below.alloc ?_ (by first | (simp; done) | omega | (simp; omega)) _))).m).mono ?_
      rintro e w15 ⟨rfl, hb⟩
      have W15 := Lib.hid (blw_trans (show Below w.heap.size w _ by repeat (first | exact W14.out | refine blw_drewN ?_ _ | refine Below.setCell ?_ (by first | (simp; done) | omega | (simp; omega)) _ | refine Below.alloc ?_ (by first | (simp; done) | omega | (simp; omega)) _)) hb)
      have n15 := hb.size
      try simp at n15
      clear hb W14
      go_wp2_with fail
      refine (E0.out _ (hT.below (by repeat (first | exact W15.out | refine blw_drewN ?_ _ | refine Below.setCell ?_ (by first | (simp; done) | omega | (simp; omega)) _ | refine Below.alloc ?_ (by first | (simp; done) | omega | (simp; omega)) _)))).mono ?_
      rintro e w16 ⟨rfl, hb⟩
      have W16 := Lib.hid (blw_trans (show Below w.heap.size w _ by repeat (first | exact W15.out | refine blw_drewN ?_ _ | refine Below.setCell ?_ (by first | (simp; done) | omega | (simp; omega)) _ | refine Below.alloc ?_ (by first | (simp; done) | omega | (simp; omega)) _)) hb)
      have n16 := hb.size
      try simp at n16
      clear hb W15
      go_wp2
      go_ret
      exact ⟨ret_bool (by simp), by repeat (first | exact W16.out | refine blw_drewN ?_ _ | refine Below.setCell ?_ (by first | (simp; done) | omega | (simp; omega)) _ | refine Below.alloc ?_ (by first | (simp; done) | omega | (simp; omega)) _)⟩

set_option maxRecDepth 100000 in
set_option maxHeartbeats 2000000 in
theorem groupTells_h0na (d s : List UInt8) (g g2 : Int) (c : UInt8) (w : World) (hT : MH w) (hd : d.length ≤ 100000000) (hs : s.length ≤ 100000000) (n : 57 < (c.toNat : Int)) (r1 : ¬ g < 0) (r2 : ¬ 4 < g) (r3 : ¬ g2 < 0) (r4 : ¬ 4 < g2)
    (hq : digB d = false) (hb : digB (without c s) = false)
    (CP : Hid (∀ w : World, Calls Tryd.prog 38 #[.string ⟨d.toArray⟩, .int .i64 g, .int .i64 g2, .int .u8 (c.toNat : Int)] w fun e w' => e = .returned (.tuple #[.string ⟨#[]⟩, errV 3]) ∧ Below w.heap.size w w'))
    (CT : Hid (∀ w : World, MaxW w → Calls Tryd.prog 41 #[.string ⟨s.toArray⟩, .int .i64 g, .int .i64 g2, .int .u8 (c.toNat : Int)] w fun e w' => e = .returned (.tuple #[.string ⟨#[]⟩, errV 3]) ∧ Below w.heap.size w w')) :
    Calls Tryd.prog 13 #[.string ⟨d.toArray⟩, .string ⟨s.toArray⟩, .int .i64 g, .int .i64 g2, .int .u8 (c.toNat : Int)] w fun e w' => e = .returned (.bool true) ∧ Below w.heap.size w w' := by
  have d1 : decide (48 ≤ (c.toNat : Int)) = true := dec_yes (by omega)
  have d2 : decide ((c.toNat : Int) ≤ 57) = false := dec_no (by omega)
  have d3 : decide (g < 0) = false := dec_no (by omega)
  have d4 : decide (4 < g) = false := dec_no (by omega)
  have d5 : decide (g2 < 0) = false := dec_no (by omega)
  have d6 : decide (4 < g2) = false := dec_no (by omega)
  have C0 := Lib.hid fun w => grouped_any w
  have CV := fun w => conv_by c w
  have E0 := Lib.hid fun w (hT : MH w) => sameErr_yes ErrNo.nil w hT.h
  have E1 := Lib.hid fun w (hT : MH w) => sameErr_yes (ErrNo.no 1) w hT.h
  have E3 := Lib.hid fun w (hT : MH w) => sameErr_yes (ErrNo.no 3) w hT.h
  have CO := Lib.hid fun w => only_any d NUM 1 (d.length : Int) w (by omega) (by simp)
  rw [only_dig, hq] at CO
  have hwl := without_len c s
  have gl := gout_len d g g2 c
  have gl2 := gout_len (without c s) g g2 c
  have CB := Lib.hid fun w => only_any (without c s) NUM 1 ((without c s).length : Int) w (by omega) (by simp)
  rw [only_dig, hb] at CB
  have HWT := Lib.hid fun k x hx => without_take c s k x hx
  have HL : Hid (without c (s.take s.length) = without c s) := Lib.hid (by rw [List.take_length])
  clear hq hb 
  generalize gout d g g2 c = GA at *
  go_enter Tryd.func13, Tryd.ntmps13
  go_wp2_with fail
  refine (C0.out _).mono ?_
  rintro e w1 ⟨rfl, hb⟩
  have W1 := Lib.hid (blw_trans (show Below w.heap.size w _ by repeat (first | exact (Below.refl _ _) | refine blw_drewN ?_ _ | refine Below.setCell ?_ (by first | (simp; done) | omega | (simp; omega)) _ | refine Below.alloc ?_ (by first | (simp; done) | omega | (simp; omega)) _)) hb)
  have n1 := hb.size
  try simp at n1
  clear hb
  go_wp2_with fail
  refine (CO.out _).mono ?_
  rintro e w2 ⟨rfl, hD⟩
  have W2 := Lib.hid (blw_trans (show Below w.heap.size w _ by repeat (first | exact W1.out | refine blw_drewN ?_ _ | refine Below.alloc ?_ (by first | (simp; done) | omega | (simp; omega)) _)) hD.below)
  clear hD W1
  
  go_wp2_with fail
  clear CV
  go_loopw [16, 17] (fun b i wr => ∃ k : Nat, i = .int .i64 k ∧ k ≤ s.length ∧ b = .string ⟨(without c (s.take k)).toArray⟩ ∧ Hid (Below w.heap.size w wr)) (fun _ i _ => s.length - (RowKit.intOf i).toNat)
  case atStart => exact ⟨0, rfl, Nat.zero_le _, rfl, by first | exact W2 | exact Lib.hid (by repeat (first | exact W2.out | refine blw_drewN ?_ _ | refine Below.alloc ?_ (by first | (simp; done) | omega | (simp; omega)) _))⟩
  case round =>
    obtain ⟨k, rfl, hk, rfl, HB⟩ := hrel
    clear W2
    by_cases hlt : k < s.length
    · obtain ⟨x, hx⟩ : ∃ x, s[k]? = some x := ⟨s[k], List.getElem?_eq_getElem hlt⟩
      have IX := fun w => index_str (P := Tryd.prog) 9 Tryd.underlying9 s .i64 k x hx w
      have HW := Lib.hid (HWT.out k x hx)
      have hsd : (s.drop k).take (k + 1 - k) = [x] := by
        rw [show k + 1 - k = 1 by omega, List.drop_eq_getElem_cons hlt]
        have := (List.getElem?_eq_some_iff.1 hx).2
        simp [this]
      have SM : ∀ w, (Instr.slice 9 (.string ⟨s.toArray⟩) (some (.int .i64 (k : Int))) (some (.int .i64 ((k : Int) + 1))) none).run Tryd.prog w = .ok (.string ⟨[x].toArray⟩) w := fun w => by
        have q := slice_mid (P := Tryd.prog) 9 Tryd.underlying9 s .i64 .i64 k (k + 1) (by omega) (by omega) w
        rw [hsd] at q
        exact q
      have hl := without_len c (s.take k)
      have hl2 : (s.take k).length ≤ s.length := by rw [List.length_take]; omega
      have AD := fun w => add_str (P := Tryd.prog) (without c (s.take k)) [x] (by simp; omega) w
      clear hsd hx
      have bq := byte_eq (a := x) (b := c)
      by_cases e : x = c
      · have e1 : ((x.toNat : Int) == (c.toNat : Int)) = true := by rw [bq]; simp [e]
        have e2 : ((x.toNat : Int) != (c.toNat : Int)) = false := by rw [bne, e1]; rfl
        have HV := Lib.hid (show without c (s.take (k + 1)) = without c (s.take k) by rw [HW.out, if_pos e]; simp)
        clear HW e bq AD
        generalize without c (s.take k) = T at *
        go_wp2_with fail
        go_roundw
        case rel => exact ⟨k + 1, by go_num, by omega, by rw [HV.out], HB⟩
        case measure => simp [RowKit.intOf]; omega
      · have e1 : ((x.toNat : Int) == (c.toNat : Int)) = false := by rw [bq]; simpa using e
        have e2 : ((x.toNat : Int) != (c.toNat : Int)) = true := by rw [bne, e1]; rfl
        have HV := Lib.hid (show without c (s.take (k + 1)) = without c (s.take k) ++ [x] by rw [HW.out, if_neg e])
        clear HW e bq
        generalize without c (s.take k) = T at *
        go_wp2_with fail
        go_roundw
        case rel => exact ⟨k + 1, by go_num, by omega, by rw [HV.out], HB⟩
        case measure => simp [RowKit.intOf]; omega
    · obtain rfl : k = s.length := by omega
      rw [HL.out]
      clear HWT HL hlt hk
      generalize without c s = D at *
      go_wp2_with fail
      refine (CB.out _).mono ?_
      rintro e w11 ⟨rfl, hD⟩
      have W11 := Lib.hid (blw_trans (show Below w.heap.size w _ by repeat (first | exact HB.out | refine blw_drewN ?_ _ | refine Below.alloc ?_ (by first | (simp; done) | omega | (simp; omega)) _)) hD.below)
      clear hD HB
      
      go_wp2_with fail
      refine (CP.out _).mono ?_
      rintro e w12 ⟨rfl, hb⟩
      have W12 := Lib.hid (blw_trans (show Below w.heap.size w _ by repeat (first | exact W11.out | refine blw_drewN ?_ _ | refine Below.setCell ?_ (by first | (simp; done) | omega | (simp; omega)) _ | refine Below.alloc ?_ (by first | (simp; done) | omega | (simp; omega)) _)) hb)
      have n12 := hb.size
      try simp at n12
      clear hb W11
      go_wp2_with fail
      refine (E3.out _ (hT.below (by repeat (first | exact W12.out | refine blw_drewN ?_ _ | refine Below.setCell ?_ (by first | (simp; done) | omega | (simp; omega)) _ | refine Below.alloc ?_ (by first | (simp; done) | omega | (simp; omega)) _)))).mono ?_
      rintro e w13 ⟨rfl, hb⟩
      have W13 := Lib.hid (blw_trans (show Below w.heap.size w _ by repeat (first | exact W12.out | refine blw_drewN ?_ _ | refine Below.setCell ?_ (by first | (simp; done) | omega | (simp; omega)) _ | refine Below.alloc ?_ (by first | (simp; done) | omega | (simp; omega)) _)) hb)
      have n13 := hb.size
      try simp at n13
      clear hb W12
      go_wp2_with fail
      refine (CT.out _ (hT.below (by repeat (first | exact W13.out | refine blw_drewN ?_ _ | refine Below.setCell ?_ (by first | (simp; done) | omega | (simp; omega)) _ | refine Below.alloc ?_ (by first | (simp; done) | omega | (simp; omega)) _))).m).mono ?_
      rintro e w14 ⟨rfl, hb⟩
      have W14 := Lib.hid (blw_trans (show Below w.heap.size w _ by repeat (first | exact W13.out | refine blw_drewN ?_ _ | refine Below.setCell ?_ (by first | (simp; done) | omega | (simp; omega)) _ | refine Below.alloc ?_ (by first | (simp; done) | omega | (simp; omega)) _)) hb)
      have n14 := hb.size
      try simp at n14
      clear hb W13
      go_wp2_with fail
      refine (E3.out _ (hT.below (by repeat (first | exact W14.out | refine blw_drewN ?_ _ | refine Below.setCell ?_ (by first | (simp; done) | omega | (simp; omega)) _ | refine Below.alloc ?_ (by first | (simp; done) | omega | (simp; omega)) _)))).mono ?_
      rintro e w15 ⟨rfl, hb⟩
      have W15 := Lib.hid (blw_trans (show Below w.heap.size w _ by repeat (first | exact W14.out | refine blw_drewN ?_ _ | refine Below.setCell ?_ (by first | (simp; done) | omega | (simp; omega)) _ | refine Below.alloc ?_ (by first | (simp; done) | omega | (simp; omega)) _)) hb)
      have n15 := hb.size
      try simp at n15
      clear hb W14
      go_wp2
      go_ret
      exact ⟨ret_bool (by simp), by repeat (first | exact W15.out | refine blw_drewN ?_ _ | refine Below.setCell ?_ (by first | (simp; done) | omega | (simp; omega)) _ | refine Below.alloc ?_ (by first | (simp; done) | omega | (simp; omega)) _)⟩

set_option maxRecDepth 100000 in
set_option maxHeartbeats 2000000 in
theorem groupTells_h0nb (d s : List UInt8) (g g2 : Int) (c : UInt8) (w : World) (hT : MH w) (hd : d.length ≤ 100000000) (hs : s.length ≤ 100000000) (n : 57 < (c.toNat : Int)) (r1 : ¬ g < 0) (r2 : ¬ 4 < g) (r3 : ¬ g2 < 0) (r4 : ¬ 4 < g2)
    (hq : digB d = false) (hb : digB (without c s) = true) (ho : gout (without c s) g g2 c ≠ s)
    (CP : Hid (∀ w : World, Calls Tryd.prog 38 #[.string ⟨d.toArray⟩, .int .i64 g, .int .i64 g2, .int .u8 (c.toNat : Int)] w fun e w' => e = .returned (.tuple #[.string ⟨#[]⟩, errV 3]) ∧ Below w.heap.size w w'))
    (CT : Hid (∀ w : World, MaxW w → Calls Tryd.prog 41 #[.string ⟨s.toArray⟩, .int .i64 g, .int .i64 g2, .int .u8 (c.toNat : Int)] w fun e w' => e = .returned (.tuple #[.string ⟨#[]⟩, errV 3]) ∧ Below w.heap.size w w')) :
    Calls Tryd.prog 13 #[.string ⟨d.toArray⟩, .string ⟨s.toArray⟩, .int .i64 g, .int .i64 g2, .int .u8 (c.toNat : Int)] w fun e w' => e = .returned (.bool true) ∧ Below w.heap.size w w' := by
  have d1 : decide (48 ≤ (c.toNat : Int)) = true := dec_yes (by omega)
  have d2 : decide ((c.toNat : Int) ≤ 57) = false := dec_no (by omega)
  have d3 : decide (g < 0) = false := dec_no (by omega)
  have d4 : decide (4 < g) = false := dec_no (by omega)
  have d5 : decide (g2 < 0) = false := dec_no (by omega)
  have d6 : decide (4 < g2) = false := dec_no (by omega)
  have C0 := Lib.hid fun w => grouped_any w
  have CV := fun w => conv_by c w
  have E0 := Lib.hid fun w (hT : MH w) => sameErr_yes ErrNo.nil w hT.h
  have E1 := Lib.hid fun w (hT : MH w) => sameErr_yes (ErrNo.no 1) w hT.h
  have E3 := Lib.hid fun w (hT : MH w) => sameErr_yes (ErrNo.no 3) w hT.h
  have CO := Lib.hid fun w => only_any d NUM 1 (d.length : Int) w (by omega) (by simp)
  rw [only_dig, hq] at CO
  have hwl := without_len c s
  have gl := gout_len d g g2 c
  have gl2 := gout_len (without c s) g g2 c
  have CB := Lib.hid fun w => only_any (without c s) NUM 1 ((without c s).length : Int) w (by omega) (by simp)
  rw [only_dig, hb] at CB
  have CH := Lib.hid fun w => rgrouped_any (without c s) g g2 c w (by omega) ⟨by omega, by omega, by omega, by omega⟩
  have q1 : (gout (without c s) g g2 c == s) = false := beq_eq_false_iff_ne.2 ho
  have q2 : (gout (without c s) g g2 c != s) = true := by rw [bne, q1]; rfl
  have HWT := Lib.hid fun k x hx => without_take c s k x hx
  have HL : Hid (without c (s.take s.length) = without c s) := Lib.hid (by rw [List.take_length])
  clear hq hb ho
  generalize gout (without c s) g g2 c = GB at *
  generalize gout d g g2 c = GA at *
  go_enter Tryd.func13, Tryd.ntmps13
  go_wp2_with fail
  refine (C0.out _).mono ?_
  rintro e w1 ⟨rfl, hb⟩
  have W1 := Lib.hid (blw_trans (show Below w.heap.size w _ by repeat (first | exact (Below.refl _ _) | refine blw_drewN ?_ _ | refine Below.setCell ?_ (by first | (simp; done) | omega | (simp; omega)) _ | refine Below.alloc ?_ (by first | (simp; done) | omega | (simp; omega)) _)) hb)
  have n1 := hb.size
  try simp at n1
  clear hb
  go_wp2_with fail
  refine (CO.out _).mono ?_
  rintro e w2 ⟨rfl, hD⟩
  have W2 := Lib.hid (blw_trans (show Below w.heap.size w _ by repeat (first | exact W1.out | refine blw_drewN ?_ _ | refine Below.alloc ?_ (by first | (simp; done) | omega | (simp; omega)) _)) hD.below)
  clear hD W1
  
  go_wp2_with fail
  clear CV
  go_loopw [16, 17] (fun b i wr => ∃ k : Nat, i = .int .i64 k ∧ k ≤ s.length ∧ b = .string ⟨(without c (s.take k)).toArray⟩ ∧ Hid (Below w.heap.size w wr)) (fun _ i _ => s.length - (RowKit.intOf i).toNat)
  case atStart => exact ⟨0, rfl, Nat.zero_le _, rfl, by first | exact W2 | exact Lib.hid (by repeat (first | exact W2.out | refine blw_drewN ?_ _ | refine Below.alloc ?_ (by first | (simp; done) | omega | (simp; omega)) _))⟩
  case round =>
    obtain ⟨k, rfl, hk, rfl, HB⟩ := hrel
    clear W2
    by_cases hlt : k < s.length
    · obtain ⟨x, hx⟩ : ∃ x, s[k]? = some x := ⟨s[k], List.getElem?_eq_getElem hlt⟩
      have IX := fun w => index_str (P := Tryd.prog) 9 Tryd.underlying9 s .i64 k x hx w
      have HW := Lib.hid (HWT.out k x hx)
      have hsd : (s.drop k).take (k + 1 - k) = [x] := by
        rw [show k + 1 - k = 1 by omega, List.drop_eq_getElem_cons hlt]
        have := (List.getElem?_eq_some_iff.1 hx).2
        simp [this]
      have SM : ∀ w, (Instr.slice 9 (.string ⟨s.toArray⟩) (some (.int .i64 (k : Int))) (some (.int .i64 ((k : Int) + 1))) none).run Tryd.prog w = .ok (.string ⟨[x].toArray⟩) w := fun w => by
        have q := slice_mid (P := Tryd.prog) 9 Tryd.underlying9 s .i64 .i64 k (k + 1) (by omega) (by omega) w
        rw [hsd] at q
        exact q
      have hl := without_len c (s.take k)
      have hl2 : (s.take k).length ≤ s.length := by rw [List.length_take]; omega
      have AD := fun w => add_str (P := Tryd.prog) (without c (s.take k)) [x] (by simp; omega) w
      clear hsd hx
      have bq := byte_eq (a := x) (b := c)
      by_cases e : x = c
      · have e1 : ((x.toNat : Int) == (c.toNat : Int)) = true := by rw [bq]; simp [e]
        have e2 : ((x.toNat : Int) != (c.toNat : Int)) = false := by rw [bne, e1]; rfl
        have HV := Lib.hid (show without c (s.take (k + 1)) = without c (s.take k) by rw [HW.out, if_pos e]; simp)
        clear HW e bq AD
        generalize without c (s.take k) = T at *
        go_wp2_with fail
        go_roundw
        case rel => exact ⟨k + 1, by go_num, by omega, by rw [HV.out], HB⟩
        case measure => simp [RowKit.intOf]; omega
      · have e1 : ((x.toNat : Int) == (c.toNat : Int)) = false := by rw [bq]; simpa using e
        have e2 : ((x.toNat : Int) != (c.toNat : Int)) = true := by rw [bne, e1]; rfl
        have HV := Lib.hid (show without c (s.take (k + 1)) = without c (s.take k) ++ [x] by rw [HW.out, if_neg e])
        clear HW e bq
        generalize without c (s.take k) = T at *
        go_wp2_with fail
        go_roundw
        case rel => exact ⟨k + 1, by go_num, by omega, by rw [HV.out], HB⟩
        case measure => simp [RowKit.intOf]; omega
    · obtain rfl : k = s.length := by omega
      rw [HL.out]
      clear HWT HL hlt hk
      generalize without c s = D at *
      go_wp2_with fail
      refine (CB.out _).mono ?_
      rintro e w11 ⟨rfl, hD⟩
      have W11 := Lib.hid (blw_trans (show Below w.heap.size w _ by repeat (first | exact HB.out | refine blw_drewN ?_ _ | refine Below.alloc ?_ (by first | (simp; done) | omega | (simp; omega)) _)) hD.below)
      clear hD HB
      
      go_wp2_with fail
      refine (CH.out _).mono ?_
      rintro e w12 ⟨rfl, hD⟩
      have W12 := Lib.hid (blw_trans (show Below w.heap.size w _ by repeat (first | exact W11.out | refine blw_drewN ?_ _ | refine Below.alloc ?_ (by first | (simp; done) | omega | (simp; omega)) _)) hD.below)
      clear hD W11
      
      go_wp2_with fail
      refine (CP.out _).mono ?_
      rintro e w13 ⟨rfl, hb⟩
      have W13 := Lib.hid (blw_trans (show Below w.heap.size w _ by repeat (first | exact W12.out | refine blw_drewN ?_ _ | refine Below.setCell ?_ (by first | (simp; done) | omega | (simp; omega)) _ | refine Below.alloc ?_ (by first | (simp; done) | omega | (simp; omega)) _)) hb)
      have n13 := hb.size
      try simp at n13
      clear hb W12
      go_wp2_with fail
      refine (E3.out _ (hT.below (by repeat (first | exact W13.out | refine blw_drewN ?_ _ | refine Below.setCell ?_ (by first | (simp; done) | omega | (simp; omega)) _ | refine Below.alloc ?_ (by first | (simp; done) | omega | (simp; omega)) _)))).mono ?_
      rintro e w14 ⟨rfl, hb⟩
      have W14 := Lib.hid (blw_trans (show Below w.heap.size w _ by repeat (first | exact W13.out | refine blw_drewN ?_ _ | refine Below.setCell ?_ (by first | (simp; done) | omega | (simp; omega)) _ | refine Below.alloc ?_ (by first | (simp; done) | omega | (simp; omega)) _)) hb)
      have n14 := hb.size
      try simp at n14
      clear hb W13
      go_wp2_with fail
      refine (CT.out _ (hT.below (by repeat (first | exact W14.out | refine blw_drewN ?_ _ | refine Below.setCell ?_ (by first | (simp; done) | omega | (simp; omega)) _ | refine Below.alloc ?_ (by first | (simp; done) | omega | (simp; omega)) _))).m).mono ?_
      rintro e w15 ⟨rfl, hb⟩
      have W15 := Lib.hid (blw_trans (show Below w.heap.size w _ by repeat (first | exact W14.out | refine blw_drewN ?_ _ | refine Below.setCell ?_ (by first | (simp; done) | omega | (simp; omega)) _ | refine Below.alloc ?_ (by first | (simp; done) | omega | (simp; omega)) _)) hb)
      have n15 := hb.size
      try simp at n15
      clear hb W14
      go_wp2_with fail
      refine (E3.out _ (hT.below (by repeat (first | exact W15.out | refine blw_drewN ?_ _ | refine Below.setCell ?_ (by first | (simp; done) | omega | (simp; omega)) _ | refine Below.alloc ?_ (by first | (simp; done) | omega | (simp; omega)) _)))).mono ?_
      rintro e w16 ⟨rfl, hb⟩
      have W16 := Lib.hid (blw_trans (show Below w.heap.size w _ by repeat (first | exact W15.out | refine blw_drewN ?_ _ | refine Below.setCell ?_ (by first | (simp; done) | omega | (simp; omega)) _ | refine Below.alloc ?_ (by first | (simp; done) | omega | (simp; omega)) _)) hb)
      have n16 := hb.size
      try simp at n16
      clear hb W15
      go_wp2
      go_ret
      exact ⟨ret_bool (by simp), by repeat (first | exact W16.out | refine blw_drewN ?_ _ | refine Below.setCell ?_ (by first | (simp; done) | omega | (simp; omega)) _ | refine Below.alloc ?_ (by first | (simp; done) | omega | (simp; omega)) _)⟩
end Go.Proofs.YtadolhlkpnphmaaDoor
