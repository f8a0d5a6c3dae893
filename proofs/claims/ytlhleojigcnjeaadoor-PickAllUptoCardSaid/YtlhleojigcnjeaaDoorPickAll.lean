/- The walk of the law PickAll. Conditions: the listed variables hold what the program lays; the tags are of bulk at most 100000000, and at most 1000000000 of them. -/
import Derived.Test.YtlhleojigcnjeaaDoorPickB
import Derived.Test.YtlhleojigcnjeaaDoorInChain
import Derived.Test.YtlhleojigcnjeaaDoorTagged
namespace Go.Proofs.YtlhleojigcnjeaaDoor
open Go.RowKit

theorem row_keep {w0 w w' : World} {e : TypeId} {v : Value} {n : Nat} {xs : List Value} (h : Hid (w0.heap.size ≤ w.heap.size ∧ w.ownsRow w0.heap.size e 1 v n xs)) (hb : Below w.heap.size w w') : Hid (w0.heap.size ≤ w'.heap.size ∧ w'.ownsRow w0.heap.size e 1 v n xs) :=
  Lib.hid ⟨Nat.le_trans h.out.1 hb.size, h.out.2.kept (grown_below hb none) (by cases v.ownBlock <;> simp)⟩

set_option maxRecDepth 100000 in
set_option maxHeartbeats 4000000 in
theorem pickall_f (t : Tg) (a : Option Addr) (n c : Nat) (L : List Tg) (A : Option Addr) (cap : Nat) (w : World) (hT : TM w) (hV : StrsAt w (.slice a n c) t.vs) (h0 : Nil0 (.slice a n c)) (bt : t.bulk ≤ 100000000) (hn : L.length ≤ 1000000000)
    (hL : TagsAt w (.slice A L.length cap) L) (hc : ∀ (j : Nat) t, L[j]? = some t → ∃ b off, A = some ⟨b, off, none⟩ ∧ TagCell w b (off + j * 4) t) (hb : ∀ x ∈ L, x.bulk ≤ 100000000) (hF : ¬ t.fault = 0) :
    Calls Tryd.prog 10 #[.agg #[.string ⟨t.l.toArray⟩, .string ⟨t.s.toArray⟩, .string ⟨t.r.toArray⟩, .slice a n c], .slice A L.length cap] w fun e w' => e = .returned (.bool true) ∧ Below w.heap.size w w' := by
  have HV := Lib.hid hV
  have HC := Lib.hid hc
  have CF := Lib.hid fun wx (h : Below w.heap.size w wx) => rfault_tag t.l t.s t.r t.vs (.slice a n c) wx (hV.below h) (by unfold Tg.bulk at bt; omega) (fun y hy => by have := lens_mem hy; unfold Tg.bulk at bt; omega)
  rw [show tagFault t.l t.s t.r t.vs = t.fault from rfl] at CF
  have CG := Lib.hid fun wx (h : Below w.heap.size w wx) => rfaults_any L (.slice A L.length cap) wx (hL.below h) hn hb
  have CA := Lib.hid fun wx (h : Below w.heap.size w wx) => all_any t (.slice a n c) L (.slice A L.length cap) wx (hV.below h) h0 bt (hL.below h) hn hb
  have hil := idxs_len L t L.length
  obtain ⟨ML, hML⟩ : ∃ ML, ML = allOf L t := ⟨_, rfl⟩
  rw [← hML] at CA
  have HML := Lib.hid (show ML = [] from hML.trans (if_neg fun h => hF h.1))
  have CI := Lib.hid fun va vb wx ha hb => sints_any ML va vb wx ha hb (by rw [hML, show allOf L t = [] from if_neg fun h => hF h.1]; simp)
  rw [show allErr L t = t.fault from if_neg hF, errE_some hF] at CA
  clear hML
  generalize t.fault = Fl at *
  have q1 : (Fl == 0) = false := beq_no hF
  have CE := Lib.hid fun w (h : TM w) => sameErr_yes (ErrNo.no Fl) w h.h
  clear hV hL hc hil
  go_enter Tryd.func10, Tryd.ntmps10
  go_wp2_with fail
  refine (tagged_any _ (hT.below (by repeat (first | exact (Below.refl _ _) | refine blw_drewN ?_ _ | refine Below.setCell ?_ (by first | (simp; done) | omega | (simp; omega)) _ | refine Below.alloc ?_ (by first | (simp; done) | omega | (simp; omega)) _))).m).mono ?_
  rintro e w1 ⟨rfl, hb⟩
  have W1 := Lib.hid (blw_trans (show Below w.heap.size w _ by repeat (first | exact (Below.refl _ _) | refine blw_drewN ?_ _ | refine Below.setCell ?_ (by first | (simp; done) | omega | (simp; omega)) _ | refine Below.alloc ?_ (by first | (simp; done) | omega | (simp; omega)) _)) hb)
  have n1 := hb.size
  try simp at n1
  have k1_t0 := cell_keep (a := ⟨w.heap.size, 0, none⟩) (v := .string ⟨t.l.toArray⟩) (by first | (go_keep; done) | (simp [go_sem, *]; done)) hb
  have k1_t1 := cell_keep (a := ⟨w.heap.size, 1, none⟩) (v := .string ⟨t.s.toArray⟩) (by first | (go_keep; done) | (simp [go_sem, *]; done)) hb
  have k1_t2 := cell_keep (a := ⟨w.heap.size, 2, none⟩) (v := .string ⟨t.r.toArray⟩) (by first | (go_keep; done) | (simp [go_sem, *]; done)) hb
  have k1_t3 := cell_keep (a := ⟨w.heap.size, 3, none⟩) (v := .slice a n c) (by first | (go_keep; done) | (simp [go_sem, *]; done)) hb
  have l1_t := World.block_lt_of_cell? _ _ k1_t0
  try simp only at l1_t
  clear hb
  go_wp2_with fail
  refine (CF.out _ (by repeat (first | exact W1.out | refine blw_drewN ?_ _ | refine Below.setCell ?_ (by first | (simp; done) | omega | (simp; omega)) _ | refine Below.alloc ?_ (by first | (simp; done) | omega | (simp; omega)) _))).mono ?_
  rintro e w2 ⟨rfl, hb⟩
  have W2 := Lib.hid (blw_trans (show Below w.heap.size w _ by repeat (first | exact W1.out | refine blw_drewN ?_ _ | refine Below.setCell ?_ (by first | (simp; done) | omega | (simp; omega)) _ | refine Below.alloc ?_ (by first | (simp; done) | omega | (simp; omega)) _)) hb)
  have n2 := hb.size
  try simp at n2
  have k2_t0 := cell_keep (a := ⟨w.heap.size, 0, none⟩) (v := .string ⟨t.l.toArray⟩) (by first | (go_keep; done) | (simp [go_sem, *]; done)) hb
  have k2_t1 := cell_keep (a := ⟨w.heap.size, 1, none⟩) (v := .string ⟨t.s.toArray⟩) (by first | (go_keep; done) | (simp [go_sem, *]; done)) hb
  have k2_t2 := cell_keep (a := ⟨w.heap.size, 2, none⟩) (v := .string ⟨t.r.toArray⟩) (by first | (go_keep; done) | (simp [go_sem, *]; done)) hb
  have k2_t3 := cell_keep (a := ⟨w.heap.size, 3, none⟩) (v := .slice a n c) (by first | (go_keep; done) | (simp [go_sem, *]; done)) hb
  have l2_t := World.block_lt_of_cell? _ _ k2_t0
  try simp only at l2_t
  clear hb k1_t0 k1_t1 k1_t2 k1_t3 l1_t W1
  go_wp2_with fail
  go_loopw [7, 8] (fun o i wr => o = .slice none 0 0 ∧ i = .int .i64 0 ∧ Hid (Below w.heap.size w wr) ∧ Hid (wr.cell? ⟨w.heap.size, 0, none⟩ = some (.string ⟨t.l.toArray⟩) ∧ wr.cell? ⟨w.heap.size, 1, none⟩ = some (.string ⟨t.s.toArray⟩) ∧ wr.cell? ⟨w.heap.size, 2, none⟩ = some (.string ⟨t.r.toArray⟩) ∧ wr.cell? ⟨w.heap.size, 3, none⟩ = some (.slice a n c))) (fun _ _ _ => 0)
  case atStart => exact ⟨rfl, rfl, Lib.hid (by repeat (first | exact W2.out | refine blw_drewN ?_ _ | refine Below.setCell ?_ (by first | (simp; done) | omega | (simp; omega)) _ | refine Below.alloc ?_ (by first | (simp; done) | omega | (simp; omega)) _)), Lib.hid ⟨by go_keep, by go_keep, by go_keep, by go_keep⟩⟩
  case round =>
    obtain ⟨rfl, rfl, HB, HT4⟩ := hrel
    obtain ⟨m0, m1, m2, m3⟩ := HT4.out
    have hsz := HB.out.size
    go_wp2_with fail
    refine (CA.out _ (by repeat (first | exact HB.out | refine blw_drewN ?_ _ | refine Below.setCell ?_ (by first | (simp; done) | omega | (simp; omega)) _ | refine Below.alloc ?_ (by first | (simp; done) | omega | (simp; omega)) _))).mono ?_
    rintro e w11 ⟨ga, gn, gc, rfl, hg, hb⟩
    have W11 := Lib.hid (blw_trans (show Below w.heap.size w _ by repeat (first | exact HB.out | refine blw_drewN ?_ _ | refine Below.setCell ?_ (by first | (simp; done) | omega | (simp; omega)) _ | refine Below.alloc ?_ (by first | (simp; done) | omega | (simp; omega)) _)) hb)
    have n11 := hb.size
    try simp at n11
    clear hb m0 m1 m2 m3 HB
    have HG := Lib.hid hg
    clear hg
    go_wp2_with fail
    refine (CE.out _ (hT.below (by repeat (first | exact W11.out | refine blw_drewN ?_ _ | refine Below.setCell ?_ (by first | (simp; done) | omega | (simp; omega)) _ | refine Below.alloc ?_ (by first | (simp; done) | omega | (simp; omega)) _)))).mono ?_
    rintro e w12 ⟨rfl, hb⟩
    have W12 := Lib.hid (blw_trans (show Below w.heap.size w _ by repeat (first | exact W11.out | refine blw_drewN ?_ _ | refine Below.setCell ?_ (by first | (simp; done) | omega | (simp; omega)) _ | refine Below.alloc ?_ (by first | (simp; done) | omega | (simp; omega)) _)) hb)
    have n12 := hb.size
    try simp at n12
    have H12_g := Lib.hid (IntsAt.below (show IntsAt _ (.slice ga gn gc) ML by repeat (first | exact HG.out | refine IntsAt.alloc ?_ _ | refine IntsAt.drewN ?_ _)) hb)
    clear hb HG W11
    go_wp2_with fail
    refine (CI.out _ _ _ (show IntsAt _ (.slice ga gn gc) ML by repeat (first | exact H12_g.out | refine IntsAt.alloc ?_ _ | refine IntsAt.drewN ?_ _)) (.inl ⟨HML.out, _, _, rfl⟩)).mono ?_
    rintro e w13 ⟨rfl, hb⟩
    have W13 := Lib.hid (blw_trans (show Below w.heap.size w _ by repeat (first | exact W12.out | refine blw_drewN ?_ _ | refine Below.setCell ?_ (by first | (simp; done) | omega | (simp; omega)) _ | refine Below.alloc ?_ (by first | (simp; done) | omega | (simp; omega)) _)) hb)
    have n13 := hb.size
    try simp at n13
    have H13_g := Lib.hid (IntsAt.below (show IntsAt _ (.slice ga gn gc) ML by repeat (first | exact H12_g.out | refine IntsAt.alloc ?_ _ | refine IntsAt.drewN ?_ _)) hb)
    clear hb H12_g W12
    go_wp2_with fail
    go_ret
    exact ⟨ret_bool (by first | rfl | (simp; done)), by repeat (first | exact W13.out | refine blw_drewN ?_ _ | refine Below.setCell ?_ (by first | (simp; done) | omega | (simp; omega)) _ | refine Below.alloc ?_ (by first | (simp; done) | omega | (simp; omega)) _)⟩

set_option maxRecDepth 100000 in
set_option maxHeartbeats 4000000 in
theorem pickall_g (t : Tg) (a : Option Addr) (n c : Nat) (L : List Tg) (A : Option Addr) (cap : Nat) (w : World) (hT : TM w) (hV : StrsAt w (.slice a n c) t.vs) (h0 : Nil0 (.slice a n c)) (bt : t.bulk ≤ 100000000) (hn : L.length ≤ 1000000000)
    (hL : TagsAt w (.slice A L.length cap) L) (hc : ∀ (j : Nat) t, L[j]? = some t → ∃ b off, A = some ⟨b, off, none⟩ ∧ TagCell w b (off + j * 4) t) (hb : ∀ x ∈ L, x.bulk ≤ 100000000) (hF : t.fault = 0) (hG : ¬ tfaults L = 0) :
    Calls Tryd.prog 10 #[.agg #[.string ⟨t.l.toArray⟩, .string ⟨t.s.toArray⟩, .string ⟨t.r.toArray⟩, .slice a n c], .slice A L.length cap] w fun e w' => e = .returned (.bool true) ∧ Below w.heap.size w w' := by
  have HV := Lib.hid hV
  have HC := Lib.hid hc
  have CF := Lib.hid fun wx (h : Below w.heap.size w wx) => rfault_tag t.l t.s t.r t.vs (.slice a n c) wx (hV.below h) (by unfold Tg.bulk at bt; omega) (fun y hy => by have := lens_mem hy; unfold Tg.bulk at bt; omega)
  rw [show tagFault t.l t.s t.r t.vs = t.fault from rfl] at CF
  have CG := Lib.hid fun wx (h : Below w.heap.size w wx) => rfaults_any L (.slice A L.length cap) wx (hL.below h) hn hb
  have CA := Lib.hid fun wx (h : Below w.heap.size w wx) => all_any t (.slice a n c) L (.slice A L.length cap) wx (hV.below h) h0 bt (hL.below h) hn hb
  have hil := idxs_len L t L.length
  obtain ⟨ML, hML⟩ : ∃ ML, ML = allOf L t := ⟨_, rfl⟩
  rw [← hML] at CA
  have HML := Lib.hid (show ML = [] from hML.trans (if_neg fun h => hG h.2))
  have CI := Lib.hid fun va vb wx ha hb => sints_any ML va vb wx ha hb (by rw [hML, show allOf L t = [] from if_neg fun h => hG h.2]; simp)
  rw [show allErr L t = tfaults L from if_pos hF, errE_some hG] at CA
  rw [hF] at CF
  clear hML
  generalize tfaults L = Gl at *
  have q1 : (Gl == 0) = false := beq_no hG
  have CE := Lib.hid fun w (h : TM w) => sameErr_yes (ErrNo.no Gl) w h.h
  clear hV hL hc hil
  go_enter Tryd.func10, Tryd.ntmps10
  go_wp2_with fail
  refine (tagged_any _ (hT.below (by repeat (first | exact (Below.refl _ _) | refine blw_drewN ?_ _ | refine Below.setCell ?_ (by first | (simp; done) | omega | (simp; omega)) _ | refine Below.alloc ?_ (by first | (simp; done) | omega | (simp; omega)) _))).m).mono ?_
  rintro e w1 ⟨rfl, hb⟩
  have W1 := Lib.hid (blw_trans (show Below w.heap.size w _ by repeat (first | exact (Below.refl _ _) | refine blw_drewN ?_ _ | refine Below.setCell ?_ (by first | (simp; done) | omega | (simp; omega)) _ | refine Below.alloc ?_ (by first | (simp; done) | omega | (simp; omega)) _)) hb)
  have n1 := hb.size
  try simp at n1
  have k1_t0 := cell_keep (a := ⟨w.heap.size, 0, none⟩) (v := .string ⟨t.l.toArray⟩) (by first | (go_keep; done) | (simp [go_sem, *]; done)) hb
  have k1_t1 := cell_keep (a := ⟨w.heap.size, 1, none⟩) (v := .string ⟨t.s.toArray⟩) (by first | (go_keep; done) | (simp [go_sem, *]; done)) hb
  have k1_t2 := cell_keep (a := ⟨w.heap.size, 2, none⟩) (v := .string ⟨t.r.toArray⟩) (by first | (go_keep; done) | (simp [go_sem, *]; done)) hb
  have k1_t3 := cell_keep (a := ⟨w.heap.size, 3, none⟩) (v := .slice a n c) (by first | (go_keep; done) | (simp [go_sem, *]; done)) hb
  have l1_t := World.block_lt_of_cell? _ _ k1_t0
  try simp only at l1_t
  clear hb
  go_wp2_with fail
  refine (CF.out _ (by repeat (first | exact W1.out | refine blw_drewN ?_ _ | refine Below.setCell ?_ (by first | (simp; done) | omega | (simp; omega)) _ | refine Below.alloc ?_ (by first | (simp; done) | omega | (simp; omega)) _))).mono ?_
  rintro e w2 ⟨rfl, hb⟩
  have W2 := Lib.hid (blw_trans (show Below w.heap.size w _ by repeat (first | exact W1.out | refine blw_drewN ?_ _ | refine Below.setCell ?_ (by first | (simp; done) | omega | (simp; omega)) _ | refine Below.alloc ?_ (by first | (simp; done) | omega | (simp; omega)) _)) hb)
  have n2 := hb.size
  try simp at n2
  have k2_t0 := cell_keep (a := ⟨w.heap.size, 0, none⟩) (v := .string ⟨t.l.toArray⟩) (by first | (go_keep; done) | (simp [go_sem, *]; done)) hb
  have k2_t1 := cell_keep (a := ⟨w.heap.size, 1, none⟩) (v := .string ⟨t.s.toArray⟩) (by first | (go_keep; done) | (simp [go_sem, *]; done)) hb
  have k2_t2 := cell_keep (a := ⟨w.heap.size, 2, none⟩) (v := .string ⟨t.r.toArray⟩) (by first | (go_keep; done) | (simp [go_sem, *]; done)) hb
  have k2_t3 := cell_keep (a := ⟨w.heap.size, 3, none⟩) (v := .slice a n c) (by first | (go_keep; done) | (simp [go_sem, *]; done)) hb
  have l2_t := World.block_lt_of_cell? _ _ k2_t0
  try simp only at l2_t
  clear hb k1_t0 k1_t1 k1_t2 k1_t3 l1_t W1
  go_wp2_with fail
  refine (CG.out _ (by repeat (first | exact W2.out | refine blw_drewN ?_ _ | refine Below.setCell ?_ (by first | (simp; done) | omega | (simp; omega)) _ | refine Below.alloc ?_ (by first | (simp; done) | omega | (simp; omega)) _))).mono ?_
  rintro e w3 ⟨rfl, hb⟩
  have W3 := Lib.hid (blw_trans (show Below w.heap.size w _ by repeat (first | exact W2.out | refine blw_drewN ?_ _ | refine Below.setCell ?_ (by first | (simp; done) | omega | (simp; omega)) _ | refine Below.alloc ?_ (by first | (simp; done) | omega | (simp; omega)) _)) hb)
  have n3 := hb.size
  try simp at n3
  have k3_t0 := cell_keep (a := ⟨w.heap.size, 0, none⟩) (v := .string ⟨t.l.toArray⟩) (by first | (go_keep; done) | (simp [go_sem, *]; done)) hb
  have k3_t1 := cell_keep (a := ⟨w.heap.size, 1, none⟩) (v := .string ⟨t.s.toArray⟩) (by first | (go_keep; done) | (simp [go_sem, *]; done)) hb
  have k3_t2 := cell_keep (a := ⟨w.heap.size, 2, none⟩) (v := .string ⟨t.r.toArray⟩) (by first | (go_keep; done) | (simp [go_sem, *]; done)) hb
  have k3_t3 := cell_keep (a := ⟨w.heap.size, 3, none⟩) (v := .slice a n c) (by first | (go_keep; done) | (simp [go_sem, *]; done)) hb
  have l3_t := World.block_lt_of_cell? _ _ k3_t0
  try simp only at l3_t
  clear hb k2_t0 k2_t1 k2_t2 k2_t3 l2_t W2
  go_wp2_with fail
  go_loopw [7, 8] (fun o i wr => o = .slice none 0 0 ∧ i = .int .i64 0 ∧ Hid (Below w.heap.size w wr) ∧ Hid (wr.cell? ⟨w.heap.size, 0, none⟩ = some (.string ⟨t.l.toArray⟩) ∧ wr.cell? ⟨w.heap.size, 1, none⟩ = some (.string ⟨t.s.toArray⟩) ∧ wr.cell? ⟨w.heap.size, 2, none⟩ = some (.string ⟨t.r.toArray⟩) ∧ wr.cell? ⟨w.heap.size, 3, none⟩ = some (.slice a n c))) (fun _ _ _ => 0)
  case atStart => exact ⟨rfl, rfl, Lib.hid (by repeat (first | exact W3.out | refine blw_drewN ?_ _ | refine Below.setCell ?_ (by first | (simp; done) | omega | (simp; omega)) _ | refine Below.alloc ?_ (by first | (simp; done) | omega | (simp; omega)) _)), Lib.hid ⟨by go_keep, by go_keep, by go_keep, by go_keep⟩⟩
  case round =>
    obtain ⟨rfl, rfl, HB, HT4⟩ := hrel
    obtain ⟨m0, m1, m2, m3⟩ := HT4.out
    have hsz := HB.out.size
    go_wp2_with fail
    refine (CA.out _ (by repeat (first | exact HB.out | refine blw_drewN ?_ _ | refine Below.setCell ?_ (by first | (simp; done) | omega | (simp; omega)) _ | refine Below.alloc ?_ (by first | (simp; done) | omega | (simp; omega)) _))).mono ?_
    rintro e w11 ⟨ga, gn, gc, rfl, hg, hb⟩
    have W11 := Lib.hid (blw_trans (show Below w.heap.size w _ by repeat (first | exact HB.out | refine blw_drewN ?_ _ | refine Below.setCell ?_ (by first | (simp; done) | omega | (simp; omega)) _ | refine Below.alloc ?_ (by first | (simp; done) | omega | (simp; omega)) _)) hb)
    have n11 := hb.size
    try simp at n11
    clear hb m0 m1 m2 m3 HB
    have HG := Lib.hid hg
    clear hg
    go_wp2_with fail
    refine (CE.out _ (hT.below (by repeat (first | exact W11.out | refine blw_drewN ?_ _ | refine Below.setCell ?_ (by first | (simp; done) | omega | (simp; omega)) _ | refine Below.alloc ?_ (by first | (simp; done) | omega | (simp; omega)) _)))).mono ?_
    rintro e w12 ⟨rfl, hb⟩
    have W12 := Lib.hid (blw_trans (show Below w.heap.size w _ by repeat (first | exact W11.out | refine blw_drewN ?_ _ | refine Below.setCell ?_ (by first | (simp; done) | omega | (simp; omega)) _ | refine Below.alloc ?_ (by first | (simp; done) | omega | (simp; omega)) _)) hb)
    have n12 := hb.size
    try simp at n12
    have H12_g := Lib.hid (IntsAt.below (show IntsAt _ (.slice ga gn gc) ML by repeat (first | exact HG.out | refine IntsAt.alloc ?_ _ | refine IntsAt.drewN ?_ _)) hb)
    clear hb HG W11
    go_wp2_with fail
    refine (CI.out _ _ _ (show IntsAt _ (.slice ga gn gc) ML by repeat (first | exact H12_g.out | refine IntsAt.alloc ?_ _ | refine IntsAt.drewN ?_ _)) (.inl ⟨HML.out, _, _, rfl⟩)).mono ?_
    rintro e w13 ⟨rfl, hb⟩
    have W13 := Lib.hid (blw_trans (show Below w.heap.size w _ by repeat (first | exact W12.out | refine blw_drewN ?_ _ | refine Below.setCell ?_ (by first | (simp; done) | omega | (simp; omega)) _ | refine Below.alloc ?_ (by first | (simp; done) | omega | (simp; omega)) _)) hb)
    have n13 := hb.size
    try simp at n13
    have H13_g := Lib.hid (IntsAt.below (show IntsAt _ (.slice ga gn gc) ML by repeat (first | exact H12_g.out | refine IntsAt.alloc ?_ _ | refine IntsAt.drewN ?_ _)) hb)
    clear hb H12_g W12
    go_wp2_with fail
    go_ret
    exact ⟨ret_bool (by first | rfl | (simp; done)), by repeat (first | exact W13.out | refine blw_drewN ?_ _ | refine Below.setCell ?_ (by first | (simp; done) | omega | (simp; omega)) _ | refine Below.alloc ?_ (by first | (simp; done) | omega | (simp; omega)) _)⟩

set_option maxRecDepth 100000 in
set_option maxHeartbeats 4000000 in
theorem pickall_o (t : Tg) (a : Option Addr) (n c : Nat) (L : List Tg) (A : Option Addr) (cap : Nat) (w : World) (hT : TM w) (hV : StrsAt w (.slice a n c) t.vs) (h0 : Nil0 (.slice a n c)) (bt : t.bulk ≤ 100000000) (hn : L.length ≤ 1000000000)
    (hL : TagsAt w (.slice A L.length cap) L) (hc : ∀ (j : Nat) t, L[j]? = some t → ∃ b off, A = some ⟨b, off, none⟩ ∧ TagCell w b (off + j * 4) t) (hb : ∀ x ∈ L, x.bulk ≤ 100000000) (hF : t.fault = 0) (hG : tfaults L = 0) :
    Calls Tryd.prog 10 #[.agg #[.string ⟨t.l.toArray⟩, .string ⟨t.s.toArray⟩, .string ⟨t.r.toArray⟩, .slice a n c], .slice A L.length cap] w fun e w' => e = .returned (.bool true) ∧ Below w.heap.size w w' := by
  have HV := Lib.hid hV
  have HC := Lib.hid hc
  have CF := Lib.hid fun wx (h : Below w.heap.size w wx) => rfault_tag t.l t.s t.r t.vs (.slice a n c) wx (hV.below h) (by unfold Tg.bulk at bt; omega) (fun y hy => by have := lens_mem hy; unfold Tg.bulk at bt; omega)
  rw [show tagFault t.l t.s t.r t.vs = t.fault from rfl] at CF
  have CG := Lib.hid fun wx (h : Below w.heap.size w wx) => rfaults_any L (.slice A L.length cap) wx (hL.below h) hn hb
  have CA := Lib.hid fun wx (h : Below w.heap.size w wx) => all_any t (.slice a n c) L (.slice A L.length cap) wx (hV.below h) h0 bt (hL.below h) hn hb
  have hil := idxs_len L t L.length
  obtain ⟨iI, hiI, hI0, hI1, hI2⟩ := info_parts infoInt
  have HBK := Lib.hid hb
  obtain ⟨ML, hML⟩ : ∃ ML, ML = allOf L t := ⟨_, rfl⟩
  rw [← hML] at CA
  have hML2 : ML = idxs L t L.length := hML.trans (if_pos ⟨hF, hG⟩)
  have HML := Lib.hid hML2
  have CI := Lib.hid fun va vb wx ha hb => sints_any ML va vb wx ha hb (by rw [hML2]; omega)
  rw [show allErr L t = tfaults L from if_pos hF, hG, errE_nil rfl] at CA
  rw [hF] at CF
  rw [hG] at CG
  have CE := Lib.hid fun w (h : TM w) => sameErr_yes ErrNo.nil w h.h
  have CW := Lib.hid fun (x : Tg) V wx hv hz hx hv2 => inchain_any x t V (.slice a n c) wx hv hz hx hv2 h0 bt
  have HY := Lib.hid fun (x : Tg) k (h : L[k]? = some x) hi => idxs_yes (t := t) h hi
  have HN := Lib.hid fun (x : Tg) k (h : L[k]? = some x) hi => idxs_no (t := t) h hi
  clear hML hML2 hF hG
  clear hV hL hc hil
  go_enter Tryd.func10, Tryd.ntmps10
  go_wp2_with fail
  refine (tagged_any _ (hT.below (by repeat (first | exact (Below.refl _ _) | refine blw_drewN ?_ _ | refine Below.setCell ?_ (by first | (simp; done) | omega | (simp; omega)) _ | refine Below.alloc ?_ (by first | (simp; done) | omega | (simp; omega)) _))).m).mono ?_
  rintro e w1 ⟨rfl, hb⟩
  have W1 := Lib.hid (blw_trans (show Below w.heap.size w _ by repeat (first | exact (Below.refl _ _) | refine blw_drewN ?_ _ | refine Below.setCell ?_ (by first | (simp; done) | omega | (simp; omega)) _ | refine Below.alloc ?_ (by first | (simp; done) | omega | (simp; omega)) _)) hb)
  have n1 := hb.size
  try simp at n1
  have k1_t0 := cell_keep (a := ⟨w.heap.size, 0, none⟩) (v := .string ⟨t.l.toArray⟩) (by first | (go_keep; done) | (simp [go_sem, *]; done)) hb
  have k1_t1 := cell_keep (a := ⟨w.heap.size, 1, none⟩) (v := .string ⟨t.s.toArray⟩) (by first | (go_keep; done) | (simp [go_sem, *]; done)) hb
  have k1_t2 := cell_keep (a := ⟨w.heap.size, 2, none⟩) (v := .string ⟨t.r.toArray⟩) (by first | (go_keep; done) | (simp [go_sem, *]; done)) hb
  have k1_t3 := cell_keep (a := ⟨w.heap.size, 3, none⟩) (v := .slice a n c) (by first | (go_keep; done) | (simp [go_sem, *]; done)) hb
  have l1_t := World.block_lt_of_cell? _ _ k1_t0
  try simp only at l1_t
  clear hb
  go_wp2_with fail
  refine (CF.out _ (by repeat (first | exact W1.out | refine blw_drewN ?_ _ | refine Below.setCell ?_ (by first | (simp; done) | omega | (simp; omega)) _ | refine Below.alloc ?_ (by first | (simp; done) | omega | (simp; omega)) _))).mono ?_
  rintro e w2 ⟨rfl, hb⟩
  have W2 := Lib.hid (blw_trans (show Below w.heap.size w _ by repeat (first | exact W1.out | refine blw_drewN ?_ _ | refine Below.setCell ?_ (by first | (simp; done) | omega | (simp; omega)) _ | refine Below.alloc ?_ (by first | (simp; done) | omega | (simp; omega)) _)) hb)
  have n2 := hb.size
  try simp at n2
  have k2_t0 := cell_keep (a := ⟨w.heap.size, 0, none⟩) (v := .string ⟨t.l.toArray⟩) (by first | (go_keep; done) | (simp [go_sem, *]; done)) hb
  have k2_t1 := cell_keep (a := ⟨w.heap.size, 1, none⟩) (v := .string ⟨t.s.toArray⟩) (by first | (go_keep; done) | (simp [go_sem, *]; done)) hb
  have k2_t2 := cell_keep (a := ⟨w.heap.size, 2, none⟩) (v := .string ⟨t.r.toArray⟩) (by first | (go_keep; done) | (simp [go_sem, *]; done)) hb
  have k2_t3 := cell_keep (a := ⟨w.heap.size, 3, none⟩) (v := .slice a n c) (by first | (go_keep; done) | (simp [go_sem, *]; done)) hb
  have l2_t := World.block_lt_of_cell? _ _ k2_t0
  try simp only at l2_t
  clear hb k1_t0 k1_t1 k1_t2 k1_t3 l1_t W1
  go_wp2_with fail
  refine (CG.out _ (by repeat (first | exact W2.out | refine blw_drewN ?_ _ | refine Below.setCell ?_ (by first | (simp; done) | omega | (simp; omega)) _ | refine Below.alloc ?_ (by first | (simp; done) | omega | (simp; omega)) _))).mono ?_
  rintro e w3 ⟨rfl, hb⟩
  have W3 := Lib.hid (blw_trans (show Below w.heap.size w _ by repeat (first | exact W2.out | refine blw_drewN ?_ _ | refine Below.setCell ?_ (by first | (simp; done) | omega | (simp; omega)) _ | refine Below.alloc ?_ (by first | (simp; done) | omega | (simp; omega)) _)) hb)
  have n3 := hb.size
  try simp at n3
  have k3_t0 := cell_keep (a := ⟨w.heap.size, 0, none⟩) (v := .string ⟨t.l.toArray⟩) (by first | (go_keep; done) | (simp [go_sem, *]; done)) hb
  have k3_t1 := cell_keep (a := ⟨w.heap.size, 1, none⟩) (v := .string ⟨t.s.toArray⟩) (by first | (go_keep; done) | (simp [go_sem, *]; done)) hb
  have k3_t2 := cell_keep (a := ⟨w.heap.size, 2, none⟩) (v := .string ⟨t.r.toArray⟩) (by first | (go_keep; done) | (simp [go_sem, *]; done)) hb
  have k3_t3 := cell_keep (a := ⟨w.heap.size, 3, none⟩) (v := .slice a n c) (by first | (go_keep; done) | (simp [go_sem, *]; done)) hb
  have l3_t := World.block_lt_of_cell? _ _ k3_t0
  try simp only at l3_t
  clear hb k2_t0 k2_t1 k2_t2 k2_t3 l2_t W2
  
  go_wp2_with fail
  have hlt0 : w.heap.size < w3.heap.size := l3_t
  have HT4 := Lib.hid (show ∀ wx, Below w3.heap.size w3 wx → wx.cell? ⟨w.heap.size, 0, none⟩ = some (.string ⟨t.l.toArray⟩) ∧ wx.cell? ⟨w.heap.size, 1, none⟩ = some (.string ⟨t.s.toArray⟩) ∧ wx.cell? ⟨w.heap.size, 2, none⟩ = some (.string ⟨t.r.toArray⟩) ∧ wx.cell? ⟨w.heap.size, 3, none⟩ = some (.slice a n c) from fun wx h => ⟨cell_keep k3_t0 h, cell_keep k3_t1 h, cell_keep k3_t2 h, cell_keep k3_t3 h⟩)
  have WW := W3
  clear k3_t0 k3_t1 k3_t2 k3_t3
  go_loopw [7, 8] (fun o i wr => ∃ (k m : Nat) (oa : Option Addr) (oc : Nat), i = .int .i64 k ∧ o = .slice oa m oc ∧ k ≤ L.length ∧ Hid (m = (idxs L t k).length) ∧ Hid (wr.ownsRow w3.heap.size 3 1 (.slice oa m oc) m ((idxs L t k).map intV)) ∧ Hid (Below w3.heap.size w3 wr)) (fun _ i _ => L.length - (RowKit.intOf i).toNat)
  case atStart => exact ⟨0, 0, none, 0, rfl, rfl, Nat.zero_le _, Lib.hid rfl, Lib.hid ⟨rfl, .inl ⟨rfl, rfl⟩⟩, Lib.hid (Below.refl _ _)⟩
  case round =>
    obtain ⟨k, m, oa, oc, rfl, rfl, hk, HM, HO, HB⟩ := hrel
    have hsz := HB.out.size
    by_cases hlt : k < L.length
    · obtain ⟨x, hx⟩ : ∃ x, L[k]? = some x := ⟨L[k], List.getElem?_eq_getElem hlt⟩
      obtain ⟨b, off, rfl, hcell⟩ := HC.out k x hx
      obtain ⟨xa, xn, xc, x0, x1, x2, x3, xs, xz⟩ := (hcell.below WW.out).below HB.out
      have HXS := Lib.hid xs
      have hxb := HBK.out x (List.mem_of_getElem? hx)
      have CX := Lib.hid fun wx hv hv2 => CW.out x (.slice xa xn xc) wx hv xz hxb hv2
      have HYX := Lib.hid fun hi => HY.out x k hx hi
      have HNX := Lib.hid fun hi => HN.out x k hx hi
      obtain ⟨t0, t1, t2, t3⟩ := HT4.out _ HB.out
      have HVR := Lib.hid ((HV.out.below WW.out).below HB.out)
      have hml : m ≤ 1000000000 := by have := idxs_len L t k; have := HM.out; omega
      clear hx xs xz hcell HY HN CW
      go_wp2_with fail
      refine wp_region_held_drew (S := fun w' => w'.cell? ⟨b, off + k * 4, none⟩ = some (.string ⟨x.l.toArray⟩) ∧ w'.cell? ⟨b, off + k * 4 + 1, none⟩ = some (.string ⟨x.s.toArray⟩) ∧ w'.cell? ⟨b, off + k * 4 + 2, none⟩ = some (.string ⟨x.r.toArray⟩) ∧ w'.cell? ⟨b, off + k * 4 + 3, none⟩ = some (.slice xa xn xc) ∧ w'.cell? ⟨w.heap.size, 0, none⟩ = some (.string ⟨t.l.toArray⟩) ∧ w'.cell? ⟨w.heap.size, 1, none⟩ = some (.string ⟨t.s.toArray⟩) ∧ w'.cell? ⟨w.heap.size, 2, none⟩ = some (.string ⟨t.r.toArray⟩) ∧ w'.cell? ⟨w.heap.size, 3, none⟩ = some (.slice a n c) ∧ Hid (StrsAt w' (.slice xa xn xc) x.vs) ∧ Hid (StrsAt w' (.slice a n c) t.vs) ∧ Hid (w3.heap.size ≤ w'.heap.size ∧ w'.ownsRow w3.heap.size 3 1 (.slice oa m oc) m ((idxs L t k).map intV)) ∧ Hid (Below w3.heap.size w3 w')) (by kernel_rfl) (by exact ⟨by go_keep, by go_keep, by go_keep, by go_keep, by go_keep, by go_keep, by go_keep, by go_keep, Lib.hid (StrsAt.drewN HXS.out 1), Lib.hid (StrsAt.drewN HVR.out 1), Lib.hid ⟨hsz, HO.out⟩, Lib.hid (Below.drew HB.out)⟩) (fun hHeld => ?_)
      refine take_run (d := (some 30)) (v := ?v1) 0 rfl rfl (by kernel_rfl) (by kernel_rfl) (by kernel_rfl) (fun _ _ _ h => h) (by rfl) hHeld ?hy1 ?rs1
      case hy1 => (intro w hSw; (try dsimp only at hSw); go_simp) <;> (try with_reducible rfl)
      (try simp only [Act.put, List.setIfInBounds_toArray, List.set_cons_zero, List.set_cons_succ])
      refine take_run (d := (some 31)) (v := ?v2) 1 rfl rfl (by kernel_rfl) (by kernel_rfl) (by kernel_rfl) (fun _ _ _ h => h) (by rfl) hHeld ?hy2 ?rs2
      case hy2 => (intro w hSw; (try dsimp only at hSw); go_simp) <;> (try with_reducible rfl)
      (try simp only [Act.put, List.setIfInBounds_toArray, List.set_cons_zero, List.set_cons_succ])
      refine take_run (d := (some 32)) (v := ?v3) 2 rfl rfl (by kernel_rfl) (by kernel_rfl) (by kernel_rfl) (fun _ _ _ h => h) (by rfl) hHeld ?hy3 ?rs3
      case hy3 => (intro w hSw; (try dsimp only at hSw); go_simp) <;> (try with_reducible rfl)
      (try simp only [Act.put, List.setIfInBounds_toArray, List.set_cons_zero, List.set_cons_succ])
      refine take_run (d := (some 33)) (v := ?v4) 3 rfl rfl (by kernel_rfl) (by kernel_rfl) (by kernel_rfl) (fun _ _ _ h => h) (by rfl) hHeld ?hy4 ?rs4
      case hy4 => (intro w hSw; (try dsimp only at hSw); go_simp) <;> (try with_reducible rfl)
      (try simp only [Act.put, List.setIfInBounds_toArray, List.set_cons_zero, List.set_cons_succ])
      refine take_run (d := (some 34)) (v := ?v5) 4 rfl rfl (by kernel_rfl) (by kernel_rfl) (by kernel_rfl) (fun _ _ _ h => h) (by rfl) hHeld ?hy5 ?rs5
      case hy5 => (intro w hSw; (try dsimp only at hSw); go_simp) <;> (try with_reducible rfl)
      (try simp only [Act.put, List.setIfInBounds_toArray, List.set_cons_zero, List.set_cons_succ])
      refine take_call 5 rfl (by kernel_rfl) (by rfl) (fun K hK => ?_)
      go_simp
      refine (CX.out _ (by obtain ⟨_, _, _, _, _, _, _, _, h1, _⟩ := hHeld; exact h1.out) (by obtain ⟨_, _, _, _, _, _, _, _, _, h1, _⟩ := hHeld; exact h1.out)).mono ?_
      rintro e w' ⟨rfl, hb⟩
      refine hK.out _ _ (by obtain ⟨h0, h1, h2, h3, h4, h5, h6, h7, h8, h9, h10, hw⟩ := hHeld; exact ⟨cell_keep h0 hb, cell_keep h1 hb, cell_keep h2 hb, cell_keep h3 hb, cell_keep h4 hb, cell_keep h5 hb, cell_keep h6 hb, cell_keep h7 hb, Lib.hid (h8.out.below hb), Lib.hid (h9.out.below hb), row_keep h10 hb, Lib.hid (blw_trans hw.out hb)⟩) (fun hHeld => ?_)
      clear hK K
      (try simp only [Act.put, List.setIfInBounds_toArray, List.set_cons_zero, List.set_cons_succ])
      refine wpAnyH_done (by kernel_rfl) ?_ _
      obtain ⟨z0, z1, z2, z3, z4, z5, z6, z7, z8, z9, z10, zW⟩ := hHeld
      clear z0 z1 z2 z3 z4 z5 z6 z7 z8 z9 x0 x1 x2 x3 t0 t1 t2 t3 HXS HVR HB HO CX
      cases hi : inChain x t with
      | false =>
        have HNI := Lib.hid (HNX.out hi)
        go_wp2_with fail
        go_roundw
        case rel => exact ⟨k + 1, m, oa, oc, by go_num, rfl, by omega, Lib.hid (by rw [HNI.out]; exact HM.out), Lib.hid (by rw [HNI.out]; exact z10.out.2), zW⟩
        case measure => simp [RowKit.intOf]; omega
      | true =>
        have HYI := Lib.hid (HYX.out hi)
        have own := z10.out.2
        have hbs := z10.out.1
        generalize idxs L t k = P at *
        go_wp2_with (at_builtin; refine wpList_append_own _ rfl _ _ 56 rfl w3.heap.size 3 iI (.int .i64 0) 1 8 Tryd.underlying56 hiI hI0 hI1 hI2 rfl (by decide) _ m (P.map intV) rfl (own.alloc _) ⟨w'.heap.size, 0, none⟩ 1 1 [.int .i64 (k : Int)] rfl rfl (cell_one_new _ _ _) (fun x hx => by simp at hx; subst hx; rfl) (by unfold maxLen; omega) (by omega) (by simp; omega) ?_; intro v' w14 hown hgrow _; have HO4 := Lib.hid hown; have HB4 := Lib.hid (show Below w3.heap.size w3 w14 from (zW.out.alloc hbs _).grown hgrow (by simp; omega) (fun k hk => (own.lt k hk).1)); obtain ⟨oa', oc', rfl⟩ := row_slice HO4.out; clear hown hgrow own)
        go_roundw
        case rel => exact ⟨k + 1, m + 1, oa', oc', by go_num, rfl, by omega, Lib.hid (by rw [HYI.out, List.length_append, HM.out]; rfl), Lib.hid (by rw [HYI.out, List.map_append]; exact HO4.out), HB4⟩
        case measure => simp [RowKit.intOf]; omega
    · obtain rfl : k = L.length := by omega
      obtain ⟨m0, m1, m2, m3⟩ := HT4.out _ HB.out
      have HOI := Lib.hid (show IntsAt wr (.slice oa m oc) ML by rw [HML.out]; exact IntsAt.of_row HO.out)
      have HBB := Lib.hid (blw_trans WW.out HB.out)
      clear HT4 HM HO HB WW
      go_wp2_with fail
      refine (CA.out _ (by repeat (first | exact HBB.out | refine blw_drewN ?_ _ | refine Below.setCell ?_ (by first | (simp; done) | omega | (simp; omega)) _ | refine Below.alloc ?_ (by first | (simp; done) | omega | (simp; omega)) _))).mono ?_
      rintro e w21 ⟨ga, gn, gc, rfl, hg, hb⟩
      have W21 := Lib.hid (blw_trans (show Below w.heap.size w _ by repeat (first | exact HBB.out | refine blw_drewN ?_ _ | refine Below.setCell ?_ (by first | (simp; done) | omega | (simp; omega)) _ | refine Below.alloc ?_ (by first | (simp; done) | omega | (simp; omega)) _)) hb)
      have n21 := hb.size
      try simp at n21
      have H21_o := Lib.hid (IntsAt.below (show IntsAt _ (.slice oa m oc) ML by repeat (first | exact HOI.out | refine IntsAt.alloc ?_ _ | refine IntsAt.drewN ?_ _)) hb)
      clear hb HOI m0 m1 m2 m3 HBB
      have HG := Lib.hid hg
      clear hg
      go_wp2_with fail
      refine (CE.out _ (hT.below (by repeat (first | exact W21.out | refine blw_drewN ?_ _ | refine Below.setCell ?_ (by first | (simp; done) | omega | (simp; omega)) _ | refine Below.alloc ?_ (by first | (simp; done) | omega | (simp; omega)) _)))).mono ?_
      rintro e w22 ⟨rfl, hb⟩
      have W22 := Lib.hid (blw_trans (show Below w.heap.size w _ by repeat (first | exact W21.out | refine blw_drewN ?_ _ | refine Below.setCell ?_ (by first | (simp; done) | omega | (simp; omega)) _ | refine Below.alloc ?_ (by first | (simp; done) | omega | (simp; omega)) _)) hb)
      have n22 := hb.size
      try simp at n22
      have H22_o := Lib.hid (IntsAt.below (show IntsAt _ (.slice oa m oc) ML by repeat (first | exact H21_o.out | refine IntsAt.alloc ?_ _ | refine IntsAt.drewN ?_ _)) hb)
      have H22_g := Lib.hid (IntsAt.below (show IntsAt _ (.slice ga gn gc) ML by repeat (first | exact HG.out | refine IntsAt.alloc ?_ _ | refine IntsAt.drewN ?_ _)) hb)
      clear hb H21_o HG W21
      go_wp2_with fail
      refine (CI.out _ _ _ (show IntsAt _ (.slice ga gn gc) ML by repeat (first | exact H22_g.out | refine IntsAt.alloc ?_ _ | refine IntsAt.drewN ?_ _)) (show IntsAt _ (.slice oa m oc) ML by repeat (first | exact H22_o.out | refine IntsAt.alloc ?_ _ | refine IntsAt.drewN ?_ _))).mono ?_
      rintro e w23 ⟨rfl, hb⟩
      have W23 := Lib.hid (blw_trans (show Below w.heap.size w _ by repeat (first | exact W22.out | refine blw_drewN ?_ _ | refine Below.setCell ?_ (by first | (simp; done) | omega | (simp; omega)) _ | refine Below.alloc ?_ (by first | (simp; done) | omega | (simp; omega)) _)) hb)
      have n23 := hb.size
      try simp at n23
      have H23_o := Lib.hid (IntsAt.below (show IntsAt _ (.slice oa m oc) ML by repeat (first | exact H22_o.out | refine IntsAt.alloc ?_ _ | refine IntsAt.drewN ?_ _)) hb)
      have H23_g := Lib.hid (IntsAt.below (show IntsAt _ (.slice ga gn gc) ML by repeat (first | exact H22_g.out | refine IntsAt.alloc ?_ _ | refine IntsAt.drewN ?_ _)) hb)
      clear hb H22_o H22_g W22
      go_wp2_with fail
      go_ret
      exact ⟨ret_bool (by first | rfl | (simp; done)), by repeat (first | exact W23.out | refine blw_drewN ?_ _ | refine Below.setCell ?_ (by first | (simp; done) | omega | (simp; omega)) _ | refine Below.alloc ?_ (by first | (simp; done) | omega | (simp; omega)) _)⟩

theorem pickall_any (l s r : List UInt8) (vs : List (List UInt8)) (V : Value) (L : List Tg) (v : Value) (w : World) (hT : TM w) (hV : StrsAt w V vs) (h0 : Nil0 V) (bt : l.length + s.length + r.length + Lib.lens vs + vs.length ≤ 100000000)
    (hL : TagsAt w v L) (hn : L.length ≤ 1000000000) (hb : ∀ x ∈ L, x.bulk ≤ 100000000) :
    Calls Tryd.prog 10 #[.agg #[.string ⟨l.toArray⟩, .string ⟨s.toArray⟩, .string ⟨r.toArray⟩, V], v] w fun e w' => e = .returned (.bool true) ∧ Below w.heap.size w w' := by
  obtain ⟨a, n, c, rfl⟩ := hV.isSlice
  have hL' := hL
  obtain ⟨A, cap, rfl, hc⟩ := hL.spread
  by_cases hF : (⟨l, s, r, vs⟩ : Tg).fault = 0
  · by_cases hG : tfaults L = 0
    · exact pickall_o ⟨l, s, r, vs⟩ a n c L A cap w hT hV h0 bt hn hL' hc hb hF hG
    · exact pickall_g ⟨l, s, r, vs⟩ a n c L A cap w hT hV h0 bt hn hL' hc hb hF hG
  · exact pickall_f ⟨l, s, r, vs⟩ a n c L A cap w hT hV h0 bt hn hL' hc hb hF
end Go.Proofs.YtlhleojigcnjeaaDoor
