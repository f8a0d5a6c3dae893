/- The walk of the law ChainShort. Conditions: the library's variable MaxLen holds a number; the tag is of bulk at most 100000000. -/
import Derived.Test.YtlhleojigcnjeaaDoorWithin
import Derived.Test.YtlhleojigcnjeaaDoorSameTag
import Derived.Test.YtlhleojigcnjeaaDoorTagged
namespace Go.Proofs.YtlhleojigcnjeaaDoor
open Go.RowKit

theorem chain_pair {t : Tg} (h : t.Ok) (k : Nat) (hk : k + 1 < t.chain.length) : ∃ x y, t.chain[k]? = some x ∧ t.chain[k + 1]? = some y ∧ y.parts = x.parts.take (x.parts.length - 1) ∧ 1 < x.parts.length ∧ 0 < y.parts.length := by
  obtain ⟨h1, h2⟩ := chain_take _ t rfl h
  have hs := ok_size h
  obtain ⟨x, hx, _, px⟩ := h2 k (by omega)
  obtain ⟨y, hy, _, py⟩ := h2 (k + 1) (by omega)
  have lx : x.parts.length = t.size + 1 - k := by rw [px, List.length_take]; omega
  refine ⟨x, y, hx, hy, ?_, by omega, by rw [py, List.length_take]; omega⟩
  rw [lx, px, py, List.take_take]
  congr 1
  omega
theorem chain_ends {t : Tg} (h : t.Ok) : t.chain.length = t.parts.length ∧ 0 < t.chain.length ∧ t.chain[0]? = some t ∧ ∃ z, t.chain[t.chain.length - 1]? = some z ∧ z.txt = t.l := by
  obtain ⟨h1, h2⟩ := chain_take _ t rfl h
  have hs := ok_size h
  refine ⟨by omega, by omega, by rw [chain_step]; rfl, ?_⟩
  obtain ⟨z, hz, zo, pz⟩ := h2 t.size (Nat.le_refl _)
  refine ⟨z, by rw [h1, Nat.add_sub_cancel]; exact hz, ?_⟩
  rw [Tg.txt_join, pz, show t.size + 1 - t.size = 1 by omega, ok_parts h]
  simp [Lib.join_one]
theorem parts_gives (x : Tg) (V : Value) (w : World) (hV : StrsAt w V x.vs) (h0 : Nil0 V) (hn : x.vs.length ≤ 1000000000) (hp : 0 < x.parts.length) :
    Calls Tryd.prog 20 #[.agg #[.string ⟨x.l.toArray⟩, .string ⟨x.s.toArray⟩, .string ⟨x.r.toArray⟩, V]] w fun e w' => ∃ b off c, e = .returned (.slice (some ⟨b, off, none⟩) x.parts.length c) ∧ x.parts.length ≤ c ∧ StrsAt w' (.slice (some ⟨b, off, none⟩) x.parts.length c) x.parts ∧ StrsAt w' (.slice (some ⟨b, off, none⟩) (x.parts.length - 1) c) (x.parts.take (x.parts.length - 1)) ∧ Below w.heap.size w w' := by
  refine (rparts_any x.l x.s x.r x.vs V w hV h0 hn).mono ?_
  rintro e w' ⟨v, rfl, hs, hb⟩
  have hs' : StrsAt w' v x.parts := hs
  rcases hs with ⟨e, _⟩ | ⟨b, off, c, rfl, h1, h2, h3, h4⟩
  · have e2 : x.parts = [] := e
    rw [e2] at hp; simp at hp
  · have hl : (x.parts.take (x.parts.length - 1)).length = x.parts.length - 1 := by rw [List.length_take]; omega
    refine ⟨b, off, c, rfl, h2, hs', ?_, hb⟩
    have h2' : x.parts.length ≤ c := h2
    by_cases h0 : x.parts.length - 1 = 0
    · exact .inl ⟨List.length_eq_zero_iff.1 (by rw [hl]; exact h0), some ⟨b, off, none⟩, c, by rw [h0]⟩
    · refine .inr ⟨b, off, c, by rw [hl], by rw [hl]; omega, by rw [hl]; omega, h3, fun j y hy => ?_⟩
      have hj := (List.getElem?_eq_some_iff.1 hy).1
      rw [hl] at hj
      rw [List.getElem?_take, if_pos hj] at hy
      exact h4 j y hy
theorem Drew.bel {w w' : World} (h : Drew w w') : Below w.heap.size w w' := by
  obtain ⟨n, rfl⟩ := h
  exact blw_drewN (Below.refl _ _) n

set_option maxRecDepth 100000 in
set_option maxHeartbeats 1000000 in
theorem chainshort_f (l s r : List UInt8) (vs : List (List UInt8)) (a : Option Addr) (n c : Nat) (w : World) (hT : MaxW w) (hV : StrsAt w (.slice a n c) vs) (h0 : Nil0 (.slice a n c)) (bt : l.length + s.length + r.length + Lib.lens vs + vs.length ≤ 100000000) (hF : tagFault l s r vs ≠ 0) :
    Calls Tryd.prog 4 #[.agg #[.string ⟨l.toArray⟩, .string ⟨s.toArray⟩, .string ⟨r.toArray⟩, .slice a n c]] w fun e w' => e = .returned (.bool true) ∧ Below w.heap.size w w' := by
  have CC := Lib.hid fun wx (h : Below w.heap.size w wx) => chain_any l s r vs (.slice a n c) wx (hV.below h) h0 bt
  rw [if_neg hF, errE_some hF] at CC
  generalize tagFault l s r vs = Fl at *
  clear hV h0
  go_enter Tryd.func4, Tryd.ntmps4
  go_wp2_with fail
  refine (tagged_any _ (hT.below (by repeat (first | exact (Below.refl _ _) | refine blw_drewN ?_ _ | refine Below.setCell ?_ (by first | (simp; done) | omega | (simp; omega)) _ | refine Below.alloc ?_ (by first | (simp; done) | omega | (simp; omega)) _)))).mono ?_
  rintro e w1 ⟨rfl, hb⟩
  have W1 := Lib.hid (blw_trans (show Below w.heap.size w _ by repeat (first | exact (Below.refl _ _) | refine blw_drewN ?_ _ | refine Below.setCell ?_ (by first | (simp; done) | omega | (simp; omega)) _ | refine Below.alloc ?_ (by first | (simp; done) | omega | (simp; omega)) _)) hb)
  have n1 := hb.size
  try simp at n1
  have k1_x0 := cell_keep (a := ⟨w.heap.size, 0, none⟩) (v := .string ⟨l.toArray⟩) (by first | (go_keep; done) | (simp [go_sem, *]; done)) hb
  have k1_x1 := cell_keep (a := ⟨w.heap.size, 1, none⟩) (v := .string ⟨s.toArray⟩) (by first | (go_keep; done) | (simp [go_sem, *]; done)) hb
  have k1_x2 := cell_keep (a := ⟨w.heap.size, 2, none⟩) (v := .string ⟨r.toArray⟩) (by first | (go_keep; done) | (simp [go_sem, *]; done)) hb
  have k1_x3 := cell_keep (a := ⟨w.heap.size, 3, none⟩) (v := .slice a n c) (by first | (go_keep; done) | (simp [go_sem, *]; done)) hb
  have l1_x := World.block_lt_of_cell? _ _ k1_x0
  try simp only at l1_x
  clear hb
  go_wp2_with fail
  refine (CC.out _ (by repeat (first | exact W1.out | refine blw_drewN ?_ _ | refine Below.setCell ?_ (by first | (simp; done) | omega | (simp; omega)) _ | refine Below.alloc ?_ (by first | (simp; done) | omega | (simp; omega)) _))).mono ?_
  rintro e w2 ⟨sa, sn, sc, rfl, hv, hb⟩
  obtain rfl : sn = 0 := by
    rcases hv with ⟨_, _, _, e⟩ | ⟨_, _, _, _, h, _⟩
    · injection e
    · simp at h
  have W2 := Lib.hid (blw_trans (show Below w.heap.size w _ by repeat (first | exact W1.out | refine blw_drewN ?_ _ | refine Below.setCell ?_ (by first | (simp; done) | omega | (simp; omega)) _ | refine Below.alloc ?_ (by first | (simp; done) | omega | (simp; omega)) _)) hb)
  have n2 := hb.size
  try simp at n2
  have k2_x0 := cell_keep (a := ⟨w.heap.size, 0, none⟩) (v := .string ⟨l.toArray⟩) (by first | (go_keep; done) | (simp [go_sem, *]; done)) hb
  have k2_x1 := cell_keep (a := ⟨w.heap.size, 1, none⟩) (v := .string ⟨s.toArray⟩) (by first | (go_keep; done) | (simp [go_sem, *]; done)) hb
  have k2_x2 := cell_keep (a := ⟨w.heap.size, 2, none⟩) (v := .string ⟨r.toArray⟩) (by first | (go_keep; done) | (simp [go_sem, *]; done)) hb
  have k2_x3 := cell_keep (a := ⟨w.heap.size, 3, none⟩) (v := .slice a n c) (by first | (go_keep; done) | (simp [go_sem, *]; done)) hb
  have l2_x := World.block_lt_of_cell? _ _ k2_x0
  try simp only at l2_x
  clear hb k1_x0 k1_x1 k1_x2 k1_x3 l1_x W1
  clear hv
  go_wp2_with fail
  go_ret
  exact ⟨ret_bool (by first | rfl | (simp; done)), by repeat (first | exact W2.out | refine blw_drewN ?_ _ | refine Below.setCell ?_ (by first | (simp; done) | omega | (simp; omega)) _ | refine Below.alloc ?_ (by first | (simp; done) | omega | (simp; omega)) _)⟩

set_option maxRecDepth 100000 in
set_option maxHeartbeats 4000000 in
theorem chainshort_ok (l s r : List UInt8) (vs : List (List UInt8)) (a : Option Addr) (n c : Nat) (w : World) (hT : MaxW w) (hV : StrsAt w (.slice a n c) vs) (h0 : Nil0 (.slice a n c)) (bt : l.length + s.length + r.length + Lib.lens vs + vs.length ≤ 100000000) (hF : tagFault l s r vs = 0) :
    Calls Tryd.prog 4 #[.agg #[.string ⟨l.toArray⟩, .string ⟨s.toArray⟩, .string ⟨r.toArray⟩, .slice a n c]] w fun e w' => e = .returned (.bool true) ∧ Below w.heap.size w w' := by
  have ok : (⟨l, s, r, vs⟩ : Tg).Ok := right_of hF
  have CC := Lib.hid fun wx (h : Below w.heap.size w wx) => chain_any l s r vs (.slice a n c) wx (hV.below h) h0 bt
  rw [if_pos hF, hF, errE_nil rfl] at CC
  obtain ⟨hl, hpos, hz0, z, hz, hzt⟩ := chain_ends ok
  have CP := Lib.hid fun wx (h : Below w.heap.size w wx) => parts_gives ⟨l, s, r, vs⟩ (.slice a n c) wx (hV.below h) h0 (by show vs.length ≤ _; omega) (by omega)
  rw [← hl] at CP
  have HPR := Lib.hid (show ∀ k, k + 1 < (⟨l, s, r, vs⟩ : Tg).chain.length → _ from fun k hk => chain_pair ok k hk)
  have HSM := Lib.hid (show ∀ x ∈ (⟨l, s, r, vs⟩ : Tg).chain, x.bulk ≤ 100000000 ∧ x.vs.length ≤ 1000000000 from fun x hx => ⟨Nat.le_trans (chain_bulk _ _ rfl x hx) bt, Nat.le_trans ((chain_small _ (⟨l, s, r, vs⟩ : Tg) rfl).2 x hx) (by show vs.length ≤ _; omega)⟩)
  have HLN := Lib.hid (show (⟨l, s, r, vs⟩ : Tg).chain.length ≤ 1000000010 from by
    have h := (chain_small _ (⟨l, s, r, vs⟩ : Tg) rfl).1
    have a1 : (one s).length ≤ 1 := by unfold one; split <;> simp
    have a2 : (one r).length ≤ 1 := by unfold one; split <;> simp
    have e : (⟨l, s, r, vs⟩ : Tg).size = (one s).length + ((one r).length + vs.length) := rfl
    omega)
  have CX := Lib.hid fun (x : Tg) V wx hv hz (hx : x.bulk ≤ 100000000) => text_any x.l x.s x.r x.vs V wx hv hz (by unfold Tg.bulk at hx; omega)
  have CT := Lib.hid fun wx (h : Below w.heap.size w wx) => text_any l s r vs (.slice a n c) wx (hV.below h) h0 bt
  have CQ := Lib.hid fun (x : Tg) V wx hv hz hn hp => parts_gives x V wx hv hz hn hp
  have CS := Lib.hid fun (P : List (List UInt8)) va vb wx ha hb (hp : P.length ≤ 4000000000) => (texts_any P P va vb wx ha hb (by unfold maxLen; omega) (by unfold maxLen; omega)).mono fun e w' (h : e = .returned (.bool (decide (P = P))) ∧ Drew wx w') => (show e = .returned (.bool true) ∧ Below wx.heap.size wx w' from ⟨h.1.trans (by rw [decide_eq_true rfl]), h.2.bel⟩)
  have HZT := Lib.hid (show tagText z.l z.s z.r z.vs = l from hzt)
  have HZ := Lib.hid hz
  have HZ0 := Lib.hid hz0
  have HXX := Lib.hid (show ∃ X, X = tagText l s r vs from ⟨_, rfl⟩)
  clear hz hz0 hzt hl ok hF
  generalize (⟨l, s, r, vs⟩ : Tg).chain = L at *
  have hll := HLN.out
  generalize hNL : L.length = N at *
  have HNL := Lib.hid hNL
  clear hNL
  go_enter Tryd.func4, Tryd.ntmps4
  go_wp2_with fail
  refine (tagged_any _ (hT.below (by repeat (first | exact (Below.refl _ _) | refine blw_drewN ?_ _ | refine Below.setCell ?_ (by first | (simp; done) | omega | (simp; omega)) _ | refine Below.alloc ?_ (by first | (simp; done) | omega | (simp; omega)) _)))).mono ?_
  rintro e w1 ⟨rfl, hb⟩
  have W1 := Lib.hid (blw_trans (show Below w.heap.size w _ by repeat (first | exact (Below.refl _ _) | refine blw_drewN ?_ _ | refine Below.setCell ?_ (by first | (simp; done) | omega | (simp; omega)) _ | refine Below.alloc ?_ (by first | (simp; done) | omega | (simp; omega)) _)) hb)
  have n1 := hb.size
  try simp at n1
  have k1_x0 := cell_keep (a := ⟨w.heap.size, 0, none⟩) (v := .string ⟨l.toArray⟩) (by first | (go_keep; done) | (simp [go_sem, *]; done)) hb
  have k1_x1 := cell_keep (a := ⟨w.heap.size, 1, none⟩) (v := .string ⟨s.toArray⟩) (by first | (go_keep; done) | (simp [go_sem, *]; done)) hb
  have k1_x2 := cell_keep (a := ⟨w.heap.size, 2, none⟩) (v := .string ⟨r.toArray⟩) (by first | (go_keep; done) | (simp [go_sem, *]; done)) hb
  have k1_x3 := cell_keep (a := ⟨w.heap.size, 3, none⟩) (v := .slice a n c) (by first | (go_keep; done) | (simp [go_sem, *]; done)) hb
  have l1_x := World.block_lt_of_cell? _ _ k1_x0
  try simp only at l1_x
  clear hb
  go_wp2_with fail
  refine (CC.out _ (by repeat (first | exact W1.out | refine blw_drewN ?_ _ | refine Below.setCell ?_ (by first | (simp; done) | omega | (simp; omega)) _ | refine Below.alloc ?_ (by first | (simp; done) | omega | (simp; omega)) _))).mono ?_
  rintro e w2 ⟨sa, sn, sc, rfl, hv, hb⟩
  have W2 := Lib.hid (blw_trans (show Below w.heap.size w _ by repeat (first | exact W1.out | refine blw_drewN ?_ _ | refine Below.setCell ?_ (by first | (simp; done) | omega | (simp; omega)) _ | refine Below.alloc ?_ (by first | (simp; done) | omega | (simp; omega)) _)) hb)
  have n2 := hb.size
  try simp at n2
  have k2_x0 := cell_keep (a := ⟨w.heap.size, 0, none⟩) (v := .string ⟨l.toArray⟩) (by first | (go_keep; done) | (simp [go_sem, *]; done)) hb
  have k2_x1 := cell_keep (a := ⟨w.heap.size, 1, none⟩) (v := .string ⟨s.toArray⟩) (by first | (go_keep; done) | (simp [go_sem, *]; done)) hb
  have k2_x2 := cell_keep (a := ⟨w.heap.size, 2, none⟩) (v := .string ⟨r.toArray⟩) (by first | (go_keep; done) | (simp [go_sem, *]; done)) hb
  have k2_x3 := cell_keep (a := ⟨w.heap.size, 3, none⟩) (v := .slice a n c) (by first | (go_keep; done) | (simp [go_sem, *]; done)) hb
  have l2_x := World.block_lt_of_cell? _ _ k2_x0
  try simp only at l2_x
  clear hb k1_x0 k1_x1 k1_x2 k1_x3 l1_x W1
  rcases hv with ⟨e, _⟩ | ⟨b, off, cap, ev, _, hlc, _, hcell⟩
  · have := HNL.out
    rw [e] at this; simp at this; omega
  rw [HNL.out] at ev hlc
  injection ev with e1 e2 e3
  subst e1 e2 e3
  have HC := Lib.hid hcell
  clear hcell
  have HCW := Lib.hid (show ∀ wx, Below w2.heap.size w2 wx → ∀ (j : Nat) t, L[j]? = some t → TagCell wx b (off + j * 4) t from fun wx hx j t ht => (HC.out j t ht).below hx)
  clear HC
  have WC := W2
  go_wp2_with fail
  refine (CP.out _ (by repeat (first | exact W2.out | refine blw_drewN ?_ _ | refine Below.setCell ?_ (by first | (simp; done) | omega | (simp; omega)) _ | refine Below.alloc ?_ (by first | (simp; done) | omega | (simp; omega)) _))).mono ?_
  rintro e w3 ⟨pb, po, pc, rfl, hpc, _, _, hb⟩
  have W3 := Lib.hid (blw_trans (show Below w.heap.size w _ by repeat (first | exact W2.out | refine blw_drewN ?_ _ | refine Below.setCell ?_ (by first | (simp; done) | omega | (simp; omega)) _ | refine Below.alloc ?_ (by first | (simp; done) | omega | (simp; omega)) _)) hb)
  have n3 := hb.size
  try simp at n3
  have k3_x0 := cell_keep (a := ⟨w.heap.size, 0, none⟩) (v := .string ⟨l.toArray⟩) (by first | (go_keep; done) | (simp [go_sem, *]; done)) hb
  have k3_x1 := cell_keep (a := ⟨w.heap.size, 1, none⟩) (v := .string ⟨s.toArray⟩) (by first | (go_keep; done) | (simp [go_sem, *]; done)) hb
  have k3_x2 := cell_keep (a := ⟨w.heap.size, 2, none⟩) (v := .string ⟨r.toArray⟩) (by first | (go_keep; done) | (simp [go_sem, *]; done)) hb
  have k3_x3 := cell_keep (a := ⟨w.heap.size, 3, none⟩) (v := .slice a n c) (by first | (go_keep; done) | (simp [go_sem, *]; done)) hb
  have l3_x := World.block_lt_of_cell? _ _ k3_x0
  try simp only at l3_x
  have hb2 := hb
  clear hb k2_x0 k2_x1 k2_x2 k2_x3 l2_x W2
  have HB3 := Lib.hid (show Below w2.heap.size w2 w3 from hb2)
  obtain ⟨ta, tn, tc, t0, t1, t2, t3, ts, tz⟩ := HCW.out _ HB3.out 0 _ HZ0.out
  rw [Nat.zero_mul, Nat.add_zero] at t0 t1 t2 t3
  obtain ⟨za, zn, zc, z0', z1', z2', z3', zs, zz⟩ := HCW.out _ HB3.out (sn - 1) z HZ.out
  have HTS := Lib.hid ts
  have HTZ := Lib.hid tz
  have HZS := Lib.hid zs
  have HZZ := Lib.hid zz
  have bz := (HSM.out z (List.mem_of_getElem? HZ.out)).1
  have b0 := (HSM.out _ (List.mem_of_getElem? HZ0.out)).1
  have CZ := Lib.hid fun wx hv => CX.out z (.slice za zn zc) wx hv HZZ.out bz
  rw [HZT.out] at CZ
  have CA := Lib.hid fun wx hv => CX.out ⟨l, s, r, vs⟩ (.slice ta tn tc) wx hv HTZ.out b0
  dsimp only at CA
  obtain ⟨X, hX⟩ := HXX.out
  rw [← hX] at CA CT
  have hsub : IntKind.i64.wrap ((sn : Int) - 1) = ((sn - 1 : Nat) : Int) := by rw [IntWalk.i64_in _ (by omega)]; omega
  have hsub2 : ((sn : Int) - 1) = ((sn - 1 : Nat) : Int) := by omega
  have hsub3 : IntKind.i64.wrap ((sn - 1 : Nat) : Int) = ((sn - 1 : Nat) : Int) := IntWalk.i64_in _ (by omega)
  have hlt : sn - 1 < sn := by omega
  have hlti : ((sn - 1 : Nat) : Int) < (sn : Int) := by omega
  clear ts tz zs zz hX
  go_wp2_with fail
  refine wp_region_held_drew (S := fun w' => w'.cell? ⟨b, off, none⟩ = some (.string ⟨l.toArray⟩) ∧ w'.cell? ⟨b, off + 1, none⟩ = some (.string ⟨s.toArray⟩) ∧ w'.cell? ⟨b, off + 2, none⟩ = some (.string ⟨r.toArray⟩) ∧ w'.cell? ⟨b, off + 3, none⟩ = some (.slice ta tn tc) ∧ w'.cell? ⟨b, off + (sn - 1) * 4, none⟩ = some (.string ⟨z.l.toArray⟩) ∧ w'.cell? ⟨b, off + (sn - 1) * 4 + 1, none⟩ = some (.string ⟨z.s.toArray⟩) ∧ w'.cell? ⟨b, off + (sn - 1) * 4 + 2, none⟩ = some (.string ⟨z.r.toArray⟩) ∧ w'.cell? ⟨b, off + (sn - 1) * 4 + 3, none⟩ = some (.slice za zn zc) ∧ w'.cell? ⟨w.heap.size, 0, none⟩ = some (.string ⟨l.toArray⟩) ∧ w'.cell? ⟨w.heap.size, 1, none⟩ = some (.string ⟨s.toArray⟩) ∧ w'.cell? ⟨w.heap.size, 2, none⟩ = some (.string ⟨r.toArray⟩) ∧ w'.cell? ⟨w.heap.size, 3, none⟩ = some (.slice a n c) ∧ Hid (StrsAt w' (.slice ta tn tc) vs) ∧ Hid (StrsAt w' (.slice za zn zc) z.vs) ∧ Hid (Below w2.heap.size w2 w')) (by kernel_rfl) (by exact ⟨by go_keep, by go_keep, by go_keep, by go_keep, by go_keep, by go_keep, by go_keep, by go_keep, by go_keep, by go_keep, by go_keep, by go_keep, Lib.hid (StrsAt.drewN HTS.out 1), Lib.hid (StrsAt.drewN HZS.out 1), Lib.hid (Below.drew HB3.out)⟩) (fun hHeld => ?_)
  refine take_run (d := (some 26)) (v := ?v1) 0 rfl rfl (by kernel_rfl) (by kernel_rfl) (by kernel_rfl) (fun _ _ _ h => h) (by rfl) hHeld ?hy1 ?rs1
  case hy1 => (intro w hSw; (try dsimp only at hSw); go_simp) <;> (try with_reducible rfl)
  (try simp only [Act.put, List.setIfInBounds_toArray, List.set_cons_zero, List.set_cons_succ])
  refine take_run (d := (some 27)) (v := ?v2) 1 rfl rfl (by kernel_rfl) (by kernel_rfl) (by kernel_rfl) (fun _ _ _ h => h) (by rfl) hHeld ?hy2 ?rs2
  case hy2 => (intro w hSw; (try dsimp only at hSw); go_simp) <;> (try with_reducible rfl)
  (try simp only [Act.put, List.setIfInBounds_toArray, List.set_cons_zero, List.set_cons_succ])
  refine take_run (d := (some 28)) (v := ?v3) 2 rfl rfl (by kernel_rfl) (by kernel_rfl) (by kernel_rfl) (fun _ _ _ h => h) (by rfl) hHeld ?hy3 ?rs3
  case hy3 => (intro w hSw; (try dsimp only at hSw); go_simp) <;> (try with_reducible rfl)
  (try simp only [Act.put, List.setIfInBounds_toArray, List.set_cons_zero, List.set_cons_succ])
  refine take_run (d := (some 29)) (v := ?v4) 3 rfl rfl (by kernel_rfl) (by kernel_rfl) (by kernel_rfl) (fun _ _ _ h => h) (by rfl) hHeld ?hy4 ?rs4
  case hy4 => (intro w hSw; (try dsimp only at hSw); go_simp) <;> (try with_reducible rfl)
  (try simp only [Act.put, List.setIfInBounds_toArray, List.set_cons_zero, List.set_cons_succ])
  refine take_run (d := (some 30)) (v := ?v5) 4 rfl rfl (by kernel_rfl) (by kernel_rfl) (by kernel_rfl) (fun _ _ _ h => h) (by rfl) hHeld ?hy5 ?rs5
  case hy5 => (intro w hSw; (try dsimp only at hSw); go_simp) <;> (try with_reducible rfl)
  (try simp only [Act.put, List.setIfInBounds_toArray, List.set_cons_zero, List.set_cons_succ])
  refine take_run (d := (some 31)) (v := ?v6) 5 rfl rfl (by kernel_rfl) (by kernel_rfl) (by kernel_rfl) (fun _ _ _ h => h) (by rfl) hHeld ?hy6 ?rs6
  case hy6 => (intro w hSw; (try dsimp only at hSw); go_simp) <;> (try with_reducible rfl)
  (try simp only [Act.put, List.setIfInBounds_toArray, List.set_cons_zero, List.set_cons_succ])
  refine take_run (d := (some 32)) (v := ?v7) 6 rfl rfl (by kernel_rfl) (by kernel_rfl) (by kernel_rfl) (fun _ _ _ h => h) (by rfl) hHeld ?hy7 ?rs7
  case hy7 => (intro w hSw; (try dsimp only at hSw); go_simp) <;> (try with_reducible rfl)
  (try simp only [Act.put, List.setIfInBounds_toArray, List.set_cons_zero, List.set_cons_succ])
  refine take_run (d := (some 33)) (v := ?v8) 7 rfl rfl (by kernel_rfl) (by kernel_rfl) (by kernel_rfl) (fun _ _ _ h => h) (by rfl) hHeld ?hy8 ?rs8
  case hy8 => (intro w hSw; (try dsimp only at hSw); go_simp) <;> (try with_reducible rfl)
  (try simp only [Act.put, List.setIfInBounds_toArray, List.set_cons_zero, List.set_cons_succ])
  refine take_run (d := (some 35)) (v := ?v9) 9 rfl rfl (by kernel_rfl) (by kernel_rfl) (by kernel_rfl) (fun _ _ _ h => h) (by rfl) hHeld ?hy9 ?rs9
  case hy9 => (intro w hSw; (try dsimp only at hSw); go_simp) <;> (try with_reducible rfl)
  (try simp only [Act.put, List.setIfInBounds_toArray, List.set_cons_zero, List.set_cons_succ])
  refine take_call 8 rfl (by kernel_rfl) (by rfl) (fun K hK => ?_)
  go_simp
  refine (CA.out _ (by obtain ⟨_, _, _, _, _, _, _, _, _, _, _, _, h1, _⟩ := hHeld; exact h1.out)).mono ?_
  rintro e w' ⟨rfl, hb⟩
  refine hK.out _ _ (by obtain ⟨h0, h1, h2, h3, h4, h5, h6, h7, h8, h9, h10, h11, h12, h13, hw⟩ := hHeld; exact ⟨cell_keep h0 hb, cell_keep h1 hb, cell_keep h2 hb, cell_keep h3 hb, cell_keep h4 hb, cell_keep h5 hb, cell_keep h6 hb, cell_keep h7 hb, cell_keep h8 hb, cell_keep h9 hb, cell_keep h10 hb, cell_keep h11 hb, Lib.hid (h12.out.below hb), Lib.hid (h13.out.below hb), Lib.hid (blw_trans hw.out hb)⟩) (fun hHeld => ?_)
  clear hK K
  (try simp only [Act.put, List.setIfInBounds_toArray, List.set_cons_zero, List.set_cons_succ])
  refine take_call 10 rfl (by kernel_rfl) (by rfl) (fun K hK => ?_)
  go_simp
  refine (CT.out _ (by obtain ⟨_, _, _, _, _, _, _, _, _, _, _, _, _, _, h1⟩ := hHeld; exact blw_trans WC.out h1.out)).mono ?_
  rintro e w' ⟨rfl, hb⟩
  refine hK.out _ _ (by obtain ⟨h0, h1, h2, h3, h4, h5, h6, h7, h8, h9, h10, h11, h12, h13, hw⟩ := hHeld; exact ⟨cell_keep h0 hb, cell_keep h1 hb, cell_keep h2 hb, cell_keep h3 hb, cell_keep h4 hb, cell_keep h5 hb, cell_keep h6 hb, cell_keep h7 hb, cell_keep h8 hb, cell_keep h9 hb, cell_keep h10 hb, cell_keep h11 hb, Lib.hid (h12.out.below hb), Lib.hid (h13.out.below hb), Lib.hid (blw_trans hw.out hb)⟩) (fun hHeld => ?_)
  clear hK K
  (try simp only [Act.put, List.setIfInBounds_toArray, List.set_cons_zero, List.set_cons_succ])
  refine take_run (d := (some 37)) (v := ?v12) 11 rfl rfl (by kernel_rfl) (by kernel_rfl) (by kernel_rfl) (fun _ _ _ h => h) (by rfl) hHeld ?hy12 ?rs12
  case hy12 => (intro w hSw; (try dsimp only at hSw); go_simp) <;> (try with_reducible rfl)
  (try simp only [Act.put, List.setIfInBounds_toArray, List.set_cons_zero, List.set_cons_succ])
  refine take_run (d := (some 38)) (v := ?v13) 12 rfl rfl (by kernel_rfl) (by kernel_rfl) (by kernel_rfl) (fun _ _ _ h => h) (by rfl) hHeld ?hy13 ?rs13
  case hy13 => (intro w hSw; (try dsimp only at hSw); go_simp) <;> (try with_reducible rfl)
  (try simp only [Act.put, List.setIfInBounds_toArray, List.set_cons_zero, List.set_cons_succ])
  refine take_run (d := (some 39)) (v := ?v14) 13 rfl rfl (by kernel_rfl) (by kernel_rfl) (by kernel_rfl) (fun _ _ _ h => h) (by rfl) hHeld ?hy14 ?rs14
  case hy14 => (intro w hSw; (try dsimp only at hSw); go_simp) <;> (try with_reducible rfl)
  (try simp only [Act.put, List.setIfInBounds_toArray, List.set_cons_zero, List.set_cons_succ])
  refine take_run (d := (some 40)) (v := ?v15) 14 rfl rfl (by kernel_rfl) (by kernel_rfl) (by kernel_rfl) (fun _ _ _ h => h) (by rfl) hHeld ?hy15 ?rs15
  case hy15 => (intro w hSw; (try dsimp only at hSw); go_simp) <;> (try with_reducible rfl)
  (try simp only [Act.put, List.setIfInBounds_toArray, List.set_cons_zero, List.set_cons_succ])
  refine take_run (d := (some 41)) (v := ?v16) 15 rfl rfl (by kernel_rfl) (by kernel_rfl) (by kernel_rfl) (fun _ _ _ h => h) (by rfl) hHeld ?hy16 ?rs16
  case hy16 => (intro w hSw; (try dsimp only at hSw); go_simp) <;> (try with_reducible rfl)
  (try simp only [Act.put, List.setIfInBounds_toArray, List.set_cons_zero, List.set_cons_succ])
  refine take_run (d := (some 42)) (v := ?v17) 16 rfl rfl (by kernel_rfl) (by kernel_rfl) (by kernel_rfl) (fun _ _ _ h => h) (by rfl) hHeld ?hy17 ?rs17
  case hy17 => (intro w hSw; (try dsimp only at hSw); go_simp) <;> (try with_reducible rfl)
  (try simp only [Act.put, List.setIfInBounds_toArray, List.set_cons_zero, List.set_cons_succ])
  refine take_run (d := (some 43)) (v := ?v18) 17 rfl rfl (by kernel_rfl) (by kernel_rfl) (by kernel_rfl) (fun _ _ _ h => h) (by rfl) hHeld ?hy18 ?rs18
  case hy18 => (intro w hSw; (try dsimp only at hSw); go_simp) <;> (try with_reducible rfl)
  (try simp only [Act.put, List.setIfInBounds_toArray, List.set_cons_zero, List.set_cons_succ])
  refine take_run (d := (some 44)) (v := ?v19) 18 rfl rfl (by kernel_rfl) (by kernel_rfl) (by kernel_rfl) (fun _ _ _ h => h) (by rfl) hHeld ?hy19 ?rs19
  case hy19 => (intro w hSw; (try dsimp only at hSw); go_simp) <;> (try with_reducible rfl)
  (try simp only [Act.put, List.setIfInBounds_toArray, List.set_cons_zero, List.set_cons_succ])
  refine take_run (d := (some 46)) (v := ?v20) 20 rfl rfl (by kernel_rfl) (by kernel_rfl) (by kernel_rfl) (fun _ _ _ h => h) (by rfl) hHeld ?hy20 ?rs20
  case hy20 => (intro w hSw; (try dsimp only at hSw); go_simp) <;> (try with_reducible rfl)
  (try simp only [Act.put, List.setIfInBounds_toArray, List.set_cons_zero, List.set_cons_succ])
  refine take_run (d := (some 47)) (v := ?v21) 21 rfl rfl (by kernel_rfl) (by kernel_rfl) (by kernel_rfl) (fun _ _ _ h => h) (by rfl) hHeld ?hy21 ?rs21
  case hy21 => (intro w hSw; (try dsimp only at hSw); go_simp) <;> (try with_reducible rfl)
  (try simp only [Act.put, List.setIfInBounds_toArray, List.set_cons_zero, List.set_cons_succ])
  refine take_call 19 rfl (by kernel_rfl) (by rfl) (fun K hK => ?_)
  go_simp
  refine (CZ.out _ (by obtain ⟨_, _, _, _, _, _, _, _, _, _, _, _, _, h1, _⟩ := hHeld; exact h1.out)).mono ?_
  rintro e w' ⟨rfl, hb⟩
  refine hK.out _ _ (by obtain ⟨h0, h1, h2, h3, h4, h5, h6, h7, h8, h9, h10, h11, h12, h13, hw⟩ := hHeld; exact ⟨cell_keep h0 hb, cell_keep h1 hb, cell_keep h2 hb, cell_keep h3 hb, cell_keep h4 hb, cell_keep h5 hb, cell_keep h6 hb, cell_keep h7 hb, cell_keep h8 hb, cell_keep h9 hb, cell_keep h10 hb, cell_keep h11 hb, Lib.hid (h12.out.below hb), Lib.hid (h13.out.below hb), Lib.hid (blw_trans hw.out hb)⟩) (fun hHeld => ?_)
  clear hK K
  (try simp only [Act.put, List.setIfInBounds_toArray, List.set_cons_zero, List.set_cons_succ])
  refine take_run (d := (some 48)) (v := ?v23) 22 rfl rfl (by kernel_rfl) (by kernel_rfl) (by kernel_rfl) (fun _ _ _ h => h) (by rfl) hHeld ?hy23 ?rs23
  case hy23 => (intro w hSw; (try dsimp only at hSw); go_simp) <;> (try with_reducible rfl)
  (try simp only [Act.put, List.setIfInBounds_toArray, List.set_cons_zero, List.set_cons_succ])
  refine take_run (d := (some 49)) (v := ?v24) 23 rfl rfl (by kernel_rfl) (by kernel_rfl) (by kernel_rfl) (fun _ _ _ h => h) (by rfl) hHeld ?hy24 ?rs24
  case hy24 => (intro w hSw; (try dsimp only at hSw); go_simp) <;> (try with_reducible rfl)
  (try simp only [Act.put, List.setIfInBounds_toArray, List.set_cons_zero, List.set_cons_succ])
  refine wpAnyH_done (by kernel_rfl) ?_ _
  obtain ⟨z0, z1, z2, z3, z4, z5, z6, z7, z8, z9, z10, z11, z12, z13, zW⟩ := hHeld
  clear z0 z1 z2 z3 z4 z5 z6 z7 z8 z9 z10 z11 z12 z13 t0 t1 t2 t3 z0' z1' z2' z3' hsub hsub2 hsub3 hlt hlti CA CZ CT HTS HZS
  go_wp2_with fail
  go_loopw [7] (fun i wr => ∃ k : Nat, i = .int .i64 ((k : Int) + 1) ∧ k + 1 ≤ sn ∧ Hid (Below w2.heap.size w2 wr)) (fun i _ => sn + 1 - (RowKit.intOf i).toNat)
  case atStart => exact ⟨0, rfl, by omega, zW⟩
  case round =>
    obtain ⟨k, rfl, hk, HB⟩ := hrel
    by_cases hlt : k + 1 < sn
    · obtain ⟨x, y, hx, hy, hp, hx1, hy1⟩ := HPR.out k hlt
      have mx := HSM.out x (List.mem_of_getElem? hx)
      have my := HSM.out y (List.mem_of_getElem? hy)
      obtain ⟨xa, xn, xc, x0, x1, x2, x3, xs, xz⟩ := HCW.out wr HB.out k x hx
      have HXS := Lib.hid xs
      have HXZ := Lib.hid xz
      have HYC := Lib.hid (show ∀ wx, Below w2.heap.size w2 wx → TagCell wx b (off + (k + 1) * 4) y from fun wx hw => HCW.out wx hw (k + 1) y hy)
      have HPP := Lib.hid hp
      have h1 : ((k : Int) + 1 < (sn : Int)) := by omega
      have h2 : ((k : Int) + 1 - 1) = (k : Int) := by omega
      have h4 : (0 : Int) ≤ (k : Int) + 1 := by omega
      have h3 : IntKind.i64.wrap (k : Int) = (k : Int) := IntWalk.i64_in _ (by omega)
      have hkN : k < sn := by omega
      have hlx : x.parts.length ≤ 2000000000 := by have := (parts_small x.l x.s x.r x.vs).2; have e : x.parts = parts x.l x.s x.r x.vs := rfl; rw [e]; omega
      clear hx hy hp xs xz
      go_wp2_with fail
      refine (CQ.out x (.slice xa xn xc) _ HXS.out HXZ.out mx.2 (by omega)).mono ?_
      rintro e w9 ⟨qb, qo, qc, rfl, hqc, _, hq, hb⟩
      have W9 := Lib.hid (blw_trans (show Below w2.heap.size w2 wr from HB.out) hb)
      obtain ⟨ya, yn, yc, y0, y1, y2, y3, ys, yz⟩ := HYC.out _ W9.out
      have HYS := Lib.hid ys
      have HYZ := Lib.hid yz
      have HQ := Lib.hid (show StrsAt w9 (.slice (some ⟨qb, qo, none⟩) (x.parts.length - 1) qc) y.parts by rw [HPP.out]; exact hq)
      have hly : y.parts.length ≤ 4000000000 := by have := (parts_small y.l y.s y.r y.vs).2; have e : y.parts = parts y.l y.s y.r y.vs := rfl; rw [e]; omega
      have hs1 : IntKind.i64.wrap ((x.parts.length : Int) - 1) = ((x.parts.length - 1 : Nat) : Int) := by rw [IntWalk.i64_in _ (by omega)]; omega
      have hs2 : ((x.parts.length : Int) - 1) = ((x.parts.length - 1 : Nat) : Int) := by omega
      have hs3 : IntKind.i64.wrap ((x.parts.length - 1 : Nat) : Int) = ((x.parts.length - 1 : Nat) : Int) := IntWalk.i64_in _ (by omega)
      have hc1 : x.parts.length - 1 ≤ qc := by omega
      have hc2 : ((x.parts.length - 1 : Nat) : Int) ≤ (qc : Int) := by omega
      clear hb hq ys yz x0 x1 x2 x3 HXS HXZ HPP h2 h3 hqc
      generalize x.parts.length = PX at *
      go_wp2_with fail
  
      refine wp_region_held_drew (S := fun w' => w'.cell? ⟨b, off + (k + 1) * 4, none⟩ = some (.string ⟨y.l.toArray⟩) ∧ w'.cell? ⟨b, off + (k + 1) * 4 + 1, none⟩ = some (.string ⟨y.s.toArray⟩) ∧ w'.cell? ⟨b, off + (k + 1) * 4 + 2, none⟩ = some (.string ⟨y.r.toArray⟩) ∧ w'.cell? ⟨b, off + (k + 1) * 4 + 3, none⟩ = some (.slice ya yn yc) ∧ Hid (StrsAt w' (.slice ya yn yc) y.vs) ∧ Hid (StrsAt w' (.slice (some ⟨qb, qo, none⟩) (PX - 1) qc) y.parts) ∧ Hid (Below w2.heap.size w2 w')) (by kernel_rfl) (by exact ⟨by go_keep, by go_keep, by go_keep, by go_keep, Lib.hid (StrsAt.drewN HYS.out 1), Lib.hid (StrsAt.drewN HQ.out 1), Lib.hid (Below.drew W9.out)⟩) (fun hHeld => ?_)
      refine take_run (d := (some 61)) (v := ?v25) 0 rfl rfl (by kernel_rfl) (by kernel_rfl) (by kernel_rfl) (fun _ _ _ h => h) (by rfl) hHeld ?hy25 ?rs25
      case hy25 => (intro w hSw; (try dsimp only at hSw); go_simp) <;> (try with_reducible rfl)
      (try simp only [Act.put, List.setIfInBounds_toArray, List.set_cons_zero, List.set_cons_succ])
      refine take_run (d := (some 62)) (v := ?v26) 1 rfl rfl (by kernel_rfl) (by kernel_rfl) (by kernel_rfl) (fun _ _ _ h => h) (by rfl) hHeld ?hy26 ?rs26
      case hy26 => (intro w hSw; (try dsimp only at hSw); go_simp) <;> (try with_reducible rfl)
      (try simp only [Act.put, List.setIfInBounds_toArray, List.set_cons_zero, List.set_cons_succ])
      refine take_run (d := (some 63)) (v := ?v27) 2 rfl rfl (by kernel_rfl) (by kernel_rfl) (by kernel_rfl) (fun _ _ _ h => h) (by rfl) hHeld ?hy27 ?rs27
      case hy27 => (intro w hSw; (try dsimp only at hSw); go_simp) <;> (try with_reducible rfl)
      (try simp only [Act.put, List.setIfInBounds_toArray, List.set_cons_zero, List.set_cons_succ])
      refine take_run (d := (some 64)) (v := ?v28) 3 rfl rfl (by kernel_rfl) (by kernel_rfl) (by kernel_rfl) (fun _ _ _ h => h) (by rfl) hHeld ?hy28 ?rs28
      case hy28 => (intro w hSw; (try dsimp only at hSw); go_simp) <;> (try with_reducible rfl)
      (try simp only [Act.put, List.setIfInBounds_toArray, List.set_cons_zero, List.set_cons_succ])
      refine take_run (d := (some 66)) (v := ?v29) 5 rfl rfl (by kernel_rfl) (by kernel_rfl) (by kernel_rfl) (fun _ _ _ h => h) (by rfl) hHeld ?hy29 ?rs29
      case hy29 => (intro w hSw; (try dsimp only at hSw); go_simp) <;> (try with_reducible rfl)
      (try simp only [Act.put, List.setIfInBounds_toArray, List.set_cons_zero, List.set_cons_succ])
      refine take_run (d := (some 67)) (v := ?v30) 6 rfl rfl (by kernel_rfl) (by kernel_rfl) (by kernel_rfl) (fun _ _ _ h => h) (by rfl) hHeld ?hy30 ?rs30
      case hy30 => (intro w hSw; (try dsimp only at hSw); go_simp) <;> (try with_reducible rfl)
      (try simp only [Act.put, List.setIfInBounds_toArray, List.set_cons_zero, List.set_cons_succ])
      refine take_run (d := (some 68)) (v := ?v31) 7 rfl rfl (by kernel_rfl) (by kernel_rfl) (by kernel_rfl) (fun _ _ _ h => h) (by rfl) hHeld ?hy31 ?rs31
      case hy31 => (intro w hSw; (try dsimp only at hSw); go_simp) <;> (try with_reducible rfl)
      (try simp only [Act.put, List.setIfInBounds_toArray, List.set_cons_zero, List.set_cons_succ])
      refine take_run (d := (some 69)) (v := ?v32) 8 rfl rfl (by kernel_rfl) (by kernel_rfl) (by kernel_rfl) (fun _ _ _ h => h) (by rfl) hHeld ?hy32 ?rs32
      case hy32 => (intro w hSw; (try dsimp only at hSw); go_simp) <;> (try with_reducible rfl)
      (try simp only [Act.put, List.setIfInBounds_toArray, List.set_cons_zero, List.set_cons_succ])
      refine take_run (d := (some 70)) (v := ?v33) 9 rfl rfl (by kernel_rfl) (by kernel_rfl) (by kernel_rfl) (fun _ _ _ h => h) (by rfl) hHeld ?hy33 ?rs33
      case hy33 => (intro w hSw; (try dsimp only at hSw); go_simp) <;> (try with_reducible rfl)
      (try simp only [Act.put, List.setIfInBounds_toArray, List.set_cons_zero, List.set_cons_succ])
      refine take_call 4 rfl (by kernel_rfl) (by rfl) (fun K hK => ?_)
      go_simp
      refine (CQ.out y (.slice ya yn yc) _ (by obtain ⟨_, _, _, _, h1, _, _⟩ := hHeld; exact h1.out) HYZ.out my.2 (by omega)).mono ?_
      rintro e w' ⟨rb, ro, rc, rfl, _, hr, _, hb⟩
      have HRP := Lib.hid hr
      clear hr
      refine hK.out _ _ (by obtain ⟨h0, h1, h2, h3, h4, h5, hw⟩ := hHeld; exact ⟨cell_keep h0 hb, cell_keep h1 hb, cell_keep h2 hb, cell_keep h3 hb, Lib.hid (h4.out.below hb), Lib.hid (h5.out.below hb), Lib.hid (blw_trans hw.out hb)⟩) (fun hHeld => ?_)
      clear hK K
      (try simp only [Act.put, List.setIfInBounds_toArray, List.set_cons_zero, List.set_cons_succ])
      refine take_call 10 rfl (by kernel_rfl) (by rfl) (fun K hK => ?_)
      go_simp
      refine (CS.out y.parts _ _ _ HRP.out (by obtain ⟨_, _, _, _, _, h1, _⟩ := hHeld; exact h1.out) hly).mono ?_
      rintro e w' ⟨rfl, hb⟩
      refine hK.out _ _ (by obtain ⟨h0, h1, h2, h3, h4, h5, hw⟩ := hHeld; exact ⟨cell_keep h0 hb, cell_keep h1 hb, cell_keep h2 hb, cell_keep h3 hb, Lib.hid (h4.out.below hb), Lib.hid (h5.out.below hb), Lib.hid (blw_trans hw.out hb)⟩) (fun hHeld => ?_)
      clear hK K
      (try simp only [Act.put, List.setIfInBounds_toArray, List.set_cons_zero, List.set_cons_succ])
      refine take_run (d := (some 9)) (v := ?v36) 11 rfl rfl (by kernel_rfl) (by kernel_rfl) (by kernel_rfl) (fun _ _ _ h => h) (by rfl) hHeld ?hy36 ?rs36
      case hy36 => (intro w hSw; (try dsimp only at hSw); go_simp) <;> (try with_reducible rfl)
      (try simp only [Act.put, List.setIfInBounds_toArray, List.set_cons_zero, List.set_cons_succ])
      refine wpAnyH_done (by kernel_rfl) ?_ _
      obtain ⟨z0, z1, z2, z3, z4, z5, zW⟩ := hHeld
      clear z0 z1 z2 z3 z4 z5 hs1 hs2 hs3 hc1 hc2 y0 y1 y2 y3 HYS HQ HRP
      go_wp2_with fail
      go_roundw
      case rel => exact ⟨k + 1, by go_num, by omega, zW⟩
      case measure => simp [RowKit.intOf]; omega
    · go_wp2_with fail
      go_ret
      exact ⟨rfl, blw_trans WC.out HB.out⟩

theorem chainshort_any (l s r : List UInt8) (vs : List (List UInt8)) (V : Value) (w : World) (hT : MaxW w) (hV : StrsAt w V vs) (h0 : Nil0 V) (bt : l.length + s.length + r.length + Lib.lens vs + vs.length ≤ 100000000) :
    Calls Tryd.prog 4 #[.agg #[.string ⟨l.toArray⟩, .string ⟨s.toArray⟩, .string ⟨r.toArray⟩, V]] w fun e w' => e = .returned (.bool true) ∧ Below w.heap.size w w' := by
  obtain ⟨a, n, c, rfl⟩ := hV.isSlice
  by_cases hF : tagFault l s r vs = 0
  · exact chainshort_ok l s r vs a n c w hT hV h0 bt hF
  · exact chainshort_f l s r vs a n c w hT hV h0 bt hF
end Go.Proofs.YtlhleojigcnjeaaDoor
