/- The walk of the law PickTells. Conditions: the listed variables hold what the program lays; the tags are of bulk at most 100000000, and at most 1000000000 of them. -/
import Derived.Test.YtlhleojigcnjeaaDoorPick
import Derived.Test.YtlhleojigcnjeaaDoorRchain
import Derived.Test.YtlhleojigcnjeaaDoorTagged
namespace Go.Proofs.YtlhleojigcnjeaaDoor
open Go.RowKit

theorem chain_list (x : Tg) (V : Value) (w : World) (hV : StrsAt w V x.vs) (h0 : Nil0 V) (bt : x.vs.length ≤ 1000000000) :
    Calls Tryd.prog 29 #[.agg #[.string ⟨x.l.toArray⟩, .string ⟨x.s.toArray⟩, .string ⟨x.r.toArray⟩, V]] w fun e w' => ∃ A c, e = .returned (.slice A x.chain.length c) ∧ (∀ (j : Nat) t, x.chain[j]? = some t → ∃ b off, A = some ⟨b, off, none⟩ ∧ TagCell w' b (off + j * 4) t) ∧ Below w.heap.size w w' := by
  refine (rchain_any _ x V w rfl hV h0 bt).mono ?_
  rintro e w' ⟨g, cp, LV, rfl, hrow, hch, htg, _, hb⟩
  have h := TagsAt.of_row hrow htg
  rw [hch] at h
  obtain ⟨A, cap, ed, hd⟩ := h.spread
  exact ⟨A, cap, by rw [ed], hd, hb⟩
theorem chain_len10 (x : Tg) (h : x.bulk ≤ 100000000) : x.chain.length ≤ 1000000010 := by
  have h1 := (chain_small _ x rfl).1
  have a1 : (one x.s).length ≤ 1 := by unfold one; split <;> simp
  have a2 : (one x.r).length ≤ 1 := by unfold one; split <;> simp
  have e : x.size = (one x.s).length + ((one x.r).length + x.vs.length) := rfl
  unfold Tg.bulk at h
  omega
theorem fi_all (x : List UInt8) (N : List (List UInt8)) : fi x N.length (N.drop N.length) = -1 := by
  rw [List.drop_length]; rfl

set_option maxRecDepth 100000 in
set_option maxHeartbeats 4000000 in
theorem picktells_f (L M : List Tg) (A B : Option Addr) (ca cb : Nat) (w : World) (hT : TM w) (hn : L.length ≤ 1000000000) (hm : M.length ≤ 1000000000)
    (hL : TagsAt w (.slice A L.length ca) L) (hb : ∀ x ∈ L, x.bulk ≤ 100000000) (hM : TagsAt w (.slice B M.length cb) M) (hbm : ∀ x ∈ M, x.bulk ≤ 100000000) (hF : ¬ tfaults L = 0) :
    Calls Tryd.prog 9 #[.slice A L.length ca, .slice B M.length cb] w fun e w' => e = .returned (.bool true) ∧ Below w.heap.size w w' := by
  have CL := Lib.hid fun wx (h : Below w.heap.size w wx) => rfaults_any L (.slice A L.length ca) wx (hL.below h) hn hb
  have CM := Lib.hid fun wx (h : Below w.heap.size w wx) => rfaults_any M (.slice B M.length cb) wx (hM.below h) hm hbm
  have CP := Lib.hid fun wx (h : Below w.heap.size w wx) => pick_any L M (.slice A L.length ca) (.slice B M.length cb) wx (hL.below h) hn hb (hM.below h) hm hbm
  rw [show pickE L M = tfaults L from if_neg hF, show pickI L M = 0 from if_neg fun h => hF h.1, errE_some hF] at CP
  generalize tfaults L = Fl at *
  have q1 : (Fl == 0) = false := beq_no hF
  have CE := Lib.hid fun w (h : TM w) => sameErr_yes (ErrNo.no Fl) w h.h
  clear hL hM hb hbm
  go_enter Tryd.func9, Tryd.ntmps9
  go_wp2_with fail
  refine (tagged_any _ (hT.below (by repeat (first | exact (Below.refl _ _) | refine blw_drewN ?_ _ | refine Below.setCell ?_ (by first | (simp; done) | omega | (simp; omega)) _ | refine Below.alloc ?_ (by first | (simp; done) | omega | (simp; omega)) _))).m).mono ?_
  rintro e w1 ⟨rfl, hb⟩
  have W1 := Lib.hid (blw_trans (show Below w.heap.size w _ by repeat (first | exact (Below.refl _ _) | refine blw_drewN ?_ _ | refine Below.setCell ?_ (by first | (simp; done) | omega | (simp; omega)) _ | refine Below.alloc ?_ (by first | (simp; done) | omega | (simp; omega)) _)) hb)
  have n1 := hb.size
  try simp at n1
  clear hb
  go_wp2_with fail
  refine (CL.out _ (by repeat (first | exact W1.out | refine blw_drewN ?_ _ | refine Below.setCell ?_ (by first | (simp; done) | omega | (simp; omega)) _ | refine Below.alloc ?_ (by first | (simp; done) | omega | (simp; omega)) _))).mono ?_
  rintro e w2 ⟨rfl, hb⟩
  have W2 := Lib.hid (blw_trans (show Below w.heap.size w _ by repeat (first | exact W1.out | refine blw_drewN ?_ _ | refine Below.setCell ?_ (by first | (simp; done) | omega | (simp; omega)) _ | refine Below.alloc ?_ (by first | (simp; done) | omega | (simp; omega)) _)) hb)
  have n2 := hb.size
  try simp at n2
  clear hb W1
  go_wp2_with fail
  go_loopw [7, 8] (fun r i wr => r = .int .i64 (-1) ∧ i = .int .i64 0 ∧ Hid (Below w.heap.size w wr)) (fun _ _ _ => 0)
  case atStart => exact ⟨rfl, rfl, Lib.hid (by repeat (first | exact W2.out | refine blw_drewN ?_ _ | refine Below.setCell ?_ (by first | (simp; done) | omega | (simp; omega)) _ | refine Below.alloc ?_ (by first | (simp; done) | omega | (simp; omega)) _))⟩
  case round =>
    obtain ⟨rfl, rfl, HB⟩ := hrel
    have hsz := HB.out.size
    go_wp2_with fail
    refine (CP.out _ (by repeat (first | exact HB.out | refine blw_drewN ?_ _ | refine Below.setCell ?_ (by first | (simp; done) | omega | (simp; omega)) _ | refine Below.alloc ?_ (by first | (simp; done) | omega | (simp; omega)) _))).mono ?_
    rintro e w11 ⟨rfl, hb⟩
    have W11 := Lib.hid (blw_trans (show Below w.heap.size w _ by repeat (first | exact HB.out | refine blw_drewN ?_ _ | refine Below.setCell ?_ (by first | (simp; done) | omega | (simp; omega)) _ | refine Below.alloc ?_ (by first | (simp; done) | omega | (simp; omega)) _)) hb)
    have n11 := hb.size
    try simp at n11
    clear hb HB
    go_wp2_with fail
    refine (CE.out _ (hT.below (by repeat (first | exact W11.out | refine blw_drewN ?_ _ | refine Below.setCell ?_ (by first | (simp; done) | omega | (simp; omega)) _ | refine Below.alloc ?_ (by first | (simp; done) | omega | (simp; omega)) _)))).mono ?_
    rintro e w12 ⟨rfl, hb⟩
    have W12 := Lib.hid (blw_trans (show Below w.heap.size w _ by repeat (first | exact W11.out | refine blw_drewN ?_ _ | refine Below.setCell ?_ (by first | (simp; done) | omega | (simp; omega)) _ | refine Below.alloc ?_ (by first | (simp; done) | omega | (simp; omega)) _)) hb)
    have n12 := hb.size
    try simp at n12
    clear hb W11
    go_wp2_with fail
    go_ret
    exact ⟨ret_bool (by first | rfl | (simp; done)), by repeat (first | exact W12.out | refine blw_drewN ?_ _ | refine Below.setCell ?_ (by first | (simp; done) | omega | (simp; omega)) _ | refine Below.alloc ?_ (by first | (simp; done) | omega | (simp; omega)) _)⟩

set_option maxRecDepth 100000 in
set_option maxHeartbeats 4000000 in
theorem picktells_g (L M : List Tg) (A B : Option Addr) (ca cb : Nat) (w : World) (hT : TM w) (hn : L.length ≤ 1000000000) (hm : M.length ≤ 1000000000)
    (hL : TagsAt w (.slice A L.length ca) L) (hb : ∀ x ∈ L, x.bulk ≤ 100000000) (hM : TagsAt w (.slice B M.length cb) M) (hbm : ∀ x ∈ M, x.bulk ≤ 100000000) (hF : tfaults L = 0) (hG : ¬ tfaults M = 0) :
    Calls Tryd.prog 9 #[.slice A L.length ca, .slice B M.length cb] w fun e w' => e = .returned (.bool true) ∧ Below w.heap.size w w' := by
  have CL := Lib.hid fun wx (h : Below w.heap.size w wx) => rfaults_any L (.slice A L.length ca) wx (hL.below h) hn hb
  have CM := Lib.hid fun wx (h : Below w.heap.size w wx) => rfaults_any M (.slice B M.length cb) wx (hM.below h) hm hbm
  have CP := Lib.hid fun wx (h : Below w.heap.size w wx) => pick_any L M (.slice A L.length ca) (.slice B M.length cb) wx (hL.below h) hn hb (hM.below h) hm hbm
  rw [show pickE L M = tfaults M from (if_pos hF).trans (if_neg hG), show pickI L M = 0 from if_neg fun h => hG h.2.1, errE_some hG] at CP
  rw [hF] at CL
  generalize tfaults M = Gl at *
  have q1 : (Gl == 0) = false := beq_no hG
  have CE := Lib.hid fun w (h : TM w) => sameErr_yes (ErrNo.no Gl) w h.h
  clear hL hM hb hbm
  go_enter Tryd.func9, Tryd.ntmps9
  go_wp2_with fail
  refine (tagged_any _ (hT.below (by repeat (first | exact (Below.refl _ _) | refine blw_drewN ?_ _ | refine Below.setCell ?_ (by first | (simp; done) | omega | (simp; omega)) _ | refine Below.alloc ?_ (by first | (simp; done) | omega | (simp; omega)) _))).m).mono ?_
  rintro e w1 ⟨rfl, hb⟩
  have W1 := Lib.hid (blw_trans (show Below w.heap.size w _ by repeat (first | exact (Below.refl _ _) | refine blw_drewN ?_ _ | refine Below.setCell ?_ (by first | (simp; done) | omega | (simp; omega)) _ | refine Below.alloc ?_ (by first | (simp; done) | omega | (simp; omega)) _)) hb)
  have n1 := hb.size
  try simp at n1
  clear hb
  go_wp2_with fail
  refine (CL.out _ (by repeat (first | exact W1.out | refine blw_drewN ?_ _ | refine Below.setCell ?_ (by first | (simp; done) | omega | (simp; omega)) _ | refine Below.alloc ?_ (by first | (simp; done) | omega | (simp; omega)) _))).mono ?_
  rintro e w2 ⟨rfl, hb⟩
  have W2 := Lib.hid (blw_trans (show Below w.heap.size w _ by repeat (first | exact W1.out | refine blw_drewN ?_ _ | refine Below.setCell ?_ (by first | (simp; done) | omega | (simp; omega)) _ | refine Below.alloc ?_ (by first | (simp; done) | omega | (simp; omega)) _)) hb)
  have n2 := hb.size
  try simp at n2
  clear hb W1
  go_wp2_with fail
  refine (CM.out _ (by repeat (first | exact W2.out | refine blw_drewN ?_ _ | refine Below.setCell ?_ (by first | (simp; done) | omega | (simp; omega)) _ | refine Below.alloc ?_ (by first | (simp; done) | omega | (simp; omega)) _))).mono ?_
  rintro e w3 ⟨rfl, hb⟩
  have W3 := Lib.hid (blw_trans (show Below w.heap.size w _ by repeat (first | exact W2.out | refine blw_drewN ?_ _ | refine Below.setCell ?_ (by first | (simp; done) | omega | (simp; omega)) _ | refine Below.alloc ?_ (by first | (simp; done) | omega | (simp; omega)) _)) hb)
  have n3 := hb.size
  try simp at n3
  clear hb W2
  go_wp2_with fail
  go_loopw [7, 8] (fun r i wr => r = .int .i64 (-1) ∧ i = .int .i64 0 ∧ Hid (Below w.heap.size w wr)) (fun _ _ _ => 0)
  case atStart => exact ⟨rfl, rfl, Lib.hid (by repeat (first | exact W3.out | refine blw_drewN ?_ _ | refine Below.setCell ?_ (by first | (simp; done) | omega | (simp; omega)) _ | refine Below.alloc ?_ (by first | (simp; done) | omega | (simp; omega)) _))⟩
  case round =>
    obtain ⟨rfl, rfl, HB⟩ := hrel
    have hsz := HB.out.size
    go_wp2_with fail
    refine (CP.out _ (by repeat (first | exact HB.out | refine blw_drewN ?_ _ | refine Below.setCell ?_ (by first | (simp; done) | omega | (simp; omega)) _ | refine Below.alloc ?_ (by first | (simp; done) | omega | (simp; omega)) _))).mono ?_
    rintro e w11 ⟨rfl, hb⟩
    have W11 := Lib.hid (blw_trans (show Below w.heap.size w _ by repeat (first | exact HB.out | refine blw_drewN ?_ _ | refine Below.setCell ?_ (by first | (simp; done) | omega | (simp; omega)) _ | refine Below.alloc ?_ (by first | (simp; done) | omega | (simp; omega)) _)) hb)
    have n11 := hb.size
    try simp at n11
    clear hb HB
    go_wp2_with fail
    refine (CE.out _ (hT.below (by repeat (first | exact W11.out | refine blw_drewN ?_ _ | refine Below.setCell ?_ (by first | (simp; done) | omega | (simp; omega)) _ | refine Below.alloc ?_ (by first | (simp; done) | omega | (simp; omega)) _)))).mono ?_
    rintro e w12 ⟨rfl, hb⟩
    have W12 := Lib.hid (blw_trans (show Below w.heap.size w _ by repeat (first | exact W11.out | refine blw_drewN ?_ _ | refine Below.setCell ?_ (by first | (simp; done) | omega | (simp; omega)) _ | refine Below.alloc ?_ (by first | (simp; done) | omega | (simp; omega)) _)) hb)
    have n12 := hb.size
    try simp at n12
    clear hb W11
    go_wp2_with fail
    go_ret
    exact ⟨ret_bool (by first | rfl | (simp; done)), by repeat (first | exact W12.out | refine blw_drewN ?_ _ | refine Below.setCell ?_ (by first | (simp; done) | omega | (simp; omega)) _ | refine Below.alloc ?_ (by first | (simp; done) | omega | (simp; omega)) _)⟩

set_option maxRecDepth 100000 in
set_option maxHeartbeats 4000000 in
theorem picktells_o (L M : List Tg) (A B : Option Addr) (ca cb : Nat) (w : World) (hT : TM w) (hn : L.length ≤ 1000000000) (hm : M.length ≤ 1000000000)
    (hL : TagsAt w (.slice A L.length ca) L) (hb : ∀ x ∈ L, x.bulk ≤ 100000000) (hM : TagsAt w (.slice B M.length cb) M) (hbm : ∀ x ∈ M, x.bulk ≤ 100000000) (hF : tfaults L = 0) (hG : tfaults M = 0)
    (hc : ∀ (j : Nat) t, L[j]? = some t → ∃ b off, A = some ⟨b, off, none⟩ ∧ TagCell w b (off + j * 4) t) (hd : ∀ (j : Nat) t, M[j]? = some t → ∃ b off, B = some ⟨b, off, none⟩ ∧ TagCell w b (off + j * 4) t) :
    Calls Tryd.prog 9 #[.slice A L.length ca, .slice B M.length cb] w fun e w' => e = .returned (.bool true) ∧ Below w.heap.size w w' := by
  have CL := Lib.hid fun wx (h : Below w.heap.size w wx) => rfaults_any L (.slice A L.length ca) wx (hL.below h) hn hb
  have CM := Lib.hid fun wx (h : Below w.heap.size w wx) => rfaults_any M (.slice B M.length cb) wx (hM.below h) hm hbm
  have CP := Lib.hid fun wx (h : Below w.heap.size w wx) => pick_any L M (.slice A L.length ca) (.slice B M.length cb) wx (hL.below h) hn hb (hM.below h) hm hbm
  rw [hF] at CL
  rw [hG] at CM
  have HC := Lib.hid hc
  have HDM := Lib.hid hd
  have HBK := Lib.hid hb
  have HBM := Lib.hid hbm
  have CR := Lib.hid fun (x : Tg) V wx hv hz hn => chain_list x V wx hv hz hn
  have CT := Lib.hid fun (x : Tg) V wx hv hz (hx : x.bulk ≤ 100000000) => rtext_any x.l x.s x.r x.vs V wx hv hz (by unfold Tg.bulk at hx; omega)
  have HPE := Lib.hid (show (0 ≤ pickW (M.map Tg.txt) L → pickI L M = pickW (M.map Tg.txt) L ∧ pickE L M = 0) ∧ (¬ 0 ≤ pickW (M.map Tg.txt) L → pickI L M = 0 ∧ pickE L M = 2) from
    ⟨fun h => ⟨if_pos ⟨hF, hG, h⟩, (if_pos hF).trans ((if_pos hG).trans (if_pos h))⟩, fun h => ⟨if_neg fun g => h g.2.2, (if_pos hF).trans ((if_pos hG).trans (if_neg h))⟩⟩)
  have HNL := Lib.hid (show (M.map Tg.txt).length = M.length from List.length_map _)
  have HNA := Lib.hid (show ∀ (j : Nat) (y : Tg), M[j]? = some y → (M.map Tg.txt)[j]? = some (tagText y.l y.s y.r y.vs) from fun j y h => by rw [List.getElem?_map, h]; rfl)
  generalize pickI L M = PI at *
  generalize pickE L M = PE at *
  generalize M.map Tg.txt = N at *
  clear hL hM hb hbm hc hd hF hG
  go_enter Tryd.func9, Tryd.ntmps9
  go_wp2_with fail
  refine (tagged_any _ (hT.below (by repeat (first | exact (Below.refl _ _) | refine blw_drewN ?_ _ | refine Below.setCell ?_ (by first | (simp; done) | omega | (simp; omega)) _ | refine Below.alloc ?_ (by first | (simp; done) | omega | (simp; omega)) _))).m).mono ?_
  rintro e w1 ⟨rfl, hb⟩
  have W1 := Lib.hid (blw_trans (show Below w.heap.size w _ by repeat (first | exact (Below.refl _ _) | refine blw_drewN ?_ _ | refine Below.setCell ?_ (by first | (simp; done) | omega | (simp; omega)) _ | refine Below.alloc ?_ (by first | (simp; done) | omega | (simp; omega)) _)) hb)
  have n1 := hb.size
  try simp at n1
  clear hb
  go_wp2_with fail
  refine (CL.out _ (by repeat (first | exact W1.out | refine blw_drewN ?_ _ | refine Below.setCell ?_ (by first | (simp; done) | omega | (simp; omega)) _ | refine Below.alloc ?_ (by first | (simp; done) | omega | (simp; omega)) _))).mono ?_
  rintro e w2 ⟨rfl, hb⟩
  have W2 := Lib.hid (blw_trans (show Below w.heap.size w _ by repeat (first | exact W1.out | refine blw_drewN ?_ _ | refine Below.setCell ?_ (by first | (simp; done) | omega | (simp; omega)) _ | refine Below.alloc ?_ (by first | (simp; done) | omega | (simp; omega)) _)) hb)
  have n2 := hb.size
  try simp at n2
  clear hb W1
  go_wp2_with fail
  refine (CM.out _ (by repeat (first | exact W2.out | refine blw_drewN ?_ _ | refine Below.setCell ?_ (by first | (simp; done) | omega | (simp; omega)) _ | refine Below.alloc ?_ (by first | (simp; done) | omega | (simp; omega)) _))).mono ?_
  rintro e w3 ⟨rfl, hb⟩
  have W3 := Lib.hid (blw_trans (show Below w.heap.size w _ by repeat (first | exact W2.out | refine blw_drewN ?_ _ | refine Below.setCell ?_ (by first | (simp; done) | omega | (simp; omega)) _ | refine Below.alloc ?_ (by first | (simp; done) | omega | (simp; omega)) _)) hb)
  have n3 := hb.size
  try simp at n3
  clear hb W2
  go_wp2_with fail
  go_loopw [7, 8] (fun r i wr => ∃ (k : Nat) (q : Int), r = .int .i64 q ∧ i = .int .i64 k ∧ k ≤ L.length ∧ Hid (q < 0 → q = -1 ∧ pickW N L = pickW N (L.drop k)) ∧ Hid (0 ≤ q → pickW N L = q) ∧ Hid (Below w.heap.size w wr)) (fun _ i _ => L.length - (RowKit.intOf i).toNat)
  case atStart => exact ⟨0, -1, rfl, rfl, Nat.zero_le _, Lib.hid fun _ => ⟨rfl, rfl⟩, Lib.hid fun h => absurd h (by omega), Lib.hid (by repeat (first | exact W3.out | refine blw_drewN ?_ _ | refine Below.setCell ?_ (by first | (simp; done) | omega | (simp; omega)) _ | refine Below.alloc ?_ (by first | (simp; done) | omega | (simp; omega)) _))⟩
  case round =>
    obtain ⟨k, q, rfl, rfl, hk, HQ1, HQ2, HB⟩ := hrel
    have hsz := HB.out.size
    by_cases hgo : q < 0 ∧ k < L.length
    · obtain ⟨hq, hlt⟩ := hgo
      obtain ⟨rfl, hPW0⟩ := HQ1.out hq
      obtain ⟨x, hx⟩ : ∃ x, L[k]? = some x := ⟨L[k], List.getElem?_eq_getElem hlt⟩
      obtain ⟨b, off, rfl, hcell⟩ := HC.out k x hx
      have hxm := List.mem_of_getElem? hx
      have hxb := HBK.out x hxm
      obtain ⟨xa, xn, xc, x0, x1, x2, x3, xs, xz⟩ := hcell.below HB.out
      have HXS := Lib.hid xs
      have CX := Lib.hid fun wx hv => CR.out x (.slice xa xn xc) wx hv xz (by unfold Tg.bulk at hxb; omega)
      have HPW := Lib.hid (hPW0.trans (pickW_step hx))
      have HCB := Lib.hid (show ∀ y ∈ x.chain, y.bulk ≤ 100000000 from fun y hy => Nat.le_trans (chain_bulk _ x rfl y hy) hxb)
      have hcl := chain_len10 x hxb
      generalize x.chain = C at *
      clear hx xs xz hcell CR hPW0 HQ1 HQ2
      go_wp2_with fail
      refine (CX.out _ HXS.out).mono ?_
      rintro e w3 ⟨D, dc, rfl, hd, hb3⟩
      have HD := Lib.hid hd
      have W3 := Lib.hid (blw_trans HB.out hb3)
      clear hd hb3 CX HXS x0 x1 x2 x3 HB
      go_wp2_with fail
      go_loopw [7, 10] (fun r i wr => ∃ (m : Nat) (q : Int), r = .int .i64 q ∧ i = .int .i64 m ∧ m ≤ C.length ∧ Hid (q < 0 → q = -1 ∧ pickC N C = pickC N (C.drop m)) ∧ Hid (0 ≤ q → pickC N C = q) ∧ Hid (Below w3.heap.size w3 wr)) (fun _ i _ => C.length - (RowKit.intOf i).toNat)
      case atStart => exact ⟨0, -1, rfl, rfl, Nat.zero_le _, Lib.hid fun _ => ⟨rfl, rfl⟩, Lib.hid fun h => absurd h (by omega), Lib.hid (Below.refl _ _)⟩
      case round =>
        obtain ⟨m, q, rfl, rfl, hmm, HR1, HR2, HB2⟩ := hrel
        by_cases hgo : q < 0 ∧ m < C.length
        · obtain ⟨hq, hmt⟩ := hgo
          obtain ⟨rfl, hPC0⟩ := HR1.out hq
          obtain ⟨y, hy⟩ : ∃ y, C[m]? = some y := ⟨C[m], List.getElem?_eq_getElem hmt⟩
          obtain ⟨b2, off2, rfl, hcell2⟩ := HD.out m y hy
          have hyb := HCB.out y (List.mem_of_getElem? hy)
          have HYC := Lib.hid hcell2
          have HPC := Lib.hid (hPC0.trans (pickC_step hy))
          rw [show y.txt = tagText y.l y.s y.r y.vs from rfl] at HPC
          have CY := Lib.hid fun V wx hv hz => CT.out y V wx hv hz hyb
          generalize hX : tagText y.l y.s y.r y.vs = X at *
          have hl1 : ((M.length : Int) - 1) = (M.length : Int) - 1 := rfl
          clear hy hcell2 hPC0 HR1 HR2 hX hl1
          have hsw := W3.out.size
          go_wp2_with fail
          go_loopw [7, 11] (fun r i wr' => ∃ m2 : Nat, r = .int .i64 (fi X m2 (N.drop m2)) ∧ i = .int .i64 ((m2 : Int) - 1) ∧ m2 ≤ M.length ∧ Hid (Below w3.heap.size w3 wr')) (fun _ i _ => (RowKit.intOf i + 1).toNat)
          case atStart => exact ⟨M.length, by rw [← HNL.out, fi_all], rfl, Nat.le_refl _, HB2⟩
          case round =>
            obtain ⟨m2, rfl, rfl, hm2, HB3⟩ := hrel
            clear HB2
            by_cases h0 : m2 = 0
            · subst h0
              have e0 : fi X 0 (N.drop 0) = fi X 0 N := rfl
              rw [e0]
              have H1 := Lib.hid (show fi X 0 N < 0 → fi X 0 N = -1 ∧ pickC N C = pickC N (C.drop (m + 1)) from fun h => ⟨fi_neg (by omega), HPC.out.trans (if_neg (by omega))⟩)
              have H2 := Lib.hid (show 0 ≤ fi X 0 N → pickC N C = fi X 0 N from fun h => HPC.out.trans (if_pos h))
              clear e0 HPC
              generalize fi X 0 N = R at *
              go_wp2_with fail
              go_roundw
              case rel => exact ⟨m + 1, R, rfl, by go_num, by omega, H1, H2, HB3⟩
              case measure => simp [RowKit.intOf]; omega
            · obtain ⟨q2, rfl⟩ : ∃ q2, m2 = q2 + 1 := ⟨m2 - 1, by omega⟩
              rw [show ((q2 + 1 : Nat) : Int) - 1 = (q2 : Int) by omega]
              obtain ⟨z, hz⟩ : ∃ z, M[q2]? = some z := ⟨M[q2]'(by omega), List.getElem?_eq_getElem (by omega)⟩
              obtain ⟨b3, off3, rfl, hcell3⟩ := HDM.out q2 z hz
              have hzb := HBM.out z (List.mem_of_getElem? hz)
              obtain ⟨za, zn, zc, z0, z1, z2, z3, zs, zz⟩ := (hcell3.below W3.out).below HB3.out
              obtain ⟨ya, yn, yc, y0, y1, y2, y3, ys, yz⟩ := HYC.out.below HB3.out
              have HZS := Lib.hid zs
              have HYS := Lib.hid ys
              have CZ := Lib.hid fun wx hv => CT.out z (.slice za zn zc) wx hv zz hzb
              have CYY := Lib.hid fun wx hv => CY.out (.slice ya yn yc) wx hv yz
              have HST := Lib.hid (fi_step (x := X) (HNA.out q2 z hz))
              have hqM : q2 < M.length := by omega
              generalize tagText z.l z.s z.r z.vs = Z at *
              generalize fi X (q2 + 1) (N.drop (q2 + 1)) = R at *
              clear hz hcell3 zs ys h0 CT CY
              go_wp2_with fail
  
              refine wp_region_held_drew (S := fun w' => w'.cell? ⟨b3, off3 + q2 * 4, none⟩ = some (.string ⟨z.l.toArray⟩) ∧ w'.cell? ⟨b3, off3 + q2 * 4 + 1, none⟩ = some (.string ⟨z.s.toArray⟩) ∧ w'.cell? ⟨b3, off3 + q2 * 4 + 2, none⟩ = some (.string ⟨z.r.toArray⟩) ∧ w'.cell? ⟨b3, off3 + q2 * 4 + 3, none⟩ = some (.slice za zn zc) ∧ w'.cell? ⟨b2, off2 + m * 4, none⟩ = some (.string ⟨y.l.toArray⟩) ∧ w'.cell? ⟨b2, off2 + m * 4 + 1, none⟩ = some (.string ⟨y.s.toArray⟩) ∧ w'.cell? ⟨b2, off2 + m * 4 + 2, none⟩ = some (.string ⟨y.r.toArray⟩) ∧ w'.cell? ⟨b2, off2 + m * 4 + 3, none⟩ = some (.slice ya yn yc) ∧ Hid (StrsAt w' (.slice za zn zc) z.vs) ∧ Hid (StrsAt w' (.slice ya yn yc) y.vs) ∧ Hid (Below w3.heap.size w3 w')) (by kernel_rfl) (by exact ⟨by go_keep, by go_keep, by go_keep, by go_keep, by go_keep, by go_keep, by go_keep, by go_keep, Lib.hid (StrsAt.drewN HZS.out 1), Lib.hid (StrsAt.drewN HYS.out 1), Lib.hid (Below.drew HB3.out)⟩) (fun hHeld => ?_)
              refine take_run (d := (some 58)) (v := ?v1) 0 rfl rfl (by kernel_rfl) (by kernel_rfl) (by kernel_rfl) (fun _ _ _ h => h) (by rfl) hHeld ?hy1 ?rs1
              case hy1 => (intro w hSw; (try dsimp only at hSw); go_simp) <;> (try with_reducible rfl)
              (try simp only [Act.put, List.setIfInBounds_toArray, List.set_cons_zero, List.set_cons_succ])
              refine take_run (d := (some 59)) (v := ?v2) 1 rfl rfl (by kernel_rfl) (by kernel_rfl) (by kernel_rfl) (fun _ _ _ h => h) (by rfl) hHeld ?hy2 ?rs2
              case hy2 => (intro w hSw; (try dsimp only at hSw); go_simp) <;> (try with_reducible rfl)
              (try simp only [Act.put, List.setIfInBounds_toArray, List.set_cons_zero, List.set_cons_succ])
              refine take_run (d := (some 60)) (v := ?v3) 2 rfl rfl (by kernel_rfl) (by kernel_rfl) (by kernel_rfl) (fun _ _ _ h => h) (by rfl) hHeld ?hy3 ?rs3
              case hy3 => (intro w hSw; (try dsimp only at hSw); go_simp) <;> (try with_reducible rfl)
              (try simp only [Act.put, List.setIfInBounds_toArray, List.set_cons_zero, List.set_cons_succ])
              refine take_run (d := (some 61)) (v := ?v4) 3 rfl rfl (by kernel_rfl) (by kernel_rfl) (by kernel_rfl) (fun _ _ _ h => h) (by rfl) hHeld ?hy4 ?rs4
              case hy4 => (intro w hSw; (try dsimp only at hSw); go_simp) <;> (try with_reducible rfl)
              (try simp only [Act.put, List.setIfInBounds_toArray, List.set_cons_zero, List.set_cons_succ])
              refine take_run (d := (some 63)) (v := ?v5) 5 rfl rfl (by kernel_rfl) (by kernel_rfl) (by kernel_rfl) (fun _ _ _ h => h) (by rfl) hHeld ?hy5 ?rs5
              case hy5 => (intro w hSw; (try dsimp only at hSw); go_simp) <;> (try with_reducible rfl)
              (try simp only [Act.put, List.setIfInBounds_toArray, List.set_cons_zero, List.set_cons_succ])
              refine take_run (d := (some 64)) (v := ?v6) 6 rfl rfl (by kernel_rfl) (by kernel_rfl) (by kernel_rfl) (fun _ _ _ h => h) (by rfl) hHeld ?hy6 ?rs6
              case hy6 => (intro w hSw; (try dsimp only at hSw); go_simp) <;> (try with_reducible rfl)
              (try simp only [Act.put, List.setIfInBounds_toArray, List.set_cons_zero, List.set_cons_succ])
              refine take_run (d := (some 65)) (v := ?v7) 7 rfl rfl (by kernel_rfl) (by kernel_rfl) (by kernel_rfl) (fun _ _ _ h => h) (by rfl) hHeld ?hy7 ?rs7
              case hy7 => (intro w hSw; (try dsimp only at hSw); go_simp) <;> (try with_reducible rfl)
              (try simp only [Act.put, List.setIfInBounds_toArray, List.set_cons_zero, List.set_cons_succ])
              refine take_run (d := (some 66)) (v := ?v8) 8 rfl rfl (by kernel_rfl) (by kernel_rfl) (by kernel_rfl) (fun _ _ _ h => h) (by rfl) hHeld ?hy8 ?rs8
              case hy8 => (intro w hSw; (try dsimp only at hSw); go_simp) <;> (try with_reducible rfl)
              (try simp only [Act.put, List.setIfInBounds_toArray, List.set_cons_zero, List.set_cons_succ])
              refine take_call 4 rfl (by kernel_rfl) (by rfl) (fun K hK => ?_)
              go_simp
              refine (CZ.out _ (by obtain ⟨_, _, _, _, _, _, _, _, h1, _, _⟩ := hHeld; exact h1.out)).mono ?_
              rintro e w' ⟨rfl, hb⟩
              refine hK.out _ _ (by obtain ⟨h0, h1, h2, h3, h4, h5, h6, h7, h8, h9, hw⟩ := hHeld; exact ⟨cell_keep h0 hb, cell_keep h1 hb, cell_keep h2 hb, cell_keep h3 hb, cell_keep h4 hb, cell_keep h5 hb, cell_keep h6 hb, cell_keep h7 hb, Lib.hid (h8.out.below hb), Lib.hid (h9.out.below hb), Lib.hid (blw_trans hw.out hb)⟩) (fun hHeld => ?_)
              clear hK K
              (try simp only [Act.put, List.setIfInBounds_toArray, List.set_cons_zero, List.set_cons_succ])
              refine take_call 9 rfl (by kernel_rfl) (by rfl) (fun K hK => ?_)
              go_simp
              refine (CYY.out _ (by obtain ⟨_, _, _, _, _, _, _, _, _, h1, _⟩ := hHeld; exact h1.out)).mono ?_
              rintro e w' ⟨rfl, hb⟩
              refine hK.out _ _ (by obtain ⟨h0, h1, h2, h3, h4, h5, h6, h7, h8, h9, hw⟩ := hHeld; exact ⟨cell_keep h0 hb, cell_keep h1 hb, cell_keep h2 hb, cell_keep h3 hb, cell_keep h4 hb, cell_keep h5 hb, cell_keep h6 hb, cell_keep h7 hb, Lib.hid (h8.out.below hb), Lib.hid (h9.out.below hb), Lib.hid (blw_trans hw.out hb)⟩) (fun hHeld => ?_)
              clear hK K
              (try simp only [Act.put, List.setIfInBounds_toArray, List.set_cons_zero, List.set_cons_succ])
              refine take_run (d := (some 68)) (v := ?v11) 10 rfl rfl (by kernel_rfl) (by kernel_rfl) (by kernel_rfl) (fun _ _ _ h => h) (by rfl) hHeld ?hy11 ?rs11
              case hy11 => (intro w hSw; (try dsimp only at hSw); go_simp) <;> (try with_reducible rfl)
              (try simp only [Act.put, List.setIfInBounds_toArray, List.set_cons_zero, List.set_cons_succ])
              refine wpAnyH_done (by kernel_rfl) ?_ _
              obtain ⟨z0, z1, z2, z3, z4, z5, z6, z7, z8, z9, zW⟩ := hHeld
              clear y0 y1 y2 y3 HZS HYS CZ CYY HB3
              by_cases hq : Z = X
              · have qe : (Z == X) = true := by rw [hq]; simp
                have HR := Lib.hid (show fi X q2 (N.drop q2) = (q2 : Int) from HST.out.trans (if_pos hq))
                rw [qe]
                clear HST hq
                go_wp2_with fail
                go_roundw
                case rel => exact ⟨q2, by rw [HR.out], rfl, by omega, zW⟩
                case measure => simp [RowKit.intOf]
              · have qe : (Z == X) = false := beq_eq_false_iff_ne.2 hq
                have HR := Lib.hid (show fi X q2 (N.drop q2) = R from HST.out.trans (if_neg hq))
                rw [qe]
                clear HST hq
                go_wp2_with fail
                go_roundw
                case rel => exact ⟨q2, by rw [HR.out], rfl, by omega, zW⟩
                case measure => simp [RowKit.intOf]
        · have H1 := Lib.hid (show q < 0 → q = -1 ∧ pickW N L = pickW N (L.drop (k + 1)) from fun h => by
            obtain ⟨e, h2⟩ := HR1.out h
            have h1 : pickC N C = -1 := by rw [h2, List.drop_eq_nil_of_le (by omega)]; rfl
            exact ⟨e, HPW.out.trans (if_neg (by rw [h1]; omega))⟩)
          have H2 := Lib.hid (show 0 ≤ q → pickW N L = q from fun h => by
            have h1 := HR2.out h
            exact HPW.out.trans ((if_pos (by rw [h1]; exact h)).trans h1))
          have HBB := Lib.hid (blw_trans W3.out HB2.out)
          have hqq : 0 ≤ q ∨ q < 0 ∧ m = C.length := by omega
          clear HPW HR1 HR2 HB2 W3 hgo
          rcases hqq with hqq | ⟨hqq, rfl⟩
          · have hqn : ¬ q < 0 := by omega
            go_wp2_with fail
            go_roundw
            case rel => exact ⟨k + 1, q, rfl, by go_num, by omega, H1, H2, HBB⟩
            case measure => simp [RowKit.intOf]; omega
          · go_wp2_with fail
            go_roundw
            case rel => exact ⟨k + 1, q, rfl, by go_num, by omega, H1, H2, HBB⟩
            case measure => simp [RowKit.intOf]; omega
    · have hqq : 0 ≤ q ∨ q < 0 ∧ k = L.length := by omega
      rcases hqq with hqq | ⟨hqq, rfl⟩
      · have hqn : ¬ q < 0 := by omega
        have h1 := HQ2.out hqq
        obtain ⟨e1, e2⟩ := HPE.out.1 (by rw [h1]; exact hqq)
        rw [h1] at e1
        subst e1 e2
        rw [errE_nil rfl] at CP
        have CE := Lib.hid fun w (h : TM w) => sameErr_yes ErrNo.nil w h.h
        clear HPE HQ1 HQ2 h1 hgo
        go_wp2_with fail
        refine (CP.out _ (by repeat (first | exact HB.out | refine blw_drewN ?_ _ | refine Below.setCell ?_ (by first | (simp; done) | omega | (simp; omega)) _ | refine Below.alloc ?_ (by first | (simp; done) | omega | (simp; omega)) _))).mono ?_
        rintro e w21 ⟨rfl, hb⟩
        have W21 := Lib.hid (blw_trans (show Below w.heap.size w _ by repeat (first | exact HB.out | refine blw_drewN ?_ _ | refine Below.setCell ?_ (by first | (simp; done) | omega | (simp; omega)) _ | refine Below.alloc ?_ (by first | (simp; done) | omega | (simp; omega)) _)) hb)
        have n21 := hb.size
        try simp at n21
        clear hb HB
        go_wp2_with fail
        refine (CE.out _ (hT.below (by repeat (first | exact W21.out | refine blw_drewN ?_ _ | refine Below.setCell ?_ (by first | (simp; done) | omega | (simp; omega)) _ | refine Below.alloc ?_ (by first | (simp; done) | omega | (simp; omega)) _)))).mono ?_
        rintro e w22 ⟨rfl, hb⟩
        have W22 := Lib.hid (blw_trans (show Below w.heap.size w _ by repeat (first | exact W21.out | refine blw_drewN ?_ _ | refine Below.setCell ?_ (by first | (simp; done) | omega | (simp; omega)) _ | refine Below.alloc ?_ (by first | (simp; done) | omega | (simp; omega)) _)) hb)
        have n22 := hb.size
        try simp at n22
        clear hb W21
        go_wp2_with fail
        go_ret
        exact ⟨ret_bool (by simp; omega), by repeat (first | exact W22.out | refine blw_drewN ?_ _ | refine Below.setCell ?_ (by first | (simp; done) | omega | (simp; omega)) _ | refine Below.alloc ?_ (by first | (simp; done) | omega | (simp; omega)) _)⟩
      · obtain ⟨rfl, h2⟩ := HQ1.out hqq
        have h1 : pickW N L = -1 := by rw [h2, List.drop_eq_nil_of_le (by omega)]; rfl
        obtain ⟨e1, e2⟩ := HPE.out.2 (by rw [h1]; omega)
        subst e1 e2
        rw [errE_some (by omega)] at CP
        have CE := Lib.hid fun w (h : TM w) => sameErr_yes (ErrNo.no 2) w h.h
        clear HPE HQ1 HQ2 h1 h2 hgo
        go_wp2_with fail
        refine (CP.out _ (by repeat (first | exact HB.out | refine blw_drewN ?_ _ | refine Below.setCell ?_ (by first | (simp; done) | omega | (simp; omega)) _ | refine Below.alloc ?_ (by first | (simp; done) | omega | (simp; omega)) _))).mono ?_
        rintro e w21 ⟨rfl, hb⟩
        have W21 := Lib.hid (blw_trans (show Below w.heap.size w _ by repeat (first | exact HB.out | refine blw_drewN ?_ _ | refine Below.setCell ?_ (by first | (simp; done) | omega | (simp; omega)) _ | refine Below.alloc ?_ (by first | (simp; done) | omega | (simp; omega)) _)) hb)
        have n21 := hb.size
        try simp at n21
        clear hb HB
        go_wp2_with fail
        refine (CE.out _ (hT.below (by repeat (first | exact W21.out | refine blw_drewN ?_ _ | refine Below.setCell ?_ (by first | (simp; done) | omega | (simp; omega)) _ | refine Below.alloc ?_ (by first | (simp; done) | omega | (simp; omega)) _)))).mono ?_
        rintro e w22 ⟨rfl, hb⟩
        have W22 := Lib.hid (blw_trans (show Below w.heap.size w _ by repeat (first | exact W21.out | refine blw_drewN ?_ _ | refine Below.setCell ?_ (by first | (simp; done) | omega | (simp; omega)) _ | refine Below.alloc ?_ (by first | (simp; done) | omega | (simp; omega)) _)) hb)
        have n22 := hb.size
        try simp at n22
        clear hb W21
        go_wp2_with fail
        go_ret
        exact ⟨ret_bool (by first | rfl | (simp; done)), by repeat (first | exact W22.out | refine blw_drewN ?_ _ | refine Below.setCell ?_ (by first | (simp; done) | omega | (simp; omega)) _ | refine Below.alloc ?_ (by first | (simp; done) | omega | (simp; omega)) _)⟩

theorem picktells_any (L : List Tg) (va : Value) (M : List Tg) (vb : Value) (w : World) (hT : TM w) (hL : TagsAt w va L) (hn : L.length ≤ 1000000000) (hb : ∀ x ∈ L, x.bulk ≤ 100000000)
    (hM : TagsAt w vb M) (hm : M.length ≤ 1000000000) (hbm : ∀ x ∈ M, x.bulk ≤ 100000000) :
    Calls Tryd.prog 9 #[va, vb] w fun e w' => e = .returned (.bool true) ∧ Below w.heap.size w w' := by
  have hL' := hL
  have hM' := hM
  obtain ⟨A, ca, rfl, hc⟩ := hL.spread
  obtain ⟨B, cb, rfl, hd⟩ := hM.spread
  by_cases hF : tfaults L = 0
  · by_cases hG : tfaults M = 0
    · exact picktells_o L M A B ca cb w hT hn hm hL' hb hM' hbm hF hG hc hd
    · exact picktells_g L M A B ca cb w hT hn hm hL' hb hM' hbm hF hG
  · exact picktells_f L M A B ca cb w hT hn hm hL' hb hM' hbm hF
end Go.Proofs.YtlhleojigcnjeaaDoor
