/- The walk of the law PickFirst. Conditions: the library's variable MaxLen holds a number; the tags are of bulk at most 100000000, and at most 100000000 of them each. -/
import Derived.Test.YtlhleojigcnjeaaDoorPick
import Derived.Test.YtlhleojigcnjeaaDoorTagged
namespace Go.Proofs.YtlhleojigcnjeaaDoor
open Go.RowKit

theorem tfaults_append : ∀ (A B : List Tg), tfaults (A ++ B) = if tfaults A = 0 then tfaults B else tfaults A
  | [], B => by simp [tfaults]
  | t :: r, B => by
    by_cases h : t.fault = 0
    · have e1 : tfaults (t :: r) = tfaults r := if_pos h
      have e2 : tfaults (t :: r ++ B) = tfaults (r ++ B) := if_pos h
      rw [e1, e2]; exact tfaults_append r B
    · have e1 : tfaults (t :: r) = t.fault := if_neg h
      have e2 : tfaults (t :: r ++ B) = t.fault := if_neg h
      rw [e1, e2, if_neg h]
theorem pickW_append {N : List (List UInt8)} : ∀ {A : List Tg} (B : List Tg), 0 ≤ pickW N A → pickW N (A ++ B) = pickW N A
  | [], B, h => by unfold pickW at h; omega
  | t :: r, B, h => by
    simp only [List.cons_append]
    unfold pickW at h ⊢
    by_cases hc : 0 ≤ pickC N t.chain
    · rw [if_pos hc, if_pos hc]
    · rw [if_neg hc] at h ⊢; rw [if_neg hc]; exact pickW_append B h
theorem fi_at {x : List UInt8} {N : List (List UInt8)} (h : 0 ≤ fi x 0 N) : ∃ q, fi x 0 N = ((q : Nat) : Int) ∧ N[q]? = some x := by
  rcases fi_rng x N 0 with ⟨e, _⟩ | ⟨k, e, hk⟩
  · rw [e] at h; omega
  · exact ⟨k, by rw [e]; omega, hk⟩
theorem pickC_at {N : List (List UInt8)} : ∀ {C : List Tg}, 0 ≤ pickC N C → ∃ q y, pickC N C = ((q : Nat) : Int) ∧ y ∈ C ∧ N[q]? = some y.txt
  | [], h => by unfold pickC at h; omega
  | y :: r, h => by
    unfold pickC at h ⊢
    by_cases hx : 0 ≤ fi y.txt 0 N
    · rw [if_pos hx] at h ⊢
      obtain ⟨q, e, hq⟩ := fi_at hx
      exact ⟨q, y, e, List.mem_cons_self .., hq⟩
    · rw [if_neg hx] at h ⊢
      obtain ⟨q, z, e, hz, hq⟩ := pickC_at h
      exact ⟨q, z, e, List.mem_cons_of_mem _ hz, hq⟩
theorem pickC_no {N : List (List UInt8)} : ∀ {C : List Tg}, ¬ 0 ≤ pickC N C → ∀ y ∈ C, y.txt ∉ N
  | [], _, y, hy => by simp at hy
  | y :: r, h, z, hz => by
    unfold pickC at h
    by_cases hx : 0 ≤ fi y.txt 0 N
    · rw [if_pos hx] at h; exact absurd hx h
    · rw [if_neg hx] at h
      rcases List.mem_cons.1 hz with rfl | hz
      · rcases fi_rng z.txt N 0 with ⟨_, hn⟩ | ⟨k, e, _⟩
        · exact hn
        · rw [e] at hx; omega
      · exact pickC_no h z hz
/-- some that there is lies in the chain just if one is picked of it -/
theorem found_iff (x : Tg) (M : List Tg) : (M.any fun h => inChain x h) = decide (0 ≤ pickC (M.map Tg.txt) x.chain) := by
  by_cases h : 0 ≤ pickC (M.map Tg.txt) x.chain
  · rw [decide_eq_true h]
    obtain ⟨q, y, _, hy, hq⟩ := pickC_at h
    rw [List.getElem?_map] at hq
    obtain ⟨z, hz, e⟩ := Option.map_eq_some_iff.1 hq
    exact List.any_eq_true.2 ⟨z, List.mem_of_getElem? hz, List.any_eq_true.2 ⟨y, hy, by rw [e]; simp⟩⟩
  · rw [decide_eq_false h]
    cases e : M.any fun h => inChain x h
    · rfl
    · obtain ⟨z, hz, hi⟩ := List.any_eq_true.1 e
      obtain ⟨y, hy, hq⟩ := List.any_eq_true.1 hi
      have : y.txt = z.txt := by simpa using hq
      exact absurd (by rw [this]; exact List.mem_map_of_mem hz) (pickC_no h y hy)
theorem found_at {x : Tg} {M : List Tg} (h : 0 ≤ pickC (M.map Tg.txt) x.chain) : ∃ q z, pickC (M.map Tg.txt) x.chain = ((q : Nat) : Int) ∧ M[q]? = some z ∧ inChain x z = true := by
  obtain ⟨q, y, e, hy, hq⟩ := pickC_at h
  rw [List.getElem?_map] at hq
  obtain ⟨z, hz, e2⟩ := Option.map_eq_some_iff.1 hq
  exact ⟨q, z, e, hz, List.any_eq_true.2 ⟨y, hy, by rw [e2]; simp⟩⟩
/-- the tags with their values -/
theorem pairs_of (w : World) (b off : Nat) : ∀ (L : List Tg), (∀ (j : Nat) t, L[j]? = some t → TagCell w b (off + j * 4) t) →
    ∃ P : List (Tg × Value), P.map (·.1) = L ∧ TagsOf w P ∧ ∀ (j : Nat) x, P[j]? = some x → ∀ k u, (tcells x.1 x.2)[k]? = some u → w.cell? ⟨b, off + j * 4 + k, none⟩ = some u := by
  intro L
  induction L generalizing off with
  | nil => exact fun _ => ⟨[], rfl, fun x hx => by simp at hx, fun j x hx => by simp at hx⟩
  | cons t r ih =>
    intro h
    obtain ⟨P, hP, hT, hC⟩ := ih (off + 4) fun j t ht => by
      have := h (j + 1) t (by simpa using ht)
      rw [show off + (j + 1) * 4 = off + 4 + j * 4 by omega] at this
      exact this
    obtain ⟨a, n, c, h0, h1, h2, h3, h4, h5⟩ := h 0 t rfl
    rw [Nat.zero_mul, Nat.add_zero] at h0 h1 h2 h3
    refine ⟨(t, .slice a n c) :: P, by rw [List.map_cons, hP], fun x hx => ?_, fun j x hx k u hu => ?_⟩
    · rcases List.mem_cons.1 hx with rfl | hx
      · exact ⟨h4, h5⟩
      · exact hT x hx
    · cases j with
      | zero =>
        obtain rfl : (t, Value.slice a n c) = x := by simpa using hx
        rw [Nat.zero_mul, Nat.add_zero]
        match k, hu with
        | 0, hu => exact (Option.some.inj hu) ▸ h0
        | 1, hu => exact (Option.some.inj hu) ▸ h1
        | 2, hu => exact (Option.some.inj hu) ▸ h2
        | 3, hu => exact (Option.some.inj hu) ▸ h3
      | succ j =>
        rw [show off + (j + 1) * 4 + k = off + 4 + j * 4 + k by omega]
        exact hC j x (by simpa using hx) k u hu
theorem flat_back : ∀ (P : List (Tg × Value)) (i : Nat) u, (flat P)[i]? = some u → ∃ j x k, P[j]? = some x ∧ (tcells x.1 x.2)[k]? = some u ∧ i = j * 4 + k
  | [], i, u, h => by simp [flat] at h
  | y :: r, i, u, h => by
    simp only [flat, List.flatMap_cons] at h
    by_cases hi : i < 4
    · rw [List.getElem?_append_left (by show i < 4; omega)] at h
      exact ⟨0, y, i, rfl, h, by omega⟩
    · rw [List.getElem?_append_right (by show 4 ≤ i; omega)] at h
      obtain ⟨j, x, k, hj, hk, e⟩ := flat_back r (i - 4) u h
      exact ⟨j + 1, x, k, by simpa using hj, hk, by omega⟩
theorem pairs_flat {w : World} {b off : Nat} {P : List (Tg × Value)} (hC : ∀ (j : Nat) x, P[j]? = some x → ∀ k u, (tcells x.1 x.2)[k]? = some u → w.cell? ⟨b, off + j * 4 + k, none⟩ = some u) :
    ∀ (j : Nat) u, (flat P)[j]? = some u → w.cell? ((⟨b, off, none⟩ : Addr).add j) = some u := fun i u hu => by
  obtain ⟨j, x, k, hj, hk, e⟩ := flat_back P i u hu
  rw [show (⟨b, off, none⟩ : Addr).add i = ⟨b, off + i, none⟩ from Go.WideShapes.add_plain .., e, ← Nat.add_assoc]
  exact hC j x hj k u hk
theorem flat_cells (w : World) (LV : List (Tg × Value)) (h : TagsOf w LV) : ∀ u ∈ flat LV, u.oneCell' = true := by
  intro u hu
  obtain ⟨x, hx, hu⟩ := List.mem_flatMap.1 hu
  obtain ⟨a, n, c, e⟩ := (h x hx).1.isSlice
  rw [e] at hu
  exact tcells_one _ _ _ _ u hu
theorem row_zero (w : World) (base : Nat) (hb : base ≤ w.heap.size) : (w.alloc (.cells #[] 24)).ownsRow base 24 4 (.slice (some ⟨w.heap.size, 0, none⟩) 0 0) 0 [] :=
  ⟨rfl, .inr ⟨w.heap.size, 0, #[], rfl, hb, by show (w.heap.push _)[w.heap.size]? = _; simp, Nat.le_refl _, by unfold maxLen; omega, rfl, rfl⟩⟩
theorem TagsOf.below {w w' : World} {P : List (Tg × Value)} (h : TagsOf w P) (hb : Below w.heap.size w w') : TagsOf w' P := fun x hx => ⟨(h x hx).1.below hb, (h x hx).2⟩
theorem spoilt_any (L : List Tg) (v : Value) (w : World) (hL : TagsAt w v L) (hn : L.length ≤ 1000000000) (hb : ∀ x ∈ L, x.bulk ≤ 100000000) (is : Bool) (h : (tfaults L != 0) = is) :
    Calls Tryd.prog 24 #[v] w fun e w' => e = .returned (.bool is) ∧ Below w.heap.size w w' := by
  have C := Lib.hid (rfaults_any L v w hL hn hb)
  obtain ⟨a, n, c, rfl⟩ := hL.isSlice
  by_cases hT : tfaults L = 0
  · obtain rfl : is = false := by rw [← h, hT]; rfl
    rw [hT] at C
    go_enter Tryd.func24, Tryd.ntmps24
    go_wp2_with fail
    refine C.out.mono ?_
    rintro e w1 ⟨rfl, hb⟩
    go_wp2_with fail
    go_ret
    exact ⟨rfl, hb⟩
  · have q1 : (tfaults L == 0) = false := beq_no hT
    have q2 : (tfaults L != 0) = true := by rw [bne, q1]; rfl
    obtain rfl : is = true := by rw [← h, q2]
    generalize tfaults L = T at *
    go_enter Tryd.func24, Tryd.ntmps24
    go_wp2_with fail
    refine C.out.mono ?_
    rintro e w1 ⟨rfl, hb⟩
    go_wp2_with fail
    go_ret
    exact ⟨rfl, hb⟩

set_option maxRecDepth 100000 in
set_option maxHeartbeats 4000000 in
theorem pickfirst_e (L M K : List Tg) (A B D : Option Addr) (ca cb cd : Nat) (w : World) (hT : MaxW w) (hn : L.length ≤ 100000000) (hm : M.length ≤ 100000000)
    (hL : TagsAt w (.slice A L.length ca) L) (hb : ∀ x ∈ L, x.bulk ≤ 100000000) (hM : TagsAt w (.slice B M.length cb) M) (hbm : ∀ x ∈ M, x.bulk ≤ 100000000) (hE : ¬ pickE L M = 0) :
    Calls Tryd.prog 6 #[.slice A L.length ca, .slice B M.length cb, .slice D K.length cd] w fun e w' => e = .returned (.bool true) ∧ Below w.heap.size w w' := by
  have CP := Lib.hid fun wx (h : Below w.heap.size w wx) => pick_any L M (.slice A L.length ca) (.slice B M.length cb) wx (hL.below h) (by omega) hb (hM.below h) (by omega) hbm
  have h0 : pickI L M = 0 := by
    unfold pickI
    by_cases h : tfaults L = 0 ∧ tfaults M = 0 ∧ 0 ≤ pickW (M.map Tg.txt) L
    · exact absurd ((if_pos h.1).trans ((if_pos h.2.1).trans (if_pos h.2.2))) hE
    · exact if_neg h
  rw [h0, errE_some hE] at CP
  generalize pickE L M = E at *
  clear hL hM hb hbm
  go_enter Tryd.func6, Tryd.ntmps6
  go_wp2_with fail
  refine (tagged_any _ (hT.below (by repeat (first | exact (Below.refl _ _) | refine blw_drewN ?_ _ | refine Below.setCell ?_ (by first | (simp; done) | omega | (simp; omega)) _ | refine Below.alloc ?_ (by first | (simp; done) | omega | (simp; omega)) _)))).mono ?_
  rintro e w1 ⟨rfl, hb⟩
  have W1 := Lib.hid (blw_trans (show Below w.heap.size w _ by repeat (first | exact (Below.refl _ _) | refine blw_drewN ?_ _ | refine Below.setCell ?_ (by first | (simp; done) | omega | (simp; omega)) _ | refine Below.alloc ?_ (by first | (simp; done) | omega | (simp; omega)) _)) hb)
  have n1 := hb.size
  try simp at n1
  clear hb
  go_wp2_with fail
  refine (CP.out _ (by repeat (first | exact W1.out | refine blw_drewN ?_ _ | refine Below.setCell ?_ (by first | (simp; done) | omega | (simp; omega)) _ | refine Below.alloc ?_ (by first | (simp; done) | omega | (simp; omega)) _))).mono ?_
  rintro e w2 ⟨rfl, hb⟩
  have W2 := Lib.hid (blw_trans (show Below w.heap.size w _ by repeat (first | exact W1.out | refine blw_drewN ?_ _ | refine Below.setCell ?_ (by first | (simp; done) | omega | (simp; omega)) _ | refine Below.alloc ?_ (by first | (simp; done) | omega | (simp; omega)) _)) hb)
  have n2 := hb.size
  try simp at n2
  clear hb W1
  go_wp2_with fail
  go_ret
  exact ⟨ret_bool (by first | rfl | (simp; done)), by repeat (first | exact W2.out | refine blw_drewN ?_ _ | refine Below.setCell ?_ (by first | (simp; done) | omega | (simp; omega)) _ | refine Below.alloc ?_ (by first | (simp; done) | omega | (simp; omega)) _)⟩

set_option maxRecDepth 100000 in
set_option maxHeartbeats 4000000 in
theorem pickfirst_o (L M K : List Tg) (A B D : Option Addr) (ca cb cd : Nat) (w : World) (hT : MaxW w) (hn : L.length ≤ 100000000) (hm : M.length ≤ 100000000) (hk : K.length ≤ 100000000)
    (hL : TagsAt w (.slice A L.length ca) L) (hb : ∀ x ∈ L, x.bulk ≤ 100000000) (hM : TagsAt w (.slice B M.length cb) M) (hbm : ∀ x ∈ M, x.bulk ≤ 100000000)
    (hF : tfaults L = 0) (hG : tfaults M = 0) (P : Nat) (hP : pickW (M.map Tg.txt) L = (P : Int)) (hPM : P < M.length) (j2 : Int) (E2 : Value) (S2 : Bool) (h2 : (E2 = .nilIface ∧ j2 = (P : Int)) ∨ ∃ n, E2 = errV n ∧ S2 = true)
    (hz : Nil0 (.slice D K.length cd))
    (C2 : Hid (∀ v wx, Below w.heap.size w wx → TagsAt wx v (L ++ K) → Calls Tryd.prog 23 #[v, .slice B M.length cb] wx fun e w' => e = .returned (.tuple #[.int .i64 j2, E2]) ∧ Below wx.heap.size wx w'))
    (CS : Hid (∀ wx, Below w.heap.size w wx → Calls Tryd.prog 24 #[.slice D K.length cd] wx fun e w' => e = .returned (.bool S2) ∧ Below wx.heap.size wx w'))
    (hc : ∀ (j : Nat) t, L[j]? = some t → ∃ b off, A = some ⟨b, off, none⟩ ∧ TagCell w b (off + j * 4) t) (hd : ∀ (j : Nat) t, M[j]? = some t → ∃ b off, B = some ⟨b, off, none⟩ ∧ TagCell w b (off + j * 4) t) (he : ∀ (j : Nat) t, K[j]? = some t → ∃ b off, D = some ⟨b, off, none⟩ ∧ TagCell w b (off + j * 4) t) :
    Calls Tryd.prog 6 #[.slice A L.length ca, .slice B M.length cb, .slice D K.length cd] w fun e w' => e = .returned (.bool true) ∧ Below w.heap.size w w' := by
  have CP := Lib.hid fun wx (h : Below w.heap.size w wx) => pick_any L M (.slice A L.length ca) (.slice B M.length cb) wx (hL.below h) (by omega) hb (hM.below h) (by omega) hbm
  have e1 : pickI L M = (P : Int) := (if_pos ⟨hF, hG, by rw [hP]; omega⟩ : pickI L M = pickW (M.map Tg.txt) L).trans hP
  have e2 : pickE L M = 0 := (if_pos hF).trans ((if_pos hG).trans (if_pos (by rw [hP]; omega)))
  rw [e1, e2, errE_nil rfl] at CP
  obtain ⟨iT, hiT, hT0, hT1, hT2⟩ := info_parts infoTag
  have HC := Lib.hid hc
  have HD := Lib.hid hd
  have HE := Lib.hid he
  have HBK := Lib.hid hb
  have HBM := Lib.hid hbm
  have HXF := Lib.hid (tfaults_ok hF)
  have HZF := Lib.hid (tfaults_ok hG)
  have CW := Lib.hid fun (x z : Tg) V V2 wx hv hz0 hx hv2 hz2 hz => within_any x z V V2 wx hv hz0 hx hv2 hz2 hz
  have HFI := Lib.hid fun (x : Tg) => found_iff x M
  have HFA := Lib.hid fun (x : Tg) h => found_at (x := x) (M := M) h
  have HST := Lib.hid fun k (x : Tg) (h : L[k]? = some x) => pickW_step (N := M.map Tg.txt) h
  have HPN := Lib.hid hP
  have H2 := Lib.hid h2
  have hLne : L ≠ [] := by rintro rfl; unfold pickW at hP; omega
  obtain ⟨b0, off0, hA, hcell0⟩ := hc 0 (L.head hLne) (by cases L with | nil => exact absurd rfl hLne | cons _ _ => rfl)
  subst hA
  clear hcell0
  obtain ⟨PL, hPL, hTL, hCL⟩ := pairs_of w b0 off0 L fun j t ht => by
    obtain ⟨b, off, e, h⟩ := hc j t ht
    injection e with e
    injection e with e1 e2 _
    subst e1 e2
    exact h
  have HPL := Lib.hid hPL
  have HTL := Lib.hid hTL
  have HCL := Lib.hid (pairs_flat hCL)
  have HLL := Lib.hid (show (flat PL).length = L.length * 4 by rw [flat_len, ← hPL, List.length_map])
  have HKK : Hid (∃ PK : List (Tg × Value), PK.map (·.1) = K ∧ TagsOf w PK ∧ ((D = none ∧ PK = []) ∨ ∃ ad, D = some ad ∧ ∀ (j : Nat) u, (flat PK)[j]? = some u → w.cell? (ad.add j) = some u)) := Lib.hid (by
    by_cases hKn : K = []
    · subst hKn
      refine ⟨[], rfl, fun x hx => by simp at hx, ?_⟩
      cases D with
      | none => exact .inl ⟨rfl, rfl⟩
      | some ad => exact .inr ⟨ad, rfl, fun j u hu => by simp [flat] at hu⟩
    · obtain ⟨b, off, hD, _⟩ := he 0 (K.head hKn) (by cases K with | nil => exact absurd rfl hKn | cons _ _ => rfl)
      subst hD
      obtain ⟨PK, h1, h2, h3⟩ := pairs_of w b off K fun j t ht => by
        obtain ⟨b', off', e, h⟩ := he j t ht
        injection e with e
        injection e with e1 e2 _
        subst e1 e2
        exact h
      exact ⟨PK, h1, h2, .inr ⟨_, rfl, pairs_flat h3⟩⟩)
  clear hL hM hb hbm hc hd he hF hG hP e1 e2 h2 hLne hPL hTL hCL
  generalize M.map Tg.txt = N at *
  go_enter Tryd.func6, Tryd.ntmps6
  go_wp2_with fail
  refine (tagged_any _ (hT.below (by repeat (first | exact (Below.refl _ _) | refine blw_drewN ?_ _ | refine Below.setCell ?_ (by first | (simp; done) | omega | (simp; omega)) _ | refine Below.alloc ?_ (by first | (simp; done) | omega | (simp; omega)) _)))).mono ?_
  rintro e w1 ⟨rfl, hb⟩
  have W1 := Lib.hid (blw_trans (show Below w.heap.size w _ by repeat (first | exact (Below.refl _ _) | refine blw_drewN ?_ _ | refine Below.setCell ?_ (by first | (simp; done) | omega | (simp; omega)) _ | refine Below.alloc ?_ (by first | (simp; done) | omega | (simp; omega)) _)) hb)
  have n1 := hb.size
  try simp at n1
  clear hb
  go_wp2_with fail
  refine (CP.out _ (by repeat (first | exact W1.out | refine blw_drewN ?_ _ | refine Below.setCell ?_ (by first | (simp; done) | omega | (simp; omega)) _ | refine Below.alloc ?_ (by first | (simp; done) | omega | (simp; omega)) _))).mono ?_
  rintro e w2 ⟨rfl, hb⟩
  have W2 := Lib.hid (blw_trans (show Below w.heap.size w _ by repeat (first | exact W1.out | refine blw_drewN ?_ _ | refine Below.setCell ?_ (by first | (simp; done) | omega | (simp; omega)) _ | refine Below.alloc ?_ (by first | (simp; done) | omega | (simp; omega)) _)) hb)
  have n2 := hb.size
  try simp at n2
  clear hb W1
  have hP0 : ¬ (P : Int) < 0 := by omega
  have hP1 : (P : Int) < (M.length : Int) := by omega
  have hP2 : ¬ (P : Int) ≥ (M.length : Int) := by omega
  have d1 : decide ((P : Int) < 0) = false := decide_eq_false hP0
  have d2 : decide ((P : Int) ≥ (M.length : Int)) = false := decide_eq_false hP2
  have d3 : decide ((M.length : Int) ≤ (P : Int)) = false := decide_eq_false (by omega)
  have d4 : decide (M.length ≤ P) = false := decide_eq_false (by omega)
  go_wp2_with fail
  try simp only [d4]
  clear d1 d2 d3 d4
  go_loopw [10, 11] (fun f i wr => ∃ (k : Nat) (q : Bool), f = .bool q ∧ i = .int .i64 k ∧ k ≤ L.length ∧ Hid (q = false → pickW N L = pickW N (L.drop k)) ∧ Hid (Below w.heap.size w wr)) (fun _ i _ => L.length - (RowKit.intOf i).toNat)
  case atStart => exact ⟨0, false, rfl, rfl, Nat.zero_le _, Lib.hid fun _ => rfl, Lib.hid (by repeat (first | exact W2.out | refine blw_drewN ?_ _ | refine Below.setCell ?_ (by first | (simp; done) | omega | (simp; omega)) _ | refine Below.alloc ?_ (by first | (simp; done) | omega | (simp; omega)) _))⟩
  case round =>
    obtain ⟨k, q, rfl, rfl, hk, HQ, HB⟩ := hrel
    have hsz := HB.out.size
    by_cases hgo : q = false ∧ k < L.length
    · obtain ⟨rfl, hlt⟩ := hgo
      obtain ⟨x, hx⟩ : ∃ x, L[k]? = some x := ⟨L[k], List.getElem?_eq_getElem hlt⟩
      obtain ⟨b, off, e0, hcell⟩ := HC.out k x hx
      injection e0 with e0
      injection e0 with e1 e2 _
      subst e1 e2
      have hxm := List.mem_of_getElem? hx
      have hxb := HBK.out x hxm
      have hxf := HXF.out x hxm
      have HXC := Lib.hid hcell
      have HPW := Lib.hid ((HQ.out rfl).trans (HST.out k x hx))
      have HFX := Lib.hid (HFI.out x)
      have HFX2 := Lib.hid (HFA.out x)
      have CX := Lib.hid fun z V V2 wx hv hz0 hv2 hz2 hz => CW.out x z V V2 wx hv hz0 hxb hv2 hz2 hz
      clear hx hcell HQ HST HFI HFA CW
      go_wp2_with fail
      go_loopw [10, 12] (fun f i wi => ∃ j : Nat, f = .bool ((M.take j).any fun h => inChain x h) ∧ i = .int .i64 j ∧ j ≤ M.length ∧ Hid (Below w.heap.size w wi)) (fun _ i _ => M.length - (RowKit.intOf i).toNat)
      case atStart => exact ⟨0, rfl, rfl, Nat.zero_le _, HB⟩
      case round =>
        obtain ⟨j, rfl, rfl, hj, HB2⟩ := hrel
        clear HB
        by_cases hjt : j < M.length
        · obtain ⟨z, hz⟩ : ∃ z, M[j]? = some z := ⟨M[j], List.getElem?_eq_getElem hjt⟩
          obtain ⟨b2, off2, rfl, hcell2⟩ := HD.out j z hz
          have hzm := List.mem_of_getElem? hz
          have hzb := HBM.out z hzm
          have hzf := HZF.out z hzm
          obtain ⟨xa, xn, xc, x0, x1, x2, x3, xs, xz⟩ := HXC.out.below HB2.out
          obtain ⟨za, zn, zc, z0, z1, z2, z3, zs, zz⟩ := hcell2.below HB2.out
          have HXS := Lib.hid xs
          have HZS := Lib.hid zs
          have CZ := Lib.hid fun wx hv hv2 => CX.out z (.slice xa xn xc) (.slice za zn zc) wx hv xz hv2 zz hzb
          rw [hxf, hzf] at CZ
          simp only [if_pos, errE_nil, decide_true, Bool.true_and] at CZ
          have HTK := Lib.hid (any_take (p := fun h => inChain x h) hz)
          generalize inChain x z = I at *
          generalize (M.take j).any (fun h => inChain x h) = Q at *
          clear hz hcell2 xs zs xz zz CX hxf hzf
          go_wp2_with fail
  
          refine wp_region_held_drew (S := fun w' => w'.cell? ⟨b0, off0 + k * 4, none⟩ = some (.string ⟨x.l.toArray⟩) ∧ w'.cell? ⟨b0, off0 + k * 4 + 1, none⟩ = some (.string ⟨x.s.toArray⟩) ∧ w'.cell? ⟨b0, off0 + k * 4 + 2, none⟩ = some (.string ⟨x.r.toArray⟩) ∧ w'.cell? ⟨b0, off0 + k * 4 + 3, none⟩ = some (.slice xa xn xc) ∧ w'.cell? ⟨b2, off2 + j * 4, none⟩ = some (.string ⟨z.l.toArray⟩) ∧ w'.cell? ⟨b2, off2 + j * 4 + 1, none⟩ = some (.string ⟨z.s.toArray⟩) ∧ w'.cell? ⟨b2, off2 + j * 4 + 2, none⟩ = some (.string ⟨z.r.toArray⟩) ∧ w'.cell? ⟨b2, off2 + j * 4 + 3, none⟩ = some (.slice za zn zc) ∧ Hid (StrsAt w' (.slice xa xn xc) x.vs) ∧ Hid (StrsAt w' (.slice za zn zc) z.vs) ∧ Hid (Below w.heap.size w w')) (by kernel_rfl) (by exact ⟨by go_keep, by go_keep, by go_keep, by go_keep, by go_keep, by go_keep, by go_keep, by go_keep, Lib.hid (StrsAt.drewN HXS.out 1), Lib.hid (StrsAt.drewN HZS.out 1), Lib.hid (Below.drew HB2.out)⟩) (fun hHeld => ?_)
          refine take_run (d := (some 57)) (v := ?v1) 0 rfl rfl (by kernel_rfl) (by kernel_rfl) (by kernel_rfl) (fun _ _ _ h => h) (by rfl) hHeld ?hy1 ?rs1
          case hy1 => (intro w hSw; (try dsimp only at hSw); go_simp) <;> (try with_reducible rfl)
          (try simp only [Act.put, List.setIfInBounds_toArray, List.set_cons_zero, List.set_cons_succ])
          refine take_run (d := (some 58)) (v := ?v2) 1 rfl rfl (by kernel_rfl) (by kernel_rfl) (by kernel_rfl) (fun _ _ _ h => h) (by rfl) hHeld ?hy2 ?rs2
          case hy2 => (intro w hSw; (try dsimp only at hSw); go_simp) <;> (try with_reducible rfl)
          (try simp only [Act.put, List.setIfInBounds_toArray, List.set_cons_zero, List.set_cons_succ])
          refine take_run (d := (some 59)) (v := ?v3) 2 rfl rfl (by kernel_rfl) (by kernel_rfl) (by kernel_rfl) (fun _ _ _ h => h) (by rfl) hHeld ?hy3 ?rs3
          case hy3 => (intro w hSw; (try dsimp only at hSw); go_simp) <;> (try with_reducible rfl)
          (try simp only [Act.put, List.setIfInBounds_toArray, List.set_cons_zero, List.set_cons_succ])
          refine take_run (d := (some 60)) (v := ?v4) 3 rfl rfl (by kernel_rfl) (by kernel_rfl) (by kernel_rfl) (fun _ _ _ h => h) (by rfl) hHeld ?hy4 ?rs4
          case hy4 => (intro w hSw; (try dsimp only at hSw); go_simp) <;> (try with_reducible rfl)
          (try simp only [Act.put, List.setIfInBounds_toArray, List.set_cons_zero, List.set_cons_succ])
          refine take_run (d := (some 61)) (v := ?v5) 4 rfl rfl (by kernel_rfl) (by kernel_rfl) (by kernel_rfl) (fun _ _ _ h => h) (by rfl) hHeld ?hy5 ?rs5
          case hy5 => (intro w hSw; (try dsimp only at hSw); go_simp) <;> (try with_reducible rfl)
          (try simp only [Act.put, List.setIfInBounds_toArray, List.set_cons_zero, List.set_cons_succ])
          refine take_run (d := (some 62)) (v := ?v6) 5 rfl rfl (by kernel_rfl) (by kernel_rfl) (by kernel_rfl) (fun _ _ _ h => h) (by rfl) hHeld ?hy6 ?rs6
          case hy6 => (intro w hSw; (try dsimp only at hSw); go_simp) <;> (try with_reducible rfl)
          (try simp only [Act.put, List.setIfInBounds_toArray, List.set_cons_zero, List.set_cons_succ])
          refine take_run (d := (some 63)) (v := ?v7) 6 rfl rfl (by kernel_rfl) (by kernel_rfl) (by kernel_rfl) (fun _ _ _ h => h) (by rfl) hHeld ?hy7 ?rs7
          case hy7 => (intro w hSw; (try dsimp only at hSw); go_simp) <;> (try with_reducible rfl)
          (try simp only [Act.put, List.setIfInBounds_toArray, List.set_cons_zero, List.set_cons_succ])
          refine take_run (d := (some 64)) (v := ?v8) 7 rfl rfl (by kernel_rfl) (by kernel_rfl) (by kernel_rfl) (fun _ _ _ h => h) (by rfl) hHeld ?hy8 ?rs8
          case hy8 => (intro w hSw; (try dsimp only at hSw); go_simp) <;> (try with_reducible rfl)
          (try simp only [Act.put, List.setIfInBounds_toArray, List.set_cons_zero, List.set_cons_succ])
          refine take_call 8 rfl (by kernel_rfl) (by rfl) (fun K hK => ?_)
          go_simp
          refine (CZ.out _ (by obtain ⟨_, _, _, _, _, _, _, _, h1, _, _⟩ := hHeld; exact h1.out) (by obtain ⟨_, _, _, _, _, _, _, _, _, h1, _⟩ := hHeld; exact h1.out)).mono ?_
          rintro e w' ⟨rfl, hb⟩
          refine hK.out _ _ (by obtain ⟨h0, h1, h2, h3, h4, h5, h6, h7, h8, h9, hw⟩ := hHeld; exact ⟨cell_keep h0 hb, cell_keep h1 hb, cell_keep h2 hb, cell_keep h3 hb, cell_keep h4 hb, cell_keep h5 hb, cell_keep h6 hb, cell_keep h7 hb, Lib.hid (h8.out.below hb), Lib.hid (h9.out.below hb), Lib.hid (blw_trans hw.out hb)⟩) (fun hHeld => ?_)
          clear hK K
          (try simp only [Act.put, List.setIfInBounds_toArray, List.set_cons_zero, List.set_cons_succ])
          refine take_run (d := (some 56)) (v := ?v10) 9 rfl rfl (by kernel_rfl) (by kernel_rfl) (by kernel_rfl) (fun _ _ _ h => h) (by rfl) hHeld ?hy10 ?rs10
          case hy10 => (intro w hSw; (try dsimp only at hSw); go_simp) <;> (try with_reducible rfl)
          (try simp only [Act.put, List.setIfInBounds_toArray, List.set_cons_zero, List.set_cons_succ])
          refine take_run (d := (some 66)) (v := ?v11) 10 rfl rfl (by kernel_rfl) (by kernel_rfl) (by kernel_rfl) (fun _ _ _ h => h) (by rfl) hHeld ?hy11 ?rs11
          case hy11 => (intro w hSw; (try dsimp only at hSw); go_simp) <;> (try with_reducible rfl)
          (try simp only [Act.put, List.setIfInBounds_toArray, List.set_cons_zero, List.set_cons_succ])
          refine take_run (d := (some 67)) (v := ?v12) 11 rfl rfl (by kernel_rfl) (by kernel_rfl) (by kernel_rfl) (fun _ _ _ h => h) (by rfl) hHeld ?hy12 ?rs12
          case hy12 => (intro w hSw; (try dsimp only at hSw); go_simp) <;> (try with_reducible rfl)
          (try simp only [Act.put, List.setIfInBounds_toArray, List.set_cons_zero, List.set_cons_succ])
          refine take_run (d := (some 13)) (v := ?v13) 12 rfl rfl (by kernel_rfl) (by kernel_rfl) (by kernel_rfl) (fun _ _ _ h => h) (by rfl) hHeld ?hy13 ?rs13
          case hy13 => (intro w hSw; (try dsimp only at hSw); go_simp) <;> (try with_reducible rfl)
          (try simp only [Act.put, List.setIfInBounds_toArray, List.set_cons_zero, List.set_cons_succ])
          refine take_run (d := (some 14)) (v := ?v14) 13 rfl rfl (by kernel_rfl) (by kernel_rfl) (by kernel_rfl) (fun _ _ _ h => h) (by rfl) hHeld ?hy14 ?rs14
          case hy14 => (intro w hSw; (try dsimp only at hSw); go_simp) <;> (try with_reducible rfl)
          (try simp only [Act.put, List.setIfInBounds_toArray, List.set_cons_zero, List.set_cons_succ])
          refine wpAnyH_done (by kernel_rfl) ?_ _
          obtain ⟨z0, z1, z2, z3, z4, z5, z6, z7, z8, z9, zW⟩ := hHeld
          clear x0 x1 x2 x3 HXS HZS CZ HB2
          cases Q with
          | true =>
            go_wp2_with fail
            go_roundw
            case rel => exact ⟨j + 1, by rw [HTK.out]; rfl, by go_num, by omega, zW⟩
            case measure => simp [RowKit.intOf]; omega
          | false =>
            go_wp2_with fail
            go_roundw
            case rel => exact ⟨j + 1, by rw [HTK.out]; rfl, by go_num, by omega, zW⟩
            case measure => simp [RowKit.intOf]; omega
        · obtain rfl : j = M.length := by omega
          rw [List.take_length]
          rw [HFX.out]
          by_cases hpc : 0 ≤ pickC N x.chain
          · obtain ⟨q2, z, eq, hz, hin⟩ := HFX2.out hpc
            obtain rfl : q2 = P := by
              have h1 := HPW.out.trans (if_pos hpc)
              rw [HPN.out, eq] at h1
              omega
            obtain ⟨b2, off2, rfl, hcell2⟩ := HD.out q2 z hz
            have hzm := List.mem_of_getElem? hz
            have hzb := HBM.out z hzm
            have hzf := HZF.out z hzm
            obtain ⟨xa, xn, xc, x0, x1, x2, x3, xs, xz⟩ := HXC.out.below HB2.out
            obtain ⟨za, zn, zc, z0, z1, z2, z3, zs, zz⟩ := hcell2.below HB2.out
            have HXS := Lib.hid xs
            have HZS := Lib.hid zs
            have CZ := Lib.hid fun wx hv hv2 => CX.out z (.slice xa xn xc) (.slice za zn zc) wx hv xz hv2 zz hzb
            rw [hxf, hzf, hin] at CZ
            simp only [if_pos, errE_nil, decide_true, Bool.true_and] at CZ
            rw [decide_eq_true hpc]
            clear hz hcell2 xs zs xz zz CX hxf hzf hpc eq HFX HFX2 HPW hin
            go_wp2_with fail
  
            refine wp_region_held_drew (S := fun w' => w'.cell? ⟨b0, off0 + k * 4, none⟩ = some (.string ⟨x.l.toArray⟩) ∧ w'.cell? ⟨b0, off0 + k * 4 + 1, none⟩ = some (.string ⟨x.s.toArray⟩) ∧ w'.cell? ⟨b0, off0 + k * 4 + 2, none⟩ = some (.string ⟨x.r.toArray⟩) ∧ w'.cell? ⟨b0, off0 + k * 4 + 3, none⟩ = some (.slice xa xn xc) ∧ w'.cell? ⟨b2, off2 + q2 * 4, none⟩ = some (.string ⟨z.l.toArray⟩) ∧ w'.cell? ⟨b2, off2 + q2 * 4 + 1, none⟩ = some (.string ⟨z.s.toArray⟩) ∧ w'.cell? ⟨b2, off2 + q2 * 4 + 2, none⟩ = some (.string ⟨z.r.toArray⟩) ∧ w'.cell? ⟨b2, off2 + q2 * 4 + 3, none⟩ = some (.slice za zn zc) ∧ Hid (StrsAt w' (.slice xa xn xc) x.vs) ∧ Hid (StrsAt w' (.slice za zn zc) z.vs) ∧ Hid (Below w.heap.size w w')) (by kernel_rfl) (by exact ⟨by go_keep, by go_keep, by go_keep, by go_keep, by go_keep, by go_keep, by go_keep, by go_keep, Lib.hid (StrsAt.drewN HXS.out 1), Lib.hid (StrsAt.drewN HZS.out 1), Lib.hid (Below.drew HB2.out)⟩) (fun hHeld => ?_)
            refine take_run (d := (some 76)) (v := ?v15) 0 rfl rfl (by kernel_rfl) (by kernel_rfl) (by kernel_rfl) (fun _ _ _ h => h) (by rfl) hHeld ?hy15 ?rs15
            case hy15 => (intro w hSw; (try dsimp only at hSw); go_simp) <;> (try with_reducible rfl)
            (try simp only [Act.put, List.setIfInBounds_toArray, List.set_cons_zero, List.set_cons_succ])
            refine take_run (d := (some 77)) (v := ?v16) 1 rfl rfl (by kernel_rfl) (by kernel_rfl) (by kernel_rfl) (fun _ _ _ h => h) (by rfl) hHeld ?hy16 ?rs16
            case hy16 => (intro w hSw; (try dsimp only at hSw); go_simp) <;> (try with_reducible rfl)
            (try simp only [Act.put, List.setIfInBounds_toArray, List.set_cons_zero, List.set_cons_succ])
            refine take_run (d := (some 78)) (v := ?v17) 2 rfl rfl (by kernel_rfl) (by kernel_rfl) (by kernel_rfl) (fun _ _ _ h => h) (by rfl) hHeld ?hy17 ?rs17
            case hy17 => (intro w hSw; (try dsimp only at hSw); go_simp) <;> (try with_reducible rfl)
            (try simp only [Act.put, List.setIfInBounds_toArray, List.set_cons_zero, List.set_cons_succ])
            refine take_run (d := (some 79)) (v := ?v18) 3 rfl rfl (by kernel_rfl) (by kernel_rfl) (by kernel_rfl) (fun _ _ _ h => h) (by rfl) hHeld ?hy18 ?rs18
            case hy18 => (intro w hSw; (try dsimp only at hSw); go_simp) <;> (try with_reducible rfl)
            (try simp only [Act.put, List.setIfInBounds_toArray, List.set_cons_zero, List.set_cons_succ])
            refine take_run (d := (some 80)) (v := ?v19) 4 rfl rfl (by kernel_rfl) (by kernel_rfl) (by kernel_rfl) (fun _ _ _ h => h) (by rfl) hHeld ?hy19 ?rs19
            case hy19 => (intro w hSw; (try dsimp only at hSw); go_simp) <;> (try with_reducible rfl)
            (try simp only [Act.put, List.setIfInBounds_toArray, List.set_cons_zero, List.set_cons_succ])
            refine take_run (d := (some 81)) (v := ?v20) 5 rfl rfl (by kernel_rfl) (by kernel_rfl) (by kernel_rfl) (fun _ _ _ h => h) (by rfl) hHeld ?hy20 ?rs20
            case hy20 => (intro w hSw; (try dsimp only at hSw); go_simp) <;> (try with_reducible rfl)
            (try simp only [Act.put, List.setIfInBounds_toArray, List.set_cons_zero, List.set_cons_succ])
            refine take_run (d := (some 82)) (v := ?v21) 6 rfl rfl (by kernel_rfl) (by kernel_rfl) (by kernel_rfl) (fun _ _ _ h => h) (by rfl) hHeld ?hy21 ?rs21
            case hy21 => (intro w hSw; (try dsimp only at hSw); go_simp) <;> (try with_reducible rfl)
            (try simp only [Act.put, List.setIfInBounds_toArray, List.set_cons_zero, List.set_cons_succ])
            refine take_run (d := (some 83)) (v := ?v22) 7 rfl rfl (by kernel_rfl) (by kernel_rfl) (by kernel_rfl) (fun _ _ _ h => h) (by rfl) hHeld ?hy22 ?rs22
            case hy22 => (intro w hSw; (try dsimp only at hSw); go_simp) <;> (try with_reducible rfl)
            (try simp only [Act.put, List.setIfInBounds_toArray, List.set_cons_zero, List.set_cons_succ])
            refine take_call 8 rfl (by kernel_rfl) (by rfl) (fun K hK => ?_)
            go_simp
            refine (CZ.out _ (by obtain ⟨_, _, _, _, _, _, _, _, h1, _, _⟩ := hHeld; exact h1.out) (by obtain ⟨_, _, _, _, _, _, _, _, _, h1, _⟩ := hHeld; exact h1.out)).mono ?_
            rintro e w' ⟨rfl, hb⟩
            refine hK.out _ _ (by obtain ⟨h0, h1, h2, h3, h4, h5, h6, h7, h8, h9, hw⟩ := hHeld; exact ⟨cell_keep h0 hb, cell_keep h1 hb, cell_keep h2 hb, cell_keep h3 hb, cell_keep h4 hb, cell_keep h5 hb, cell_keep h6 hb, cell_keep h7 hb, Lib.hid (h8.out.below hb), Lib.hid (h9.out.below hb), Lib.hid (blw_trans hw.out hb)⟩) (fun hHeld => ?_)
            clear hK K
            (try simp only [Act.put, List.setIfInBounds_toArray, List.set_cons_zero, List.set_cons_succ])
            refine take_run (d := (some 75)) (v := ?v24) 9 rfl rfl (by kernel_rfl) (by kernel_rfl) (by kernel_rfl) (fun _ _ _ h => h) (by rfl) hHeld ?hy24 ?rs24
            case hy24 => (intro w hSw; (try dsimp only at hSw); go_simp) <;> (try with_reducible rfl)
            (try simp only [Act.put, List.setIfInBounds_toArray, List.set_cons_zero, List.set_cons_succ])
            refine take_run (d := (some 85)) (v := ?v25) 10 rfl rfl (by kernel_rfl) (by kernel_rfl) (by kernel_rfl) (fun _ _ _ h => h) (by rfl) hHeld ?hy25 ?rs25
            case hy25 => (intro w hSw; (try dsimp only at hSw); go_simp) <;> (try with_reducible rfl)
            (try simp only [Act.put, List.setIfInBounds_toArray, List.set_cons_zero, List.set_cons_succ])
            refine take_run (d := (some 86)) (v := ?v26) 11 rfl rfl (by kernel_rfl) (by kernel_rfl) (by kernel_rfl) (fun _ _ _ h => h) (by rfl) hHeld ?hy26 ?rs26
            case hy26 => (intro w hSw; (try dsimp only at hSw); go_simp) <;> (try with_reducible rfl)
            (try simp only [Act.put, List.setIfInBounds_toArray, List.set_cons_zero, List.set_cons_succ])
            refine take_run (d := (some 15)) (v := ?v27) 12 rfl rfl (by kernel_rfl) (by kernel_rfl) (by kernel_rfl) (fun _ _ _ h => h) (by rfl) hHeld ?hy27 ?rs27
            case hy27 => (intro w hSw; (try dsimp only at hSw); go_simp) <;> (try with_reducible rfl)
            (try simp only [Act.put, List.setIfInBounds_toArray, List.set_cons_zero, List.set_cons_succ])
            refine take_run (d := (some 16)) (v := ?v28) 13 rfl rfl (by kernel_rfl) (by kernel_rfl) (by kernel_rfl) (fun _ _ _ h => h) (by rfl) hHeld ?hy28 ?rs28
            case hy28 => (intro w hSw; (try dsimp only at hSw); go_simp) <;> (try with_reducible rfl)
            (try simp only [Act.put, List.setIfInBounds_toArray, List.set_cons_zero, List.set_cons_succ])
            refine wpAnyH_done (by kernel_rfl) ?_ _
            obtain ⟨z0, z1, z2, z3, z4, z5, z6, z7, z8, z9, zW⟩ := hHeld
            clear x0 x1 x2 x3 HXS HZS CZ HB2
            go_wp2_with fail
            go_roundw
            case rel => exact ⟨k + 1, true, rfl, by go_num, by omega, Lib.hid (fun h => by cases h), zW⟩
            case measure => simp [RowKit.intOf]; omega
          · have HN := Lib.hid (show pickW N L = pickW N (L.drop (k + 1)) from HPW.out.trans (if_neg hpc))
            rw [decide_eq_false hpc]
            clear hpc HFX HFX2 HPW hxf
            go_wp2_with fail
            go_roundw
            case rel => exact ⟨k + 1, false, rfl, by go_num, by omega, Lib.hid (fun _ => HN.out), HB2⟩
            case measure => simp [RowKit.intOf]; omega
    · obtain rfl : q = true := by
        cases q with
        | true => rfl
        | false =>
          have hkl : ¬ k < L.length := fun h => hgo ⟨rfl, h⟩
          have h := HQ.out rfl
          rw [HPN.out, List.drop_eq_nil_of_le (by omega)] at h
          unfold pickW at h
          omega
      clear hgo HQ
      clear HXF HZF CW HFI HFA HST HPN HBK HBM HC HD HE hP0 hP1 hP2
      obtain ⟨PK, hPK, hTK, hPC⟩ := HKK.out
      have HTK := Lib.hid hTK
      clear HKK hTK
      rcases hPC with ⟨rfl, rfl⟩ | ⟨ad, rfl, hcK⟩
      · obtain rfl : K = [] := hPK.symm
        obtain rfl : cd = 0 := hz _ _ rfl
        go_wp2_with (at_builtin; first | (refine wpList_append_own _ rfl _ _ 35 rfl w.heap.size 24 iT _ 4 72 Tryd.underlying35 hiT hT0 hT1 hT2 rfl (by decide) (.slice (some ⟨wr.heap.size, 0, none⟩) 0 0) 0 [] rfl (row_zero wr w.heap.size hsz) ⟨b0, off0, none⟩ L.length ca (flat PL) rfl HLL.out (fun j u hu => cell_keep (HCL.out j u hu) (HB.out.alloc hsz _)) (flat_cells _ _ HTL.out) (by unfold maxLen; omega) (by omega) (by simp; omega) ?_; intro v1 wy hown hgrow _; have hg1 := (show World.grownBy _ _ (some wr.heap.size) from hgrow); have R1 := Lib.hid (show wy.ownsRow w.heap.size 24 4 v1 L.length (flat PL) by simpa using hown); have G1 := Lib.hid ((HB.out.alloc hsz _).grown hg1 (by simp; omega) (fun k hk => by injection hk with hk; omega)); have hgs := G1.out.size; clear hown hgrow hg1; obtain ⟨y1, y2, rfl⟩ := row_slice R1.out) | (refine wpList_append_own_none rfl _ _ 35 rfl w.heap.size 24 iT 4 Tryd.underlying35 hiT _ _ _ rfl R1.out rfl ?_))
        all_goals
          have G2 := G1
          have HT2 := Lib.hid (show TagsAt wy (.slice y1 L.length y2) (L ++ []) from by
            have h := TagsAt.of_row R1.out (HTL.out.below G1.out)
            rw [HPL.out] at h
            rw [List.append_nil]; exact h)
          clear R1
          refine (C2.out _ _ G2.out HT2.out).mono ?_
          rintro e wq ⟨rfl, hb⟩
          have GQ := Lib.hid (blw_trans G2.out hb)
          clear hb HT2 C2
          rcases H2.out with ⟨rfl, rfl⟩ | ⟨n, rfl, rfl⟩
          · go_wp2_with fail
            go_ret
            exact ⟨ret_bool (by first | rfl | (simp; done)), GQ.out⟩
          · go_wp2_with fail
            refine (CS.out _ GQ.out).mono ?_
            rintro e wv ⟨rfl, hb⟩
            have GV := Lib.hid (blw_trans GQ.out hb)
            go_wp2_with fail
            go_ret
            exact ⟨ret_bool (by first | rfl | (simp; done)), GV.out⟩
      · have HKC := Lib.hid hcK
        have HKL := Lib.hid (show (flat PK).length = K.length * 4 by rw [flat_len, ← hPK, List.length_map])
        have HPK := Lib.hid hPK
        clear hcK hPK
        go_wp2_with (at_builtin; first | (refine wpList_append_own _ rfl _ _ 35 rfl w.heap.size 24 iT _ 4 72 Tryd.underlying35 hiT hT0 hT1 hT2 rfl (by decide) (.slice (some ⟨wr.heap.size, 0, none⟩) 0 0) 0 [] rfl (row_zero wr w.heap.size hsz) ⟨b0, off0, none⟩ L.length ca (flat PL) rfl HLL.out (fun j u hu => cell_keep (HCL.out j u hu) (HB.out.alloc hsz _)) (flat_cells _ _ HTL.out) (by unfold maxLen; omega) (by omega) (by simp; omega) ?_; intro v1 wy hown hgrow _; have hg1 := (show World.grownBy _ _ (some wr.heap.size) from hgrow); have R1 := Lib.hid (show wy.ownsRow w.heap.size 24 4 v1 L.length (flat PL) by simpa using hown); have G1 := Lib.hid ((HB.out.alloc hsz _).grown hg1 (by simp; omega) (fun k hk => by injection hk with hk; omega)); have hgs := G1.out.size; clear hown hgrow hg1; obtain ⟨y1, y2, rfl⟩ := row_slice R1.out) | (refine wpList_append_own _ rfl _ _ 35 rfl w.heap.size 24 iT _ 4 72 Tryd.underlying35 hiT hT0 hT1 hT2 rfl (by decide) _ L.length (flat PL) rfl R1.out ad K.length cd (flat PK) rfl HKL.out (fun j u hu => cell_keep (HKC.out j u hu) G1.out) (flat_cells _ _ HTK.out) (by unfold maxLen; omega) (by omega) hgs ?_; intro v2 wz hown hgrow _; have R2 := Lib.hid hown; have G2 := Lib.hid (G1.out.grown hgrow hgs (fun k hk => (R1.out.lt k hk).1)); clear hown hgrow))
        all_goals
          have HT2 := Lib.hid (show TagsAt wz v2 (L ++ K) from by
            have h := TagsAt.of_row (A := PL ++ PK) (by rw [flat_append]; exact R2.out) (fun x hx => by
              rcases List.mem_append.1 hx with hx | hx
              · exact HTL.out.below G2.out x hx
              · exact HTK.out.below G2.out x hx)
            rw [List.map_append, HPL.out, HPK.out] at h
            exact h)
          clear R1 R2 G1
          refine (C2.out _ _ G2.out HT2.out).mono ?_
          rintro e wq ⟨rfl, hb⟩
          have GQ := Lib.hid (blw_trans G2.out hb)
          clear hb HT2 C2
          rcases H2.out with ⟨rfl, rfl⟩ | ⟨n, rfl, rfl⟩
          · go_wp2_with fail
            go_ret
            exact ⟨ret_bool (by first | rfl | (simp; done)), GQ.out⟩
          · go_wp2_with fail
            refine (CS.out _ GQ.out).mono ?_
            rintro e wv ⟨rfl, hb⟩
            have GV := Lib.hid (blw_trans GQ.out hb)
            go_wp2_with fail
            go_ret
            exact ⟨ret_bool (by first | rfl | (simp; done)), GV.out⟩

theorem pickfirst_any (L : List Tg) (va : Value) (M : List Tg) (vb : Value) (K : List Tg) (vc : Value) (w : World) (hT : MaxW w) (hL : TagsAt w va L) (hn : L.length ≤ 100000000) (hb : ∀ x ∈ L, x.bulk ≤ 100000000)
    (hM : TagsAt w vb M) (hm : M.length ≤ 100000000) (hbm : ∀ x ∈ M, x.bulk ≤ 100000000) (hK : TagsAt w vc K) (hk : K.length ≤ 100000000) (hbk : ∀ x ∈ K, x.bulk ≤ 100000000) (hz : Nil0 vc) :
    Calls Tryd.prog 6 #[va, vb, vc] w fun e w' => e = .returned (.bool true) ∧ Below w.heap.size w w' := by
  have hL' := hL
  have hM' := hM
  have hK' := hK
  obtain ⟨A, ca, rfl, hc⟩ := hL.spread
  obtain ⟨B, cb, rfl, hd⟩ := hM.spread
  obtain ⟨D, cd, rfl, he⟩ := hK.spread
  by_cases hE : pickE L M = 0
  · have hF : tfaults L = 0 := by
      by_cases h : tfaults L = 0
      · exact h
      · unfold pickE at hE; rw [if_neg h] at hE; exact absurd hE h
    have hG : tfaults M = 0 := by
      by_cases h : tfaults M = 0
      · exact h
      · unfold pickE at hE; rw [if_pos hF, if_neg h] at hE; exact absurd hE h
    have hP : 0 ≤ pickW (M.map Tg.txt) L := by
      by_cases h : 0 ≤ pickW (M.map Tg.txt) L
      · exact h
      · unfold pickE at hE; rw [if_pos hF, if_pos hG, if_neg h] at hE; exact absurd hE (by decide)
    obtain ⟨P, hPP⟩ : ∃ P : Nat, pickW (M.map Tg.txt) L = (P : Int) := ⟨(pickW (M.map Tg.txt) L).toNat, by omega⟩
    have hPM : P < M.length := by
      have := pickW_small (M.map Tg.txt) L
      rw [List.length_map] at this; omega
    have hbl : ∀ x ∈ L ++ K, x.bulk ≤ 100000000 := fun x hx => by
      rcases List.mem_append.1 hx with hx | hx
      · exact hb x hx
      · exact hbk x hx
    have C2 := Lib.hid fun v wx (h : Below w.heap.size w wx) hv => pick_any (L ++ K) M v (.slice B M.length cb) wx hv (by rw [List.length_append]; omega) hbl (hM'.below h) (by omega) hbm
    have CS := Lib.hid fun wx (h : Below w.heap.size w wx) => spoilt_any K (.slice D K.length cd) wx (hK'.below h) (by omega) hbk _ rfl
    refine pickfirst_o L M K A B D ca cb cd w hT hn hm hk hL' hb hM' hbm hF hG P hPP hPM _ _ _ ?_ hz C2 CS hc hd he
    have tf := tfaults_append L K
    rw [if_pos hF] at tf
    by_cases hS : tfaults K = 0
    · left
      have pw : pickW (M.map Tg.txt) (L ++ K) = (P : Int) := (pickW_append K hP).trans hPP
      have e1 : pickE (L ++ K) M = 0 := (if_pos (tf.trans hS)).trans ((if_pos hG).trans (if_pos (by rw [pw]; omega)))
      have e2 : pickI (L ++ K) M = pickW (M.map Tg.txt) (L ++ K) := if_pos ⟨tf.trans hS, hG, by rw [pw]; omega⟩
      exact ⟨by rw [e1]; rfl, e2.trans pw⟩
    · right
      have e1 : pickE (L ++ K) M = tfaults K := (if_neg (by rw [tf]; exact hS)).trans tf
      exact ⟨tfaults K, by rw [e1, errE_some hS], by simpa using hS⟩
  · exact pickfirst_e L M K A B D ca cb cd w hT hn hm hL' hb hM' hbm hE
end Go.Proofs.YtlhleojigcnjeaaDoor
